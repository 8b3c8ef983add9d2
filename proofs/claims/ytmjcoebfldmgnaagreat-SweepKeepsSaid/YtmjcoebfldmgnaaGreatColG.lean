/- Marking, sweeping and collecting, in plain words. No condition. What holds of a store that is collected, step by step, in plain words. No condition. -/
import Derived.Test.YtmjcoebfldmgnaaGreatClP
import Derived.Test.YtmjcoebfldmgnaaGreatNxt
import Derived.Test.YtmjcoebfldmgnaaGreatEvP
/-! Marking, sweeping and collecting, in plain words. No condition -/
namespace Go.Proofs.YtmjcoebfldmgnaaGreat
open Go.RowKit
set_option linter.unusedVariables false
set_option linter.unusedSimpArgs false

/-! strings in order, each once -/
def uni (L : List (List UInt8)) : List (List UInt8) := srt (fun x => x) (nub L)
theorem uni_rises (L : List (List UInt8)) : Rises (uni L) := srt_rises (f := fun x => x) (by rw [List.map_id']; exact nub_nd L)
theorem uni_str (L : List (List UInt8)) : StrL (uni L) (fun x => x ∈ L) := by
  refine ⟨(uni_rises L).nodup, (uni_rises L).imp fun {a b} h => ?_, fun x => ?_⟩
  · rw [leB_bl]
    cases hb : Op.bytesLess b a with
    | false => rfl
    | true => have := bl_trans h hb; rw [bl_irr] at this; cases this
  · show x ∈ srt _ _ ↔ _
    rw [(srt_perm _ _).mem_iff, mem_nub]
theorem mem_uni {L : List (List UInt8)} {x : List UInt8} : x ∈ uni L ↔ x ∈ L := (uni_str L).mem x
theorem StrL.uni {L M : List (List UInt8)} {p : List UInt8 → Prop} (h : StrL M p) (hp : ∀ x, p x ↔ x ∈ L) : M = uni L :=
  StrL.uniq h ⟨(uni_str L).nd, (uni_str L).le, fun x => (mem_uni).trans (hp x).symm⟩
theorem uni_len (L : List (List UInt8)) : (uni L).length ≤ L.length := by
  have : ∀ l : List (List UInt8), (nub l).length ≤ l.length := fun l => by
    induction l with
    | nil => exact Nat.le_refl _
    | cons x l ih =>
      rw [nub]
      split
      · exact Nat.le_trans ih (by simp)
      · simpa using ih
  show (srt _ _).length ≤ _
  rw [(srt_perm _ _).length_eq]
  exact this L
theorem rises_leB {L : List (List UInt8)} (h : Rises L) : L.Pairwise (fun x y => leB x y = true) := h.imp fun {a b} h => by
  rw [leB_bl]
  cases hb : Op.bytesLess b a with
  | false => rfl
  | true => have := bl_trans h hb; rw [bl_irr] at this; cases this
theorem rises_str {L : List (List UInt8)} (h : Rises L) : StrL L (fun x => x ∈ L) := ⟨h.nodup, rises_leB h, fun _ => Iff.rfl⟩
theorem StrL.rises {L : List (List UInt8)} {p : List UInt8 → Prop} (h : StrL L p) : Rises L := by
  rw [h.uni (L := L) (fun x => (h.mem x).symm)]
  exact uni_rises L
/-! collectors -/
structure ColP where
  phase : Nat
  grey : List (List UInt8)
  at_ : List UInt8
/-- blobs without marks -/
def unmk (bl : List BlobP) : List BlobP := bl.map fun b => { b with mark := false }
def begS (s : StoP) : StoP := { s with blobs := unmk s.blobs }
def begC (s : StoP) : ColP := ⟨1, uni (rts s), []⟩
/-- the digests of those that are marked -/
def mkd (bl : List BlobP) : List (List UInt8) := (bl.filter (·.mark)).map (·.dig)
theorem mem_mkd {bl : List BlobP} {x : List UInt8} : x ∈ mkd bl ↔ ∃ b ∈ bl, b.mark = true ∧ b.dig = x := by
  unfold mkd
  rw [List.mem_map]
  constructor
  · rintro ⟨b, hb, e⟩
    obtain ⟨h1, h2⟩ := List.mem_filter.1 hb
    exact ⟨b, h1, h2, e⟩
  · rintro ⟨b, hb, h, e⟩
    exact ⟨b, List.mem_filter.2 ⟨hb, h⟩, e⟩
/-- one step of marking -/
def mStep (s : StoP) (c : ColP) : StoP × ColP :=
  match c.grey with
  | [] => (s, ⟨2, [], []⟩)
  | d :: rest => match s.blobs.findIdx? (fun b => b.dig == d) with
    | none => (s, ⟨1, rest, []⟩)
    | some i => match s.blobs[i]? with
      | none => (s, ⟨1, rest, []⟩)
      | some b => if b.mark then (s, ⟨1, rest, []⟩) else ({ s with blobs := s.blobs.set i { b with mark := true } }, ⟨1, uni (rest ++ (decL b.data).1.map (·.dig)), []⟩)
/-- one step of sweeping -/
def sStep (s : StoP) (c : ColP) : StoP × ColP × List UInt8 :=
  match s.blobs.findIdx? (fun b => Op.bytesLess c.at_ b.dig) with
  | none => (s, ⟨0, [], []⟩, [])
  | some i => match s.blobs[i]? with
    | none => (s, ⟨0, [], []⟩, [])
    | some b => if b.mark then (s, ⟨2, [], b.dig⟩, []) else ({ s with blobs := s.blobs.eraseIdx i }, ⟨2, [], b.dig⟩, b.dig)
def tickP (s : StoP) (c : ColP) : StoP × ColP × List UInt8 := if c.phase = 1 then ((mStep s c).1, (mStep s c).2, []) else sStep s c
/-! what is the same but for marks -/
def NoM (b : BlobP) : List UInt8 × List UInt8 × Nat := (b.dig, b.data, b.pins)
def EqM (l m : List BlobP) : Prop := l.map NoM = m.map NoM
theorem EqM.symm {l m : List BlobP} (h : EqM l m) : EqM m l := Eq.symm h
theorem EqM.trans {l m k : List BlobP} (h : EqM l m) (h' : EqM m k) : EqM l k := Eq.trans h h'
theorem EqM.rfl_ (l : List BlobP) : EqM l l := rfl
theorem EqM.len {l m : List BlobP} (h : EqM l m) : l.length = m.length := by
  have := congrArg List.length h
  simpa using this
theorem EqM.at_ {l m : List BlobP} (h : EqM l m) (i : Nat) (h1 : i < l.length) (h2 : i < m.length) : m[i].dig = l[i].dig ∧ m[i].data = l[i].data ∧ m[i].pins = l[i].pins := by
  have h3 := congrArg (fun x => x[i]?) h
  simp only [List.getElem?_map, List.getElem?_eq_getElem h1, List.getElem?_eq_getElem h2, Option.map_some, Option.some.injEq, NoM, Prod.mk.injEq] at h3
  exact ⟨h3.1.symm, h3.2.1.symm, h3.2.2.symm⟩
theorem EqM.mem {l m : List BlobP} (h : EqM l m) {b : BlobP} (hb : b ∈ l) : ∃ b' ∈ m, b'.dig = b.dig ∧ b'.data = b.data ∧ b'.pins = b.pins := by
  obtain ⟨i, hi, rfl⟩ := List.mem_iff_getElem.1 hb
  have h2 : i < m.length := by rw [← h.len]; exact hi
  exact ⟨m[i], List.getElem_mem h2, h.at_ i hi h2⟩
theorem EqM.cons {a b : BlobP} {l m : List BlobP} (h : EqM (a :: l) (b :: m)) : (b.dig = a.dig ∧ b.data = a.data ∧ b.pins = a.pins) ∧ EqM l m := by
  unfold EqM at h
  simp only [List.map_cons, List.cons.injEq] at h
  obtain ⟨h1, h2⟩ := h
  unfold NoM at h1
  simp only [Prod.mk.injEq] at h1
  exact ⟨⟨h1.1.symm, h1.2.1.symm, h1.2.2.symm⟩, h2⟩
theorem eqM_idx {x : List UInt8} : ∀ {l m : List BlobP}, EqM l m → m.findIdx? (fun b => b.dig == x) = l.findIdx? (fun b => b.dig == x)
  | [], [], _ => rfl
  | [], b :: m, h => by cases h
  | a :: l, [], h => by cases h
  | a :: l, b :: m, h => by
    obtain ⟨h1, h2⟩ := h.cons
    rw [List.findIdx?_cons, List.findIdx?_cons, h1.1, eqM_idx h2]
theorem eqM_kids {l m : List BlobP} (h : EqM l m) (x : List UInt8) : kids m x = kids l x := by
  unfold kids
  rw [eqM_idx h]
  cases hf : l.findIdx? (fun b => b.dig == x) with
  | none => rfl
  | some i =>
    have hi : i < l.length := (List.findIdx?_eq_some_iff_getElem.1 hf).1
    have hi2 : i < m.length := by rw [← h.len]; exact hi
    simp only [List.getElem?_eq_getElem hi, List.getElem?_eq_getElem hi2]
    rw [(h.at_ i hi hi2).2.1]
theorem eqM_inB {l m : List BlobP} (h : EqM l m) {x : List UInt8} : InB m x ↔ InB l x := by
  constructor
  · rintro ⟨b, hb, e⟩
    obtain ⟨b', hb', e1, _⟩ := h.symm.mem hb
    exact ⟨b', hb', e1.trans e⟩
  · rintro ⟨b, hb, e⟩
    obtain ⟨b', hb', e1, _⟩ := h.mem hb
    exact ⟨b', hb', e1.trans e⟩
theorem eqM_rch1 {l m : List BlobP} (h : EqM l m) {ds : List (List UInt8)} {x : List UInt8} (hx : Rch l ds x) : Rch m ds x := by
  induction hx with
  | root h1 h2 => exact .root h1 ((eqM_inB h).2 h2)
  | step h1 h2 h3 ih => exact .step ih (by rw [eqM_kids h]; exact h2) ((eqM_inB h).2 h3)
theorem eqM_rch {l m : List BlobP} (h : EqM l m) {ds : List (List UInt8)} : Rch m ds = Rch l ds := funext fun x => propext ⟨eqM_rch1 h.symm, eqM_rch1 h⟩
theorem eqM_rtsB : ∀ {l m : List BlobP}, EqM l m → rtsB m = rtsB l
  | [], [], _ => rfl
  | [], b :: m, h => by cases h
  | a :: l, [], h => by cases h
  | a :: l, b :: m, h => by
    obtain ⟨h1, h2⟩ := h.cons
    have ih := eqM_rtsB h2
    unfold rtsB at ih ⊢
    rw [List.filter_cons, List.filter_cons, h1.2.2]
    split
    · rw [List.map_cons, List.map_cons, h1.1, ih]
    · exact ih
theorem eqM_rts {s : StoP} {m : List BlobP} (h : EqM s.blobs m) : rts { s with blobs := m } = rts s := by
  show rtsE s.ents ++ rtsB m = _
  rw [eqM_rtsB h]; rfl
theorem eqM_ris {l m : List BlobP} (h : EqM l m) (hr : RisesBy (·.dig) l) : RisesBy (·.dig) m := by
  have e : m.map (·.dig) = l.map (·.dig) := by
    have h3 := congrArg (List.map Prod.fst) h
    simp only [List.map_map] at h3
    exact h3.symm
  have := List.pairwise_map.1 (e ▸ hr.map : Rises (m.map (·.dig)))
  exact this
theorem eqM_usd {l m : List BlobP} (h : EqM l m) : usd m = usd l := by
  have h3 := congrArg (List.map fun x : List UInt8 × List UInt8 × Nat => x.2.1.length) h
  simp only [List.map_map] at h3
  unfold usd
  exact (congrArg List.sum h3).symm
theorem eqM_good {s : StoP} {m : List BlobP} (h : EqM s.blobs m) (hg : GoodS s) : GoodS { s with blobs := m } :=
  ⟨⟨by rw [← h.len]; exact hg.b.len, fun b hb => by
      obtain ⟨b', hb', e1, e2, e3⟩ := h.symm.mem hb
      have h1 := hg.b.one b' hb'
      unfold GoodB1 at h1 ⊢
      rw [← e1, ← e2, ← e3]; exact h1, eqM_ris h hg.b.ris⟩, hg.e, hg.room, by show usd m ≤ _; rw [eqM_usd h]; exact hg.used, hg.clock, fun x hx => ⟨(hg.ent x hx).1, fun p hp => by
      obtain ⟨b, hb, e1, e2⟩ := (hg.ent x hx).2 p hp
      obtain ⟨b', hb', e3, e4, _⟩ := h.mem hb
      exact ⟨b', hb', e3.trans e1, by rw [e4]; exact e2⟩⟩⟩
theorem eqM_unmk (l : List BlobP) : EqM l (unmk l) := by
  unfold EqM unmk
  rw [List.map_map]; rfl
theorem eqM_set {l : List BlobP} {i : Nat} (hi : i < l.length) (k : Bool) : EqM l (l.set i { l[i] with mark := k }) := by
  unfold EqM
  rw [List.map_set]
  have : NoM { l[i] with mark := k } = (l.map NoM)[i]'(by simpa using hi) := by rw [List.getElem_map]; rfl
  rw [this, List.set_getElem_self]
end Go.Proofs.YtmjcoebfldmgnaaGreat
/-! What holds of a store that is collected, step by step, in plain words. No condition -/
namespace Go.Proofs.YtmjcoebfldmgnaaGreat
open Go.RowKit
set_option linter.unusedVariables false
set_option linter.unusedSimpArgs false

theorem dec_err (b : List UInt8) (h : (decL b).2 ≠ 0) : (decL b).1 = [] := by
  unfold decL at h ⊢
  split
  · rfl
  rename_i h1
  rw [if_neg h1] at h
  split
  · rfl
  rename_i h2
  rw [if_neg h2] at h
  split
  · rfl
  rename_i h3
  rw [if_neg h3] at h
  split
  · rfl
  rename_i h4
  rw [if_neg h4] at h
  split
  · rfl
  rename_i h5
  rw [if_neg h5] at h
  split
  · rfl
  rename_i h6
  rw [if_neg h6] at h
  split
  · rfl
  rename_i h7
  rw [if_neg h7] at h
  exact absurd rfl h
theorem dec_chk (b : List UInt8) : (decL b).1 = [] ∨ (enc (decL b).1 = b ∧ chk (decL b).1 = 0) := by
  by_cases h : (decL b).2 = 0
  · right
    have e : decL b = ((decL b).1, 0) := by rw [← h]
    exact decL_inv e
  · exact .inl (dec_err b h)
theorem dec_hex (b : List UInt8) : ∀ p ∈ (decL b).1, hexC p.dig = 0 := fun p hp => by
  rcases dec_chk b with h | h
  · rw [h] at hp; cases hp
  · exact ((chk_zero h.2).2 p hp).2.1
theorem kids_hex {bl : List BlobP} {x y : List UInt8} (h : y ∈ kids bl x) : hexC y = 0 := by
  unfold kids at h
  cases hf : bl.findIdx? (fun b => b.dig == x) with
  | none => rw [hf] at h; cases h
  | some i =>
    rw [hf] at h
    cases hb : bl[i]? with
    | none => simp only [hb] at h; cases h
    | some b =>
      simp only [hb] at h
      obtain ⟨p, hp, rfl⟩ := List.mem_map.1 h
      exact dec_hex b.data p hp
theorem rts_hex {s : StoP} (hg : GoodS s) {x : List UInt8} (h : x ∈ rts s) : hexC x = 0 := by
  rcases List.mem_append.1 h with h | h
  · obtain ⟨y, hy, h2⟩ := List.mem_flatMap.1 h
    obtain ⟨p, hp, rfl⟩ := List.mem_map.1 h2
    exact ((chk_zero (hg.e.one y hy).2.1).2 p hp).2.1
  · obtain ⟨b, hb, rfl⟩ := List.mem_map.1 h
    rw [(hg.b.one b (List.mem_filter.1 hb).1).1]
    exact hexC_sha _
/-- what collect.Check asks -/
structure GoodC (s : StoP) (c : ColP) : Prop where
  ph : c.phase ≤ 2
  gh : ∀ d ∈ c.grey, hexC d = 0
  ris : Rises c.grey
  ah : c.at_ = [] ∨ hexC c.at_ = 0
  g0 : c.phase ≠ 1 → c.grey = []
  a0 : c.phase ≠ 2 → c.at_ = []
  mr : c.phase = 1 → ∀ x ∈ rts s, InB s.blobs x → x ∈ mkd s.blobs ∨ x ∈ c.grey
  mb : c.phase = 1 → ∀ b ∈ s.blobs, b.mark = true → ∀ x ∈ kids s.blobs b.dig, InB s.blobs x → x ∈ mkd s.blobs ∨ x ∈ c.grey
  sw : c.phase = 2 → ∀ x, Rch s.blobs (rts s) x → x ∈ mkd s.blobs
theorem unmk_mkd (l : List BlobP) : mkd (unmk l) = [] := by
  unfold mkd unmk
  rw [List.filter_map]
  have : l.filter ((·.mark) ∘ fun b : BlobP => { b with mark := false }) = [] := List.filter_eq_nil_iff.2 fun b _ => by simp
  rw [this]; rfl
theorem beg_good {s : StoP} (hg : GoodS s) : GoodS (begS s) := eqM_good (eqM_unmk s.blobs) hg
theorem beg_rts (s : StoP) : rts (begS s) = rts s := eqM_rts (eqM_unmk s.blobs)
theorem beg_rch (s : StoP) : Rch (begS s).blobs (rts (begS s)) = Rch s.blobs (rts s) := by rw [beg_rts]; exact eqM_rch (eqM_unmk s.blobs)
theorem beg_goodC {s : StoP} (hg : GoodS s) : GoodC (begS s) (begC s) := by
  refine ⟨by show 1 ≤ 2; omega, fun d hd => rts_hex hg (mem_uni.1 hd), uni_rises _, .inl rfl, fun h => absurd rfl h, fun _ => rfl, fun _ x hx _ => .inr ?_, fun _ b hb hm => ?_, fun h => absurd h (by show ¬ (1 = 2); omega)⟩
  · rw [beg_rts] at hx; exact mem_uni.2 hx
  · exfalso
    obtain ⟨a, _, rfl⟩ := List.mem_map.1 hb
    cases hm
/-- at the end of marking all that is come to is marked -/
theorem all_marked {s : StoP} (hr : RisesBy (·.dig) s.blobs) (h1 : ∀ x ∈ rts s, InB s.blobs x → x ∈ mkd s.blobs) (h2 : ∀ b ∈ s.blobs, b.mark = true → ∀ x ∈ kids s.blobs b.dig, InB s.blobs x → x ∈ mkd s.blobs) : ∀ x, Rch s.blobs (rts s) x → x ∈ mkd s.blobs := fun x hx => by
  induction hx with
  | root h3 h4 => exact h1 _ h3 h4
  | step h3 h4 h5 ih =>
    obtain ⟨b, hb, hm, rfl⟩ := mem_mkd.1 ih
    exact h2 b hb hm _ h4 h5
theorem mkd_set {l : List BlobP} {i : Nat} (hi : i < l.length) (x : List UInt8) : x ∈ mkd (l.set i { l[i] with mark := true }) ↔ x ∈ mkd l ∨ x = l[i].dig := by
  rw [mem_mkd, mem_mkd]
  constructor
  · rintro ⟨b, hb, hm, rfl⟩
    rcases List.mem_or_eq_of_mem_set hb with h | h
    · exact .inl ⟨b, h, hm, rfl⟩
    · subst h; exact .inr rfl
  · rintro (⟨b, hb, hm, rfl⟩ | rfl)
    · obtain ⟨j, hj, rfl⟩ := List.mem_iff_getElem.1 hb
      by_cases hij : i = j
      · subst hij
        exact ⟨_, List.mem_iff_getElem.2 ⟨i, by simpa using hi, rfl⟩, by simp, by simp⟩
      · exact ⟨l[j], List.mem_iff_getElem.2 ⟨j, by simpa using hj, by rw [List.getElem_set_ne hij]⟩, hm, rfl⟩
    · exact ⟨_, List.mem_iff_getElem.2 ⟨i, by simpa using hi, rfl⟩, by simp, by simp⟩
/-- the ways of one step of marking -/
theorem mStep_ways (s : StoP) (c : ColP) : (c.grey = [] ∧ mStep s c = (s, ⟨2, [], []⟩)) ∨
    (∃ d rest, c.grey = d :: rest ∧ ¬ InB s.blobs d ∧ mStep s c = (s, ⟨1, rest, []⟩)) ∨
    (∃ d rest i, ∃ hi : i < s.blobs.length, c.grey = d :: rest ∧ s.blobs.findIdx? (fun b => b.dig == d) = some i ∧ s.blobs[i].dig = d ∧ s.blobs[i].mark = true ∧ mStep s c = (s, ⟨1, rest, []⟩)) ∨
    (∃ d rest i, ∃ hi : i < s.blobs.length, c.grey = d :: rest ∧ s.blobs.findIdx? (fun b => b.dig == d) = some i ∧ s.blobs[i].dig = d ∧ s.blobs[i].mark = false ∧ mStep s c = ({ s with blobs := s.blobs.set i { s.blobs[i] with mark := true } }, ⟨1, uni (rest ++ kids s.blobs d), []⟩)) := by
  unfold mStep
  cases hc : c.grey with
  | nil => exact .inl ⟨rfl, rfl⟩
  | cons d rest =>
    right
    generalize hf : s.blobs.findIdx? (fun b => b.dig == d) = r
    cases r with
    | none =>
      left
      refine ⟨d, rest, rfl, fun h => ?_, by simp only [hf]⟩
      rw [inB_idx, hf] at h; cases h
    | some i =>
      right
      obtain ⟨hi, hd, _⟩ := List.findIdx?_eq_some_iff_getElem.1 hf
      have hd' : s.blobs[i].dig = d := by simpa using hd
      have hk : kids s.blobs d = (decL s.blobs[i].data).1.map (·.dig) := by
        unfold kids
        simp only [hf, List.getElem?_eq_getElem hi]
      cases hm : s.blobs[i].mark with
      | true =>
        left
        refine ⟨d, rest, i, hi, rfl, hf, hd', hm, ?_⟩
        simp only [hf, List.getElem?_eq_getElem hi, hm, if_true]
      | false =>
        right
        refine ⟨d, rest, i, hi, rfl, hf, hd', hm, ?_⟩
        rw [hk]
        simp only [hf, List.getElem?_eq_getElem hi, hm, Bool.false_eq_true, if_false]
theorem mStep_eqM (s : StoP) (c : ColP) : EqM s.blobs (mStep s c).1.blobs ∧ (mStep s c).1 = { s with blobs := (mStep s c).1.blobs } := by
  rcases mStep_ways s c with ⟨_, h⟩ | ⟨_, _, _, _, h⟩ | ⟨_, _, _, _, _, _, _, _, h⟩ | ⟨_, _, _, hi, _, _, _, _, h⟩
  · rw [h]; exact ⟨rfl, rfl⟩
  · rw [h]; exact ⟨rfl, rfl⟩
  · rw [h]; exact ⟨rfl, rfl⟩
  · rw [h]; exact ⟨eqM_set hi true, rfl⟩
theorem mStep_good {s : StoP} (c : ColP) (hg : GoodS s) : GoodS (mStep s c).1 := by
  rw [(mStep_eqM s c).2]; exact eqM_good (mStep_eqM s c).1 hg
theorem mStep_rts (s : StoP) (c : ColP) : rts (mStep s c).1 = rts s := by
  rw [(mStep_eqM s c).2]; exact eqM_rts (mStep_eqM s c).1
theorem mStep_rch (s : StoP) (c : ColP) : Rch (mStep s c).1.blobs (rts (mStep s c).1) = Rch s.blobs (rts s) := by
  rw [mStep_rts]; exact eqM_rch (mStep_eqM s c).1
theorem mStep_goodC {s : StoP} {c : ColP} (hg : GoodS s) (hp : c.phase = 1) (h : GoodC s c) : GoodC (mStep s c).1 (mStep s c).2 := by
  rcases mStep_ways s c with ⟨hc, e⟩ | ⟨d, rest, hc, hn, e⟩ | ⟨d, rest, i, hi, hc, _, hd, hm, e⟩ | ⟨d, rest, i, hi, hc, hf, hd, hm, e⟩
  · rw [e]
    refine ⟨Nat.le_refl _, (fun d hd => by cases hd), List.Pairwise.nil, .inl rfl, fun _ => rfl, fun h => absurd rfl h, fun h => (by cases h), fun h => (by cases h), fun _ => ?_⟩
    refine all_marked hg.b.ris (fun x hx hb => ?_) (fun b hb hm x hx hi => ?_)
    · rcases h.mr hp x hx hb with h1 | h1
      · exact h1
      · rw [hc] at h1; cases h1
    · rcases h.mb hp b hb hm x hx hi with h1 | h1
      · exact h1
      · rw [hc] at h1; cases h1
  · rw [e]
    have hr := h.ris
    have hgh := h.gh
    rw [hc] at hr hgh
    have drop : ∀ x, InB s.blobs x → (x ∈ mkd s.blobs ∨ x ∈ c.grey) → x ∈ mkd s.blobs ∨ x ∈ rest := fun x hx hh => hh.imp id fun h2 => by
      rw [hc] at h2
      rcases List.mem_cons.1 h2 with rfl | h2
      · exact absurd hx hn
      · exact h2
    exact ⟨by show 1 ≤ 2; omega, fun x hx => hgh x (List.mem_cons_of_mem _ hx), (List.pairwise_cons.1 hr).2, .inl rfl, fun h => absurd rfl h, fun _ => rfl, fun _ x hx hi => drop x hi (h.mr hp x hx hi), fun _ b hb hm x hx hi => drop x hi (h.mb hp b hb hm x hx hi), fun h => by cases h⟩
  · rw [e]
    have hr := h.ris
    have hgh := h.gh
    rw [hc] at hr hgh
    have drop : ∀ x, InB s.blobs x → (x ∈ mkd s.blobs ∨ x ∈ c.grey) → x ∈ mkd s.blobs ∨ x ∈ rest := fun x hx hh => by
      rcases hh with h2 | h2
      · exact .inl h2
      · rw [hc] at h2
        rcases List.mem_cons.1 h2 with rfl | h2
        · exact .inl (mem_mkd.2 ⟨_, List.getElem_mem hi, hm, hd⟩)
        · exact .inr h2
    exact ⟨by show 1 ≤ 2; omega, fun x hx => hgh x (List.mem_cons_of_mem _ hx), (List.pairwise_cons.1 hr).2, .inl rfl, fun h => absurd rfl h, fun _ => rfl, fun _ x hx hi => drop x hi (h.mr hp x hx hi), fun _ b hb hm x hx hi => drop x hi (h.mb hp b hb hm x hx hi), fun h => by cases h⟩
  · have e1 : (mStep s c).1 = { s with blobs := s.blobs.set i { s.blobs[i] with mark := true } } := by rw [e]
    have e2 : (mStep s c).2 = ⟨1, uni (rest ++ kids s.blobs d), []⟩ := by rw [e]
    have hE : EqM s.blobs (s.blobs.set i { s.blobs[i] with mark := true }) := eqM_set hi true
    rw [e1, e2]
    have hgh := h.gh
    rw [hc] at hgh
    have keep : ∀ x, (x ∈ mkd s.blobs ∨ x ∈ c.grey) → x ∈ mkd (s.blobs.set i { s.blobs[i] with mark := true }) ∨ x ∈ uni (rest ++ kids s.blobs d) := fun x hh => by
      rw [mkd_set hi, mem_uni, List.mem_append]
      rcases hh with h2 | h2
      · exact .inl (.inl h2)
      · rw [hc] at h2
        rcases List.mem_cons.1 h2 with rfl | h2
        · exact .inl (.inr hd.symm)
        · exact .inr (.inl h2)
    refine ⟨by show 1 ≤ 2; omega, fun x hx => ?_, uni_rises _, .inl rfl, fun h => absurd rfl h, fun _ => rfl, fun _ x hx hb => ?_, fun _ b hb hmb x hx hbx => ?_, fun h => by cases h⟩
    · rcases List.mem_append.1 (mem_uni.1 hx) with h2 | h2
      · exact hgh x (List.mem_cons_of_mem _ h2)
      · exact kids_hex h2
    · rw [eqM_rts hE] at hx
      exact keep x (h.mr hp x hx ((eqM_inB hE).1 hb))
    · have hk : kids (s.blobs.set i { s.blobs[i] with mark := true }) b.dig = kids s.blobs b.dig := eqM_kids hE _
      have hbx' := (eqM_inB hE).1 hbx
      have hx' : x ∈ kids s.blobs b.dig := by rw [← hk]; exact hx
      rcases List.mem_or_eq_of_mem_set hb with h2 | h2
      · exact keep x (h.mb hp b h2 hmb x hx' hbx')
      · subst h2
        right
        rw [mem_uni, List.mem_append]
        have hx2 : x ∈ kids s.blobs s.blobs[i].dig := hx'
        rw [hd] at hx2
        exact .inr hx2
/-! sweeping -/
theorem usd_sub {l m : List BlobP} (h : l.Sublist m) : usd l ≤ usd m := by
  induction h with
  | slnil => exact Nat.le_refl _
  | cons a _ ih => unfold usd at *; simp only [List.map_cons, List.sum_cons]; omega
  | cons_cons a _ ih => unfold usd at *; simp only [List.map_cons, List.sum_cons]; omega
theorem erase_rises {l : List BlobP} (hr : RisesBy (·.dig) l) (i : Nat) : RisesBy (·.dig) (l.eraseIdx i) := List.Pairwise.sublist (List.eraseIdx_sublist _ _) hr
theorem erase_mem {l : List BlobP} (hr : RisesBy (·.dig) l) {i : Nat} (hi : i < l.length) {b : BlobP} (hb : b ∈ l) : b = l[i] ∨ b ∈ l.eraseIdx i := by
  obtain ⟨j, hj, rfl⟩ := List.mem_iff_getElem.1 hb
  by_cases h : j = i
  · subst h; exact .inl rfl
  · right
    rw [List.mem_eraseIdx_iff_getElem]
    exact ⟨j, hj, h, rfl⟩
theorem sStep_ways (s : StoP) (c : ColP) : (s.blobs.findIdx? (fun b => Op.bytesLess c.at_ b.dig) = none ∧ sStep s c = (s, ⟨0, [], []⟩, [])) ∨
    (∃ i, ∃ hi : i < s.blobs.length, s.blobs.findIdx? (fun b => Op.bytesLess c.at_ b.dig) = some i ∧ s.blobs[i].mark = true ∧ sStep s c = (s, ⟨2, [], s.blobs[i].dig⟩, [])) ∨
    (∃ i, ∃ hi : i < s.blobs.length, s.blobs.findIdx? (fun b => Op.bytesLess c.at_ b.dig) = some i ∧ s.blobs[i].mark = false ∧ sStep s c = ({ s with blobs := s.blobs.eraseIdx i }, ⟨2, [], s.blobs[i].dig⟩, s.blobs[i].dig)) := by
  unfold sStep
  cases hf : s.blobs.findIdx? (fun b => Op.bytesLess c.at_ b.dig) with
  | none => exact .inl ⟨rfl, by simp only [hf]⟩
  | some i =>
    right
    obtain ⟨hi, hd, _⟩ := List.findIdx?_eq_some_iff_getElem.1 hf
    cases hm : s.blobs[i].mark with
    | true => exact .inl ⟨i, hi, rfl, hm, by simp only [hf, List.getElem?_eq_getElem hi, hm, if_true]⟩
    | false => exact .inr ⟨i, hi, rfl, hm, by simp only [hf, List.getElem?_eq_getElem hi, hm, Bool.false_eq_true, if_false]⟩
section
variable {s : StoP} {i : Nat}
theorem lost_not (hg : GoodS s) (hi : i < s.blobs.length) (hm : s.blobs[i].mark = false) (hsw : ∀ x, Rch s.blobs (rts s) x → x ∈ mkd s.blobs) : ¬ Rch s.blobs (rts s) s.blobs[i].dig := fun h => by
  obtain ⟨b, hb, hmb, e⟩ := mem_mkd.1 (hsw _ h)
  have := hg.b.ris.inj hb (List.getElem_mem hi) e
  subst this
  rw [hm] at hmb; cases hmb
theorem lost_pins (hg : GoodS s) (hi : i < s.blobs.length) (hn : ¬ Rch s.blobs (rts s) s.blobs[i].dig) : s.blobs[i].pins = 0 := by
  rcases Nat.eq_zero_or_pos s.blobs[i].pins with h | h
  · exact h
  · exact absurd (.root (rts_pin (List.getElem_mem hi) h) ⟨_, List.getElem_mem hi, rfl⟩) hn
theorem lost_rtsB (hi : i < s.blobs.length) (hp : s.blobs[i].pins = 0) : rtsB (s.blobs.eraseIdx i) = rtsB s.blobs := by
  unfold rtsB
  rw [filter_erase s.blobs i hi (by simp [hp])]
theorem lost_rts (hi : i < s.blobs.length) (hp : s.blobs[i].pins = 0) : rts { s with blobs := s.blobs.eraseIdx i } = rts s := by
  show rtsE s.ents ++ rtsB (s.blobs.eraseIdx i) = _
  rw [lost_rtsB hi hp]; rfl
theorem lost_inB (hg : GoodS s) (hi : i < s.blobs.length) {x : List UInt8} (hx : InB s.blobs x) (hne : x ≠ s.blobs[i].dig) : InB (s.blobs.eraseIdx i) x := by
  obtain ⟨b, hb, rfl⟩ := hx
  rcases erase_mem hg.b.ris hi hb with h | h
  · subst h; exact absurd rfl hne
  · exact ⟨b, h, rfl⟩
theorem lost_rch (hg : GoodS s) (hi : i < s.blobs.length) (hn : ¬ Rch s.blobs (rts s) s.blobs[i].dig) : Rch (s.blobs.eraseIdx i) (rts { s with blobs := s.blobs.eraseIdx i }) = Rch s.blobs (rts s) := by
  rw [lost_rts hi (lost_pins hg hi hn)]
  refine funext fun x => propext ⟨fun h => h.sub hg.b.ris (erase_rises hg.b.ris i) (erase_sub _ _) (fun _ h => h), fun h => h.keepb hg.b.ris (erase_rises hg.b.ris i) (erase_sub _ _) (fun _ h => h) (fun y hy => lost_inB hg hi hy.inB (fun e => hn (e ▸ hy)))⟩
theorem lost_good (hg : GoodS s) (hi : i < s.blobs.length) (hn : ¬ Rch s.blobs (rts s) s.blobs[i].dig) : GoodS { s with blobs := s.blobs.eraseIdx i } := by
  refine ⟨⟨Nat.le_trans (List.eraseIdx_sublist _ _).length_le hg.b.len, fun b hb => hg.b.one b (erase_sub _ _ b hb), erase_rises hg.b.ris i⟩, hg.e, hg.room, Nat.le_trans ?_ hg.used, hg.clock, fun x hx => ⟨(hg.ent x hx).1, fun p hp => ?_⟩⟩
  · show usd (s.blobs.eraseIdx i) ≤ usd s.blobs
    exact usd_sub (List.eraseIdx_sublist s.blobs i)
  · obtain ⟨b, hb, e1, e2⟩ := (hg.ent x hx).2 p hp
    rcases erase_mem hg.b.ris hi hb with h | h
    · subst h
      exact absurd (.root (by rw [e1]; exact rts_part hx hp) ⟨_, hb, rfl⟩) hn
    · exact ⟨b, h, e1, e2⟩
theorem lost_mkd (hi : i < s.blobs.length) (hm : s.blobs[i].mark = false) : mkd (s.blobs.eraseIdx i) = mkd s.blobs := by
  unfold mkd
  rw [filter_erase s.blobs i hi hm]
end
theorem sStep_good {s : StoP} {c : ColP} (hg : GoodS s) (hp : c.phase = 2) (h : GoodC s c) : GoodS (sStep s c).1 ∧ GoodC (sStep s c).1 (sStep s c).2.1 ∧ Rch (sStep s c).1.blobs (rts (sStep s c).1) = Rch s.blobs (rts s) ∧ (sStep s c).1.ents = s.ents ∧ (sStep s c).1.room = s.room ∧ (sStep s c).1.clock = s.clock := by
  rcases sStep_ways s c with ⟨_, e⟩ | ⟨i, hi, _, hm, e⟩ | ⟨i, hi, _, hm, e⟩
  · rw [e]
    exact ⟨hg, ⟨by show 0 ≤ 2; omega, (fun d hd => by cases hd), List.Pairwise.nil, .inl rfl, fun _ => rfl, fun _ => rfl, fun h => (by cases h), fun h => (by cases h), fun h => by cases h⟩, rfl, rfl, rfl, rfl⟩
  · rw [e]
    exact ⟨hg, ⟨Nat.le_refl _, (fun d hd => by cases hd), List.Pairwise.nil, .inr (by show hexC s.blobs[i].dig = 0; rw [(hg.b.one _ (List.getElem_mem hi)).1]; exact hexC_sha _), fun _ => rfl, fun h => absurd rfl h, fun h => (by cases h), fun h => (by cases h), fun _ => h.sw hp⟩, rfl, rfl, rfl, rfl⟩
  · have hn := lost_not hg hi hm (h.sw hp)
    rw [e]
    refine ⟨lost_good hg hi hn, ⟨Nat.le_refl _, (fun d hd => by cases hd), List.Pairwise.nil, .inr (by show hexC s.blobs[i].dig = 0; rw [(hg.b.one _ (List.getElem_mem hi)).1]; exact hexC_sha _), fun _ => rfl, fun h => absurd rfl h, fun h => (by cases h), fun h => (by cases h), fun _ x hx => ?_⟩, lost_rch hg hi hn, rfl, rfl, rfl⟩
    show x ∈ mkd (s.blobs.eraseIdx i)
    rw [lost_mkd hi hm]
    exact h.sw hp x (by rw [← lost_rch hg hi hn]; exact hx)
/-! how long it takes -/
/-- those that are not marked -/
def unm (bl : List BlobP) : Nat := (bl.filter (fun b => !b.mark)).length
theorem unm_le (bl : List BlobP) : unm bl ≤ bl.length := List.length_filter_le _ _
theorem filter_set_lt {p : BlobP → Bool} : ∀ {l : List BlobP} {i : Nat} {y : BlobP} (hi : i < l.length), p l[i] = true → p y = false → ((l.set i y).filter p).length + 1 = (l.filter p).length
  | x :: l, 0, y, _, h1, h2 => by
    rw [List.set_cons_zero, List.filter_cons_of_neg (by simp [h2]), List.filter_cons_of_pos (by simpa using h1)]; rfl
  | x :: l, i + 1, y, hi, h1, h2 => by
    have ih := filter_set_lt (l := l) (i := i) (y := y) (by simpa using hi) (by simpa using h1) h2
    rw [List.set_cons_succ]
    by_cases hx : p x = true
    · rw [List.filter_cons_of_pos hx, List.filter_cons_of_pos hx, List.length_cons, List.length_cons, ih]
    · rw [List.filter_cons_of_neg hx, List.filter_cons_of_neg hx, ih]
def KidsLe (k : Nat) (bl : List BlobP) : Prop := ∀ b ∈ bl, (decL b.data).1.length ≤ k
theorem kids_le8 (bl : List BlobP) : KidsLe 8 bl := fun b _ => decL_len b.data
theorem kids_len {k : Nat} {bl : List BlobP} (h : KidsLe k bl) (x : List UInt8) : (kids bl x).length ≤ k := by
  unfold kids
  cases hf : bl.findIdx? (fun b => b.dig == x) with
  | none => exact Nat.zero_le _
  | some i =>
    have hi : i < bl.length := (List.findIdx?_eq_some_iff_getElem.1 hf).1
    simp only [List.getElem?_eq_getElem hi, List.length_map]
    exact h _ (List.getElem_mem hi)
theorem KidsLe.eqM {k : Nat} {l m : List BlobP} (h : KidsLe k l) (e : EqM l m) : KidsLe k m := fun b hb => by
  obtain ⟨b', hb', _, e2, _⟩ := e.symm.mem hb
  rw [← e2]; exact h b' hb'
/-- marking ends -/
theorem mStep_less {k : Nat} {s : StoP} {c : ColP} (hk : KidsLe k s.blobs) (h : (mStep s c).2.phase = 1) : k * unm (mStep s c).1.blobs + (mStep s c).2.grey.length + 1 ≤ k * unm s.blobs + c.grey.length := by
  rcases mStep_ways s c with ⟨_, e⟩ | ⟨d, rest, hc, _, e⟩ | ⟨d, rest, i, hi, hc, _, _, _, e⟩ | ⟨d, rest, i, hi, hc, _, hd, hm, e⟩
  · rw [e] at h; cases h
  · rw [e, hc]; simp only [List.length_cons]; omega
  · rw [e, hc]; simp only [List.length_cons]; omega
  · rw [e, hc]
    have h1 := filter_set_lt (p := fun b => !b.mark) (y := { s.blobs[i] with mark := true }) hi (by simp [hm]) (by simp)
    have h2 := uni_len (rest ++ kids s.blobs d)
    have h3 := kids_len hk d
    rw [List.length_append] at h2
    show k * unm (s.blobs.set i _) + (uni (rest ++ kids s.blobs d)).length + 1 ≤ k * unm s.blobs + (d :: rest).length
    have h4 : unm s.blobs = unm (s.blobs.set i { s.blobs[i] with mark := true }) + 1 := by unfold unm; exact h1.symm
    rw [h4, Nat.mul_add, Nat.mul_one, List.length_cons]
    omega
theorem mStep_ph (s : StoP) (c : ColP) : (mStep s c).2.phase = 1 ∨ (mStep s c).2 = ⟨2, [], []⟩ := by
  rcases mStep_ways s c with ⟨_, e⟩ | ⟨_, _, _, _, e⟩ | ⟨_, _, _, _, _, _, _, _, e⟩ | ⟨_, _, _, _, _, _, _, _, e⟩
  · rw [e]; exact .inr rfl
  · rw [e]; exact .inl rfl
  · rw [e]; exact .inl rfl
  · rw [e]; exact .inl rfl
theorem mStep_len (s : StoP) (c : ColP) : (mStep s c).1.blobs.length = s.blobs.length := (mStep_eqM s c).1.len.symm
/-- those that are still to be swept -/
def ahead (a : List UInt8) (bl : List BlobP) : Nat := (bl.filter (fun b => Op.bytesLess a b.dig)).length
theorem ahead_le (a : List UInt8) (bl : List BlobP) : ahead a bl ≤ bl.length := List.length_filter_le _ _
theorem ahead_lt {a : List UInt8} {bl : List BlobP} {i : Nat} (hi : i < bl.length) (h : Op.bytesLess a bl[i].dig = true) : ahead bl[i].dig bl + 1 ≤ ahead a bl := by
  refine filter_lt bl (fun x _ hx => bl_trans h hx) ⟨bl[i], List.getElem_mem hi, bl_irr _, h⟩
theorem ahead_sub (a : List UInt8) (bl : List BlobP) (i : Nat) : ahead a (bl.eraseIdx i) ≤ ahead a bl := ((List.eraseIdx_sublist bl i).filter _).length_le
theorem sStep_less {s : StoP} {c : ColP} (h : (sStep s c).2.1.phase ≠ 0) : ahead (sStep s c).2.1.at_ (sStep s c).1.blobs + 1 ≤ ahead c.at_ s.blobs := by
  rcases sStep_ways s c with ⟨_, e⟩ | ⟨i, hi, hf, _, e⟩ | ⟨i, hi, hf, _, e⟩
  · rw [e] at h; exact absurd rfl h
  · rw [e]
    exact ahead_lt hi (List.findIdx?_eq_some_iff_getElem.1 hf).2.1
  · rw [e]
    have h1 := ahead_lt hi (List.findIdx?_eq_some_iff_getElem.1 hf).2.1
    have h2 := ahead_sub s.blobs[i].dig s.blobs i
    show ahead s.blobs[i].dig (s.blobs.eraseIdx i) + 1 ≤ _
    omega
theorem sStep_ph (s : StoP) (c : ColP) : (sStep s c).2.1.phase = 2 ∨ (sStep s c).2.1 = ⟨0, [], []⟩ := by
  rcases sStep_ways s c with ⟨_, e⟩ | ⟨_, _, _, _, e⟩ | ⟨_, _, _, _, e⟩
  · rw [e]; exact .inr rfl
  · rw [e]; exact .inl rfl
  · rw [e]; exact .inl rfl
theorem sStep_len (s : StoP) (c : ColP) : (sStep s c).1.blobs.length ≤ s.blobs.length := by
  rcases sStep_ways s c with ⟨_, e⟩ | ⟨_, _, _, _, e⟩ | ⟨_, _, _, _, e⟩
  · rw [e]; exact Nat.le_refl _
  · rw [e]; exact Nat.le_refl _
  · rw [e]; exact (List.eraseIdx_sublist _ _).length_le
/-- how many steps there are at most -/
def steps (k : Nat) (s : StoP) (c : ColP) : Nat :=
  if c.phase = 1 then k * unm s.blobs + c.grey.length + s.blobs.length + 2 else if c.phase = 2 then ahead c.at_ s.blobs + 1 else 0
theorem tick_less {k : Nat} {s : StoP} {c : ColP} (hk : KidsLe k s.blobs) (hp : c.phase = 1 ∨ c.phase = 2) : steps k (tickP s c).1 (tickP s c).2.1 + 1 ≤ steps k s c := by
  unfold tickP
  rcases hp with hp | hp
  · rw [if_pos hp]
    show steps k (mStep s c).1 (mStep s c).2 + 1 ≤ _
    have hl := mStep_len s c
    rcases mStep_ph s c with h | h
    · have := mStep_less hk h
      unfold steps
      rw [if_pos h, if_pos hp, hl]; omega
    · unfold steps
      rw [h, if_neg (by decide), if_pos rfl, if_pos hp]
      have := ahead_le [] (mStep s c).1.blobs
      rw [hl] at this
      show ahead [] _ + 1 + 1 ≤ _
      omega
  · rw [if_neg (by omega)]
    rcases sStep_ph s c with h | h
    · have := sStep_less (s := s) (c := c) (by omega)
      unfold steps
      rw [if_neg (by omega), if_pos h, if_neg (by omega), if_pos hp]; omega
    · unfold steps
      rw [h, if_neg (by decide), if_neg (by decide), if_neg (by omega), if_pos hp]; omega
theorem tick_good {s : StoP} {c : ColP} (hg : GoodS s) (hc : GoodC s c) (hp : c.phase = 1 ∨ c.phase = 2) : GoodS (tickP s c).1 ∧ GoodC (tickP s c).1 (tickP s c).2.1 ∧ Rch (tickP s c).1.blobs (rts (tickP s c).1) = Rch s.blobs (rts s) ∧ (tickP s c).1.ents = s.ents ∧ (tickP s c).1.room = s.room ∧ (tickP s c).1.clock = s.clock := by
  unfold tickP
  rcases hp with hp | hp
  · rw [if_pos hp]
    have e := (mStep_eqM s c).2
    refine ⟨mStep_good c hg, mStep_goodC hg hp hc, mStep_rch s c, ?_, ?_, ?_⟩ <;> (show _ = _; rw [e])
  · rw [if_neg (by omega)]
    exact sStep_good hg hp hc
/-! only what is come to is marked -/
structure OnlyC (s : StoP) (c : ColP) : Prop where
  mb : ∀ b ∈ s.blobs, b.mark = true → Rch s.blobs (rts s) b.dig
  gr : ∀ x ∈ c.grey, InB s.blobs x → Rch s.blobs (rts s) x
  sw : c.phase = 2 → ∀ b ∈ s.blobs, Op.bytesLess c.at_ b.dig = false → b.mark = true
  en : c.phase = 0 → ∀ b ∈ s.blobs, b.mark = true
theorem beg_only {s : StoP} (hg : GoodS s) : OnlyC (begS s) (begC s) := by
  refine ⟨fun b hb hm => ?_, fun x hx hb => .root ?_ hb, fun h => (by cases h), fun h => by cases h⟩
  · obtain ⟨a, _, rfl⟩ := List.mem_map.1 hb
    cases hm
  · rw [beg_rts]; exact mem_uni.1 hx
theorem bl_nil1 {x : List UInt8} (h : x ≠ []) : Op.bytesLess [] x = true := by
  cases x with
  | nil => exact absurd rfl h
  | cons a x => rw [bl_eq]; exact decide_eq_true (List.nil_lt_cons a x)
theorem mStep_only {s : StoP} {c : ColP} (hg : GoodS s) (h : OnlyC s c) : OnlyC (mStep s c).1 (mStep s c).2 := by
  have hdig : ∀ b ∈ s.blobs, b.dig ≠ [] := fun b hb e => by
    have h1 := hexC_len (hexC_sha b.data)
    rw [← (hg.b.one b hb).1, e] at h1
    cases h1
  rcases mStep_ways s c with ⟨_, e⟩ | ⟨d, rest, hc, _, e⟩ | ⟨d, rest, i, hi, hc, _, _, _, e⟩ | ⟨d, rest, i, hi, hc, hf, hd, hm, e⟩
  · rw [e]
    exact ⟨h.mb, (fun x hx => by cases hx), fun _ b hb hl => absurd (bl_nil1 (hdig b hb)) (by rw [hl]; decide), fun h => by cases h⟩
  · rw [e]
    exact ⟨h.mb, fun x hx => h.gr x (by rw [hc]; exact List.mem_cons_of_mem _ hx), fun h => (by cases h), fun h => by cases h⟩
  · rw [e]
    exact ⟨h.mb, fun x hx => h.gr x (by rw [hc]; exact List.mem_cons_of_mem _ hx), fun h => (by cases h), fun h => by cases h⟩
  · have hE : EqM s.blobs (s.blobs.set i { s.blobs[i] with mark := true }) := eqM_set hi true
    have hR : Rch (s.blobs.set i { s.blobs[i] with mark := true }) (rts { s with blobs := s.blobs.set i { s.blobs[i] with mark := true } }) = Rch s.blobs (rts s) := by rw [eqM_rts hE]; exact eqM_rch hE
    have hdr : Rch s.blobs (rts s) d := h.gr d (by rw [hc]; exact List.mem_cons_self ..) ⟨_, List.getElem_mem hi, hd⟩
    rw [e]
    refine ⟨fun b hb hmb => ?_, fun x hx hbx => ?_, fun h => (by cases h), fun h => by cases h⟩
    · show Rch (s.blobs.set i _) (rts _) _
      rw [hR]
      rcases List.mem_or_eq_of_mem_set hb with h2 | h2
      · exact h.mb b h2 hmb
      · subst h2; show Rch _ _ s.blobs[i].dig; rw [hd]; exact hdr
    · show Rch (s.blobs.set i _) (rts _) _
      rw [hR]
      have hbx' := (eqM_inB hE).1 hbx
      rcases List.mem_append.1 (mem_uni.1 hx) with h2 | h2
      · exact h.gr x (by rw [hc]; exact List.mem_cons_of_mem _ h2) hbx'
      · exact .step hdr h2 hbx'
theorem less_total {a b : List UInt8} (h : Op.bytesLess a b = false) : Op.bytesLess b a = true ∨ a = b := by
  rw [bl_eq] at h ⊢
  have h1 : ¬ a < b := of_decide_eq_false h
  rcases List.le_iff_lt_or_eq.1 (List.not_lt.1 h1) with h2 | h2
  · exact .inl (decide_eq_true h2)
  · exact .inr h2.symm
theorem sStep_only {s : StoP} {c : ColP} (hg : GoodS s) (hp : c.phase = 2) (hC : GoodC s c) (h : OnlyC s c) : OnlyC (sStep s c).1 (sStep s c).2.1 := by
  rcases sStep_ways s c with ⟨hf, e⟩ | ⟨i, hi, hf, hm, e⟩ | ⟨i, hi, hf, hm, e⟩
  · rw [e]
    refine ⟨h.mb, (fun x hx => by cases hx), fun h => (by cases h), fun _ b hb => h.sw hp b hb ?_⟩
    have := List.findIdx?_eq_none_iff.1 hf b hb
    simpa using this
  · rw [e]
    obtain ⟨_, h1, h2⟩ := List.findIdx?_eq_some_iff_getElem.1 hf
    refine ⟨h.mb, (fun x hx => by cases hx), fun _ b hb hl => ?_, fun h => by cases h⟩
    obtain ⟨j, hj, rfl⟩ := List.mem_iff_getElem.1 hb
    have hl' : Op.bytesLess s.blobs[i].dig s.blobs[j].dig = false := hl
    rcases Nat.lt_trichotomy j i with h3 | h3 | h3
    · refine h.sw hp _ hb ?_
      have := h2 j h3
      simpa using this
    · subst h3; exact hm
    · have := List.pairwise_iff_getElem.1 hg.b.ris i j hi hj h3
      rw [hl'] at this; cases this
  · have hn := lost_not hg hi hm (hC.sw hp)
    rw [e]
    obtain ⟨_, h1, h2⟩ := List.findIdx?_eq_some_iff_getElem.1 hf
    refine ⟨fun b hb hmb => ?_, (fun x hx => by cases hx), fun _ b hb hl => ?_, fun h => by cases h⟩
    · show Rch (s.blobs.eraseIdx i) (rts { s with blobs := s.blobs.eraseIdx i }) _
      rw [lost_rch hg hi hn]
      exact h.mb b (erase_sub _ _ b hb) hmb
    · have hb' := erase_sub _ _ b hb
      have hl' : Op.bytesLess s.blobs[i].dig b.dig = false := hl
      obtain ⟨j, hj, rfl⟩ := List.mem_iff_getElem.1 hb'
      rcases Nat.lt_trichotomy j i with h3 | h3 | h3
      · refine h.sw hp _ hb' ?_
        have := h2 j h3
        simpa using this
      · subst h3
        exfalso
        obtain ⟨k, hk, hkj, e2⟩ := List.mem_eraseIdx_iff_getElem.1 hb
        have h4 := hg.b.ris.map.nodup
        have := (List.getElem_inj (xs := s.blobs.map (·.dig)) (i := k) (j := j) (h₀ := by simpa using hk) (h₁ := by simpa using hj) h4).1 (by simp only [List.getElem_map]; rw [e2])
        exact hkj this
      · have := List.pairwise_iff_getElem.1 hg.b.ris i j hi hj h3
        rw [hl'] at this; cases this
theorem tick_only {s : StoP} {c : ColP} (hg : GoodS s) (hc : GoodC s c) (h : OnlyC s c) (hp : c.phase = 1 ∨ c.phase = 2) : OnlyC (tickP s c).1 (tickP s c).2.1 := by
  unfold tickP
  rcases hp with hp | hp
  · rw [if_pos hp]; exact mStep_only hg h
  · rw [if_neg (by omega)]; exact sStep_only hg hp hc h
end Go.Proofs.YtmjcoebfldmgnaaGreat
