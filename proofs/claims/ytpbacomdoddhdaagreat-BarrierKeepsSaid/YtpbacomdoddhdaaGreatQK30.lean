/- Lemmas of the proof. Conditions: as stated. -/
import Derived.Test.YtpbacomdoddhdaaGreatQK29
set_option linter.unusedVariables false
set_option linter.unusedSimpArgs false
namespace Go.Proofs.YtpbacomdoddhdaaGreat
open Go.RowKit
def uni (L : List (List UInt8)) : List (List UInt8) := srt (fun x => x) (nub L)
theorem kr (L : List (List UInt8)) : Rises (uni L) := qT (f := fun x => x) (by rw [List.map_id']; exact ji L)
theorem vd (L : List (List UInt8)) : StrL (uni L) (fun x => x ∈ L) := by
 refine ⟨(kr L).nodup, (kr L).imp fun {a b} h => ?_, fun x => ?_⟩
 ·rw [XO]
  cases hb : Op.bytesLess b a with
  | false => rfl
  | true => have := zO h hb; rw [kh] at this; cases this
 ·show x ∈ srt _ _ ↔ _
  rw [(zw _ _).mem_iff, yN]
theorem qF {L : List (List UInt8)} {x : List UInt8} : x ∈ uni L ↔ x ∈ L := (vd L).mem x
theorem StrL.uni {L M : List (List UInt8)} {p : List UInt8 → Prop} (h : StrL M p) (hp : ∀ x, p x ↔ x ∈ L) : M = uni L :=
 StrL.uniq h ⟨(vd L).nd, (vd L).le, fun x => (qF).trans (hp x).symm⟩
theorem uM (L : List (List UInt8)) : (uni L).length ≤ L.length := by
 have : ∀ l : List (List UInt8), (nub l).length ≤ l.length := fun l => by
  induction l with
  | nil => exact Nat.le_refl _
  | cons x l ih =>
   rw [nub]
   split
   ·exact Nat.le_trans ih (by simp)
   ·simpa using ih
 show (srt _ _).length ≤ _
 rw [(zw _ _).length_eq]
 exact this L
theorem QV {L : List (List UInt8)} (h : Rises L) : L.Pairwise (fun x y => leB x y = true) := h.imp fun {a b} h => by
 rw [XO]
 cases hb : Op.bytesLess b a with
 | false => rfl
 | true => have := zO h hb; rw [kh] at this; cases this
structure ColP where
 phase : Nat
 grey : List (List UInt8)
 at_ : List UInt8
def Xk (bl : List BlobP) : List BlobP := bl.map fun b => { b with mark := false }
def kX (s : StoP) : StoP := { s with blobs := Xk s.blobs }
def ye (s : StoP) : ColP := ⟨1, uni (rts s), []⟩
def mkd (bl : List BlobP) : List (List UInt8) := (bl.filter (·.mark)).map (·.dig)
theorem zX {bl : List BlobP} {x : List UInt8} : x ∈ mkd bl ↔ ∃ b ∈ bl, b.mark = true ∧ b.dig = x := by
 unfold mkd
 rw [List.mem_map]
 constructor
 ·rintro ⟨b, hb, e⟩
  obtain ⟨h1, h2⟩ := List.mem_filter.1 hb
  exact ⟨b, h1, h2, e⟩
 ·rintro ⟨b, hb, h, e⟩
  exact ⟨b, List.mem_filter.2 ⟨hb, h⟩, e⟩
def zk (s : StoP) (c : ColP) : StoP × ColP :=
 match c.grey with
 | [] => (s, ⟨2, [], []⟩)
 | d :: rest => match s.blobs.findIdx? (fun b => b.dig == d) with
  | none => (s, ⟨1, rest, []⟩)
  | some i => match s.blobs[i]? with
   | none => (s, ⟨1, rest, []⟩)
   | some b => if b.mark then (s, ⟨1, rest, []⟩) else ({ s with blobs := s.blobs.set i { b with mark := true } }, ⟨1, uni (rest ++ (qB b.data).1.map (·.dig)), []⟩)
def zQ (s : StoP) (c : ColP) : StoP × ColP × List UInt8 :=
 match s.blobs.findIdx? (fun b => Op.bytesLess c.at_ b.dig) with
 | none => (s, ⟨0, [], []⟩, [])
 | some i => match s.blobs[i]? with
  | none => (s, ⟨0, [], []⟩, [])
  | some b => if b.mark then (s, ⟨2, [], b.dig⟩, []) else ({ s with blobs := s.blobs.eraseIdx i }, ⟨2, [], b.dig⟩, b.dig)
def zt (s : StoP) (c : ColP) : StoP × ColP × List UInt8 := if c.phase = 1 then ((zk s c).1, (zk s c).2, []) else zQ s c
def NoM (b : BlobP) : List UInt8 × List UInt8 × Nat := (b.dig, b.data, b.pins)
def EqM (l m : List BlobP) : Prop := l.map NoM = m.map NoM
theorem EqM.symm {l m : List BlobP} (h : EqM l m) : EqM m l := Eq.symm h
theorem EqM.trans {l m k : List BlobP} (h : EqM l m) (h' : EqM m k) : EqM l k := Eq.trans h h'
theorem EqM.rfl_ (l : List BlobP) : EqM l l := rfl
theorem EqM.len {l m : List BlobP} (h : EqM l m) : l.length = m.length := by
 have := congrArg List.length h
 simpa using this
theorem EqM.at_ {l m : List BlobP} (h : EqM l m) (i : Nat) (h1 : i < l.length) (h2 : i < m.length) : m[i].dig = l[i].dig ∧ m[i].data = l[i].data ∧ m[i].pins = l[i].pins := by
 have h3 := congrArg (fun x => x[i]?) h
 simp only [List.getElem?_map, List.getElem?_eq_getElem h1, List.getElem?_eq_getElem h2, Option.map_some, Option.some.injEq, NoM, Prod.mk.injEq] at h3
 exact ⟨h3.1.symm, h3.2.1.symm, h3.2.2.symm⟩
theorem EqM.mem {l m : List BlobP} (h : EqM l m) {b : BlobP} (hb : b ∈ l) : ∃ b' ∈ m, b'.dig = b.dig ∧ b'.data = b.data ∧ b'.pins = b.pins := by
 obtain ⟨i, hi, rfl⟩ := List.mem_iff_getElem.1 hb
 have h2 : i < m.length := by rw [← h.len]; exact hi
 exact ⟨m[i], List.getElem_mem h2, h.at_ i hi h2⟩
theorem EqM.cons {a b : BlobP} {l m : List BlobP} (h : EqM (a :: l) (b :: m)) : (b.dig = a.dig ∧ b.data = a.data ∧ b.pins = a.pins) ∧ EqM l m := by
 unfold EqM at h
 simp only [List.map_cons, List.cons.injEq] at h
 obtain ⟨h1, h2⟩ := h
 unfold NoM at h1
 simp only [Prod.mk.injEq] at h1
 exact ⟨⟨h1.1.symm, h1.2.1.symm, h1.2.2.symm⟩, h2⟩
theorem KE {x : List UInt8} : ∀ {l m : List BlobP}, EqM l m → m.findIdx? (fun b => b.dig == x) = l.findIdx? (fun b => b.dig == x)
 | [], [], _ => rfl
 | [], b :: m, h => by cases h
 | a :: l, [], h => by cases h
 | a :: l, b :: m, h => by
  obtain ⟨h1, h2⟩ := h.cons
  rw [List.findIdx?_cons, List.findIdx?_cons, h1.1, KE h2]
theorem un {l m : List BlobP} (h : EqM l m) (x : List UInt8) : kids m x = kids l x := by
 unfold kids
 rw [KE h]
 cases hf : l.findIdx? (fun b => b.dig == x) with
 | none => rfl
 | some i =>
  have hi : i < l.length := (List.findIdx?_eq_some_iff_getElem.1 hf).1
  have hi2 : i < m.length := by rw [← h.len]; exact hi
  simp only [List.getElem?_eq_getElem hi, List.getElem?_eq_getElem hi2]
  rw [(h.at_ i hi hi2).2.1]
theorem kY {l m : List BlobP} (h : EqM l m) {x : List UInt8} : InB m x ↔ InB l x := by
 constructor
 ·rintro ⟨b, hb, e⟩
  obtain ⟨b', hb', e1, _⟩ := h.symm.mem hb
  exact ⟨b', hb', e1.trans e⟩
 ·rintro ⟨b, hb, e⟩
  obtain ⟨b', hb', e1, _⟩ := h.mem hb
  exact ⟨b', hb', e1.trans e⟩
theorem Zh {l m : List BlobP} (h : EqM l m) {ds : List (List UInt8)} {x : List UInt8} (hx : Rch l ds x) : Rch m ds x := by
 induction hx with
 | root h1 h2 => exact .root h1 ((kY h).2 h2)
 | step h1 h2 h3 ih => exact .step ih (by rw [un h]; exact h2) ((kY h).2 h3)
theorem uG {l m : List BlobP} (h : EqM l m) {ds : List (List UInt8)} : Rch m ds = Rch l ds := funext fun x => propext ⟨Zh h.symm, Zh h⟩
theorem ZC : ∀ {l m : List BlobP}, EqM l m → vy m = vy l
 | [], [], _ => rfl
 | [], b :: m, h => by cases h
 | a :: l, [], h => by cases h
 | a :: l, b :: m, h => by
  obtain ⟨h1, h2⟩ := h.cons
  have ih := ZC h2
  unfold vy at ih ⊢
  rw [List.filter_cons, List.filter_cons, h1.2.2]
  split
  ·rw [List.map_cons, List.map_cons, h1.1, ih]
  ·exact ih
theorem ui {s : StoP} {m : List BlobP} (h : EqM s.blobs m) : rts { s with blobs := m } = rts s := by
 show jD s.ents ++ vy m = _
 rw [ZC h]; rfl
theorem V8 {l m : List BlobP} (h : EqM l m) (hr : RisesBy (·.dig) l) : RisesBy (·.dig) m := by
 have e : m.map (·.dig) = l.map (·.dig) := by
  have h3 := congrArg (List.map Prod.fst) h
  simp only [List.map_map] at h3
  exact h3.symm
 have := List.pairwise_map.1 (e ▸ hr.map : Rises (m.map (·.dig)))
 exact this
theorem Vn {l m : List BlobP} (h : EqM l m) : usd m = usd l := by
 have h3 := congrArg (List.map fun x : List UInt8 × List UInt8 × Nat => x.2.1.length) h
 simp only [List.map_map] at h3
 unfold usd
 exact (congrArg List.sum h3).symm
theorem uC {s : StoP} {m : List BlobP} (h : EqM s.blobs m) (hg : GoodS s) : GoodS { s with blobs := m } :=
 ⟨⟨by rw [← h.len]; exact hg.b.len, fun b hb => by
   obtain ⟨b', hb', e1, e2, e3⟩ := h.symm.mem hb
   have h1 := hg.b.one b' hb'
   unfold GoodB1 at h1 ⊢
   rw [← e1, ← e2, ← e3]; exact h1, V8 h hg.b.ris⟩, hg.e, hg.room, by show usd m ≤ _; rw [Vn h]; exact hg.used, hg.clock, fun x hx => ⟨(hg.ent x hx).1, fun p hp => by
   obtain ⟨b, hb, e1, e2⟩ := (hg.ent x hx).2 p hp
   obtain ⟨b', hb', e3, e4, _⟩ := h.mem hb
   exact ⟨b', hb', e3.trans e1, by rw [e4]; exact e2⟩⟩⟩
theorem xw (l : List BlobP) : EqM l (Xk l) := by
 unfold EqM Xk
 rw [List.map_map]; rfl
theorem QW {l : List BlobP} {i : Nat} (hi : i < l.length) (k : Bool) : EqM l (l.set i { l[i] with mark := k }) := by
 unfold EqM
 rw [List.map_set]
 have : NoM { l[i] with mark := k } = (l.map NoM)[i]'(by simpa using hi) := by rw [List.getElem_map]; rfl
 rw [this, List.set_getElem_self]
theorem VX (b : List UInt8) (h : (qB b).2 ≠ 0) : (qB b).1 = [] := by
 unfold qB at h ⊢
 split
 ·rfl
 rename_i h1
 rw [if_neg h1] at h
 split
 ·rfl
 rename_i h2
 rw [if_neg h2] at h
 split
 ·rfl
 rename_i h3
 rw [if_neg h3] at h
 split
 ·rfl
 rename_i h4
 rw [if_neg h4] at h
 split
 ·rfl
 rename_i h5
 rw [if_neg h5] at h
 split
 ·rfl
 rename_i h6
 rw [if_neg h6] at h
 split
 ·rfl
 rename_i h7
 rw [if_neg h7] at h
 exact absurd rfl h
theorem VR (b : List UInt8) : (qB b).1 = [] ∨ (enc (qB b).1 = b ∧ chk (qB b).1 = 0) := by
 by_cases h : (qB b).2 = 0
 ·right
  have e : qB b = ((qB b).1, 0) := by rw [← h]
  exact Yu e
 ·exact .inl (VX b h)
theorem Vv (b : List UInt8) : ∀ p ∈ (qB b).1, hexC p.dig = 0 := fun p hp => by
 rcases VR b with h | h
 ·rw [h] at hp; cases hp
 ·exact ((zi h.2).2 p hp).2.1
theorem Yx {bl : List BlobP} {x y : List UInt8} (h : y ∈ kids bl x) : hexC y = 0 := by
 unfold kids at h
 cases hf : bl.findIdx? (fun b => b.dig == x) with
 | none => rw [hf] at h; cases h
 | some i =>
  rw [hf] at h
  cases hb : bl[i]? with
  | none => simp only [hb] at h; cases h
  | some b =>
   simp only [hb] at h
   obtain ⟨p, hp, rfl⟩ := List.mem_map.1 h
   exact Vv b.data p hp
theorem VY {s : StoP} (hg : GoodS s) {x : List UInt8} (h : x ∈ rts s) : hexC x = 0 := by
 rcases List.mem_append.1 h with h | h
 ·obtain ⟨y, hy, h2⟩ := List.mem_flatMap.1 h
  obtain ⟨p, hp, rfl⟩ := List.mem_map.1 h2
  exact ((zi (hg.e.one y hy).2.1).2 p hp).2.1
 ·obtain ⟨b, hb, rfl⟩ := List.mem_map.1 h
  rw [(hg.b.one b (List.mem_filter.1 hb).1).1]
  exact zv _
structure GoodC (s : StoP) (c : ColP) : Prop where
 ph : c.phase ≤ 2
 gh : ∀ d ∈ c.grey, hexC d = 0
 ris : Rises c.grey
 ah : c.at_ = [] ∨ hexC c.at_ = 0
 g0 : c.phase ≠ 1 → c.grey = []
 a0 : c.phase ≠ 2 → c.at_ = []
 mr : c.phase = 1 → ∀ x ∈ rts s, InB s.blobs x → x ∈ mkd s.blobs ∨ x ∈ c.grey
 mb : c.phase = 1 → ∀ b ∈ s.blobs, b.mark = true → ∀ x ∈ kids s.blobs b.dig, InB s.blobs x → x ∈ mkd s.blobs ∨ x ∈ c.grey
 sw : c.phase = 2 → ∀ x, Rch s.blobs (rts s) x → x ∈ mkd s.blobs
theorem yq {s : StoP} (hg : GoodS s) : GoodS (kX s) := uC (xw s.blobs) hg
theorem U8 (s : StoP) : rts (kX s) = rts s := ui (xw s.blobs)
theorem uX {s : StoP} (hg : GoodS s) : GoodC (kX s) (ye s) := by
 refine ⟨by show 1 ≤ 2; omega, fun d hd => VY hg (qF.1 hd), kr _, .inl rfl, fun h => absurd rfl h, fun _ => rfl, fun _ x hx _ => .inr ?_, fun _ b hb hm => ?_, fun h => absurd h (by show ¬ (1 = 2); omega)⟩
 ·rw [U8] at hx; exact qF.2 hx
 ·exfalso
  obtain ⟨a, _, rfl⟩ := List.mem_map.1 hb
  cases hm
theorem Q4 {s : StoP} (hr : RisesBy (·.dig) s.blobs) (h1 : ∀ x ∈ rts s, InB s.blobs x → x ∈ mkd s.blobs) (h2 : ∀ b ∈ s.blobs, b.mark = true → ∀ x ∈ kids s.blobs b.dig, InB s.blobs x → x ∈ mkd s.blobs) : ∀ x, Rch s.blobs (rts s) x → x ∈ mkd s.blobs := fun x hx => by
 induction hx with
 | root h3 h4 => exact h1 _ h3 h4
 | step h3 h4 h5 ih =>
  obtain ⟨b, hb, hm, rfl⟩ := zX.1 ih
  exact h2 b hb hm _ h4 h5
theorem jZ {l : List BlobP} {i : Nat} (hi : i < l.length) (x : List UInt8) : x ∈ mkd (l.set i { l[i] with mark := true }) ↔ x ∈ mkd l ∨ x = l[i].dig := by
 rw [zX, zX]
 constructor
 ·rintro ⟨b, hb, hm, rfl⟩
  rcases List.mem_or_eq_of_mem_set hb with h | h
  ·exact .inl ⟨b, h, hm, rfl⟩
  ·subst h; exact .inr rfl
 ·rintro (⟨b, hb, hm, rfl⟩ | rfl)
  ·obtain ⟨j, hj, rfl⟩ := List.mem_iff_getElem.1 hb
   by_cases hij : i = j
   ·subst hij
    exact ⟨_, List.mem_iff_getElem.2 ⟨i, by simpa using hi, rfl⟩, by simp, by simp⟩
   ·exact ⟨l[j], List.mem_iff_getElem.2 ⟨j, by simpa using hj, by rw [List.getElem_set_ne hij]⟩, hm, rfl⟩
  ·exact ⟨_, List.mem_iff_getElem.2 ⟨i, by simpa using hi, rfl⟩, by simp, by simp⟩
theorem zS (s : StoP) (c : ColP) : (c.grey = [] ∧ zk s c = (s, ⟨2, [], []⟩)) ∨
  (∃ d rest, c.grey = d :: rest ∧ ¬ InB s.blobs d ∧ zk s c = (s, ⟨1, rest, []⟩)) ∨
  (∃ d rest i, ∃ hi : i < s.blobs.length, c.grey = d :: rest ∧ s.blobs.findIdx? (fun b => b.dig == d) = some i ∧ s.blobs[i].dig = d ∧ s.blobs[i].mark = true ∧ zk s c = (s, ⟨1, rest, []⟩)) ∨
  (∃ d rest i, ∃ hi : i < s.blobs.length, c.grey = d :: rest ∧ s.blobs.findIdx? (fun b => b.dig == d) = some i ∧ s.blobs[i].dig = d ∧ s.blobs[i].mark = false ∧ zk s c = ({ s with blobs := s.blobs.set i { s.blobs[i] with mark := true } }, ⟨1, uni (rest ++ kids s.blobs d), []⟩)) := by
 unfold zk
 cases hc : c.grey with
 | nil => exact .inl ⟨rfl, rfl⟩
 | cons d rest =>
  right
  generalize hf : s.blobs.findIdx? (fun b => b.dig == d) = r
  cases r with
  | none =>
   left
   refine ⟨d, rest, rfl, fun h => ?_, by simp only [hf]⟩
   rw [uv, hf] at h; cases h
  | some i =>
   right
   obtain ⟨hi, hd, _⟩ := List.findIdx?_eq_some_iff_getElem.1 hf
   have hd' : s.blobs[i].dig = d := by simpa using hd
   have hk : kids s.blobs d = (qB s.blobs[i].data).1.map (·.dig) := by
    unfold kids
    simp only [hf, List.getElem?_eq_getElem hi]
   cases hm : s.blobs[i].mark with
   | true =>
    left
    refine ⟨d, rest, i, hi, rfl, hf, hd', hm, ?_⟩
    simp only [hf, List.getElem?_eq_getElem hi, hm, if_true]
   | false =>
    right
    refine ⟨d, rest, i, hi, rfl, hf, hd', hm, ?_⟩
    rw [hk]
    simp only [hf, List.getElem?_eq_getElem hi, hm, Bool.false_eq_true, if_false]
theorem qf (s : StoP) (c : ColP) : EqM s.blobs (zk s c).1.blobs ∧ (zk s c).1 = { s with blobs := (zk s c).1.blobs } := by
 rcases zS s c with ⟨_, h⟩ | ⟨_, _, _, _, h⟩ | ⟨_, _, _, _, _, _, _, _, h⟩ | ⟨_, _, _, hi, _, _, _, _, h⟩
 ·rw [h]; exact ⟨rfl, rfl⟩
 ·rw [h]; exact ⟨rfl, rfl⟩
 ·rw [h]; exact ⟨rfl, rfl⟩
 ·rw [h]; exact ⟨QW hi true, rfl⟩
theorem ZW {s : StoP} (c : ColP) (hg : GoodS s) : GoodS (zk s c).1 := by
 rw [(qf s c).2]; exact uC (qf s c).1 hg
theorem Kw (s : StoP) (c : ColP) : rts (zk s c).1 = rts s := by
 rw [(qf s c).2]; exact ui (qf s c).1
theorem K8 (s : StoP) (c : ColP) : Rch (zk s c).1.blobs (rts (zk s c).1) = Rch s.blobs (rts s) := by
 rw [Kw]; exact uG (qf s c).1
theorem jP {s : StoP} {c : ColP} (hg : GoodS s) (hp : c.phase = 1) (h : GoodC s c) : GoodC (zk s c).1 (zk s c).2 := by
 rcases zS s c with ⟨hc, e⟩ | ⟨d, rest, hc, hn, e⟩ | ⟨d, rest, i, hi, hc, _, hd, hm, e⟩ | ⟨d, rest, i, hi, hc, hf, hd, hm, e⟩
 ·rw [e]
  refine ⟨Nat.le_refl _, (fun d hd => by cases hd), List.Pairwise.nil, .inl rfl, fun _ => rfl, fun h => absurd rfl h, fun h => (by cases h), fun h => (by cases h), fun _ => ?_⟩
  refine Q4 hg.b.ris (fun x hx hb => ?_) (fun b hb hm x hx hi => ?_)
  ·rcases h.mr hp x hx hb with h1 | h1
   ·exact h1
   ·rw [hc] at h1; cases h1
  ·rcases h.mb hp b hb hm x hx hi with h1 | h1
   ·exact h1
   ·rw [hc] at h1; cases h1
 ·rw [e]
  have hr := h.ris
  have hgh := h.gh
  rw [hc] at hr hgh
  have drop : ∀ x, InB s.blobs x → (x ∈ mkd s.blobs ∨ x ∈ c.grey) → x ∈ mkd s.blobs ∨ x ∈ rest := fun x hx hh => hh.imp id fun h2 => by
   rw [hc] at h2
   rcases List.mem_cons.1 h2 with rfl | h2
   ·exact absurd hx hn
   ·exact h2
  exact ⟨by show 1 ≤ 2; omega, fun x hx => hgh x (List.mem_cons_of_mem _ hx), (List.pairwise_cons.1 hr).2, .inl rfl, fun h => absurd rfl h, fun _ => rfl, fun _ x hx hi => drop x hi (h.mr hp x hx hi), fun _ b hb hm x hx hi => drop x hi (h.mb hp b hb hm x hx hi), fun h => by cases h⟩
 ·rw [e]
  have hr := h.ris
  have hgh := h.gh
  rw [hc] at hr hgh
  have drop : ∀ x, InB s.blobs x → (x ∈ mkd s.blobs ∨ x ∈ c.grey) → x ∈ mkd s.blobs ∨ x ∈ rest := fun x hx hh => by
   rcases hh with h2 | h2
   ·exact .inl h2
   ·rw [hc] at h2
    rcases List.mem_cons.1 h2 with rfl | h2
    ·exact .inl (zX.2 ⟨_, List.getElem_mem hi, hm, hd⟩)
    ·exact .inr h2
  exact ⟨by show 1 ≤ 2; omega, fun x hx => hgh x (List.mem_cons_of_mem _ hx), (List.pairwise_cons.1 hr).2, .inl rfl, fun h => absurd rfl h, fun _ => rfl, fun _ x hx hi => drop x hi (h.mr hp x hx hi), fun _ b hb hm x hx hi => drop x hi (h.mb hp b hb hm x hx hi), fun h => by cases h⟩
 ·have e1 : (zk s c).1 = { s with blobs := s.blobs.set i { s.blobs[i] with mark := true } } := by rw [e]
  have e2 : (zk s c).2 = ⟨1, uni (rest ++ kids s.blobs d), []⟩ := by rw [e]
  have hE : EqM s.blobs (s.blobs.set i { s.blobs[i] with mark := true }) := QW hi true
  rw [e1, e2]
  have hgh := h.gh
  rw [hc] at hgh
  have keep : ∀ x, (x ∈ mkd s.blobs ∨ x ∈ c.grey) → x ∈ mkd (s.blobs.set i { s.blobs[i] with mark := true }) ∨ x ∈ uni (rest ++ kids s.blobs d) := fun x hh => by
   rw [jZ hi, qF, List.mem_append]
   rcases hh with h2 | h2
   ·exact .inl (.inl h2)
   ·rw [hc] at h2
    rcases List.mem_cons.1 h2 with rfl | h2
    ·exact .inl (.inr hd.symm)
    ·exact .inr (.inl h2)
  refine ⟨by show 1 ≤ 2; omega, fun x hx => ?_, kr _, .inl rfl, fun h => absurd rfl h, fun _ => rfl, fun _ x hx hb => ?_, fun _ b hb hmb x hx hbx => ?_, fun h => by cases h⟩
  ·rcases List.mem_append.1 (qF.1 hx) with h2 | h2
   ·exact hgh x (List.mem_cons_of_mem _ h2)
   ·exact Yx h2
  ·rw [ui hE] at hx
   exact keep x (h.mr hp x hx ((kY hE).1 hb))
  ·have hk : kids (s.blobs.set i { s.blobs[i] with mark := true }) b.dig = kids s.blobs b.dig := un hE _
   have hbx' := (kY hE).1 hbx
   have hx' : x ∈ kids s.blobs b.dig := by rw [← hk]; exact hx
   rcases List.mem_or_eq_of_mem_set hb with h2 | h2
   ·exact keep x (h.mb hp b h2 hmb x hx' hbx')
   ·subst h2
    right
    rw [qF, List.mem_append]
    have hx2 : x ∈ kids s.blobs s.blobs[i].dig := hx'
    rw [hd] at hx2
    exact .inr hx2
theorem VT {l m : List BlobP} (h : l.Sublist m) : usd l ≤ usd m := by
 induction h with
 | slnil => exact Nat.le_refl _
 | cons a _ ih => unfold usd at *; simp only [List.map_cons, List.sum_cons]; omega
 | cons_cons a _ ih => unfold usd at *; simp only [List.map_cons, List.sum_cons]; omega
theorem y8 {l : List BlobP} (hr : RisesBy (·.dig) l) (i : Nat) : RisesBy (·.dig) (l.eraseIdx i) := List.Pairwise.sublist (List.eraseIdx_sublist _ _) hr
theorem jC {l : List BlobP} (hr : RisesBy (·.dig) l) {i : Nat} (hi : i < l.length) {b : BlobP} (hb : b ∈ l) : b = l[i] ∨ b ∈ l.eraseIdx i := by
 obtain ⟨j, hj, rfl⟩ := List.mem_iff_getElem.1 hb
 by_cases h : j = i
 ·subst h; exact .inl rfl
 ·right
  rw [List.mem_eraseIdx_iff_getElem]
  exact ⟨j, hj, h, rfl⟩
theorem zL (s : StoP) (c : ColP) : (s.blobs.findIdx? (fun b => Op.bytesLess c.at_ b.dig) = none ∧ zQ s c = (s, ⟨0, [], []⟩, [])) ∨
  (∃ i, ∃ hi : i < s.blobs.length, s.blobs.findIdx? (fun b => Op.bytesLess c.at_ b.dig) = some i ∧ s.blobs[i].mark = true ∧ zQ s c = (s, ⟨2, [], s.blobs[i].dig⟩, [])) ∨
  (∃ i, ∃ hi : i < s.blobs.length, s.blobs.findIdx? (fun b => Op.bytesLess c.at_ b.dig) = some i ∧ s.blobs[i].mark = false ∧ zQ s c = ({ s with blobs := s.blobs.eraseIdx i }, ⟨2, [], s.blobs[i].dig⟩, s.blobs[i].dig)) := by
 unfold zQ
 cases hf : s.blobs.findIdx? (fun b => Op.bytesLess c.at_ b.dig) with
 | none => exact .inl ⟨rfl, by simp only [hf]⟩
 | some i =>
  right
  obtain ⟨hi, hd, _⟩ := List.findIdx?_eq_some_iff_getElem.1 hf
  cases hm : s.blobs[i].mark with
  | true => exact .inl ⟨i, hi, rfl, hm, by simp only [hf, List.getElem?_eq_getElem hi, hm, if_true]⟩
  | false => exact .inr ⟨i, hi, rfl, hm, by simp only [hf, List.getElem?_eq_getElem hi, hm, Bool.false_eq_true, if_false]⟩
section
variable {s : StoP} {i : Nat}
theorem Ze (hg : GoodS s) (hi : i < s.blobs.length) (hm : s.blobs[i].mark = false) (hsw : ∀ x, Rch s.blobs (rts s) x → x ∈ mkd s.blobs) : ¬ Rch s.blobs (rts s) s.blobs[i].dig := fun h => by
 obtain ⟨b, hb, hmb, e⟩ := zX.1 (hsw _ h)
 have := hg.b.ris.inj hb (List.getElem_mem hi) e
 subst this
 rw [hm] at hmb; cases hmb
theorem jf (hg : GoodS s) (hi : i < s.blobs.length) (hn : ¬ Rch s.blobs (rts s) s.blobs[i].dig) : s.blobs[i].pins = 0 := by
 rcases Nat.eq_zero_or_pos s.blobs[i].pins with h | h
 ·exact h
 ·exact absurd (.root (U2 (List.getElem_mem hi) h) ⟨_, List.getElem_mem hi, rfl⟩) hn
theorem KL (hi : i < s.blobs.length) (hp : s.blobs[i].pins = 0) : vy (s.blobs.eraseIdx i) = vy s.blobs := by
 unfold vy
 rw [kv s.blobs i hi (by simp [hp])]
theorem YD (hi : i < s.blobs.length) (hp : s.blobs[i].pins = 0) : rts { s with blobs := s.blobs.eraseIdx i } = rts s := by
 show jD s.ents ++ vy (s.blobs.eraseIdx i) = _
 rw [KL hi hp]; rfl
theorem Xv (hg : GoodS s) (hi : i < s.blobs.length) {x : List UInt8} (hx : InB s.blobs x) (hne : x ≠ s.blobs[i].dig) : InB (s.blobs.eraseIdx i) x := by
 obtain ⟨b, hb, rfl⟩ := hx
 rcases jC hg.b.ris hi hb with h | h
 ·subst h; exact absurd rfl hne
 ·exact ⟨b, h, rfl⟩
theorem Zu (hg : GoodS s) (hi : i < s.blobs.length) (hn : ¬ Rch s.blobs (rts s) s.blobs[i].dig) : Rch (s.blobs.eraseIdx i) (rts { s with blobs := s.blobs.eraseIdx i }) = Rch s.blobs (rts s) := by
 rw [YD hi (jf hg hi hn)]
 refine funext fun x => propext ⟨fun h => h.sub hg.b.ris (y8 hg.b.ris i) (xW _ _) (fun _ h => h), fun h => h.keepb hg.b.ris (y8 hg.b.ris i) (xW _ _) (fun _ h => h) (fun y hy => Xv hg hi hy.inB (fun e => hn (e ▸ hy)))⟩
theorem j9 (hg : GoodS s) (hi : i < s.blobs.length) (hn : ¬ Rch s.blobs (rts s) s.blobs[i].dig) : GoodS { s with blobs := s.blobs.eraseIdx i } := by
 refine ⟨⟨Nat.le_trans (List.eraseIdx_sublist _ _).length_le hg.b.len, fun b hb => hg.b.one b (xW _ _ b hb), y8 hg.b.ris i⟩, hg.e, hg.room, Nat.le_trans ?_ hg.used, hg.clock, fun x hx => ⟨(hg.ent x hx).1, fun p hp => ?_⟩⟩
 ·show usd (s.blobs.eraseIdx i) ≤ usd s.blobs
  exact VT (List.eraseIdx_sublist s.blobs i)
 ·obtain ⟨b, hb, e1, e2⟩ := (hg.ent x hx).2 p hp
  rcases jC hg.b.ris hi hb with h | h
  ·subst h
   exact absurd (.root (by rw [e1]; exact XC hx hp) ⟨_, hb, rfl⟩) hn
  ·exact ⟨b, h, e1, e2⟩
theorem Zz (hi : i < s.blobs.length) (hm : s.blobs[i].mark = false) : mkd (s.blobs.eraseIdx i) = mkd s.blobs := by
 unfold mkd
 rw [kv s.blobs i hi hm]
end
theorem Qm {s : StoP} {c : ColP} (hg : GoodS s) (hp : c.phase = 2) (h : GoodC s c) : GoodS (zQ s c).1 ∧ GoodC (zQ s c).1 (zQ s c).2.1 ∧ Rch (zQ s c).1.blobs (rts (zQ s c).1) = Rch s.blobs (rts s) ∧ (zQ s c).1.ents = s.ents ∧ (zQ s c).1.room = s.room ∧ (zQ s c).1.clock = s.clock := by
 rcases zL s c with ⟨_, e⟩ | ⟨i, hi, _, hm, e⟩ | ⟨i, hi, _, hm, e⟩
 ·rw [e]
  exact ⟨hg, ⟨by show 0 ≤ 2; omega, (fun d hd => by cases hd), List.Pairwise.nil, .inl rfl, fun _ => rfl, fun _ => rfl, fun h => (by cases h), fun h => (by cases h), fun h => by cases h⟩, rfl, rfl, rfl, rfl⟩
 ·rw [e]
  exact ⟨hg, ⟨Nat.le_refl _, (fun d hd => by cases hd), List.Pairwise.nil, .inr (by show hexC s.blobs[i].dig = 0; rw [(hg.b.one _ (List.getElem_mem hi)).1]; exact zv _), fun _ => rfl, fun h => absurd rfl h, fun h => (by cases h), fun h => (by cases h), fun _ => h.sw hp⟩, rfl, rfl, rfl, rfl⟩
 ·have hn := Ze hg hi hm (h.sw hp)
  rw [e]
  refine ⟨j9 hg hi hn, ⟨Nat.le_refl _, (fun d hd => by cases hd), List.Pairwise.nil, .inr (by show hexC s.blobs[i].dig = 0; rw [(hg.b.one _ (List.getElem_mem hi)).1]; exact zv _), fun _ => rfl, fun h => absurd rfl h, fun h => (by cases h), fun h => (by cases h), fun _ x hx => ?_⟩, Zu hg hi hn, rfl, rfl, rfl⟩
  show x ∈ mkd (s.blobs.eraseIdx i)
  rw [Zz hi hm]
  exact h.sw hp x (by rw [← Zu hg hi hn]; exact hx)
def unm (bl : List BlobP) : Nat := (bl.filter (fun b => !b.mark)).length
theorem Ut (bl : List BlobP) : unm bl ≤ bl.length := List.length_filter_le _ _
theorem yl {p : BlobP → Bool} : ∀ {l : List BlobP} {i : Nat} {y : BlobP} (hi : i < l.length), p l[i] = true → p y = false → ((l.set i y).filter p).length + 1 = (l.filter p).length
 | x :: l, 0, y, _, h1, h2 => by
  rw [List.set_cons_zero, List.filter_cons_of_neg (by simp [h2]), List.filter_cons_of_pos (by simpa using h1)]; rfl
 | x :: l, i + 1, y, hi, h1, h2 => by
  have ih := yl (l := l) (i := i) (y := y) (by simpa using hi) (by simpa using h1) h2
  rw [List.set_cons_succ]
  by_cases hx : p x = true
  ·rw [List.filter_cons_of_pos hx, List.filter_cons_of_pos hx, List.length_cons, List.length_cons, ih]
  ·rw [List.filter_cons_of_neg hx, List.filter_cons_of_neg hx, ih]
def ZS (k : Nat) (bl : List BlobP) : Prop := ∀ b ∈ bl, (qB b.data).1.length ≤ k
theorem kI (bl : List BlobP) : ZS 8 bl := fun b _ => kO b.data
theorem YT {k : Nat} {bl : List BlobP} (h : ZS k bl) (x : List UInt8) : (kids bl x).length ≤ k := by
 unfold kids
 cases hf : bl.findIdx? (fun b => b.dig == x) with
 | none => exact Nat.zero_le _
 | some i =>
  have hi : i < bl.length := (List.findIdx?_eq_some_iff_getElem.1 hf).1
  simp only [List.getElem?_eq_getElem hi, List.length_map]
  exact h _ (List.getElem_mem hi)
theorem vW {k : Nat} {s : StoP} {c : ColP} (hk : ZS k s.blobs) (h : (zk s c).2.phase = 1) : k * unm (zk s c).1.blobs + (zk s c).2.grey.length + 1 ≤ k * unm s.blobs + c.grey.length := by
 rcases zS s c with ⟨_, e⟩ | ⟨d, rest, hc, _, e⟩ | ⟨d, rest, i, hi, hc, _, _, _, e⟩ | ⟨d, rest, i, hi, hc, _, hd, hm, e⟩
 ·rw [e] at h; cases h
 ·rw [e, hc]; simp only [List.length_cons]; omega
 ·rw [e, hc]; simp only [List.length_cons]; omega
 ·rw [e, hc]
  have h1 := yl (p := fun b => !b.mark) (y := { s.blobs[i] with mark := true }) hi (by simp [hm]) (by simp)
  have h2 := uM (rest ++ kids s.blobs d)
  have h3 := YT hk d
  rw [List.length_append] at h2
  show k * unm (s.blobs.set i _) + (uni (rest ++ kids s.blobs d)).length + 1 ≤ k * unm s.blobs + (d :: rest).length
  have h4 : unm s.blobs = unm (s.blobs.set i { s.blobs[i] with mark := true }) + 1 := by unfold unm; exact h1.symm
  rw [h4, Nat.mul_add, Nat.mul_one, List.length_cons]
  omega
theorem xu (s : StoP) (c : ColP) : (zk s c).2.phase = 1 ∨ (zk s c).2 = ⟨2, [], []⟩ := by
 rcases zS s c with ⟨_, e⟩ | ⟨_, _, _, _, e⟩ | ⟨_, _, _, _, _, _, _, _, e⟩ | ⟨_, _, _, _, _, _, _, _, e⟩
 ·rw [e]; exact .inr rfl
 ·rw [e]; exact .inl rfl
 ·rw [e]; exact .inl rfl
 ·rw [e]; exact .inl rfl
theorem jo (s : StoP) (c : ColP) : (zk s c).1.blobs.length = s.blobs.length := (qf s c).1.len.symm
def ahead (a : List UInt8) (bl : List BlobP) : Nat := (bl.filter (fun b => Op.bytesLess a b.dig)).length
theorem Yp (a : List UInt8) (bl : List BlobP) : ahead a bl ≤ bl.length := List.length_filter_le _ _
theorem ZA {a : List UInt8} {bl : List BlobP} {i : Nat} (hi : i < bl.length) (h : Op.bytesLess a bl[i].dig = true) : ahead bl[i].dig bl + 1 ≤ ahead a bl := by
 refine yC bl (fun x _ hx => zO h hx) ⟨bl[i], List.getElem_mem hi, kh _, h⟩
theorem Kr (a : List UInt8) (bl : List BlobP) (i : Nat) : ahead a (bl.eraseIdx i) ≤ ahead a bl := ((List.eraseIdx_sublist bl i).filter _).length_le
theorem Qe {s : StoP} {c : ColP} (h : (zQ s c).2.1.phase ≠ 0) : ahead (zQ s c).2.1.at_ (zQ s c).1.blobs + 1 ≤ ahead c.at_ s.blobs := by
 rcases zL s c with ⟨_, e⟩ | ⟨i, hi, hf, _, e⟩ | ⟨i, hi, hf, _, e⟩
 ·rw [e] at h; exact absurd rfl h
 ·rw [e]
  exact ZA hi (List.findIdx?_eq_some_iff_getElem.1 hf).2.1
 ·rw [e]
  have h1 := ZA hi (List.findIdx?_eq_some_iff_getElem.1 hf).2.1
  have h2 := Kr s.blobs[i].dig s.blobs i
  show ahead s.blobs[i].dig (s.blobs.eraseIdx i) + 1 ≤ _
  omega
theorem uz (s : StoP) (c : ColP) : (zQ s c).2.1.phase = 2 ∨ (zQ s c).2.1 = ⟨0, [], []⟩ := by
 rcases zL s c with ⟨_, e⟩ | ⟨_, _, _, _, e⟩ | ⟨_, _, _, _, e⟩
 ·rw [e]; exact .inr rfl
 ·rw [e]; exact .inl rfl
 ·rw [e]; exact .inl rfl
def qW (k : Nat) (s : StoP) (c : ColP) : Nat :=
 if c.phase = 1 then k * unm s.blobs + c.grey.length + s.blobs.length + 2 else if c.phase = 2 then ahead c.at_ s.blobs + 1 else 0
theorem kA {k : Nat} {s : StoP} {c : ColP} (hk : ZS k s.blobs) (hp : c.phase = 1 ∨ c.phase = 2) : qW k (zt s c).1 (zt s c).2.1 + 1 ≤ qW k s c := by
 unfold zt
 rcases hp with hp | hp
 ·rw [if_pos hp]
  show qW k (zk s c).1 (zk s c).2 + 1 ≤ _
  have hl := jo s c
  rcases xu s c with h | h
  ·have := vW hk h
   unfold qW
   rw [if_pos h, if_pos hp, hl]; omega
  ·unfold qW
   rw [h, if_neg (by decide), if_pos rfl, if_pos hp]
   have := Yp [] (zk s c).1.blobs
   rw [hl] at this
   show ahead [] _ + 1 + 1 ≤ _
   omega
 ·rw [if_neg (by omega)]
  rcases uz s c with h | h
  ·have := Qe (s := s) (c := c) (by omega)
   unfold qW
   rw [if_neg (by omega), if_pos h, if_neg (by omega), if_pos hp]; omega
  ·unfold qW
   rw [h, if_neg (by decide), if_neg (by decide), if_neg (by omega), if_pos hp]; omega
theorem ko {s : StoP} {c : ColP} (hg : GoodS s) (hc : GoodC s c) (hp : c.phase = 1 ∨ c.phase = 2) : GoodS (zt s c).1 ∧ GoodC (zt s c).1 (zt s c).2.1 ∧ Rch (zt s c).1.blobs (rts (zt s c).1) = Rch s.blobs (rts s) ∧ (zt s c).1.ents = s.ents ∧ (zt s c).1.room = s.room ∧ (zt s c).1.clock = s.clock := by
 unfold zt
 rcases hp with hp | hp
 ·rw [if_pos hp]
  have e := (qf s c).2
  refine ⟨ZW c hg, jP hg hp hc, K8 s c, ?_, ?_, ?_⟩ <;> (show _ = _; rw [e])
 ·rw [if_neg (by omega)]
  exact Qm hg hp hc
def Xp : Nat → StoP → ColP → StoP × List (List UInt8)
 | 0, s, _ => (s, [])
 | n + 1, s, c => if c.phase = 0 then (s, []) else
   ((Xp n (zt s c).1 (zt s c).2.1).1, (if (zt s c).2.2 = [] then [] else [(zt s c).2.2]) ++ (Xp n (zt s c).1 (zt s c).2.1).2)
def xS (s : StoP) (c : ColP) : StoP × List (List UInt8) := Xp (qW 8 s c) s c
theorem QB (s : StoP) (c : ColP) : (zt s c).2.1.phase ≤ 2 := by
 unfold zt
 split
 ·rcases xu s c with h | h
  ·show (zk s c).2.phase ≤ 2; omega
  ·show (zk s c).2.phase ≤ 2; rw [h]; exact Nat.le_refl _
 ·rcases uz s c with h | h
  ·omega
  ·rw [h]; exact Nat.zero_le _
theorem vf {s : StoP} {c : ColP} (h : c.phase = 0) : ∀ n, Xp n s c = (s, [])
 | 0 => rfl
 | n + 1 => by unfold Xp; rw [if_pos h]
theorem jn : ∀ (n m : Nat) (s : StoP) (c : ColP), c.phase ≤ 2 → qW 8 s c ≤ n → qW 8 s c ≤ m → Xp n s c = Xp m s c
 | n, m, s, c, hp, hn, hm => by
  by_cases h0 : c.phase = 0
  ·rw [vf h0, vf h0]
  ·have hl := kA (k := 8) (c := c) (kI s.blobs) (by omega)
   obtain ⟨n, rfl⟩ : ∃ k, n = k + 1 := ⟨n - 1, by omega⟩
   obtain ⟨m, rfl⟩ : ∃ k, m = k + 1 := ⟨m - 1, by omega⟩
   unfold Xp
   rw [if_neg h0, if_neg h0, jn n m _ _ (QB s c) (by omega) (by omega)]
theorem xL {s : StoP} {c : ColP} (h : c.phase = 0) : xS s c = (s, []) := vf h _
theorem vh {s : StoP} {c : ColP} (h : c.phase = 1 ∨ c.phase = 2) : xS s c = ((xS (zt s c).1 (zt s c).2.1).1, (if (zt s c).2.2 = [] then [] else [(zt s c).2.2]) ++ (xS (zt s c).1 (zt s c).2.1).2) := by
 have hl := kA (k := 8) (c := c) (kI s.blobs) h
 obtain ⟨n, hn⟩ : ∃ k, qW 8 s c = k + 1 := ⟨qW 8 s c - 1, by omega⟩
 unfold xS
 rw [hn]
 conv => lhs; unfold Xp
 rw [if_neg (by omega), jn n _ _ _ (QB s c) (by omega) (Nat.le_refl _)]
theorem ZT : ∀ (k : Nat) (s : StoP) (c : ColP), GoodS s → GoodC s c → qW 8 s c ≤ k →
  GoodS (xS s c).1 ∧ Rch (xS s c).1.blobs (rts (xS s c).1) = Rch s.blobs (rts s) ∧ (xS s c).1.ents = s.ents ∧ (xS s c).1.room = s.room ∧ (xS s c).1.clock = s.clock
 | k, s, c, hg, hc, hk => by
  by_cases h0 : c.phase = 0
  ·rw [xL h0]; exact ⟨hg, rfl, rfl, rfl, rfl⟩
  ·have hp : c.phase = 1 ∨ c.phase = 2 := by have := hc.ph; omega
   have hl := kA (k := 8) (kI s.blobs) hp
   obtain ⟨h1, h2, h3, h4, h5, h6⟩ := ko hg hc hp
   have hk1 : 1 ≤ k := by omega
   obtain ⟨k1, k2, k3, k4, k5⟩ := ZT (k - 1) (zt s c).1 (zt s c).2.1 h1 h2 (by omega)
   rw [vh hp]
   exact ⟨k1, k2.trans h3, k3.trans h4, k4.trans h5, k5.trans h6⟩
termination_by k => k
decreasing_by all_goals omega
end Go.Proofs.YtpbacomdoddhdaaGreat
