/- What the laws of the store share. Conditions: the sizes. -/
import Derived.Test.YtjldpfijekpddaaGreatKpt
import Derived.Test.YtjldpfijekpddaaGreatSWr
import Derived.Test.YtjldpfijekpddaaGreatRawV
namespace Go.Proofs.YtjldpfijekpddaaGreat
open Go.RowKit
set_option linter.unusedVariables false
set_option linter.unusedSimpArgs false
set_option maxRecDepth 100000

theorem share {P Q : Prop} (h : Hid P → Q) (p : P) : Q := h (Lib.hid p)
/-- bytes that there is room for -/
structure Fits (s : StoP) (D : List UInt8) : Prop where
  g : GoodS s
  d : D.length ≤ 300
  l : s.blobs.length < 24 ∨ (s.blobs.findIdx? (fun b => b.dig == shaS D)).isSome = true
  u : usd (putB s.blobs D) ≤ s.room
theorem Fits.good {s : StoP} {D : List UInt8} (h : Fits s D) : GoodS (putBS s D) := by
  rcases h.l with h1 | h1
  · exact putBS_good h.g h.d h1 h.u
  · obtain ⟨i, hi⟩ := Option.isSome_iff_exists.1 h1
    have : putBS s D = s := by unfold putBS putB; rw [hi]
    rw [this]; exact h.g
theorem PutBlobF_ok (A : Option Addr) (c : Nat) (B : Option Addr) (d : Nat) (s : StoP) (D : List UInt8) (DA : Option Addr) (dc : Nat) (w : World) (hf : Fits s D) (hr : RdSt w A c B d s) (hD : Sl w 1 DA D.length dc (bys D)) :
    Calls Tryz.prog 24 #[.agg #[.slice A s.blobs.length c, .slice B s.ents.length d, .int .i64 (s.room : Int), .int .i64 (s.clock : Int)], .slice DA D.length dc] w fun e w' =>
      ∃ A' c' B' d', e = .returned (.tuple #[.agg #[.slice A' (putBS s D).blobs.length c', .slice B' (putBS s D).ents.length d', .int .i64 (s.room : Int), .int .i64 (s.clock : Int)], .string ⟨(shaS D).toArray⟩, .int .i64 0]) ∧ OwSt w' w.heap.size (.slice A' (putBS s D).blobs.length c') (.slice B' (putBS s D).ents.length d') (putBS s D) (fun b => b < w.heap.size) ∧ Below w.heap.size w w' :=
  (PutBlob_ok A c B d s D DA dc w hf.g hr hf.d hf.l hf.u hD).mono fun e w' ⟨v1, v2, h1, h2, h3⟩ => by
    obtain ⟨A', c', B', d', e1, e2, _⟩ := h2.rows
    subst e1 e2
    exact ⟨A', c', B', d', h1, h2, h3⟩
/-- what Store makes has room for sixty bytes -/
theorem sto_fits (l : List RawP) {D : List UInt8} (hd : D.length ≤ 600) (h3 : D.length ≤ 300) : Fits (sto l) D := by
  have h := acc_ok l
  have pb : ((sto l).blobs).Perm (stAcc l).blobs := srt_perm _ _
  refine ⟨sto_good l, h3, .inl (by rw [pb.length_eq]; have := h.blen; omega), ?_⟩
  have := putB_usd (sto l).blobs D
  rw [sto_room]; omega
theorem putB_twice (l : List BlobP) (D : List UInt8) (hr : RisesBy (·.dig) (putB l D)) : ∃ i, (putB l D).findIdx? (fun b => b.dig == shaS D) = some i := by
  obtain ⟨b, hb, h1⟩ := putB_has l D
  obtain ⟨i, _, h2, _⟩ := ris_idx (f := fun b : BlobP => b.dig) hr hb h1
  exact ⟨i, h2⟩
theorem putB_some {l : List BlobP} {D : List UInt8} {i : Nat} (h : l.findIdx? (fun b => b.dig == shaS D) = some i) : putB l D = l := by unfold putB; rw [h]
theorem putBS_twice {s : StoP} {D : List UInt8} (h : GoodS (putBS s D)) : putBS (putBS s D) D = putBS s D := by
  obtain ⟨i, hi⟩ := putB_twice s.blobs D h.b.ris
  have : putB (putB s.blobs D) D = putB s.blobs D := putB_some hi
  show { s with blobs := putB (putB s.blobs D) D } = _
  rw [this]; rfl
theorem Fits.again {s : StoP} {D : List UInt8} (h : Fits s D) : Fits (putBS s D) D := by
  have hg := h.good
  obtain ⟨i, hi⟩ := putB_twice s.blobs D hg.b.ris
  refine ⟨hg, h.d, .inr (by rw [show (putBS s D).blobs = putB s.blobs D from rfl, hi]; rfl), ?_⟩
  have e : putB (putBS s D).blobs D = putB s.blobs D := congrArg StoP.blobs (putBS_twice hg)
  rw [e]; exact h.u
theorem putE_has (l : List EntP) (x : EntP) : ∃ y ∈ putE l x, y.key = x.key ∧ y.parts = x.parts ∧ y.stamp = x.stamp := by
  unfold putE
  cases hf : l.findIdx? (fun y => y.key == x.key) with
  | none => exact ⟨x, (srt_perm _ _).mem_iff.2 (List.mem_cons_self ..), rfl, rfl, rfl⟩
  | some i =>
    obtain ⟨hi, he, _⟩ := List.findIdx?_eq_some_iff_getElem.1 hf
    exact ⟨{ x with pins := (match l[i]? with | some y => y.pins | none => 0) }, List.mem_iff_getElem.2 ⟨i, by rw [List.length_set]; exact hi, List.getElem_set_self ..⟩, rfl, rfl, rfl⟩
theorem get_stamps {x : StoP} {i : Nat} (hg : GoodS x) (hi : i < x.ents.length) : ∀ z ∈ (getS x i x.ents[i]).ents, (z.stamp = x.clock + 1 ↔ z.key = x.ents[i].key) := fun z hz => by
  obtain ⟨j, hj, rfl⟩ := List.mem_iff_getElem.1 hz
  have hj' : j < x.ents.length := by have h := hj; simp only [getS, List.length_set] at h; exact h
  by_cases e : i = j
  · subst e
    have : (getS x i x.ents[i]).ents[i] = { x.ents[i] with stamp := x.clock + 1 } := List.getElem_set_self ..
    rw [this]; simp
  · have : (getS x i x.ents[i]).ents[j] = x.ents[j] := List.getElem_set_ne e ..
    rw [this]
    have h1 := (hg.ent _ (List.getElem_mem hj')).1
    have h2 := List.pairwise_iff_getElem.1 hg.e.ris
    constructor
    · intro h; omega
    · intro h
      rcases Nat.lt_or_gt_of_ne e with h3 | h3
      · exact absurd h.symm (bl_ne (h2 i j hi hj' h3))
      · exact absurd h (bl_ne (h2 j i hj' hi h3))
theorem sto7 (l : List RawP) : (sto l).ents.length ≤ 7 := by
  have pe : ((sto l).ents).Perm (stAcc l).ents := srt_perm _ _
  have hk := keys_seven (acc_ok l).end_ fun k hk => by
    obtain ⟨x, hx, rfl⟩ := List.mem_map.1 hk
    exact ((acc_ok l).eone x hx).1
  rw [List.length_map] at hk
  rw [pe.length_eq]; exact hk
theorem sto_clk (l : List RawP) : (sto l).clock ≤ 24 := (acc_ok l).clock
theorem sto_pts (l : List RawP) (r : RawP) : chk (ptsOf (sto l).blobs r) = 0 ∧ haveC (sto l).blobs (ptsOf (sto l).blobs r) = 0 := by
  have hg := sto_good l
  exact ⟨chk_pts (fun b hb => ⟨by rw [(hg.b.one b hb).1]; exact hexC_sha _, (hg.b.one b hb).2.1⟩) r, have_zero hg.b.ris (pts_have _ r)⟩
theorem PutSF_ok (A : Option Addr) (c : Nat) (B : Option Addr) (d : Nat) (s x : StoP) (key : List UInt8) (ps : List PartP) (PA : Option Addr) (pc : Nat) (w : World) (hg : GoodS s) (hr : RdSt w A c B d s) (hk : hexC key = 0) (hpz : chk ps = 0) (hhv : haveC s.blobs ps = 0) (hclk : s.clock < 1099511627776) (hlen : s.ents.length < 10) (hP : Sl w 3 PA ps.length pc (pcs ps)) (hx : x = putES s key ps) :
    Calls Tryz.prog 25 #[.agg #[.slice A s.blobs.length c, .slice B s.ents.length d, .int .i64 (s.room : Int), .int .i64 (s.clock : Int)], .string ⟨key.toArray⟩, .slice PA ps.length pc] w fun e w' =>
      ∃ A' c' B' d', e = .returned (.tuple #[.agg #[.slice A' x.blobs.length c', .slice B' x.ents.length d', .int .i64 (x.room : Int), .int .i64 (x.clock : Int)], .int .i64 0]) ∧ OwSt w' w.heap.size (.slice A' x.blobs.length c') (.slice B' x.ents.length d') x (fun b => b < w.heap.size) ∧ Below w.heap.size w w' := by
  subst hx
  refine (PutS_ok A c B d s key ps PA pc w hg hr hk hpz hhv hclk hlen hP).mono fun e w' ⟨v1, v2, h1, h2, h3⟩ => ?_
  obtain ⟨A', c', B', d', e1, e2, _⟩ := h2.rows
  subst e1 e2
  exact ⟨A', c', B', d', h1, h2, h3⟩
theorem GetSF_ok (A : Option Addr) (c : Nat) (B : Option Addr) (d : Nat) (s y : StoP) (key : List UInt8) (ps : List PartP) (i : Nat) (w : World) (hg : GoodS s) (hr : RdSt w A c B d s) (hi : i < s.ents.length) (hk : s.ents[i].key = key) (hps : s.ents[i].parts = ps) (hclk : s.clock < 1099511627776) (hy : y = getS s i s.ents[i]) :
    Calls Tryz.prog 29 #[.agg #[.slice A s.blobs.length c, .slice B s.ents.length d, .int .i64 (s.room : Int), .int .i64 (s.clock : Int)], .string ⟨key.toArray⟩] w fun e w' =>
      ∃ A' c' B' d' A5 c5, e = .returned (.tuple #[.agg #[.slice A' y.blobs.length c', .slice B' y.ents.length d', .int .i64 (y.room : Int), .int .i64 (y.clock : Int)], .slice A5 ps.length c5, .int .i64 0]) ∧ OwSt w' w.heap.size (.slice A' y.blobs.length c') (.slice B' y.ents.length d') y (fun b => b < w.heap.size) ∧ w'.ownsRow w.heap.size 57 3 (.slice A5 ps.length c5) ps.length (pcs ps) ∧ Below w.heap.size w w' := by
  subst hy
  subst hps
  refine (GetS_ok A c B d s key i w hg hr hi hk hclk).mono fun e w' ⟨v1, v2, v3, h1, h2, h4, h3⟩ => ?_
  obtain ⟨A', c', B', d', e1, e2, _⟩ := h2.rows
  obtain ⟨A5, c5, e5, _, _⟩ := OwnSl h4
  subst e1 e2 e5
  exact ⟨A', c', B', d', A5, c5, h1, h2, h4, h3⟩
end Go.Proofs.YtjldpfijekpddaaGreat
