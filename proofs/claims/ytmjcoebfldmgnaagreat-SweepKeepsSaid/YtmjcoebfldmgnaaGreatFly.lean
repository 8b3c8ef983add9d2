/- Flights: keys, their cells, Find. Conditions: the sizes. What Store makes of raw things, in plain words; stores that may be. No condition. room.Used, Lacks, Fits. Conditions: the sizes. Parts of keep. Conditions: the sizes. -/
import Derived.Test.YtmjcoebfldmgnaaGreatList
import Derived.Test.YtmjcoebfldmgnaaGreatShelf
import Derived.Test.YtmjcoebfldmgnaaGreatPart
import Derived.Test.YtmjcoebfldmgnaaGreatEnc
import Derived.Test.YtmjcoebfldmgnaaGreatZ
/-! Flights: keys, their cells, Find. Conditions: the sizes -/
namespace Go.Proofs.YtmjcoebfldmgnaaGreat
open Go.RowKit
set_option linter.unusedVariables false
set_option linter.unusedSimpArgs false
set_option maxRecDepth 100000

/-- the digest of a key's number -/
def keyS (k : Nat) : List UInt8 := shaS [107, UInt8.ofNat k]
theorem Key_ok (n : Int) (w : World) (h0 : -9223372036854775808 ≤ n) (h1 : n ≤ 9223372036854775807) :
    Calls Tryz.prog 49 #[.int .i64 n] w fun e w' => e = .returned (.string ⟨(keyS (pk n 7)).toArray⟩) ∧ Below w.heap.size w w' := by
  have HP := Lib.hid (fun w' => Picked_ok n 7 7 rfl w' h0 h1 (by omega) (by omega))
  have hk := pk_lt n (m := 7) (by omega)
  generalize pk n 7 = k at *
  obtain ⟨b, hb⟩ : ∃ b, b = UInt8.ofNat k := ⟨_, rfl⟩
  have hw : IntKind.u8.wrap (k : Int) = (b.toNat : Int) := by rw [hb, IntKind.wrap_u8, UInt8.toNat_ofNat']; omega
  have HK := Lib.hid (show keyS k = shaS [107, b] from by rw [keyS, hb])
  have hr : Rd (w.alloc (.cells #[.int .u8 107, .int .u8 (b.toNat : Int)] 5)) 1 (some ⟨w.heap.size, 0, none⟩) 2 (bys [107, b]) := Rd.newN (w := w) (e := 5) (size := 1) (m := 2) (bys [107, b]) rfl
  have hb1 := (Below.refl w.heap.size w).alloc (Nat.le_refl _) (.cells #[.int .u8 107, .int .u8 (b.toNat : Int)] 5)
  have HD := Lib.hid (Digest_ok (some ⟨w.heap.size, 0, none⟩) 2 2 [107, b] _ rfl (by omega) (by omega) hr)
  clear hb hr
  go_enter Tryz.func49, Tryz.ntmps49
  repeat' ((fail_if_success at_builtin); (fail_if_success at_make); (first | go_values | go_skip | go_guarded | go_step | go_upon | go_back))
  refine ((HP.out _)).mono ?_; rintro e_ _ ⟨rfl, rfl⟩; dsimp only
  repeat' ((fail_if_success at_builtin); (fail_if_success at_make); (first | go_values | go_skip | go_guarded | go_step | go_upon | go_back))
  refine ((HD.out)).mono ?_; rintro e_ w2 ⟨rfl, hb2⟩; dsimp only
  repeat' ((fail_if_success at_builtin); (fail_if_success at_make); (first | go_values | go_skip | go_guarded | go_step | go_upon | go_back))
  go_ret
  rw [HK.out]
  exact ⟨rfl, hb1.trans (hb2.mono hb1.size)⟩

/-- a flight -/
structure FlP where
  key : List UInt8
  lead : Int
  wait : List Int
/-- a flight's cells, its waiters at A with room for c -/
def fcell (p : FlP) (A : Option Addr) (c : Nat) : List Value := [.string ⟨p.key.toArray⟩, .int .i64 p.lead, .slice A p.wait.length c]
def ins (l : List Int) : List Value := l.map (.int .i64 ·)
/-- a slice of flights reads so: each one's waiters read, too -/
def Fls (w : World) (A : Option Addr) (fs : List FlP) : Prop :=
  ∃ (As : List (Option Addr × Nat)), As.length = fs.length ∧ Rd w 3 A fs.length ((fs.zip As).flatMap fun x => fcell x.1 x.2.1 x.2.2) ∧
    ∀ (k : Nat) (p : FlP) (a : Option Addr × Nat), fs[k]? = some p → As[k]? = some a → Rd w 1 a.1 p.wait.length (ins p.wait) ∧ p.wait.length ≤ a.2 ∧ a.2 ≤ maxLen
theorem Fls.below {w w' : World} {A : Option Addr} {fs : List FlP} (h : Fls w A fs) (hb : Below w.heap.size w w') : Fls w' A fs := by
  obtain ⟨As, h1, h2, h3⟩ := h
  exact ⟨As, h1, h2.below hb, fun k p a hp ha => ⟨(h3 k p a hp ha).1.below hb, (h3 k p a hp ha).2⟩⟩
theorem fcells_at : ∀ (fs : List FlP) (As : List (Option Addr × Nat)) (k j : Nat) (p : FlP) (a : Option Addr × Nat), fs[k]? = some p → As[k]? = some a → j < 3 →
    ((fs.zip As).flatMap fun x => fcell x.1 x.2.1 x.2.2)[k * 3 + j]? = (fcell p a.1 a.2)[j]?
  | f :: fs, a' :: As, 0, j, p, a, hp, ha, hj => by
    simp only [List.getElem?_cons_zero, Option.some.injEq] at hp ha
    subst hp ha
    rw [List.zip_cons_cons, List.flatMap_cons, Nat.zero_mul, Nat.zero_add, List.getElem?_append_left (by simpa [fcell] using hj)]
  | f :: fs, a' :: As, k + 1, j, p, a, hp, ha, hj => by
    rw [List.zip_cons_cons, List.flatMap_cons, List.getElem?_append_right (by simp [fcell]; omega)]
    rw [show (k + 1) * 3 + j - (fcell f a'.1 a'.2).length = k * 3 + j by simp [fcell]; omega]
    exact fcells_at fs As k j p a (by simpa using hp) (by simpa using ha) hj
/-- one flight of a slice -/
theorem Fls.at_ {w : World} {A : Option Addr} {fs : List FlP} (h : Fls w A fs) (k : Nat) (hk : k < fs.length) :
    ∃ b off B c, A = some ⟨b, off, none⟩ ∧ b < w.heap.size ∧ w.cell? ⟨b, off + k * 3, none⟩ = some (.string ⟨fs[k].key.toArray⟩) ∧ w.cell? ⟨b, off + k * 3 + 1, none⟩ = some (.int .i64 fs[k].lead) ∧
      w.cell? ⟨b, off + k * 3 + 2, none⟩ = some (.slice B fs[k].wait.length c) ∧ Rd w 1 B fs[k].wait.length (ins fs[k].wait) ∧ fs[k].wait.length ≤ c ∧ c ≤ maxLen := by
  obtain ⟨As, h1, h2, h3⟩ := h
  obtain ⟨b, off, rfl, hb, hc⟩ := h2.2 (by omega)
  have hp : fs[k]? = some fs[k] := List.getElem?_eq_getElem hk
  have hka : k < As.length := by omega
  have ha : As[k]? = some As[k] := List.getElem?_eq_getElem hka
  have hat := fun j hj => fcells_at fs As k j fs[k] As[k] hp ha hj
  obtain ⟨h4, h5, h6⟩ := h3 k _ _ hp ha
  have c0 := hc (k * 3 + 0) _ ((hat 0 (by omega)).trans rfl)
  have c1 := hc (k * 3 + 1) _ ((hat 1 (by omega)).trans rfl)
  have c2 := hc (k * 3 + 2) _ ((hat 2 (by omega)).trans rfl)
  refine ⟨b, off, As[k].1, As[k].2, rfl, hb, c0, ?_, ?_, h4, h5, h6⟩
  · rw [← c1]; congr 2
  · rw [← c2]; congr 2
end Go.Proofs.YtmjcoebfldmgnaaGreat
/-! What Store makes of raw things, in plain words; stores that may be. No condition -/
namespace Go.Proofs.YtmjcoebfldmgnaaGreat
open Go.RowKit
set_option linter.unusedVariables false

def prtAt (l : List BlobP) (r : RawP) (i : Nat) : PartP :=
  let b := (l[pk (IntKind.i64.wrap (r.b + 7 * (i : Int))) l.length]?).getD ⟨[], [], 0, false⟩
  ⟨[112, UInt8.ofNat (97 + i)], b.dig, b.data.length⟩
/-- Parts -/
def ptsOf (l : List BlobP) (r : RawP) : List PartP := if l.length = 0 then [] else (List.range (pk r.a 4)).map (prtAt l r)
/-- while Store goes on -/
structure AccP where
  blobs : List BlobP
  ents : List EntP
  used : Nat
  clock : Nat
def stData (bl : List BlobP) (r : RawP) : List UInt8 := if pk r.kind 6 = 3 then enc (ptsOf bl r) else datL r 40
def stBlob (bl : List BlobP) (r : RawP) : BlobP := ⟨shaS (stData bl r), stData bl r, pk r.b 5 - 3, false⟩
def stEnt (bl : List BlobP) (c : Nat) (r : RawP) : EntP := ⟨keyS (pk r.a 7), ptsOf bl r, pk r.b 5 - 3, c⟩
def stStep (s : AccP) (r : RawP) : AccP :=
  if pk r.kind 6 < 4 then
    if s.blobs.any (fun b => b.dig == shaS (stData s.blobs r)) then s else { s with blobs := s.blobs ++ [stBlob s.blobs r], used := s.used + (stData s.blobs r).length }
  else
    if s.ents.any (fun x => x.key == keyS (pk r.a 7)) then { s with clock := s.clock + pk r.b 3 } else { s with clock := s.clock + pk r.b 3, ents := s.ents ++ [stEnt s.blobs (s.clock + pk r.b 3) r] }
def stAcc (l : List RawP) : AccP := (l.take 12).foldl stStep ⟨[], [], 0, 0⟩
/-- Store -/
def sto (l : List RawP) : StoP := ⟨srt (·.dig) (stAcc l).blobs, srt (·.key) (stAcc l).ents, min 4000 ((stAcc l).used + 600), (stAcc l).clock⟩

/-- the bytes of blobs -/
def usd (l : List BlobP) : Nat := (l.map (·.data.length)).sum
theorem usd_app (l m : List BlobP) : usd (l ++ m) = usd l + usd m := by simp [usd]
theorem usd_perm {l m : List BlobP} (h : l.Perm m) : usd l = usd m := (h.map _).sum_nat
/-- are all parts there? -/
def Have (l : List BlobP) (ps : List PartP) : Prop := ∀ p ∈ ps, ∃ b ∈ l, b.dig = p.dig ∧ b.data.length = p.size
def GoodB1 (b : BlobP) : Prop := b.dig = shaS b.data ∧ b.data.length ≤ 300 ∧ b.pins ≤ 5
structure GoodB (l : List BlobP) : Prop where
  len : l.length ≤ 24
  one : ∀ b ∈ l, GoodB1 b
  ris : RisesBy (·.dig) l
def GoodE1 (x : EntP) : Prop := hexC x.key = 0 ∧ chk x.parts = 0 ∧ x.pins ≤ 5 ∧ x.stamp ≤ 1099511627776
structure GoodE (l : List EntP) : Prop where
  len : l.length ≤ 10
  one : ∀ x ∈ l, GoodE1 x
  ris : RisesBy (·.key) l
structure GoodS (s : StoP) : Prop where
  b : GoodB s.blobs
  e : GoodE s.ents
  room : s.room ≤ 4000
  used : usd s.blobs ≤ s.room
  clock : s.clock ≤ 1099511627776
  ent : ∀ x ∈ s.ents, x.stamp ≤ s.clock ∧ Have s.blobs x.parts

theorem Have.mono {l m : List BlobP} {ps : List PartP} (h : Have l ps) (hm : ∀ b ∈ l, b ∈ m) : Have m ps := fun p hp => by
  obtain ⟨b, hb, h2⟩ := h p hp
  exact ⟨b, hm b hb, h2⟩
theorem pts_len (l : List BlobP) (r : RawP) : (ptsOf l r).length ≤ 3 := by
  have := pk_lt r.a (m := 4) (by omega)
  rw [ptsOf]; split
  · simp
  · simp; omega
theorem prt_mem {l : List BlobP} {r : RawP} {i : Nat} (h : l.length ≠ 0) : ∃ b ∈ l, (prtAt l r i).dig = b.dig ∧ (prtAt l r i).size = b.data.length := by
  have h1 := pk_lt (IntKind.i64.wrap (r.b + 7 * (i : Int))) (m := l.length) (by omega)
  refine ⟨l[pk (IntKind.i64.wrap (r.b + 7 * (i : Int))) l.length], List.getElem_mem h1, ?_⟩
  simp only [prtAt, List.getElem?_eq_getElem h1, Option.getD_some, and_self]
theorem pts_have (l : List BlobP) (r : RawP) : Have l (ptsOf l r) := fun p hp => by
  rw [ptsOf] at hp
  split at hp
  · cases hp
  · rename_i h0
    obtain ⟨i, _, rfl⟩ := List.mem_map.1 hp
    obtain ⟨b, hb, h1, h2⟩ := prt_mem (r := r) (i := i) h0
    exact ⟨b, hb, h1.symm, h2.symm⟩
theorem pname : ∀ i, i < 3 → nameC [112, UInt8.ofNat (97 + i)] = 0 := by decide
theorem ple : ∀ i j, i < 3 → j < i → leS [112, UInt8.ofNat (97 + i)] [112, UInt8.ofNat (97 + j)] = false := by
  have key : ∀ i j : Fin 3, j.val < i.val → leS [112, UInt8.ofNat (97 + i.val)] [112, UInt8.ofNat (97 + j.val)] = false := by decide +kernel
  exact fun i j h h' => key ⟨i, h⟩ ⟨j, by omega⟩ h'
theorem chk_pmap (f : Nat → PartP) (hn : ∀ i, (f i).name = [112, UInt8.ofNat (97 + i)]) (hf : ∀ i, hexC (f i).dig = 0 ∧ (f i).size ≤ 300) : ∀ (n i : Nat) (q : Option (List UInt8)), i + n ≤ 3 → (q = none ∨ ∃ j, j < i ∧ q = some [112, UInt8.ofNat (97 + j)]) → chkGo q ((List.range' i n).map f) = 0
  | 0, _, q, _, _ => by cases q <;> rfl
  | n + 1, i, q, hi, hq => by
    rw [List.range'_succ, List.map_cons, chkGo_step (by rw [hn]; exact pname i (by omega)) (fun m hm => ?_) (hf i).1 (hf i).2]
    · exact chk_pmap f hn hf n (i + 1) _ (by omega) (.inr ⟨i, by omega, by rw [hn]⟩)
    · rcases hq with h | ⟨j, hj, h⟩
      · rw [h] at hm; cases hm
      · rw [h] at hm; cases hm; rw [hn]; exact ple i j (by omega) hj
theorem chk_pts {l : List BlobP} (h : ∀ b ∈ l, hexC b.dig = 0 ∧ b.data.length ≤ 300) (r : RawP) : chk (ptsOf l r) = 0 := by
  have h3 := pts_len l r
  have h4 := pk_lt r.a (m := 4) (by omega)
  rw [chk, if_neg (by omega), ptsOf]
  split
  · rfl
  · rename_i h0
    rw [List.range_eq_range']
    refine chk_pmap _ (fun i => rfl) (fun i => ?_) _ 0 none (by omega) (.inl rfl)
    obtain ⟨b, hb, e1, e2⟩ := prt_mem (l := l) (r := r) (i := i) h0
    rw [e1, e2]; exact h b hb

/-- what holds while Store goes on -/
structure AccOk (k : Nat) (s : AccP) : Prop where
  blen : s.blobs.length ≤ k
  bnd : (s.blobs.map (·.dig)).Nodup
  bone : ∀ b ∈ s.blobs, b.dig = shaS b.data ∧ b.data.length ≤ 148 ∧ b.pins ≤ 1 ∧ b.mark = false
  used : s.used = usd s.blobs
  usedk : s.used ≤ 148 * k
  elen : s.ents.length ≤ k
  end_ : (s.ents.map (·.key)).Nodup
  eone : ∀ x ∈ s.ents, (∃ j, j < 7 ∧ x.key = keyS j) ∧ chk x.parts = 0 ∧ x.parts.length ≤ 3 ∧ x.pins ≤ 1 ∧ x.stamp ≤ s.clock ∧ Have s.blobs x.parts
  clock : s.clock ≤ 2 * k
theorem AccOk.hex {k : Nat} {s : AccP} (h : AccOk k s) : ∀ b ∈ s.blobs, hexC b.dig = 0 ∧ b.data.length ≤ 300 := fun b hb => by
  obtain ⟨h1, h2, _⟩ := h.bone b hb
  exact ⟨by rw [h1]; exact hexC_sha _, by omega⟩
theorem stData_len {k : Nat} {s : AccP} (h : AccOk k s) (r : RawP) : (stData s.blobs r).length ≤ 148 := by
  rw [stData]
  split
  · have h3 := pts_len s.blobs r
    have hz := chk_zero (chk_pts h.hex r)
    rw [enc_length _ hz.1]
    have := flat_len _ hz.2
    omega
  · have := datL_len r 40; omega
theorem not_any {α : Type} {l : List α} {f : α → List UInt8} {x : List UInt8} (h : ¬ (l.any fun b => f b == x) = true) : ∀ b ∈ l, f b ≠ x := fun b hb e => h (List.any_eq_true.2 ⟨b, hb, by simp [e]⟩)
theorem nodup_snoc {α : Type} {l : List α} {f : α → List UInt8} {x : α} (h : (l.map f).Nodup) (hx : ∀ b ∈ l, f b ≠ f x) : ((l ++ [x]).map f).Nodup := by
  rw [List.map_append, List.nodup_append]
  refine ⟨h, by simp, fun a ha b hb => ?_⟩
  obtain ⟨y, hy, rfl⟩ := List.mem_map.1 ha
  simp only [List.map_cons, List.map_nil, List.mem_singleton] at hb
  subst hb
  exact hx y hy
theorem AccOk.step {k : Nat} {s : AccP} (h : AccOk k s) (r : RawP) : AccOk (k + 1) (stStep s r) := by
  have hb5 := pk_lt r.b (m := 5) (by omega)
  have hb3 := pk_lt r.b (m := 3) (by omega)
  have hl := stData_len h r
  rw [stStep]
  split
  · split
    · exact ⟨by have := h.blen; omega, h.bnd, h.bone, h.used, by have := h.usedk; omega, by have := h.elen; omega, h.end_, h.eone, by have := h.clock; omega⟩
    · rename_i hn
      refine ⟨by rw [List.length_append]; have := h.blen; simp; omega, nodup_snoc h.bnd (not_any hn), fun b hb => ?_, ?_, ?_, by have := h.elen; show s.ents.length ≤ k + 1; omega, h.end_, fun x hx => ?_, by have := h.clock; show s.clock ≤ _; omega⟩
      · rcases List.mem_append.1 hb with h1 | h1
        · exact h.bone b h1
        · have := List.mem_singleton.1 h1; subst this
          exact ⟨rfl, hl, by show pk r.b 5 - 3 ≤ 1; omega, rfl⟩
      · rw [usd_app]; show s.used + _ = _; rw [h.used]; rfl
      · show s.used + _ ≤ _; have := h.usedk; omega
      · obtain ⟨h1, h2, h3, h4, h5, h6⟩ := h.eone x hx
        exact ⟨h1, h2, h3, h4, h5, h6.mono fun b hb => List.mem_append_left _ hb⟩
  · split
    · refine ⟨by have := h.blen; show s.blobs.length ≤ _; omega, h.bnd, h.bone, h.used, by have := h.usedk; show s.used ≤ _; omega, by have := h.elen; show s.ents.length ≤ _; omega, h.end_, fun x hx => ?_, by have := h.clock; show s.clock + pk r.b 3 ≤ _; omega⟩
      obtain ⟨h1, h2, h3, h4, h5, h6⟩ := h.eone x hx
      exact ⟨h1, h2, h3, h4, by show x.stamp ≤ s.clock + pk r.b 3; omega, h6⟩
    · rename_i hn
      refine ⟨by have := h.blen; show s.blobs.length ≤ _; omega, h.bnd, h.bone, h.used, by have := h.usedk; show s.used ≤ _; omega, by rw [List.length_append]; have := h.elen; simp; omega, nodup_snoc h.end_ (not_any hn), fun x hx => ?_, by have := h.clock; show s.clock + pk r.b 3 ≤ _; omega⟩
      rcases List.mem_append.1 hx with h1 | h1
      · obtain ⟨h1, h2, h3, h4, h5, h6⟩ := h.eone x h1
        exact ⟨h1, h2, h3, h4, by show x.stamp ≤ s.clock + pk r.b 3; omega, h6⟩
      · have := List.mem_singleton.1 h1; subst this
        exact ⟨⟨_, pk_lt _ (by omega), rfl⟩, chk_pts h.hex r, pts_len _ _, by show pk r.b 5 - 3 ≤ 1; omega, Nat.le_refl _, pts_have _ _⟩
theorem acc_fold : ∀ (l : List RawP) (k : Nat) (s : AccP), AccOk k s → AccOk (k + l.length) (l.foldl stStep s)
  | [], k, s, h => h
  | r :: l, k, s, h => by
    have := acc_fold l (k + 1) (stStep s r) (h.step r)
    rw [List.length_cons, List.foldl_cons, show k + (l.length + 1) = k + 1 + l.length by omega]
    exact this
theorem AccOk.nil_ : AccOk 0 ⟨[], [], 0, 0⟩ := ⟨by simp, by simp, by simp, rfl, by simp, by simp, by simp, by simp, by simp⟩
theorem AccOk.mono {k m : Nat} {s : AccP} (h : AccOk k s) (hk : k ≤ m) : AccOk m s := ⟨by have := h.blen; omega, h.bnd, h.bone, h.used, by have := h.usedk; omega, by have := h.elen; omega, h.end_, h.eone, by have := h.clock; omega⟩
theorem acc_take (l : List RawP) (k : Nat) : AccOk k ((l.take k).foldl stStep ⟨[], [], 0, 0⟩) := by
  have := acc_fold (l.take k) 0 _ AccOk.nil_
  exact this.mono (by rw [List.length_take]; omega)
theorem acc_ok (l : List RawP) : AccOk 12 (stAcc l) := acc_take l 12
theorem nodup_len {α : Type} [DecidableEq α] : ∀ (l m : List α), l.Nodup → (∀ x ∈ l, x ∈ m) → l.length ≤ m.length
  | [], m, _, _ => by simp
  | x :: l, m, h, hm => by
    have h1 := List.nodup_cons.1 h
    have hx := hm x (by simp)
    have := nodup_len l (m.erase x) h1.2 fun y hy => (List.mem_erase_of_ne (by rintro rfl; exact h1.1 hy)).2 (hm y (by simp [hy]))
    rw [List.length_erase_of_mem hx] at this
    have h0 : 0 < m.length := List.length_pos_of_mem hx
    rw [List.length_cons]; omega
/-- at most seven keys -/
theorem keys_seven {ks : List (List UInt8)} (h : ks.Nodup) (hk : ∀ k ∈ ks, ∃ j, j < 7 ∧ k = keyS j) : ks.length ≤ 7 := by
  have := nodup_len ks ((List.range 7).map keyS) h fun k hk' => by
    obtain ⟨j, hj, rfl⟩ := hk k hk'
    exact List.mem_map.2 ⟨j, List.mem_range.2 hj, rfl⟩
  simpa using this
theorem have_perm {l m : List BlobP} {ps : List PartP} (h : Have l ps) (hp : l.Perm m) : Have m ps := h.mono fun b hb => hp.mem_iff.1 hb
theorem sto_room (l : List RawP) : (sto l).room = usd (sto l).blobs + 600 := by
  have h := acc_ok l
  have h1 : usd (sto l).blobs = (stAcc l).used := by rw [h.used]; exact usd_perm (srt_perm _ _)
  rw [h1]
  show min 4000 _ = _
  have := h.usedk; omega
/-- what Store makes may be -/
theorem sto_good (l : List RawP) : GoodS (sto l) := by
  have h := acc_ok l
  have pb : ((sto l).blobs).Perm (stAcc l).blobs := srt_perm _ _
  have pe : ((sto l).ents).Perm (stAcc l).ents := srt_perm _ _
  have hk := keys_seven h.end_ fun k hk => by
    obtain ⟨x, hx, rfl⟩ := List.mem_map.1 hk
    exact (h.eone x hx).1
  rw [List.length_map] at hk
  refine ⟨⟨by rw [pb.length_eq]; have := h.blen; omega, fun b hb => ?_, srt_rises h.bnd⟩, ⟨by rw [pe.length_eq]; omega, fun x hx => ?_, srt_rises h.end_⟩, ?_, by rw [sto_room]; omega, by have := h.clock; show (stAcc l).clock ≤ _; omega, fun x hx => ?_⟩
  · obtain ⟨h1, h2, h3, _⟩ := h.bone b (pb.mem_iff.1 hb)
    exact ⟨h1, by omega, by omega⟩
  · obtain ⟨⟨j, _, h1⟩, h2, h3, h4, h5, h6⟩ := h.eone x (pe.mem_iff.1 hx)
    exact ⟨by rw [h1]; exact hexC_sha _, h2, by omega, by have := h.clock; omega⟩
  · show min 4000 _ ≤ 4000; omega
  · obtain ⟨h1, h2, h3, h4, h5, h6⟩ := h.eone x (pe.mem_iff.1 hx)
    exact ⟨h5, have_perm h6 pb.symm⟩
end Go.Proofs.YtmjcoebfldmgnaaGreat
/-! room.Used, Lacks, Fits. Conditions: the sizes -/
namespace Go.Proofs.YtmjcoebfldmgnaaGreat
open Go.RowKit
set_option linter.unusedVariables false
set_option maxRecDepth 100000

theorem usd_step (l : List BlobP) (j : Nat) (hj : j < l.length) : usd (l.take (j + 1)) = usd (l.take j) + l[j].data.length := by
  rw [List.take_succ_eq_append_getElem hj, usd_app]; simp [usd]
theorem usd_take (l : List BlobP) (j : Nat) : usd (l.take j) ≤ usd l := by
  have h : usd l = usd (l.take j) + usd (l.drop j) := by rw [← usd_app, List.take_append_drop]
  omega
/-- a new row of blobs -/
theorem Rw.newB {w : World} {e : TypeId} (l : List BlobP) (ps : Cel BlobP) (h1 : ps.map (·.1) = l) (h2 : Reads BlobS w ps) (us : List Value) (hu : cls ps = us) : Rw BlobS (w.alloc (.cells us.toArray e)) (some ⟨w.heap.size, 0, none⟩) l :=
  ⟨ps, h1, h2.below ((Below.refl _ _).alloc (Nat.le_refl _) _), by
    subst hu
    refine Rd.newN _ ?_
    rw [cls_len ps h2.lens, ← h1, List.length_map]⟩
theorem Rw.newE {w : World} {e : TypeId} (l : List EntP) (ps : Cel EntP) (h1 : ps.map (·.1) = l) (h2 : Reads EntS w ps) (us : List Value) (hu : cls ps = us) : Rw EntS (w.alloc (.cells us.toArray e)) (some ⟨w.heap.size, 0, none⟩) l :=
  ⟨ps, h1, h2.below ((Below.refl _ _).alloc (Nat.le_refl _) _), by
    subst hu
    refine Rd.newN _ ?_
    rw [cls_len ps h2.lens, ← h1, List.length_map]⟩
/-- a store's field -/
theorem fld_blobs (A B : Option Addr) (n m c d : Nat) (r k : Int) (w : World) : (Instr.field 26 (.agg #[.slice A n c, .slice B m d, .int .i64 r, .int .i64 k]) 0).run Tryz.prog w = .ok (.slice A n c) w := by kernel_rfl
theorem fld_ents (A B : Option Addr) (n m c d : Nat) (r k : Int) (w : World) : (Instr.field 26 (.agg #[.slice A n c, .slice B m d, .int .i64 r, .int .i64 k]) 1).run Tryz.prog w = .ok (.slice B m d) w := by kernel_rfl
theorem Used_ok (A : Option Addr) (c : Nat) (l : List BlobP) (w : World) (hl : l.length ≤ 1000000) (hu : usd l ≤ 1000000000) (hA : Rw BlobS w A l) :
    Calls Tryz.prog 106 #[.slice A l.length c] w fun e w' => e = .returned (.int .i64 (usd l : Int)) ∧ Below w.heap.size w w' := by
  generalize hR : usd l = R
  have HR := Lib.hid hR
  clear hR
  go_enter Tryz.func106, Tryz.ntmps106
  repeat' ((fail_if_success at_builtin); (fail_if_success at_make); (first | go_values | go_skip | go_guarded | go_step | go_upon | go_back))
  go_loopg [3, 8] l.length (fun gn u i wr => ∃ j : Nat, gn = l.length - j ∧ i = .int .i64 j ∧ j ≤ l.length ∧ u = .int .i64 ((usd (l.take j) : Nat) : Int) ∧ Below w.heap.size w wr)
  case atStart => exact ⟨0, rfl, rfl, by omega, rfl, Below.refl _ _⟩
  case round =>
    obtain ⟨j, hgk, rfl, hj, rfl, hbl⟩ := hrel
    have HGK := Lib.hid hgk
    clear hgk
    by_cases hlt : j < l.length
    · have hcc : decide (j < l.length) = true := decide_eq_true hlt
      obtain ⟨b, off, B, cb, rfl, hbb, c0, c1, c2, c3, hs⟩ := (hA.below hbl).blob_at j hlt
      have hj0 : (0 : Int) ≤ (j : Int) := by omega
      have hj1 : (j : Int) < (l.length : Int) := by omega
      have hst := usd_step l j hlt
      have hle := usd_take l (j + 1)
      have hle2 : usd (l.take j) + l[j].data.length ≤ 1000000000 := by omega
      have HST := Lib.hid hst
      clear hst hle hs
      have hb1 := (Below.refl wr.heap.size wr).alloc (Nat.le_refl _) (.cells #[.string ⟨l[j].dig.toArray⟩, .slice B l[j].data.length cb, .int .i64 (l[j].pins : Int), .bool l[j].mark] 51)
      have hb2 := hbl.trans (hb1.mono hbl.size)
      generalize l[j].data.length = d at *
      generalize usd (l.take j) = u at *
      generalize l[j] = x at *
      clear hb1
      repeat' ((fail_if_success at_builtin); (fail_if_success at_make); (first | go_values | go_skip | go_guarded | go_step | go_upon | go_back))
      go_roundg (l.length - (j + 1))
      case measure => have := HGK.out; omega
      case rel => exact ⟨j + 1, rfl, by go_num, by omega, by rw [HST.out]; go_num, hb2⟩
    · obtain rfl : j = l.length := by omega
      have hcc : decide (l.length < l.length) = false := by simp
      rw [List.take_length, HR.out]
      repeat' ((fail_if_success at_builtin); (fail_if_success at_make); (first | go_values | go_skip | go_guarded | go_step | go_upon | go_back))
      go_ret
      exact ⟨rfl, hbl⟩
theorem Lacks_ok (A : Option Addr) (c : Nat) (l : List BlobP) (rm more : Nat) (w : World) (hl : l.length ≤ 1000000) (hu : usd l ≤ 1000000000) (hrm : rm ≤ 4000) (hmo : more ≤ 4000) (hA : Rw BlobS w A l) :
    Calls Tryz.prog 65 #[.slice A l.length c, .int .i64 (rm : Int), .int .i64 (more : Int)] w fun e w' => e = .returned (.tuple #[.int .i64 ((usd l + more - rm : Nat) : Int), .int .i64 0]) ∧ Below w.heap.size w w' := by
  have HU := Lib.hid (Used_ok A c l w hl hu hA)
  have g1 : decide ((rm : Int) < 0) = false := decide_eq_false (by omega)
  have g2 : decide ((rm : Int) > 4000) = false := decide_eq_false (by omega)
  have g3 : decide ((4000 : Int) < (rm : Int)) = false := decide_eq_false (by omega)
  have g4 : decide ((more : Int) < 0) = false := decide_eq_false (by omega)
  have g5 : decide ((more : Int) > 4000) = false := decide_eq_false (by omega)
  have g6 : decide ((4000 : Int) < (more : Int)) = false := decide_eq_false (by omega)
  clear hA
  generalize hR : usd l = R at *
  have hmx : max (0 : Int) ((R : Int) + (more : Int) - (rm : Int)) = ((R + more - rm : Nat) : Int) := by omega
  have HMX := Lib.hid hmx
  clear hR hmx
  go_enter Tryz.func65, Tryz.ntmps65
  repeat' ((fail_if_success at_builtin); (fail_if_success at_make); (first | go_values | go_skip | go_guarded | go_step | go_upon | go_back))
  refine ((HU.out)).mono ?_; rintro e_ w1 ⟨rfl, hb1⟩; dsimp only
  repeat' ((fail_if_success at_builtin); (fail_if_success at_make); (first | go_values | go_skip | go_guarded | go_step | go_upon | go_back))
  go_ret2
  rw [← HMX.out]
  exact ⟨rfl, hb1⟩
theorem Fits_ok (A : Option Addr) (c : Nat) (l : List BlobP) (rm more : Nat) (w : World) (hl : l.length ≤ 1000000) (hu : usd l ≤ 1000000000) (hrm : rm ≤ 4000) (hmo : more ≤ 4000) (hA : Rw BlobS w A l) :
    Calls Tryz.prog 24 #[.slice A l.length c, .int .i64 (rm : Int), .int .i64 (more : Int)] w fun e w' => e = .returned (.int .i64 (if usd l + more ≤ rm then 0 else 7)) ∧ Below w.heap.size w w' := by
  have HU := Lib.hid (Lacks_ok A c l rm more w hl hu hrm hmo hA)
  clear hA
  generalize hR : usd l = R at *
  by_cases h : R + more ≤ rm
  · have HI := Lib.hid (show (if R + more ≤ rm then (0 : Int) else 7) = 0 from if_pos h)
    have hz : R + more - rm = 0 := by omega
    rw [hz] at HU
    clear hR hz h
    go_enter Tryz.func24, Tryz.ntmps24
    repeat' ((fail_if_success at_builtin); (fail_if_success at_make); (first | go_values | go_skip | go_guarded | go_step | go_upon | go_back))
    refine ((HU.out)).mono ?_; rintro e_ w1 ⟨rfl, hb1⟩; dsimp only
    repeat' ((fail_if_success at_builtin); (fail_if_success at_make); (first | go_values | go_skip | go_guarded | go_step | go_upon | go_back))
    go_ret
    rw [HI.out]
    exact ⟨rfl, hb1⟩
  · have HI := Lib.hid (show (if R + more ≤ rm then (0 : Int) else 7) = 7 from if_neg h)
    obtain ⟨z, hz⟩ : ∃ z, z = R + more - rm := ⟨_, rfl⟩
    have hz0 : 0 < z := by omega
    have g1 : decide ((z : Int) > 0) = true := decide_eq_true (by omega)
    have g2 : decide ((0 : Int) < (z : Int)) = true := decide_eq_true (by omega)
    have g3 : decide (0 < z) = true := decide_eq_true hz0
    rw [← hz] at HU
    clear hR hz h
    go_enter Tryz.func24, Tryz.ntmps24
    repeat' ((fail_if_success at_builtin); (fail_if_success at_make); (first | go_values | go_skip | go_guarded | go_step | go_upon | go_back))
    refine ((HU.out)).mono ?_; rintro e_ w1 ⟨rfl, hb1⟩; dsimp only
    repeat' ((fail_if_success at_builtin); (fail_if_success at_make); (first | go_values | go_skip | go_guarded | go_step | go_upon | go_back))
    go_ret
    rw [HI.out]
    exact ⟨rfl, hb1⟩
end Go.Proofs.YtmjcoebfldmgnaaGreat
/-! Parts of keep. Conditions: the sizes -/
namespace Go.Proofs.YtmjcoebfldmgnaaGreat
open Go.RowKit
set_option linter.unusedVariables false
set_option maxRecDepth 20000

theorem pts_zero {l : List BlobP} {r : RawP} (h : l.length = 0) : ptsOf l r = [] := by rw [ptsOf, if_pos h]

set_option maxHeartbeats 4000000 in
theorem Parts_ok (A : Option Addr) (c : Nat) (l : List BlobP) (r : RawP) (w : World) (hl : l.length ≤ 1000000) (hc : l.length ≤ c) (hm : c ≤ maxLen) (hd : ∀ b ∈ l, b.data.length ≤ 1000000) (hA : Rw BlobS w A l) (hr : RawOk r) :
    Calls Tryz.prog 45 #[.slice A l.length c, .agg #[.int .i64 r.kind, .int .i64 r.a, .int .i64 r.b, .string r.text]] w fun e w' => ∃ v, e = .returned v ∧ w'.ownsRow w.heap.size 48 3 v (ptsOf l r).length (pcs (ptsOf l r)) ∧ Below w.heap.size w w' := by
  have HR := Lib.hid hr
  have HD := Lib.hid hd
  have HC := Lib.hid (And.intro hc hm)
  have HPA := Lib.hid (fun w' => Picked_ok r.a 4 4 rfl w' hr.a0 hr.a1 (by omega) (by omega))
  have hp4 := pk_lt r.a (m := 4) (by omega)
  generalize hPT : ptsOf l r = PT
  have HPT := Lib.hid (show PT = if l.length = 0 then [] else (List.range (pk r.a 4)).map (prtAt l r) from hPT.symm)
  obtain ⟨m, hmm⟩ : ∃ m, m = pk r.a 4 := ⟨_, rfl⟩
  rw [← hmm] at hp4 HPA HPT
  obtain ⟨rk, ra, rb, rt⟩ := r
  have hX := Arr.new w 73 [.int .i64 rk, .int .i64 ra, .int .i64 rb, .string rt]
  have hb1 := (Below.refl w.heap.size w).alloc (Nat.le_refl _) (.cells #[.int .i64 rk, .int .i64 ra, .int .i64 rb, .string rt] 73)
  have hX' : Arr (w.alloc (.cells #[.int .i64 rk, .int .i64 ra, .int .i64 rb, .string rt] 73)) w.heap.size 73 [.int .i64 rk, .int .i64 ra, .int .i64 rb, .string rt] := hX
  have x1 := hX'.cell (k := 1) rfl
  clear hX hd hr hc hm hmm hPT
  go_enter Tryz.func45, Tryz.ntmps45
  repeat' ((fail_if_success at_builtin); (fail_if_success at_make); (first | go_values | go_skip | go_guarded | go_step | go_upon | go_back))
  have hs1 : (w.alloc (.cells #[.int .i64 rk, .int .i64 ra, .int .i64 rb, .string rt] 73)).heap.size = w.heap.size + 1 := World.size_alloc _ _
  generalize w.alloc (.cells #[.int .i64 rk, .int .i64 ra, .int .i64 rb, .string rt] 73) = w1 at *
  have HS1 := Lib.hid hs1
  clear x1 hs1
  refine ((HPA.out _)).mono ?_; rintro e_ w2 ⟨rfl, hw2⟩; dsimp only
  subst hw2
  repeat' ((fail_if_success at_builtin); (fail_if_success at_make); (first | go_values | go_skip | go_guarded | go_step | go_upon | go_back))
  rcases Nat.eq_zero_or_pos l.length with h0 | h0
  · have HZ := Lib.hid (show PT = [] by rw [HPT.out, if_pos h0])
    have h0b : decide (((l.length : Nat) : Int) > 0) = false := decide_eq_false (by omega)
    have h0c : decide ((0 : Int) < ((l.length : Nat) : Int)) = false := decide_eq_false (by omega)
    have h0d : decide (0 < l.length) = false := decide_eq_false (by omega)
    go_loopg [5, 11] m (fun gn v i wr => ∃ k : Nat, gn = m - k ∧ i = .int .i64 k ∧ k ≤ m ∧ v = .slice none 0 0 ∧ wr = w1)
    case atStart => exact ⟨0, rfl, rfl, by omega, rfl, rfl⟩
    case round =>
      obtain ⟨k, hgk, rfl, hk, rfl, rfl⟩ := hrel
      have HGK := Lib.hid hgk
      clear hgk
      by_cases hlt : k < m
      · have hcc : decide (k < m) = true := decide_eq_true hlt
        repeat' ((fail_if_success at_builtin); (fail_if_success at_make); (first | go_values | go_skip | go_guarded | go_step | go_upon | go_back))
        go_roundg (m - (k + 1))
        case measure => have := HGK.out; omega
        case rel => exact ⟨k + 1, rfl, by go_num, by omega, rfl, rfl⟩
      · obtain rfl : k = m := by omega
        have hcc : decide (k < k) = false := by simp
        repeat' ((fail_if_success at_builtin); (fail_if_success at_make); (first | go_values | go_skip | go_guarded | go_step | go_upon | go_back))
        go_ret
        rw [HZ.out]
        exact ⟨_, rfl, World.ownsRow_nil _ _ _ _, hb1⟩
  · have HZ := Lib.hid (show PT = (List.range m).map (prtAt l ⟨rk, ra, rb, rt⟩) by rw [HPT.out, if_neg (by omega)])
    have HX := Lib.hid hX'
    have HA := Lib.hid hA
    clear hX' hA HPT
    go_loopg [5, 11] m (fun gn v i wr => ∃ k : Nat, gn = m - k ∧ i = .int .i64 k ∧ k ≤ m ∧ wr.ownsRow w1.heap.size 48 3 v k (pcs ((List.range k).map (prtAt l ⟨rk, ra, rb, rt⟩))) ∧ Below w1.heap.size w1 wr)
    case atStart => exact ⟨0, rfl, rfl, by omega, World.ownsRow_nil _ _ _ _, Below.refl _ _⟩
    case round =>
      obtain ⟨k, hgk, rfl, hk, hown, hbel⟩ := hrel
      have HGK := Lib.hid hgk
      clear hgk
      by_cases hlt : k < m
      · have hcc : decide (k < m) = true := decide_eq_true hlt
        have h0b : decide (((l.length : Nat) : Int) > 0) = true := decide_eq_true (by omega)
        have h0c : decide ((0 : Int) < ((l.length : Nat) : Int)) = true := decide_eq_true (by omega)
        have h0d : decide (0 < l.length) = true := decide_eq_true h0
        have x2 := (HX.out.below hbel).cell (k := 2) rfl
        have hw7 : IntKind.i64.wrap (7 * (k : Int)) = 7 * (k : Int) := IntWalk.i64_in _ (by omega)
        have hwi : ∀ z, -9223372036854775808 ≤ IntKind.i64.wrap z ∧ IntKind.i64.wrap z ≤ 9223372036854775807 := fun z => by rw [IntKind.wrap_i64]; omega
        have hP := Picked_ok (IntKind.i64.wrap (rb + 7 * (k : Int))) l.length l.length rfl wr (hwi _).1 (hwi _).2 h0 (by omega)
        rw [IntWalk.i64_left] at hP
        have HP := Lib.hid hP
        have hpl := pk_lt (IntKind.i64.wrap (rb + 7 * (k : Int))) (m := l.length) h0
        clear hP
        obtain ⟨q, hq⟩ : ∃ q, q = pk (IntKind.i64.wrap (rb + 7 * (k : Int))) l.length := ⟨_, rfl⟩
        rw [← hq] at hpl
        rw [← IntWalk.i64_left, ← hq] at HP
        rw [IntWalk.i64_left] at HP
        have hprt : prtAt l ⟨rk, ra, rb, rt⟩ k = ⟨[112, UInt8.ofNat (97 + k)], l[q].dig, l[q].data.length⟩ := by
          simp only [prtAt, ← hq, List.getElem?_eq_getElem hpl, Option.getD_some]
        have HPR := Lib.hid hprt
        have hrng : (List.range (k + 1)).map (prtAt l ⟨rk, ra, rb, rt⟩) = (List.range k).map (prtAt l ⟨rk, ra, rb, rt⟩) ++ [prtAt l ⟨rk, ra, rb, rt⟩ k] := by rw [List.range_succ, List.map_append]; rfl
        have HRN := Lib.hid hrng
        have hdl := HD.out _ (List.getElem_mem hpl)
        obtain ⟨b, off, B, cb, rfl, hbb, c0, c1, c2, c3, _⟩ := (HA.out.below (hb1.trans (hbel.mono hb1.size))).blob_at q hpl
        generalize l[q] = bl at *
        obtain ⟨dg, dt, pn, mk⟩ := bl
        dsimp only at c0 c1 c2 c3 hdl
        generalize hs : (⟨dg.toArray⟩ : ByteArray) = s at *
        have HS := Lib.hid hs
        have i0 : (0 : Int) ≤ (q : Int) := by omega
        have i1 : (q : Int) < (l.length : Int) := by omega
        have hcv := fun (w' : World) (g : Nat) (h : w'.cell? ⟨g, 0, none⟩ = some (.int .u8 (97 + (k : Int)))) => conv_one (97 + (k : Int)) w' g h (by omega) (by omega)
        have hw1 : IntKind.i64.wrap (97 + (k : Int)) = 97 + (k : Int) := IntWalk.i64_in _ (by omega)
        have hw2 : IntKind.u8.wrap (97 + (k : Int)) = 97 + (k : Int) := by rw [IntKind.wrap_u8]; omega
        clear hprt hrng hq hs
        repeat' ((fail_if_success at_builtin); (fail_if_success at_make); (first | go_values | go_skip | go_guarded | go_step | go_upon | go_back))
        refine ((HP.out)).mono ?_; rintro e_ w3 ⟨rfl, hw3⟩; dsimp only
        subst hw3
        repeat' ((fail_if_success at_builtin); (fail_if_success at_make); (first | go_values | go_skip | go_guarded | go_step | go_upon | go_back))
        have hnm : (({ data := #[112] } : ByteArray) ++ ({ data := #[97 + UInt8.ofNat k] } : ByteArray)) = ⟨#[112, UInt8.ofNat (97 + k)]⟩ := by rw [UInt8.ofNat_add]; rfl
        rw [hnm]
        have hbb1 := (Below.refl wr.heap.size wr).alloc (Nat.le_refl _) (.cells #[.string s, .slice B dt.length cb, .int .i64 (pn : Int), .bool mk] 51)
        have hbb2 := hbb1.alloc hbb1.size (.cells #[.int .u8 (97 + (k : Int))] 5)
        have hown2 := own_below hown hbb2
        have hs4 : ((wr.alloc (.cells #[.string s, .slice B dt.length cb, .int .i64 (pn : Int), .bool mk] 51)).alloc (.cells #[.int .u8 (97 + (k : Int))] 5)).heap.size = wr.heap.size + 1 + 1 := by rw [World.size_alloc, World.size_alloc]
        generalize (wr.alloc (.cells #[.string s, .slice B dt.length cb, .int .i64 (pn : Int), .bool mk] 51)).alloc (.cells #[.int .u8 (97 + (k : Int))] 5) = w4 at *
        have hbel4 := hbel.trans (hbb2.mono hbel.size)
        rw [← hs4]
        refine wpList_apN rfl (.tmp 28) (.tmp 41) rfl elPart (by rfl) hown2 (us := [.string ⟨#[112, UInt8.ofNat (97 + k)]⟩, .string s, .int .i64 (dt.length : Int)]) (m := 1) (by rfl) rfl (by intro u hu; simp only [List.mem_cons, List.not_mem_nil, or_false] at hu; rcases hu with rfl | rfl | rfl <;> rfl) (by omega) hbel4.size ?_
        intro v7 w7 ho7 hg7 _
        have hb7 := below_own hbel4 hown2 (Nat.le_refl _) hg7
        have ho8 : w7.ownsRow w1.heap.size 48 3 v7 (k + 1) (pcs ((List.range (k + 1)).map (prtAt l ⟨rk, ra, rb, rt⟩))) := by
          rw [HRN.out, HPR.out, pcs_app]
          have e1 : pcs [⟨[112, UInt8.ofNat (97 + k)], dg, dt.length⟩] = [.string ⟨#[112, UInt8.ofNat (97 + k)]⟩, .string s, .int .i64 (dt.length : Int)] := by rw [← HS.out]; rfl
          rw [e1]; exact ho7
        clear hown hown2 ho7 hg7 hbb1 hbb2
        repeat' ((fail_if_success at_builtin); (fail_if_success at_make); (first | go_values | go_skip | go_guarded | go_step | go_upon | go_back))
        go_roundg (m - (k + 1))
        case measure => have := HGK.out; omega
        case rel => exact ⟨k + 1, rfl, by go_num, by omega, ho8, hb7⟩
      · obtain rfl : k = m := by omega
        have hcc : decide (k < k) = false := by simp
        repeat' ((fail_if_success at_builtin); (fail_if_success at_make); (first | go_values | go_skip | go_guarded | go_step | go_upon | go_back))
        go_ret
        rw [HZ.out]
        refine ⟨_, rfl, ?_, hb1.trans (hbel.mono hb1.size)⟩
        rw [List.length_map, List.length_range]
        exact own_lower hown hb1.size
end Go.Proofs.YtmjcoebfldmgnaaGreat
