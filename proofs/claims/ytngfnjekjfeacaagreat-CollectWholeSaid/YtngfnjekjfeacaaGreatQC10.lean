/- Lemmas of a proof, made shorter by a program. Conditions: none, or as each states. -/
import Derived.Test.YtngfnjekjfeacaaGreatQC08
import Derived.Test.YtngfnjekjfeacaaGreatQC09
import Derived.ArgAppend
import Derived.Lib.SlBytesConst
namespace Go.Proofs.YtngfnjekjfeacaaGreat
open Go.RowKit
set_option linter.unusedVariables false
set_option linter.unusedSimpArgs false
set_option maxRecDepth 20000
def qW (p : PartP) : List UInt8 := txt p.name ++ (qY p.dig).1 ++ num p.size
def enc (l : List PartP) : List UInt8 := [65, 77, 49] ++ num l.length ++ l.flatMap qW
def Vt (W : World) (base : Nat) (v : Value) (X : List UInt8) : Prop :=
 W.ownsRow base 5 1 v X.length (bys X) ∨ (∃ g, v = .slice (some ⟨g, 0, none⟩) X.length X.length ∧ Rd W 1 (some ⟨g, 0, none⟩) X.length (bys X))
theorem Vt.below {W W' : World} {base : Nat} {v : Value} {X : List UInt8} (h : Vt W base v X) (hb : Below W.heap.size W W') : Vt W' base v X :=
 h.imp (fun h => z6 h hb) (fun ⟨g, e, h⟩ => ⟨g, e, h.below hb⟩)
theorem Vt.lt {W : World} {base : Nat} {v : Value} {X : List UInt8} (h : Vt W base v X) (h0 : 0 < X.length) : ∀ k, v.ownBlock = some k → k < W.heap.size := fun k hk => by
 rcases h with h | ⟨g, rfl, hr⟩
 ·exact (h.lt k hk).2
 ·obtain ⟨b, off, e, hb, _⟩ := hr.2 h0
  injection hk with hk; injection e with e; injection e with e1
  simp only at hk
  omega
theorem Yf : ∀ (l r : List UInt8), kB l = some r → l.length = 2 * r.length := fun l r h => by
 have := xA l r h
 rw [← this, qJ]
theorem kP {d : List UInt8} (h : hexC d = 0) : (qY d).2 = 0 ∧ (qY d).1.length = 32 := by
 unfold hexC at h
 by_cases h64 : d.length = 64
 ·rw [if_neg (by omega)] at h
  refine ⟨h, ?_⟩
  unfold qY at h ⊢
  rw [if_neg (by omega), if_neg (by omega)] at h ⊢
  cases hu : kB d with
  | none => rw [hu] at h; cases h
  | some r => have := Yf d r hu; simp only []; omega
 ·rw [if_pos h64] at h; cases h
theorem kf {s : List UInt8} (h : zL s = 0) : 1 ≤ s.length ∧ s.length ≤ 12 := by
 unfold zL at h
 by_cases hb : s.length < 1 ∨ 12 < s.length
 ·rw [if_pos hb] at h; cases h
 ·omega
theorem xI : ∀ (l : List PartP) (q : Option (List UInt8)), qT q l = 0 → ∀ p ∈ l, zL p.name = 0 ∧ hexC p.dig = 0 ∧ p.size ≤ 300
 | [], _, _, p, hp => by cases hp
 | x :: l, q, h, p, hp => by
  rw [qg] at h
  by_cases h1 : zL x.name = 0
  ·rw [if_neg (fun e => e h1)] at h
   have key : ∀ bb : Bool, (if bb = true then 6 else if hexC x.dig ≠ 0 then hexC x.dig else if 300 < x.size then 4 else qT (some x.name) l) = 0 → zL p.name = 0 ∧ hexC p.dig = 0 ∧ p.size ≤ 300 := fun bb h => by
    cases bb with
    | true => rw [if_pos rfl] at h; exact absurd h (by decide)
    | false =>
     rw [if_neg (by decide)] at h
     by_cases h2 : hexC x.dig = 0
     ·rw [if_neg (fun e => e h2)] at h
      by_cases h3 : 300 < x.size
      ·rw [if_pos h3] at h; exact absurd h (by decide)
      ·rw [if_neg h3] at h
       rcases List.mem_cons.1 hp with rfl | hp
       ·exact ⟨h1, h2, by omega⟩
       ·exact xI l _ h p hp
     ·rw [if_pos h2] at h; exact absurd h h2
   exact key _ h
  ·rw [if_pos h1] at h; exact absurd h h1
theorem zi {l : List PartP} (h : chk l = 0) : l.length ≤ 8 ∧ ∀ p ∈ l, zL p.name = 0 ∧ hexC p.dig = 0 ∧ p.size ≤ 300 := by
 unfold chk at h
 by_cases hb : 8 < l.length
 ·rw [if_pos hb] at h; cases h
 ·rw [if_neg hb] at h; exact ⟨by omega, xI l none h⟩
theorem Z4 {p : PartP} (h : zL p.name = 0 ∧ hexC p.dig = 0 ∧ p.size ≤ 300) : 1 ≤ (txt p.name).length ∧ (txt p.name).length ≤ 14 ∧ 1 ≤ (num p.size).length ∧ (num p.size).length ≤ 2 ∧ (qW p).length ≤ 48 := by
 have h1 := kf h.1
 have h2 := XW p.name (by omega)
 have h3 := kP h.2.1
 have h4 := QN p.size 1 (by omega)
 simp only [qW, List.length_append]
 omega
theorem vv (l : List PartP) (h : ∀ p ∈ l, zL p.name = 0 ∧ hexC p.dig = 0 ∧ p.size ≤ 300) : (l.flatMap qW).length ≤ 48 * l.length := by
 induction l with
 | nil => simp
 | cons x l ih =>
  have h1 := (Z4 (h x (by simp))).2.2.2.2
  have h2 := ih (fun p hp => h p (by simp [hp]))
  simp only [List.flatMap_cons, List.length_append, List.length_cons]; omega
end Go.Proofs.YtngfnjekjfeacaaGreat
namespace Go.Proofs.YtngfnjekjfeacaaGreat
open Go.RowKit
set_option linter.unusedVariables false
theorem yo {q : Option (List UInt8)} {p : PartP} {r : List PartP} (h1 : zL p.name = 0) (h2 : ∀ n, q = some n → leS p.name n = false) (h3 : hexC p.dig = 0) (h4 : p.size ≤ 300) : qT q (p :: r) = qT (some p.name) r := by
 rw [qg, if_neg (fun e => e h1)]
 cases q with
 | none => simp only []; rw [if_neg (by decide), if_neg (fun e => e h3), if_neg (by omega)]
 | some n => simp only [h2 n rfl]; rw [if_neg (by decide), if_neg (fun e => e h3), if_neg (by omega)]
theorem Qr (l : List PartP) (h : l.length ≤ 8) : enc l = [65, 77, 49, UInt8.ofNat l.length] ++ l.flatMap qW := by
 rw [enc, zK (by omega)]; simp
theorem yj (l : List PartP) (h : l.length ≤ 8) : (enc l).length = 4 + (l.flatMap qW).length := by rw [Qr l h]; simp; omega
end Go.Proofs.YtngfnjekjfeacaaGreat
namespace Go.Proofs.YtngfnjekjfeacaaGreat
open Go.RowKit
set_option linter.unusedVariables false
set_option linter.unusedSimpArgs false
set_option maxRecDepth 100000
def keyS (k : Nat) : List UInt8 := shaS [107, UInt8.ofNat k]
theorem YS (n : Int) (w : World) (h0 : -9223372036854775808 ≤ n) (h1 : n ≤ 9223372036854775807) :
  Calls Tryz.prog 29 #[.int .i64 n] w fun e w' => e = .returned (.string ⟨(keyS (pk n 7)).toArray⟩) ∧ Below w.heap.size w w' := by
 have HP := Lib.hid (fun w' => zR n 7 7 rfl w' h0 h1 (by omega) (by omega))
 have hk := kC n (m := 7) (by omega)
 generalize pk n 7 = k at *
 obtain ⟨b, hb⟩ : ∃ b, b = UInt8.ofNat k := ⟨_, rfl⟩
 have hw : IntKind.u8.wrap (k : Int) = (b.toNat : Int) := by rw [hb, IntKind.wrap_u8, UInt8.toNat_ofNat']; omega
 have HK := Lib.hid (show keyS k = shaS [107, b] from by rw [keyS, hb])
 have hr : Rd (w.alloc (.cells #[.int .u8 107, .int .u8 (b.toNat : Int)] 5)) 1 (some ⟨w.heap.size, 0, none⟩) 2 (bys [107, b]) := Rd.newN (w := w) (e := 5) (size := 1) (m := 2) (bys [107, b]) rfl
 have hb1 := (Below.refl w.heap.size w).alloc (Nat.le_refl _) (.cells #[.int .u8 107, .int .u8 (b.toNat : Int)] 5)
 have HD := Lib.hid (k6 (some ⟨w.heap.size, 0, none⟩) 2 2 [107, b] _ rfl (by omega) (by omega) hr)
 clear hb hr
 go_enter Tryz.func29, Tryz.ntmps29
 go_wp2_with fail
 refine ((HP.out _)).mono ?_; rintro e_ _ ⟨rfl, rfl⟩; dsimp only
 go_wp2_with fail
 refine ((HD.out)).mono ?_; rintro e_ w2 ⟨rfl, hb2⟩; dsimp only
 go_wp2_with fail
 go_ret
 rw [HK.out]
 exact ⟨rfl, hb1.trans (hb2.mono hb1.size)⟩
structure FlP where
 key : List UInt8
 lead : Int
 wait : List Int
def uW (p : FlP) (A : Option Addr) (c : Nat) : List Value := [.string ⟨p.key.toArray⟩, .int .i64 p.lead, .slice A p.wait.length c]
def ins (l : List Int) : List Value := l.map (.int .i64 ·)
def Fls (w : World) (A : Option Addr) (fs : List FlP) : Prop :=
 ∃ (As : List (Option Addr × Nat)), As.length = fs.length ∧ Rd w 3 A fs.length ((fs.zip As).flatMap fun x => uW x.1 x.2.1 x.2.2) ∧
  ∀ (k : Nat) (p : FlP) (a : Option Addr × Nat), fs[k]? = some p → As[k]? = some a → Rd w 1 a.1 p.wait.length (ins p.wait) ∧ p.wait.length ≤ a.2 ∧ a.2 ≤ maxLen
theorem Fls.below {w w' : World} {A : Option Addr} {fs : List FlP} (h : Fls w A fs) (hb : Below w.heap.size w w') : Fls w' A fs := by
 obtain ⟨As, h1, h2, h3⟩ := h
 exact ⟨As, h1, h2.below hb, fun k p a hp ha => ⟨(h3 k p a hp ha).1.below hb, (h3 k p a hp ha).2⟩⟩
theorem uF : ∀ (fs : List FlP) (As : List (Option Addr × Nat)) (k j : Nat) (p : FlP) (a : Option Addr × Nat), fs[k]? = some p → As[k]? = some a → j < 3 →
  ((fs.zip As).flatMap fun x => uW x.1 x.2.1 x.2.2)[k * 3 + j]? = (uW p a.1 a.2)[j]?
 | f :: fs, a' :: As, 0, j, p, a, hp, ha, hj => by
  simp only [List.getElem?_cons_zero, Option.some.injEq] at hp ha
  subst hp ha
  rw [List.zip_cons_cons, List.flatMap_cons, Nat.zero_mul, Nat.zero_add, List.getElem?_append_left (by simpa [uW] using hj)]
 | f :: fs, a' :: As, k + 1, j, p, a, hp, ha, hj => by
  rw [List.zip_cons_cons, List.flatMap_cons, List.getElem?_append_right (by simp [uW]; omega)]
  rw [show (k + 1) * 3 + j - (uW f a'.1 a'.2).length = k * 3 + j by simp [uW]; omega]
  exact uF fs As k j p a (by simpa using hp) (by simpa using ha) hj
theorem Fls.at_ {w : World} {A : Option Addr} {fs : List FlP} (h : Fls w A fs) (k : Nat) (hk : k < fs.length) :
  ∃ b off B c, A = some ⟨b, off, none⟩ ∧ b < w.heap.size ∧ w.cell? ⟨b, off + k * 3, none⟩ = some (.string ⟨fs[k].key.toArray⟩) ∧ w.cell? ⟨b, off + k * 3 + 1, none⟩ = some (.int .i64 fs[k].lead) ∧
   w.cell? ⟨b, off + k * 3 + 2, none⟩ = some (.slice B fs[k].wait.length c) ∧ Rd w 1 B fs[k].wait.length (ins fs[k].wait) ∧ fs[k].wait.length ≤ c ∧ c ≤ maxLen := by
 obtain ⟨As, h1, h2, h3⟩ := h
 obtain ⟨b, off, rfl, hb, hc⟩ := h2.2 (by omega)
 have hp : fs[k]? = some fs[k] := List.getElem?_eq_getElem hk
 have hka : k < As.length := by omega
 have ha : As[k]? = some As[k] := List.getElem?_eq_getElem hka
 have hat := fun j hj => uF fs As k j fs[k] As[k] hp ha hj
 obtain ⟨h4, h5, h6⟩ := h3 k _ _ hp ha
 have c0 := hc (k * 3 + 0) _ ((hat 0 (by omega)).trans rfl)
 have c1 := hc (k * 3 + 1) _ ((hat 1 (by omega)).trans rfl)
 have c2 := hc (k * 3 + 2) _ ((hat 2 (by omega)).trans rfl)
 refine ⟨b, off, As[k].1, As[k].2, rfl, hb, c0, ?_, ?_, h4, h5, h6⟩
 ·rw [← c1]; congr 2
 ·rw [← c2]; congr 2
end Go.Proofs.YtngfnjekjfeacaaGreat
namespace Go.Proofs.YtngfnjekjfeacaaGreat
open Go.RowKit
set_option linter.unusedVariables false
def yE (l : List BlobP) (r : RawP) (i : Nat) : PartP :=
 let b := (l[pk (IntKind.i64.wrap (r.b + 7 * (i : Int))) l.length]?).getD ⟨[], [], 0, false⟩
 ⟨[112, UInt8.ofNat (97 + i)], b.dig, b.data.length⟩
def zp (l : List BlobP) (r : RawP) : List PartP := if l.length = 0 then [] else (List.range (pk r.a 4)).map (yE l r)
structure AccP where
 blobs : List BlobP
 ents : List EntP
 used : Nat
 clock : Nat
def kA (bl : List BlobP) (r : RawP) : List UInt8 := if pk r.kind 6 = 3 then enc (zp bl r) else YU r 40
def xe (bl : List BlobP) (r : RawP) : BlobP := ⟨shaS (kA bl r), kA bl r, pk r.b 5 - 3, false⟩
def Ks (bl : List BlobP) (c : Nat) (r : RawP) : EntP := ⟨keyS (pk r.a 7), zp bl r, pk r.b 5 - 3, c⟩
def qj (s : AccP) (r : RawP) : AccP :=
 if pk r.kind 6 < 4 then
  if s.blobs.any (fun b => b.dig == shaS (kA s.blobs r)) then s else { s with blobs := s.blobs ++ [xe s.blobs r], used := s.used + (kA s.blobs r).length }
 else
  if s.ents.any (fun x => x.key == keyS (pk r.a 7)) then { s with clock := s.clock + pk r.b 3 } else { s with clock := s.clock + pk r.b 3, ents := s.ents ++ [Ks s.blobs (s.clock + pk r.b 3) r] }
def kD (l : List RawP) : AccP := (l.take 12).foldl qj ⟨[], [], 0, 0⟩
def sto (l : List RawP) : StoP := ⟨srt (·.dig) (kD l).blobs, srt (·.key) (kD l).ents, min 4000 ((kD l).used + 600), (kD l).clock⟩
def usd (l : List BlobP) : Nat := (l.map (·.data.length)).sum
theorem jl (l m : List BlobP) : usd (l ++ m) = usd l + usd m := by simp [usd]
theorem jx {l m : List BlobP} (h : l.Perm m) : usd l = usd m := (h.map _).sum_nat
def Have (l : List BlobP) (ps : List PartP) : Prop := ∀ p ∈ ps, ∃ b ∈ l, b.dig = p.dig ∧ b.data.length = p.size
def GoodB1 (b : BlobP) : Prop := b.dig = shaS b.data ∧ b.data.length ≤ 300 ∧ b.pins ≤ 5
structure GoodB (l : List BlobP) : Prop where
 len : l.length ≤ 24
 one : ∀ b ∈ l, GoodB1 b
 ris : RisesBy (·.dig) l
def GoodE1 (x : EntP) : Prop := hexC x.key = 0 ∧ chk x.parts = 0 ∧ x.pins ≤ 5 ∧ x.stamp ≤ 1099511627776
structure GoodE (l : List EntP) : Prop where
 len : l.length ≤ 10
 one : ∀ x ∈ l, GoodE1 x
 ris : RisesBy (·.key) l
structure GoodS (s : StoP) : Prop where
 b : GoodB s.blobs
 e : GoodE s.ents
 room : s.room ≤ 4000
 used : usd s.blobs ≤ s.room
 clock : s.clock ≤ 1099511627776
 ent : ∀ x ∈ s.ents, x.stamp ≤ s.clock ∧ Have s.blobs x.parts
theorem Have.mono {l m : List BlobP} {ps : List PartP} (h : Have l ps) (hm : ∀ b ∈ l, b ∈ m) : Have m ps := fun p hp => by
 obtain ⟨b, hb, h2⟩ := h p hp
 exact ⟨b, hm b hb, h2⟩
theorem vx (l : List BlobP) (r : RawP) : (zp l r).length ≤ 3 := by
 have := kC r.a (m := 4) (by omega)
 rw [zp]; split
 ·simp
 ·simp; omega
theorem ZK {l : List BlobP} {r : RawP} {i : Nat} (h : l.length ≠ 0) : ∃ b ∈ l, (yE l r i).dig = b.dig ∧ (yE l r i).size = b.data.length := by
 have h1 := kC (IntKind.i64.wrap (r.b + 7 * (i : Int))) (m := l.length) (by omega)
 refine ⟨l[pk (IntKind.i64.wrap (r.b + 7 * (i : Int))) l.length], List.getElem_mem h1, ?_⟩
 simp only [yE, List.getElem?_eq_getElem h1, Option.getD_some, and_self]
theorem Ys (l : List BlobP) (r : RawP) : Have l (zp l r) := fun p hp => by
 rw [zp] at hp
 split at hp
 ·cases hp
 ·rename_i h0
  obtain ⟨i, _, rfl⟩ := List.mem_map.1 hp
  obtain ⟨b, hb, h1, h2⟩ := ZK (r := r) (i := i) h0
  exact ⟨b, hb, h1.symm, h2.symm⟩
theorem VH : ∀ i, i < 3 → zL [112, UInt8.ofNat (97 + i)] = 0 := by decide
theorem ple : ∀ i j, i < 3 → j < i → leS [112, UInt8.ofNat (97 + i)] [112, UInt8.ofNat (97 + j)] = false := by
 have key : ∀ i j : Fin 3, j.val < i.val → leS [112, UInt8.ofNat (97 + i.val)] [112, UInt8.ofNat (97 + j.val)] = false := by decide +kernel
 exact fun i j h h' => key ⟨i, h⟩ ⟨j, by omega⟩ h'
theorem Z6 (f : Nat → PartP) (hn : ∀ i, (f i).name = [112, UInt8.ofNat (97 + i)]) (hf : ∀ i, hexC (f i).dig = 0 ∧ (f i).size ≤ 300) : ∀ (n i : Nat) (q : Option (List UInt8)), i + n ≤ 3 → (q = none ∨ ∃ j, j < i ∧ q = some [112, UInt8.ofNat (97 + j)]) → qT q ((List.range' i n).map f) = 0
 | 0, _, q, _, _ => by cases q <;> rfl
 | n + 1, i, q, hi, hq => by
  rw [List.range'_succ, List.map_cons, yo (by rw [hn]; exact VH i (by omega)) (fun m hm => ?_) (hf i).1 (hf i).2]
  ·exact Z6 f hn hf n (i + 1) _ (by omega) (.inr ⟨i, by omega, by rw [hn]⟩)
  ·rcases hq with h | ⟨j, hj, h⟩
   ·rw [h] at hm; cases hm
   ·rw [h] at hm; cases hm; rw [hn]; exact ple i j (by omega) hj
theorem uV {l : List BlobP} (h : ∀ b ∈ l, hexC b.dig = 0 ∧ b.data.length ≤ 300) (r : RawP) : chk (zp l r) = 0 := by
 have h3 := vx l r
 have h4 := kC r.a (m := 4) (by omega)
 rw [chk, if_neg (by omega), zp]
 split
 ·rfl
 ·rename_i h0
  rw [List.range_eq_range']
  refine Z6 _ (fun i => rfl) (fun i => ?_) _ 0 none (by omega) (.inl rfl)
  obtain ⟨b, hb, e1, e2⟩ := ZK (l := l) (r := r) (i := i) h0
  rw [e1, e2]; exact h b hb
structure AccOk (k : Nat) (s : AccP) : Prop where
 blen : s.blobs.length ≤ k
 bnd : (s.blobs.map (·.dig)).Nodup
 bone : ∀ b ∈ s.blobs, b.dig = shaS b.data ∧ b.data.length ≤ 148 ∧ b.pins ≤ 1 ∧ b.mark = false
 used : s.used = usd s.blobs
 usedk : s.used ≤ 148 * k
 elen : s.ents.length ≤ k
 end_ : (s.ents.map (·.key)).Nodup
 eone : ∀ x ∈ s.ents, (∃ j, j < 7 ∧ x.key = keyS j) ∧ chk x.parts = 0 ∧ x.parts.length ≤ 3 ∧ x.pins ≤ 1 ∧ x.stamp ≤ s.clock ∧ Have s.blobs x.parts
 clock : s.clock ≤ 2 * k
theorem AccOk.hex {k : Nat} {s : AccP} (h : AccOk k s) : ∀ b ∈ s.blobs, hexC b.dig = 0 ∧ b.data.length ≤ 300 := fun b hb => by
 obtain ⟨h1, h2, _⟩ := h.bone b hb
 exact ⟨by rw [h1]; exact zu _, by omega⟩
theorem yG {k : Nat} {s : AccP} (h : AccOk k s) (r : RawP) : (kA s.blobs r).length ≤ 148 := by
 rw [kA]
 split
 ·have h3 := vx s.blobs r
  have hz := zi (uV h.hex r)
  rw [yj _ hz.1]
  have := vv _ hz.2
  omega
 ·have := jC r 40; omega
theorem QQ {α : Type} {l : List α} {f : α → List UInt8} {x : List UInt8} (h : ¬ (l.any fun b => f b == x) = true) : ∀ b ∈ l, f b ≠ x := fun b hb e => h (List.any_eq_true.2 ⟨b, hb, by simp [e]⟩)
theorem xS {α : Type} {l : List α} {f : α → List UInt8} {x : α} (h : (l.map f).Nodup) (hx : ∀ b ∈ l, f b ≠ f x) : ((l ++ [x]).map f).Nodup := by
 rw [List.map_append, List.nodup_append]
 refine ⟨h, by simp, fun a ha b hb => ?_⟩
 obtain ⟨y, hy, rfl⟩ := List.mem_map.1 ha
 simp only [List.map_cons, List.map_nil, List.mem_singleton] at hb
 subst hb
 exact hx y hy
theorem AccOk.step {k : Nat} {s : AccP} (h : AccOk k s) (r : RawP) : AccOk (k + 1) (qj s r) := by
 have hb5 := kC r.b (m := 5) (by omega)
 have hb3 := kC r.b (m := 3) (by omega)
 have hl := yG h r
 rw [qj]
 split
 ·split
  ·exact ⟨by have := h.blen; omega, h.bnd, h.bone, h.used, by have := h.usedk; omega, by have := h.elen; omega, h.end_, h.eone, by have := h.clock; omega⟩
  ·rename_i hn
   refine ⟨by rw [List.length_append]; have := h.blen; simp; omega, xS h.bnd (QQ hn), fun b hb => ?_, ?_, ?_, by have := h.elen; show s.ents.length ≤ k + 1; omega, h.end_, fun x hx => ?_, by have := h.clock; show s.clock ≤ _; omega⟩
   ·rcases List.mem_append.1 hb with h1 | h1
    ·exact h.bone b h1
    ·have := List.mem_singleton.1 h1; subst this
     exact ⟨rfl, hl, by show pk r.b 5 - 3 ≤ 1; omega, rfl⟩
   ·rw [jl]; show s.used + _ = _; rw [h.used]; rfl
   ·show s.used + _ ≤ _; have := h.usedk; omega
   ·obtain ⟨h1, h2, h3, h4, h5, h6⟩ := h.eone x hx
    exact ⟨h1, h2, h3, h4, h5, h6.mono fun b hb => List.mem_append_left _ hb⟩
 ·split
  ·refine ⟨by have := h.blen; show s.blobs.length ≤ _; omega, h.bnd, h.bone, h.used, by have := h.usedk; show s.used ≤ _; omega, by have := h.elen; show s.ents.length ≤ _; omega, h.end_, fun x hx => ?_, by have := h.clock; show s.clock + pk r.b 3 ≤ _; omega⟩
   obtain ⟨h1, h2, h3, h4, h5, h6⟩ := h.eone x hx
   exact ⟨h1, h2, h3, h4, by show x.stamp ≤ s.clock + pk r.b 3; omega, h6⟩
  ·rename_i hn
   refine ⟨by have := h.blen; show s.blobs.length ≤ _; omega, h.bnd, h.bone, h.used, by have := h.usedk; show s.used ≤ _; omega, by rw [List.length_append]; have := h.elen; simp; omega, xS h.end_ (QQ hn), fun x hx => ?_, by have := h.clock; show s.clock + pk r.b 3 ≤ _; omega⟩
   rcases List.mem_append.1 hx with h1 | h1
   ·obtain ⟨h1, h2, h3, h4, h5, h6⟩ := h.eone x h1
    exact ⟨h1, h2, h3, h4, by show x.stamp ≤ s.clock + pk r.b 3; omega, h6⟩
   ·have := List.mem_singleton.1 h1; subst this
    exact ⟨⟨_, kC _ (by omega), rfl⟩, uV h.hex r, vx _ _, by show pk r.b 5 - 3 ≤ 1; omega, Nat.le_refl _, Ys _ _⟩
theorem jH : ∀ (l : List RawP) (k : Nat) (s : AccP), AccOk k s → AccOk (k + l.length) (l.foldl qj s)
 | [], k, s, h => h
 | r :: l, k, s, h => by
  have := jH l (k + 1) (qj s r) (h.step r)
  rw [List.length_cons, List.foldl_cons, show k + (l.length + 1) = k + 1 + l.length by omega]
  exact this
theorem AccOk.nil_ : AccOk 0 ⟨[], [], 0, 0⟩ := ⟨by simp, by simp, by simp, rfl, by simp, by simp, by simp, by simp, by simp⟩
theorem AccOk.mono {k m : Nat} {s : AccP} (h : AccOk k s) (hk : k ≤ m) : AccOk m s := ⟨by have := h.blen; omega, h.bnd, h.bone, h.used, by have := h.usedk; omega, by have := h.elen; omega, h.end_, h.eone, by have := h.clock; omega⟩
theorem yM (l : List RawP) (k : Nat) : AccOk k ((l.take k).foldl qj ⟨[], [], 0, 0⟩) := by
 have := jH (l.take k) 0 _ AccOk.nil_
 exact this.mono (by rw [List.length_take]; omega)
theorem YJ (l : List RawP) : AccOk 12 (kD l) := yM l 12
theorem un {α : Type} [DecidableEq α] : ∀ (l m : List α), l.Nodup → (∀ x ∈ l, x ∈ m) → l.length ≤ m.length
 | [], m, _, _ => by simp
 | x :: l, m, h, hm => by
  have h1 := List.nodup_cons.1 h
  have hx := hm x (by simp)
  have := un l (m.erase x) h1.2 fun y hy => (List.mem_erase_of_ne (by rintro rfl; exact h1.1 hy)).2 (hm y (by simp [hy]))
  rw [List.length_erase_of_mem hx] at this
  have h0 : 0 < m.length := List.length_pos_of_mem hx
  rw [List.length_cons]; omega
theorem ZA {ks : List (List UInt8)} (h : ks.Nodup) (hk : ∀ k ∈ ks, ∃ j, j < 7 ∧ k = keyS j) : ks.length ≤ 7 := by
 have := un ks ((List.range 7).map keyS) h fun k hk' => by
  obtain ⟨j, hj, rfl⟩ := hk k hk'
  exact List.mem_map.2 ⟨j, List.mem_range.2 hj, rfl⟩
 simpa using this
theorem Ql {l m : List BlobP} {ps : List PartP} (h : Have l ps) (hp : l.Perm m) : Have m ps := h.mono fun b hb => hp.mem_iff.1 hb
theorem KN (l : List RawP) : (sto l).room = usd (sto l).blobs + 600 := by
 have h := YJ l
 have h1 : usd (sto l).blobs = (kD l).used := by rw [h.used]; exact jx (zD _ _)
 rw [h1]
 show min 4000 _ = _
 have := h.usedk; omega
theorem vq (l : List RawP) : GoodS (sto l) := by
 have h := YJ l
 have pb : ((sto l).blobs).Perm (kD l).blobs := zD _ _
 have pe : ((sto l).ents).Perm (kD l).ents := zD _ _
 have hk := ZA h.end_ fun k hk => by
  obtain ⟨x, hx, rfl⟩ := List.mem_map.1 hk
  exact (h.eone x hx).1
 rw [List.length_map] at hk
 refine ⟨⟨by rw [pb.length_eq]; have := h.blen; omega, fun b hb => ?_, qX h.bnd⟩, ⟨by rw [pe.length_eq]; omega, fun x hx => ?_, qX h.end_⟩, ?_, by rw [KN]; omega, by have := h.clock; show (kD l).clock ≤ _; omega, fun x hx => ?_⟩
 ·obtain ⟨h1, h2, h3, _⟩ := h.bone b (pb.mem_iff.1 hb)
  exact ⟨h1, by omega, by omega⟩
 ·obtain ⟨⟨j, _, h1⟩, h2, h3, h4, h5, h6⟩ := h.eone x (pe.mem_iff.1 hx)
  exact ⟨by rw [h1]; exact zu _, h2, by omega, by have := h.clock; omega⟩
 ·show min 4000 _ ≤ 4000; omega
 ·obtain ⟨h1, h2, h3, h4, h5, h6⟩ := h.eone x (pe.mem_iff.1 hx)
  exact ⟨h5, Ql h6 pb.symm⟩
end Go.Proofs.YtngfnjekjfeacaaGreat
namespace Go.Proofs.YtngfnjekjfeacaaGreat
open Go.RowKit
set_option linter.unusedVariables false
set_option maxRecDepth 100000
theorem YF (l : List BlobP) (j : Nat) (hj : j < l.length) : usd (l.take (j + 1)) = usd (l.take j) + l[j].data.length := by
 rw [List.take_succ_eq_append_getElem hj, jl]; simp [usd]
theorem Yk (l : List BlobP) (j : Nat) : usd (l.take j) ≤ usd l := by
 have h : usd l = usd (l.take j) + usd (l.drop j) := by rw [← jl, List.take_append_drop]
 omega
theorem XL (A : Option Addr) (c : Nat) (l : List BlobP) (w : World) (hl : l.length ≤ 1000000) (hu : usd l ≤ 1000000000) (hA : Rw BlobS w A l) :
  Calls Tryz.prog 123 #[.slice A l.length c] w fun e w' => e = .returned (.int .i64 (usd l : Int)) ∧ Below w.heap.size w w' := by
 generalize hR : usd l = R
 have HR := Lib.hid hR
 clear hR
 go_enter Tryz.func123, Tryz.ntmps123
 go_wp2_with fail
 go_loopg [3, 8] l.length (fun gn u i wr => ∃ j : Nat, gn = l.length - j ∧ i = .int .i64 j ∧ j ≤ l.length ∧ u = .int .i64 ((usd (l.take j) : Nat) : Int) ∧ Below w.heap.size w wr)
 case atStart => exact ⟨0, rfl, rfl, by omega, rfl, Below.refl _ _⟩
 case round =>
  obtain ⟨j, hgk, rfl, hj, rfl, hbl⟩ := hrel
  have HGK := Lib.hid hgk
  clear hgk
  by_cases hlt : j < l.length
  ·have hcc : decide (j < l.length) = true := decide_eq_true hlt
   obtain ⟨b, off, B, cb, rfl, hbb, c0, c1, c2, c3, hs⟩ := (hA.below hbl).blob_at j hlt
   have hj0 : (0 : Int) ≤ (j : Int) := by omega
   have hj1 : (j : Int) < (l.length : Int) := by omega
   have hst := YF l j hlt
   have hle := Yk l (j + 1)
   have hle2 : usd (l.take j) + l[j].data.length ≤ 1000000000 := by omega
   have HST := Lib.hid hst
   clear hst hle hs
   have hb1 := (Below.refl wr.heap.size wr).alloc (Nat.le_refl _) (.cells #[.string ⟨l[j].dig.toArray⟩, .slice B l[j].data.length cb, .int .i64 (l[j].pins : Int), .bool l[j].mark] 50)
   have hb2 := hbl.trans (hb1.mono hbl.size)
   generalize l[j].data.length = d at *
   generalize usd (l.take j) = u at *
   generalize l[j] = x at *
   clear hb1
   go_wp2_with fail
   go_roundg (l.length - (j + 1))
   case measure => have := HGK.out; omega
   case rel => exact ⟨j + 1, rfl, by go_num, by omega, by rw [HST.out]; go_num, hb2⟩
  ·obtain rfl : j = l.length := by omega
   have hcc : decide (l.length < l.length) = false := by simp
   rw [List.take_length, HR.out]
   go_wp2_with fail
   go_ret
   exact ⟨rfl, hbl⟩
theorem Yz (A : Option Addr) (c : Nat) (l : List BlobP) (rm more : Nat) (w : World) (hl : l.length ≤ 1000000) (hu : usd l ≤ 1000000000) (hrm : rm ≤ 4000) (hmo : more ≤ 4000) (hA : Rw BlobS w A l) :
  Calls Tryz.prog 69 #[.slice A l.length c, .int .i64 (rm : Int), .int .i64 (more : Int)] w fun e w' => e = .returned (.tuple #[.int .i64 ((usd l + more - rm : Nat) : Int), .int .i64 0]) ∧ Below w.heap.size w w' := by
 have HU := Lib.hid (XL A c l w hl hu hA)
 have g1 : decide ((rm : Int) < 0) = false := decide_eq_false (by omega)
 have g2 : decide ((rm : Int) > 4000) = false := decide_eq_false (by omega)
 have g3 : decide ((4000 : Int) < (rm : Int)) = false := decide_eq_false (by omega)
 have g4 : decide ((more : Int) < 0) = false := decide_eq_false (by omega)
 have g5 : decide ((more : Int) > 4000) = false := decide_eq_false (by omega)
 have g6 : decide ((4000 : Int) < (more : Int)) = false := decide_eq_false (by omega)
 clear hA
 generalize hR : usd l = R at *
 have hmx : max (0 : Int) ((R : Int) + (more : Int) - (rm : Int)) = ((R + more - rm : Nat) : Int) := by omega
 have HMX := Lib.hid hmx
 clear hR hmx
 go_enter Tryz.func69, Tryz.ntmps69
 go_wp2_with fail
 refine ((HU.out)).mono ?_; rintro e_ w1 ⟨rfl, hb1⟩; dsimp only
 go_wp2_with fail
 go_ret2
 rw [← HMX.out]
 exact ⟨rfl, hb1⟩
theorem V5 (A : Option Addr) (c : Nat) (l : List BlobP) (rm more : Nat) (w : World) (hl : l.length ≤ 1000000) (hu : usd l ≤ 1000000000) (hrm : rm ≤ 4000) (hmo : more ≤ 4000) (hA : Rw BlobS w A l) :
  Calls Tryz.prog 24 #[.slice A l.length c, .int .i64 (rm : Int), .int .i64 (more : Int)] w fun e w' => e = .returned (.int .i64 (if usd l + more ≤ rm then 0 else 7)) ∧ Below w.heap.size w w' := by
 have HU := Lib.hid (Yz A c l rm more w hl hu hrm hmo hA)
 clear hA
 generalize hR : usd l = R at *
 by_cases h : R + more ≤ rm
 ·have HI := Lib.hid (show (if R + more ≤ rm then (0 : Int) else 7) = 0 from if_pos h)
  have hz : R + more - rm = 0 := by omega
  rw [hz] at HU
  clear hR hz h
  go_enter Tryz.func24, Tryz.ntmps24
  repeat' (fail_if_success (first|at_builtin|at_make));first|go_values|go_skip|go_guarded|go_step|go_upon|go_back
  refine ((HU.out)).mono ?_; rintro e_ w1 ⟨rfl, hb1⟩; dsimp only
  repeat' (fail_if_success (first|at_builtin|at_make));first|go_values|go_skip|go_guarded|go_step|go_upon|go_back
  go_ret
  rw [HI.out]
  exact ⟨rfl, hb1⟩
 ·have HI := Lib.hid (show (if R + more ≤ rm then (0 : Int) else 7) = 7 from if_neg h)
  obtain ⟨z, hz⟩ : ∃ z, z = R + more - rm := ⟨_, rfl⟩
  have hz0 : 0 < z := by omega
  have g1 : decide ((z : Int) > 0) = true := decide_eq_true (by omega)
  have g2 : decide ((0 : Int) < (z : Int)) = true := decide_eq_true (by omega)
  have g3 : decide (0 < z) = true := decide_eq_true hz0
  rw [← hz] at HU
  clear hR hz h
  go_enter Tryz.func24, Tryz.ntmps24
  repeat' (fail_if_success (first|at_builtin|at_make));first|go_values|go_skip|go_guarded|go_step|go_upon|go_back
  refine ((HU.out)).mono ?_; rintro e_ w1 ⟨rfl, hb1⟩; dsimp only
  repeat' (fail_if_success (first|at_builtin|at_make));first|go_values|go_skip|go_guarded|go_step|go_upon|go_back
  go_ret
  rw [HI.out]
  exact ⟨rfl, hb1⟩
end Go.Proofs.YtngfnjekjfeacaaGreat
namespace Go.Proofs.YtngfnjekjfeacaaGreat
open Go.RowKit
set_option linter.unusedVariables false
set_option maxRecDepth 20000
set_option maxHeartbeats 4000000 in
theorem jz (A : Option Addr) (c : Nat) (l : List BlobP) (r : RawP) (w : World) (hl : l.length ≤ 1000000) (hc : l.length ≤ c) (hm : c ≤ maxLen) (hd : ∀ b ∈ l, b.data.length ≤ 1000000) (hA : Rw BlobS w A l) (hr : RawOk r) :
  Calls Tryz.prog 30 #[.slice A l.length c, .agg #[.int .i64 r.kind, .int .i64 r.a, .int .i64 r.b, .string r.text]] w fun e w' => ∃ v, e = .returned v ∧ w'.ownsRow w.heap.size 52 3 v (zp l r).length (pcs (zp l r)) ∧ Below w.heap.size w w' := by
 have HR := Lib.hid hr
 have HD := Lib.hid hd
 have HC := Lib.hid (And.intro hc hm)
 have HPA := Lib.hid (fun w' => zR r.a 4 4 rfl w' hr.a0 hr.a1 (by omega) (by omega))
 have hp4 := kC r.a (m := 4) (by omega)
 generalize hPT : zp l r = PT
 have HPT := Lib.hid (show PT = if l.length = 0 then [] else (List.range (pk r.a 4)).map (yE l r) from hPT.symm)
 obtain ⟨m, hmm⟩ : ∃ m, m = pk r.a 4 := ⟨_, rfl⟩
 rw [← hmm] at hp4 HPA HPT
 obtain ⟨rk, ra, rb, rt⟩ := r
 have hX := Arr.new w 47 [.int .i64 rk, .int .i64 ra, .int .i64 rb, .string rt]
 have hb1 := (Below.refl w.heap.size w).alloc (Nat.le_refl _) (.cells #[.int .i64 rk, .int .i64 ra, .int .i64 rb, .string rt] 47)
 have hX' : Arr (w.alloc (.cells #[.int .i64 rk, .int .i64 ra, .int .i64 rb, .string rt] 47)) w.heap.size 47 [.int .i64 rk, .int .i64 ra, .int .i64 rb, .string rt] := hX
 have x1 := hX'.cell (k := 1) rfl
 clear hX hd hr hc hm hmm hPT
 go_enter Tryz.func30, Tryz.ntmps30
 repeat' (fail_if_success (first|at_builtin|at_make));first|go_values|go_skip|go_guarded|go_step|go_upon|go_back
 have hs1 : (w.alloc (.cells #[.int .i64 rk, .int .i64 ra, .int .i64 rb, .string rt] 47)).heap.size = w.heap.size + 1 := World.size_alloc _ _
 generalize w.alloc (.cells #[.int .i64 rk, .int .i64 ra, .int .i64 rb, .string rt] 47) = w1 at *
 have HS1 := Lib.hid hs1
 clear x1 hs1
 refine ((HPA.out _)).mono ?_; rintro e_ w2 ⟨rfl, hw2⟩; dsimp only
 subst hw2
 repeat' (fail_if_success (first|at_builtin|at_make));first|go_values|go_skip|go_guarded|go_step|go_upon|go_back
 rcases Nat.eq_zero_or_pos l.length with h0 | h0
 ·have HZ := Lib.hid (show PT = [] by rw [HPT.out, if_pos h0])
  have h0b : decide (((l.length : Nat) : Int) > 0) = false := decide_eq_false (by omega)
  have h0c : decide ((0 : Int) < ((l.length : Nat) : Int)) = false := decide_eq_false (by omega)
  have h0d : decide (0 < l.length) = false := decide_eq_false (by omega)
  go_loopg [5, 11] m (fun gn v i wr => ∃ k : Nat, gn = m - k ∧ i = .int .i64 k ∧ k ≤ m ∧ v = .slice none 0 0 ∧ wr = w1)
  case atStart => exact ⟨0, rfl, rfl, by omega, rfl, rfl⟩
  case round =>
   obtain ⟨k, hgk, rfl, hk, rfl, rfl⟩ := hrel
   have HGK := Lib.hid hgk
   clear hgk
   by_cases hlt : k < m
   ·have hcc : decide (k < m) = true := decide_eq_true hlt
    repeat' (fail_if_success (first|at_builtin|at_make));first|go_values|go_skip|go_guarded|go_step|go_upon|go_back
    go_roundg (m - (k + 1))
    case measure => have := HGK.out; omega
    case rel => exact ⟨k + 1, rfl, by go_num, by omega, rfl, rfl⟩
   ·obtain rfl : k = m := by omega
    have hcc : decide (k < k) = false := by simp
    repeat' (fail_if_success (first|at_builtin|at_make));first|go_values|go_skip|go_guarded|go_step|go_upon|go_back
    go_ret
    rw [HZ.out]
    exact ⟨_, rfl, World.ownsRow_nil _ _ _ _, hb1⟩
 ·have HZ := Lib.hid (show PT = (List.range m).map (yE l ⟨rk, ra, rb, rt⟩) by rw [HPT.out, if_neg (by omega)])
  have HX := Lib.hid hX'
  have HA := Lib.hid hA
  clear hX' hA HPT
  go_loopg [5, 11] m (fun gn v i wr => ∃ k : Nat, gn = m - k ∧ i = .int .i64 k ∧ k ≤ m ∧ wr.ownsRow w1.heap.size 52 3 v k (pcs ((List.range k).map (yE l ⟨rk, ra, rb, rt⟩))) ∧ Below w1.heap.size w1 wr)
  case atStart => exact ⟨0, rfl, rfl, by omega, World.ownsRow_nil _ _ _ _, Below.refl _ _⟩
  case round =>
   obtain ⟨k, hgk, rfl, hk, hown, hbel⟩ := hrel
   have HGK := Lib.hid hgk
   clear hgk
   by_cases hlt : k < m
   ·have hcc : decide (k < m) = true := decide_eq_true hlt
    have h0b : decide (((l.length : Nat) : Int) > 0) = true := decide_eq_true (by omega)
    have h0c : decide ((0 : Int) < ((l.length : Nat) : Int)) = true := decide_eq_true (by omega)
    have h0d : decide (0 < l.length) = true := decide_eq_true h0
    have x2 := (HX.out.below hbel).cell (k := 2) rfl
    have hw7 : IntKind.i64.wrap (7 * (k : Int)) = 7 * (k : Int) := IntWalk.i64_in _ (by omega)
    have hwi : ∀ z, -9223372036854775808 ≤ IntKind.i64.wrap z ∧ IntKind.i64.wrap z ≤ 9223372036854775807 := fun z => by rw [IntKind.wrap_i64]; omega
    have hP := zR (IntKind.i64.wrap (rb + 7 * (k : Int))) l.length l.length rfl wr (hwi _).1 (hwi _).2 h0 (by omega)
    rw [IntWalk.i64_left] at hP
    have HP := Lib.hid hP
    have hpl := kC (IntKind.i64.wrap (rb + 7 * (k : Int))) (m := l.length) h0
    clear hP
    obtain ⟨q, hq⟩ : ∃ q, q = pk (IntKind.i64.wrap (rb + 7 * (k : Int))) l.length := ⟨_, rfl⟩
    rw [← hq] at hpl
    rw [← IntWalk.i64_left, ← hq] at HP
    rw [IntWalk.i64_left] at HP
    have hprt : yE l ⟨rk, ra, rb, rt⟩ k = ⟨[112, UInt8.ofNat (97 + k)], l[q].dig, l[q].data.length⟩ := by
     simp only [yE, ← hq, List.getElem?_eq_getElem hpl, Option.getD_some]
    have HPR := Lib.hid hprt
    have hrng : (List.range (k + 1)).map (yE l ⟨rk, ra, rb, rt⟩) = (List.range k).map (yE l ⟨rk, ra, rb, rt⟩) ++ [yE l ⟨rk, ra, rb, rt⟩ k] := by rw [List.range_succ, List.map_append]; rfl
    have HRN := Lib.hid hrng
    have hdl := HD.out _ (List.getElem_mem hpl)
    obtain ⟨b, off, B, cb, rfl, hbb, c0, c1, c2, c3, _⟩ := (HA.out.below (hb1.trans (hbel.mono hb1.size))).blob_at q hpl
    generalize l[q] = bl at *
    obtain ⟨dg, dt, pn, mk⟩ := bl
    dsimp only at c0 c1 c2 c3 hdl
    generalize hs : (⟨dg.toArray⟩ : ByteArray) = s at *
    have HS := Lib.hid hs
    have i0 : (0 : Int) ≤ (q : Int) := by omega
    have i1 : (q : Int) < (l.length : Int) := by omega
    have hcv := fun (w' : World) (g : Nat) (h : w'.cell? ⟨g, 0, none⟩ = some (.int .u8 (97 + (k : Int)))) => Yx (97 + (k : Int)) w' g h (by omega) (by omega)
    have hw1 : IntKind.i64.wrap (97 + (k : Int)) = 97 + (k : Int) := IntWalk.i64_in _ (by omega)
    have hw2 : IntKind.u8.wrap (97 + (k : Int)) = 97 + (k : Int) := by rw [IntKind.wrap_u8]; omega
    clear hprt hrng hq hs
    repeat' (fail_if_success (first|at_builtin|at_make));first|go_values|go_skip|go_guarded|go_step|go_upon|go_back
    refine ((HP.out)).mono ?_; rintro e_ w3 ⟨rfl, hw3⟩; dsimp only
    subst hw3
    repeat' (fail_if_success (first|at_builtin|at_make));first|go_values|go_skip|go_guarded|go_step|go_upon|go_back
    have hnm : (({ data := #[112] } : ByteArray) ++ ({ data := #[97 + UInt8.ofNat k] } : ByteArray)) = ⟨#[112, UInt8.ofNat (97 + k)]⟩ := by rw [UInt8.ofNat_add]; rfl
    rw [hnm]
    have hbb1 := (Below.refl wr.heap.size wr).alloc (Nat.le_refl _) (.cells #[.string s, .slice B dt.length cb, .int .i64 (pn : Int), .bool mk] 50)
    have hbb2 := hbb1.alloc hbb1.size (.cells #[.int .u8 (97 + (k : Int))] 5)
    have hown2 := z6 hown hbb2
    have hs4 : ((wr.alloc (.cells #[.string s, .slice B dt.length cb, .int .i64 (pn : Int), .bool mk] 50)).alloc (.cells #[.int .u8 (97 + (k : Int))] 5)).heap.size = wr.heap.size + 1 + 1 := by rw [World.size_alloc, World.size_alloc]
    generalize (wr.alloc (.cells #[.string s, .slice B dt.length cb, .int .i64 (pn : Int), .bool mk] 50)).alloc (.cells #[.int .u8 (97 + (k : Int))] 5) = w4 at *
    have hbel4 := hbel.trans (hbb2.mono hbel.size)
    rw [← hs4]
    refine zh rfl (.tmp 28) (.tmp 41) rfl Kf (by rfl) hown2 (us := [.string ⟨#[112, UInt8.ofNat (97 + k)]⟩, .string s, .int .i64 (dt.length : Int)]) (m := 1) (by rfl) rfl (by intro u hu; simp only [List.mem_cons, List.not_mem_nil, or_false] at hu; rcases hu with rfl | rfl | rfl <;> rfl) (by omega) hbel4.size ?_
    intro v7 w7 ho7 hg7 _
    have hb7 := zc hbel4 hown2 (Nat.le_refl _) hg7
    have ho8 : w7.ownsRow w1.heap.size 52 3 v7 (k + 1) (pcs ((List.range (k + 1)).map (yE l ⟨rk, ra, rb, rt⟩))) := by
     rw [HRN.out, HPR.out, Ka]
     have e1 : pcs [⟨[112, UInt8.ofNat (97 + k)], dg, dt.length⟩] = [.string ⟨#[112, UInt8.ofNat (97 + k)]⟩, .string s, .int .i64 (dt.length : Int)] := by rw [← HS.out]; rfl
     rw [e1]; exact ho7
    clear hown hown2 ho7 hg7 hbb1 hbb2
    repeat' (fail_if_success (first|at_builtin|at_make));first|go_values|go_skip|go_guarded|go_step|go_upon|go_back
    go_roundg (m - (k + 1))
    case measure => have := HGK.out; omega
    case rel => exact ⟨k + 1, rfl, by go_num, by omega, ho8, hb7⟩
   ·obtain rfl : k = m := by omega
    have hcc : decide (k < k) = false := by simp
    repeat' (fail_if_success (first|at_builtin|at_make));first|go_values|go_skip|go_guarded|go_step|go_upon|go_back
    go_ret
    rw [HZ.out]
    refine ⟨_, rfl, ?_, hb1.trans (hbel.mono hb1.size)⟩
    rw [List.length_map, List.length_range]
    exact zb hown hb1.size
end Go.Proofs.YtngfnjekjfeacaaGreat
namespace Go.Proofs.YtngfnjekjfeacaaGreat
open Go.RowKit
set_option linter.unusedVariables false
set_option linter.unusedSimpArgs false
set_option maxRecDepth 100000
theorem jb (A B : Option Addr) (n c d : Nat) (x : List PartP) (w : World) (hl : x.length = n) (hn : n ≤ 140737488351232) (hr : Rd w 3 A n (pcs x)) (hs : Rd w 3 B n (pcs x)) :
  Calls Tryz.prog 43 #[.slice A n c, .slice B n d] w fun e w' => e = .returned (.bool true) ∧ Below w.heap.size w w' := by
 have hnn : ((n : Int) != (n : Int)) = false := by simp
 have HL := Lib.hid hl
 clear hl
 go_enter Tryz.func43, Tryz.ntmps43
 go_wp2_with fail
 go_loopg [5, 13] n (fun gn u i wr => ∃ k : Nat, gn = n - k ∧ i = .int .i64 k ∧ k ≤ n ∧ Below w.heap.size w wr)
 case atStart => exact ⟨0, rfl, rfl, by omega, Below.refl _ _⟩
 case round =>
  obtain ⟨k, hgk, rfl, hk, hbel⟩ := hrel
  have HGK := Lib.hid hgk
  clear hgk
  by_cases hlt : k < n
  ·have hkl : k < x.length := by have := HL.out; omega
   obtain ⟨b, off, rfl, _, hcell⟩ := (hr.below hbel).2 (by omega)
   obtain ⟨b', off', rfl, _, hcell'⟩ := (hs.below hbel).2 (by omega)
   have hat := fun j (hj : j < 3) => ky x k j hkl hj
   generalize x[k] = p at *
   have c0 := hcell (k * 3 + 0) _ (hat 0 (by omega))
   have c1 := hcell (k * 3 + 1) _ (hat 1 (by omega))
   have c2 := hcell (k * 3 + 2) _ (hat 2 (by omega))
   have d0 := hcell' (k * 3 + 0) _ (hat 0 (by omega))
   have d1 := hcell' (k * 3 + 1) _ (hat 1 (by omega))
   have d2 := hcell' (k * 3 + 2) _ (hat 2 (by omega))
   rw [Nat.add_zero] at c0 d0
   rw [show off + (k * 3 + 1) = off + k * 3 + 1 by omega] at c1
   rw [show off + (k * 3 + 2) = off + k * 3 + 2 by omega] at c2
   rw [show off' + (k * 3 + 1) = off' + k * 3 + 1 by omega] at d1
   rw [show off' + (k * 3 + 2) = off' + k * 3 + 2 by omega] at d2
   obtain ⟨pn, pd, psz⟩ := p
   dsimp only [qV, List.getElem?_cons_zero, List.getElem?_cons_succ] at c0 c1 c2 d0 d1 d2
   generalize (⟨pn.toArray⟩ : ByteArray) = s at *
   generalize (⟨pd.toArray⟩ : ByteArray) = t at *
   clear hat hcell hcell'
   have hk0 : (0 : Int) ≤ (k : Int) := by omega
   have hk1 : (k : Int) < (n : Int) := by omega
   go_wp2_with fail
   go_quiet (fail)
   go_wp2_with fail
   go_roundg (n - (k + 1))
   case measure => have := HGK.out; omega
   case rel => exact ⟨k + 1, rfl, by go_num, by omega, zv hbel _⟩
  ·go_wp2_with fail
   go_ret
   exact ⟨rfl, hbel⟩
theorem jU {s t : ByteArray} (h : ¬ s = t) : (s.toList == t.toList) = false := by
 rw [beq_eq_false_iff_ne, ByteArray.toList_eq, ByteArray.toList_eq]
 intro e; apply h
 cases s; cases t; simp only [ByteArray.mk.injEq]; exact Array.toList_inj.1 e
theorem j9 (A B : Option Addr) (n m c d : Nat) (x y : List PartP) (w : World) (hl : x.length = n) (hl' : y.length = m) (hn : n ≤ 140737488351232) (hm : m ≤ 140737488351232) (hr : Rd w 3 A n (pcs x)) (hs : Rd w 3 B m (pcs y)) (hne : x ≠ y) :
  Calls Tryz.prog 43 #[.slice A n c, .slice B m d] w fun e w' => e = .returned (.bool false) ∧ Below w.heap.size w w' := by
 have HL := Lib.hid hl
 have HL' := Lib.hid hl'
 have HNE := Lib.hid hne
 clear hl hl' hne
 by_cases hnm : n = m
 ·subst hnm
  have hnn : ((n : Int) != (n : Int)) = false := by simp
  go_enter Tryz.func43, Tryz.ntmps43
  go_wp2_with fail
  go_loopg [5, 13] n (fun gn u i wr => ∃ k : Nat, gn = n - k ∧ i = .int .i64 k ∧ k ≤ n ∧ x.take k = y.take k ∧ Below w.heap.size w wr)
  case atStart => exact ⟨0, rfl, rfl, by omega, rfl, Below.refl _ _⟩
  case round =>
   obtain ⟨k, hgk, rfl, hk, htk, hbel⟩ := hrel
   have HGK := Lib.hid hgk
   have HTK := Lib.hid htk
   clear hgk htk
   by_cases hlt : k < n
   ·have hkl : k < x.length := by have := HL.out; omega
    have hkl' : k < y.length := by have := HL'.out; omega
    obtain ⟨b, off, rfl, _, hcell⟩ := (hr.below hbel).2 (by omega)
    obtain ⟨b', off', rfl, _, hcell'⟩ := (hs.below hbel).2 (by omega)
    have hat := fun j (hj : j < 3) => ky x k j hkl hj
    have hat' := fun j (hj : j < 3) => ky y k j hkl' hj
    have HS := Lib.hid (fun (h : x[k] = y[k]) => (by rw [List.take_succ_eq_append_getElem hkl, List.take_succ_eq_append_getElem hkl', HTK.out, h] : x.take (k + 1) = y.take (k + 1)))
    generalize x[k] = p at *
    generalize y[k] = q at *
    have c0 := hcell (k * 3 + 0) _ (hat 0 (by omega))
    have c1 := hcell (k * 3 + 1) _ (hat 1 (by omega))
    have c2 := hcell (k * 3 + 2) _ (hat 2 (by omega))
    have d0 := hcell' (k * 3 + 0) _ (hat' 0 (by omega))
    have d1 := hcell' (k * 3 + 1) _ (hat' 1 (by omega))
    have d2 := hcell' (k * 3 + 2) _ (hat' 2 (by omega))
    rw [Nat.add_zero] at c0 d0
    rw [show off + (k * 3 + 1) = off + k * 3 + 1 by omega] at c1
    rw [show off + (k * 3 + 2) = off + k * 3 + 2 by omega] at c2
    rw [show off' + (k * 3 + 1) = off' + k * 3 + 1 by omega] at d1
    rw [show off' + (k * 3 + 2) = off' + k * 3 + 2 by omega] at d2
    obtain ⟨pn, pd, psz⟩ := p
    obtain ⟨qn, qd, qsz⟩ := q
    dsimp only [qV, List.getElem?_cons_zero, List.getElem?_cons_succ] at c0 c1 c2 d0 d1 d2
    obtain ⟨s, hs⟩ : ∃ s : ByteArray, s = ⟨pn.toArray⟩ := ⟨_, rfl⟩
    obtain ⟨t, ht⟩ : ∃ s : ByteArray, s = ⟨pd.toArray⟩ := ⟨_, rfl⟩
    obtain ⟨s', hs'⟩ : ∃ s : ByteArray, s = ⟨qn.toArray⟩ := ⟨_, rfl⟩
    obtain ⟨t', ht'⟩ : ∃ s : ByteArray, s = ⟨qd.toArray⟩ := ⟨_, rfl⟩
    rw [← hs] at c0
    rw [← ht] at c1
    rw [← hs'] at d0
    rw [← ht'] at d1
    have H4 := Lib.hid (And.intro hs (And.intro ht (And.intro hs' ht')))
    clear hat hcell hcell' hat' hs ht hs' ht'
    have hk0 : (0 : Int) ≤ (k : Int) := by omega
    have hk1 : (k : Int) < (n : Int) := by omega
    by_cases hss : s = s'
    ·subst hss
     by_cases htt : t = t'
     ·subst htt
      by_cases hzz : psz = qsz
      ·subst hzz
       have HS2 := Lib.hid (HS.out (by
        have h1 : pn = qn := by have := H4.out.1.symm.trans H4.out.2.2.1; simpa using this
        have h2 : pd = qd := by have := H4.out.2.1.symm.trans H4.out.2.2.2; simpa using this
        rw [h1, h2]))
       go_wp2_with fail
       go_quiet (fail)
       go_wp2_with fail
       go_roundg (n - (k + 1))
       case measure => have := HGK.out; omega
       case rel => exact ⟨k + 1, rfl, by go_num, by omega, HS2.out, zv hbel _⟩
      ·have e1 : ((psz : Int) == (qsz : Int)) = false := by rw [beq_eq_false_iff_ne]; omega
       have e2 : ¬ ((psz : Int) = (qsz : Int)) := by omega
       have e3 : (psz == qsz) = false := by rw [beq_eq_false_iff_ne]; exact hzz
       go_wp2_with fail
       go_quiet (fail)
       go_wp2_with fail
       go_ret
       exact ⟨rfl, zv hbel _⟩
     ·have e1 : (t.toList == t'.toList) = false := jU htt
      go_wp2_with fail
      go_quiet (fail)
      go_wp2_with fail
      go_ret
      exact ⟨rfl, zv hbel _⟩
    ·have e1 : (s.toList == s'.toList) = false := jU hss
     go_wp2_with fail
     go_quiet (fail)
     go_wp2_with fail
     go_ret
     exact ⟨rfl, zv hbel _⟩
   ·exfalso
    apply HNE.out
    have h1 := HTK.out
    rwa [List.take_of_length_le (by have := HL.out; omega), List.take_of_length_le (by have := HL'.out; omega)] at h1
 ·have hnn : ((n : Int) != (m : Int)) = true := by rw [bne_iff_ne]; omega
  go_enter Tryz.func43, Tryz.ntmps43
  go_wp2_with fail
  go_ret
  exact ⟨rfl, Below.refl _ _⟩
end Go.Proofs.YtngfnjekjfeacaaGreat
namespace Go.Proofs.YtngfnjekjfeacaaGreat
open Go.RowKit
set_option linter.unusedVariables false
set_option linter.unusedSimpArgs false
set_option maxRecDepth 20000
theorem uq (A : Option Addr) (n c : Nat) (xs : List Value) (w : World) (hb : n * 40 ≤ 140737488355328) (hr : Rd w 3 A n xs) (h1 : ∀ u ∈ xs, u.oneCell' = true) :
  Calls Tryz.prog 86 #[.slice A n c] w fun e w' => ∃ v, e = .returned v ∧ w'.ownsRow w.heap.size 52 3 v n xs ∧ Below w.heap.size w w' := by
 have heq := fun W => Lib.run_eql_slice_nil (P := Tryz.prog) W 34 52 A n c 0 0 Tryz.underlying34
 cases A with
 | none =>
  obtain rfl : n = 0 := by
   rcases Nat.eq_zero_or_pos n with h | h
   ·exact h
   ·obtain ⟨_, _, h1, _⟩ := hr.2 h; cases h1
  obtain rfl : xs = [] := List.eq_nil_of_length_eq_zero (by simpa using hr.1)
  go_enter Tryz.func86, Tryz.ntmps86
  go_wp2_with fail
  go_ret
  exact ⟨_, rfl, World.ownsRow_nil _ _ _ _, Below.refl _ _⟩
 | some ad =>
  go_enter Tryz.func86, Tryz.ntmps86
  repeat' (fail_if_success (first|at_builtin|at_make));first|go_values|go_skip|go_guarded|go_step|go_upon|go_back
  refine zJ rfl (.tmp 5) (.tmp 6) rfl Kf (by rfl) (World.ownsRow_made (size := 3) w #[] 0 (Nat.le_refl _) (by simp [maxLen]) rfl) (by rfl) (hr.alloc _) h1 (by omega) (by simp) ?_
  intro v1 w1 hown1 hg1 _
  have hb1 := zc ((Below.refl _ _).alloc (Nat.le_refl _) _) (World.ownsRow_made (size := 3) w #[] 0 (Nat.le_refl _) (by simp [maxLen]) rfl) (Nat.le_refl _) hg1
  go_wp2_with fail
  go_ret
  exact ⟨_, rfl, by simpa using hown1, hb1⟩
end Go.Proofs.YtngfnjekjfeacaaGreat
