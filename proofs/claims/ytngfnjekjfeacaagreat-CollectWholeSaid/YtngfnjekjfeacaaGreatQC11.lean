/- Lemmas of a proof, made shorter by a program. Conditions: none, or as each states. -/
import Derived.Test.YtngfnjekjfeacaaGreatQC10
namespace Go.Proofs.YtngfnjekjfeacaaGreat
open Go.RowKit
set_option linter.unusedVariables false
set_option linter.unusedSimpArgs false
def put4 (w : World) (g o : Nat) (u0 u1 u2 u3 : Value) : World := (((w.setCell ⟨g, o, none⟩ u0).setCell ⟨g, o + 1, none⟩ u1).setCell ⟨g, o + 2, none⟩ u2).setCell ⟨g, o + 3, none⟩ u3
theorem VQ {X Y : List Value} {a0 a1 a2 a3 u0 u1 u2 u3 : Value} {o : Nat} (ho : X.length = o) :
  ((((X ++ [a0, a1, a2, a3] ++ Y).set o u0).set (o + 1) u1).set (o + 2) u2).set (o + 3) u3 = X ++ [u0, u1, u2, u3] ++ Y := by
 subst ho
 simp only [List.append_assoc]
 rw [List.set_append_right _ _ (Nat.le_refl _), List.set_append_right _ _ (by omega), List.set_append_right _ _ (by omega), List.set_append_right _ _ (by omega)]
 simp
theorem vQ {w : World} {base g n cap o : Nat} {e : TypeId} {s : Nat} {X Y : List Value} {a0 a1 a2 a3 : Value} (h : w.ownsRow base e s (.slice (some ⟨g, 0, none⟩) n cap) n (X ++ [a0, a1, a2, a3] ++ Y)) (ho : X.length = o) (u0 u1 u2 u3 : Value) :
  (put4 w g o u0 u1 u2 u3).ownsRow base e s (.slice (some ⟨g, 0, none⟩) n cap) n (X ++ [u0, u1, u2, u3] ++ Y) ∧ w.grownBy (put4 w g o u0 u1 u2 u3) (some g) := by
 have hl : (X ++ [a0, a1, a2, a3] ++ Y).length = o + 4 + Y.length := by simp [ho]; omega
 obtain ⟨k1, g1, _, _⟩ := yl h (k := o) (by omega) u0
 obtain ⟨k2, g2, _, _⟩ := yl k1 (k := o + 1) (by rw [List.length_set]; omega) u1
 obtain ⟨k3, g3, _, _⟩ := yl k2 (k := o + 2) (by rw [List.length_set, List.length_set]; omega) u2
 obtain ⟨k4, g4, _, _⟩ := yl k3 (k := o + 3) (by rw [List.length_set, List.length_set, List.length_set]; omega) u3
 rw [VQ ho] at k4
 refine ⟨k4, ?_⟩
 have t : ∀ {a b c : World}, a.grownBy b (some g) → b.grownBy c (some g) → a.grownBy c (some g) := fun {a b c} h k =>
  ⟨k.os.trans h.os, k.tape.trans h.tape, k.output.trans h.output, Nat.le_trans h.size k.size, fun i hi hne => (k.block i (Nat.lt_of_lt_of_le hi h.size) hne).trans (h.block i hi hne)⟩
 exact t (t (t g1 g2) g3) g4
section
variable {α : Type} {S : Shp α} {w : World} {e : TypeId} {base g cap : Nat}
theorem Kj (P Q : Cel α) (p q : α × List Value) : cls (P ++ p :: q :: Q) = cls P ++ p.2 ++ (q.2 ++ cls Q) := by
 rw [yC, zC, zC, List.append_assoc]
theorem RwO.swap {P Q : List α} {a x : α} (h : RwO S e w base (.slice (some ⟨g, 0, none⟩) (P ++ a :: x :: Q).length cap) (P ++ a :: x :: Q)) (h4 : S.size = 4) :
  ∃ ca cx, S.R w a ca ∧ S.R w x cx ∧ (∀ i u, ca[i]? = some u → w.cell? ⟨g, P.length * 4 + i, none⟩ = some u) ∧ (∀ i u, cx[i]? = some u → w.cell? ⟨g, (P.length + 1) * 4 + i, none⟩ = some u) ∧ (∀ k, w.frozen? ⟨g, k, none⟩ = false) ∧
   ∀ a0 a1 a2 a3 x0 x1 x2 x3, ca = [a0, a1, a2, a3] → cx = [x0, x1, x2, x3] →
    let W := put4 (put4 w g ((P.length + 1) * 4) a0 a1 a2 a3) g (P.length * 4) x0 x1 x2 x3
    RwO S e W base (.slice (some ⟨g, 0, none⟩) (P ++ x :: a :: Q).length cap) (P ++ x :: a :: Q) ∧ w.grownBy W (some g) := by
 obtain ⟨ps, h1, h2, h3, h5⟩ := h
 obtain ⟨P', R', rfl, hP, hR⟩ := List.map_eq_append_iff.1 h1
 obtain ⟨pa, R2, rfl, ha, hR2⟩ := List.map_eq_cons_iff.1 hR
 obtain ⟨px, Q', rfl, hx, hQ⟩ := List.map_eq_cons_iff.1 hR2
 have hPl : P'.length = P.length := by rw [← hP, List.length_map]
 have hRa : S.R w a pa.2 := by rw [← ha]; exact h2 pa (by simp)
 have hRx : S.R w x px.2 := by rw [← hx]; exact h2 px (by simp)
 have hla := S.len hRa
 have hlx := S.len hRx
 have hcl := vV P' (fun p hp => h2.lens p (by simp [hp]))
 rw [h4] at hla hlx hcl h3
 rw [hPl] at hcl
 have hlen : (P ++ a :: x :: Q).length = P.length + Q.length + 2 := by simp; omega
 have hown := h3
 have hfz : ∀ k, w.frozen? ⟨g, k, none⟩ = false := fun k => by
  rcases h3.2 with ⟨e1, _⟩ | ⟨g', cap', cur, e1, hb, hg, _⟩
  ·cases e1
  ·injection e1 with e1 _ e3
   injection e1 with e1
   injection e1 with e1
   subst e1
   have hA : Arr w g e cur.toList := by simpa [Arr] using hg
   exact hA.frozen k
 have hrd := Rd.of_own h3
 obtain ⟨b0, off0, e0, hb0, hcell⟩ := hrd.2 (by omega)
 injection e0 with e0
 injection e0 with e1 e2
 subst e1 e2
 rw [Kj] at hcell h3
 refine ⟨pa.2, px.2, hRa, hRx, fun i u hu => ?_, fun i u hu => ?_, hfz, fun a0 a1 a2 a3 x0 x1 x2 x3 ea ex => ?_⟩
 ·have hi := (List.getElem?_eq_some_iff.1 hu).1
  have := hcell (P.length * 4 + i) u (by
   rw [List.append_assoc, List.getElem?_append_right (by omega), hcl, show P.length * 4 + i - P.length * 4 = i by omega, List.getElem?_append_left hi]; exact hu)
  rwa [Nat.zero_add] at this
 ·have hi := (List.getElem?_eq_some_iff.1 hu).1
  have := hcell ((P.length + 1) * 4 + i) u (by
   rw [List.getElem?_append_right (by rw [List.length_append]; omega), List.length_append, hcl, hla, show (P.length + 1) * 4 + i - (P.length * 4 + 4) = i by omega, List.getElem?_append_left hi]; exact hu)
  rwa [Nat.zero_add] at this
 ·rw [ea, ex] at h3
  have h6 : w.ownsRow base e 4 (.slice (some ⟨g, 0, none⟩) (P ++ a :: x :: Q).length cap) (P ++ a :: x :: Q).length ((cls P' ++ [a0, a1, a2, a3]) ++ [x0, x1, x2, x3] ++ cls Q') := by
   simpa [List.append_assoc] using h3
  obtain ⟨k1, g1⟩ := vQ h6 (o := (P.length + 1) * 4) (by rw [List.length_append, hcl]; simp; omega) a0 a1 a2 a3
  have h7 : (put4 w g ((P.length + 1) * 4) a0 a1 a2 a3).ownsRow base e 4 (.slice (some ⟨g, 0, none⟩) (P ++ a :: x :: Q).length cap) (P ++ a :: x :: Q).length (cls P' ++ [a0, a1, a2, a3] ++ ([a0, a1, a2, a3] ++ cls Q')) := by
   simpa [List.append_assoc] using k1
  obtain ⟨k2, g2⟩ := vQ h7 (o := P.length * 4) hcl x0 x1 x2 x3
  have hg : w.grownBy (put4 (put4 w g ((P.length + 1) * 4) a0 a1 a2 a3) g (P.length * 4) x0 x1 x2 x3) (some g) :=
   ⟨g2.os.trans g1.os, g2.tape.trans g1.tape, g2.output.trans g1.output, Nat.le_trans g1.size g2.size, fun i hi hne => (g2.block i (Nat.lt_of_lt_of_le hi g1.size) hne).trans (g1.block i hi hne)⟩
  have hmem : ∀ p, p ∈ P' ++ px :: pa :: Q' → p ∈ P' ++ pa :: px :: Q' := fun p hp => by
   simp only [List.mem_append, List.mem_cons] at hp ⊢
   rcases hp with h | h | h | h
   ·exact .inl h
   ·exact .inr (.inr (.inl h))
   ·exact .inr (.inl h)
   ·exact .inr (.inr (.inr h))
  have hl2 : (P ++ x :: a :: Q).length = (P ++ a :: x :: Q).length := by simp
  refine ⟨⟨P' ++ px :: pa :: Q', by simp [hP, ha, hx, hQ], ?_, ?_, fun p hp => h5 p (hmem p hp)⟩, hg⟩
  ·exact q4.grown (w := w) (g := some g) (fun p hp => h2 p (hmem p hp)) hg (fun p hp b hb => h5 p (hmem p hp) b hb)
  ·rw [Kj, ea, ex, hl2, h4]
   simpa [List.append_assoc] using k2
end
section
variable {α : Type} {f : α → List UInt8}
structure Ins (f : α → List UInt8) (A : List α) (x : α) (B : List α) : Prop where
 ris : RisesBy f (A ++ B)
 less : ∀ b ∈ B, Op.bytesLess (f x) (f b) = true
theorem Ins.start {A : List α} (h : RisesBy f A) (x : α) : Ins f A x [] := ⟨by simpa using h, by simp⟩
theorem Ins.down {A B : List α} {a x : α} (h : Ins f (A ++ [a]) x B) (hl : Op.bytesLess (f x) (f a) = true) : Ins f A x (a :: B) :=
 ⟨by simpa using h.ris, fun b hb => by
  rcases List.mem_cons.1 hb with rfl | hb
  ·exact hl
  ·exact h.less b hb⟩
theorem Ins.done0 {B : List α} {x : α} (h : Ins f [] x B) : RisesBy f (x :: B) := List.pairwise_cons.2 ⟨h.less, by have := h.ris; rwa [List.nil_append] at this⟩
theorem Ins.done {A B : List α} {a x : α} (h : Ins f (A ++ [a]) x B) (hl : Op.bytesLess (f a) (f x) = true) : RisesBy f (A ++ [a] ++ x :: B) := by
 obtain ⟨h1, h2, h3⟩ := List.pairwise_append.1 h.ris
 refine List.pairwise_append.2 ⟨h1, List.pairwise_cons.2 ⟨h.less, h2⟩, fun y hy z hz => ?_⟩
 rcases List.mem_cons.1 hz with rfl | hz
 ·rcases List.mem_append.1 hy with hy | hy
  ·exact qf ((List.pairwise_append.1 h1).2.2 y hy a (by simp)) hl
  ·have := List.mem_singleton.1 hy; subst this; exact hl
 ·exact h3 y hy z hz
theorem YK {l m : List α} (h : RisesBy f m) (hp : m.Perm l) : m = srt f l := by
 refine RisesBy.perm h (qX ?_) (hp.trans (zD f l).symm)
 exact (hp.map f).nodup_iff.1 h.map.nodup
end
end Go.Proofs.YtngfnjekjfeacaaGreat
namespace Go.Proofs.YtngfnjekjfeacaaGreat
open Go.RowKit
set_option linter.unusedVariables false
def RwX {α : Type} (S : Shp α) (e : TypeId) (w : World) (base : Nat) (v : Value) (l : List α) (N : Nat → Prop) : Prop :=
 ∃ ps : Cel α, ps.map (·.1) = l ∧ q4 S w ps ∧ w.ownsRow base e S.size v l.length (cls ps) ∧ ∀ p ∈ ps, ∀ b, (v.ownBlock = some b ∨ N b) → ¬ leads b p.2
section
variable {α : Type} {S : Shp α} {w w' : World} {e : TypeId} {base base' : Nat} {v v' : Value} {l : List α} {N N' : Nat → Prop}
theorem RwX.rwo (h : RwX S e w base v l N) : RwO S e w base v l := by
 obtain ⟨ps, h1, h2, h3, h4⟩ := h
 exact ⟨ps, h1, h2, h3, fun p hp b hb => h4 p hp b (.inl hb)⟩
theorem RwX.below (h : RwX S e w base v l N) (hb : Below w.heap.size w w') : RwX S e w' base v l N := by
 obtain ⟨ps, h1, h2, h3, h4⟩ := h
 exact ⟨ps, h1, h2.below hb, z6 h3 hb, h4⟩
theorem RwX.nil_ (h : w.ownsRow base e S.size v 0 []) : RwX S e w base v [] N := ⟨[], rfl, (fun p hp => nomatch hp), h, (fun p hp => nomatch hp)⟩
theorem RwX.other {g : Option Nat} (h : RwX S e w base v l N) (hg : w.grownBy w' g) (hv : ∀ b, g = some b → v.ownBlock ≠ some b) (hN : ∀ b, g = some b → N b) : RwX S e w' base v l N := by
 obtain ⟨ps, h1, h2, h3, h4⟩ := h
 refine ⟨ps, h1, h2.grown hg (fun p hp b hb => h4 p hp b (.inr (hN b hb))), h3.kept hg ?_, h4⟩
 cases hb : v.ownBlock with
 | none => exact .inl rfl
 | some b => exact .inr (fun e1 => hv b e1.symm hb)
theorem RwX.wider (h : RwX S e w base v l N) (hN : ∀ b, N' b → N b ∨ w.heap.size ≤ b) : RwX S e w base v l N' := by
 obtain ⟨ps, h1, h2, h3, h4⟩ := h
 refine ⟨ps, h1, h2, h3, fun p hp b hb hl => ?_⟩
 rcases hb with hb | hb
 ·exact h4 p hp b (.inl hb) hl
 ·rcases hN b hb with h5 | h5
  ·exact h4 p hp b (.inr h5) hl
  ·have := S.live (h2 p hp) b hl; omega
theorem RwX.open_ (h : RwX S e w base v l N) : ∃ xs, w.ownsRow base e S.size v l.length xs ∧
  ∀ (x : α) (cs : List Value) (w1 w2 : World) (v2 : Value), Below w.heap.size w w1 → S.R w1 x cs → (∀ b, (v.ownBlock = some b ∨ N b) → ¬ leads b cs) → w2.ownsRow base e S.size v2 (l.length + 1) (xs ++ cs) → w1.grownBy w2 v.ownBlock → (v2.ownBlock = v.ownBlock ∨ ∃ g, v2.ownBlock = some g ∧ w1.heap.size ≤ g) →
   RwX S e w2 base v2 (l ++ [x]) N := by
 obtain ⟨ps, h1, h2, h3, h4⟩ := h
 refine ⟨_, h3, fun x cs w1 w2 v2 hb hx hxl ho hg hv => ?_⟩
 have h2' := h2.below hb
 have hall : ∀ p ∈ ps ++ [(x, cs)], S.R w1 p.1 p.2 ∧ ∀ b, (v.ownBlock = some b ∨ N b) → ¬ leads b p.2 := fun p hp => by
  rcases List.mem_append.1 hp with h | h
  ·exact ⟨h2' p h, h4 p h⟩
  ·have := List.mem_singleton.1 h; subst this; exact ⟨hx, hxl⟩
 refine ⟨ps ++ [(x, cs)], by simp [h1], ?_, ?_, fun p hp b hb hl => ?_⟩
 ·exact q4.grown (w := w1) (g := v.ownBlock) (fun p hp => (hall p hp).1) hg (fun p hp b hb => (hall p hp).2 b (.inl hb))
 ·rw [yC, List.length_append]; simpa [cls] using ho
 ·rcases hb with hb | hb
  ·rcases hv with e1 | ⟨g, e1, hge⟩
   ·exact (hall p hp).2 b (.inl (by rw [← e1]; exact hb)) hl
   ·rw [e1] at hb
    cases hb
    have := S.live (hall p hp).1 _ hl
    omega
  ·exact (hall p hp).2 b (.inr hb) hl
end
def Shp.off {α : Type} (S : Shp α) (N : Nat → Prop) : Shp α where
 size := S.size
 R w x cs := S.R w x cs ∧ ∀ b, N b → ¬ leads b cs
 len h := S.len h.1
 one h := S.one h.1
 live h := S.live h.1
 keep h hs hk := ⟨S.keep h.1 hs hk, h.2⟩
theorem RwX.off {α : Type} {S : Shp α} {w : World} {e : TypeId} {base : Nat} {v : Value} {l : List α} {N : Nat → Prop} (h : RwX S e w base v l N) : RwO (S.off N) e w base v l := by
 obtain ⟨ps, h1, h2, h3, h4⟩ := h
 exact ⟨ps, h1, fun p hp => ⟨h2 p hp, fun b hb => h4 p hp b (.inr hb)⟩, h3, fun p hp b hb => h4 p hp b (.inl hb)⟩
theorem RwO.on {α : Type} {S : Shp α} {w : World} {e : TypeId} {base : Nat} {v : Value} {l : List α} {N : Nat → Prop} (h : RwO (S.off N) e w base v l) : RwX S e w base v l N := by
 obtain ⟨ps, h1, h2, h3, h4⟩ := h
 exact ⟨ps, h1, fun p hp => (h2 p hp).1, h3, fun p hp b hb => hb.elim (h4 p hp b) ((h2 p hp).2 b)⟩
theorem zn {w : World} {base size n g : Nat} {e e' : TypeId} {v : Value} {xs ys : List Value} (h : w.ownsRow base e size v n xs) (hA : Arr w g e' ys) (hne : e ≠ e') : v.ownBlock ≠ some g := fun hg => by
 rcases h.2 with ⟨rfl, _⟩ | ⟨g', cap, cur, rfl, _, h2, _⟩
 ·cases hg
 ·cases hg
  have h3 := Eq.trans (Eq.symm h2) hA
  simp only [Option.some.injEq, Obj.cells.injEq] at h3
  exact hne h3.2.1
theorem vc {w : World} {g g' : Nat} {e e' : TypeId} {xs ys : List Value} (h : Arr w g e xs) (h' : Arr w g' e' ys) (hne : e ≠ e') : g ≠ g' := fun hg => by
 subst hg
 have h3 := (h : w.heap[g]? = _).symm.trans h'
 simp only [Option.some.injEq, Obj.cells.injEq] at h3
 exact hne h3.2.1
theorem Zw {w : World} {base n : Nat} {size : Nat} {e : TypeId} {v : Value} {xs : List Value} (h : w.ownsRow base e size v n xs) : ∃ A c, v = .slice A n c ∧ Sl w size A n c xs ∧ ∀ a, A = some a → base ≤ a.block := Sl.of_own h
end Go.Proofs.YtngfnjekjfeacaaGreat
namespace Go.Proofs.YtngfnjekjfeacaaGreat
open Go.RowKit
set_option linter.unusedVariables false
def Vz : AccP := ⟨[], [], 0, 0⟩
def xD (l : List RawP) (k : Nat) : AccP := (l.take k).foldl qj Vz
theorem Qw (l : List RawP) (k : Nat) (hk : k < l.length) : xD l (k + 1) = qj (xD l k) l[k] := by
 unfold xD
 rw [List.take_succ_eq_append_getElem hk, List.foldl_append]; rfl
theorem jm (l : List RawP) (k : Nat) : AccOk k (xD l k) := yM l k
structure StW (w : World) (H : Nat) (vb ve : Value) (s : AccP) : Prop where
 box : Arr w (H + 1) 26 [vb, ve, .int .i64 0, .int .i64 (s.clock : Int)]
 res : Arr w H 26 [.slice none 0 0, .slice none 0 0, .int .i64 0, .int .i64 0]
 b : RwX BlobS 50 w (H + 2) vb s.blobs (fun g => (g = H ∨ g = H + 1) ∨ ve.ownBlock = some g)
 e : RwX EntS 36 w (H + 2) ve s.ents (fun g => (g = H ∨ g = H + 1) ∨ vb.ownBlock = some g)
 ne : ∀ g, vb.ownBlock = some g → ve.ownBlock ≠ some g
theorem StW.below {w w' : World} {H : Nat} {vb ve : Value} {s : AccP} (h : StW w H vb ve s) (hb : Below w.heap.size w w') : StW w' H vb ve s :=
 ⟨h.box.below hb, h.res.below hb, h.b.below hb, h.e.below hb, h.ne⟩
theorem jS : El Tryz.prog 23 50 4 56 := El.mk' (z := .agg #[.string ByteArray.empty, .slice none 0 0, .int .i64 0, .bool false]) Tryz.underlying23 (by kernel_rfl) rfl (by omega) (by omega)
theorem Kd : El Tryz.prog 24 36 4 56 := El.mk' (z := .agg #[.string ByteArray.empty, .slice none 0 0, .int .i64 0, .int .i64 0]) Tryz.underlying24 (by kernel_rfl) rfl (by omega) (by omega)
theorem zj (w : World) (g k : Nat) (u : Value) : w.grownBy (w.setCell ⟨g, k, none⟩ u) (some g) := ⟨rfl, rfl, rfl, by simp [World.setCell], fun j _ hj => Below.heap_setCell w _ u j (fun e => hj (by rw [e]))⟩
theorem Arr.grown {w w' : World} {g : Nat} {e : TypeId} {xs : List Value} {r : Option Nat} (h : Arr w g e xs) (hg : w.grownBy w' r) (hne : r ≠ some g) : Arr w' g e xs := (hg.block g h.lt (fun e => hne e.symm)).trans h
theorem ZY (x : BlobP) (B : Option Addr) (c : Nat) : ∀ u ∈ zB x B c, u.oneCell' = true := by
 intro u hu
 simp only [zB, List.mem_cons, List.not_mem_nil, or_false] at hu
 rcases hu with rfl | rfl | rfl | rfl <;> rfl
theorem K1 (x : EntP) (B : Option Addr) (c : Nat) : ∀ u ∈ qh x B c, u.oneCell' = true := by
 intro u hu
 simp only [qh, List.mem_cons, List.not_mem_nil, or_false] at hu
 rcases hu with rfl | rfl | rfl | rfl <;> rfl
theorem xi {x : BlobP} {B : Option Addr} {c b : Nat} (h : leads b (zB x B c)) : ∃ a, B = some a ∧ a.block = b := by
 obtain ⟨a, n, c', hm, rfl⟩ := h
 simp only [zB, List.mem_cons, List.not_mem_nil, or_false, Value.slice.injEq, reduceCtorEq, false_or] at hm
 exact ⟨a, hm.1.symm, rfl⟩
theorem vE {x : EntP} {B : Option Addr} {c b : Nat} (h : leads b (qh x B c)) : ∃ a, B = some a ∧ a.block = b := by
 obtain ⟨a, n, c', hm, rfl⟩ := h
 simp only [qh, List.mem_cons, List.not_mem_nil, or_false, Value.slice.injEq, reduceCtorEq, false_or] at hm
 exact ⟨a, hm.1.symm, rfl⟩
theorem qL.sl {w : World} {base c : Nat} {A : Option Addr} {l : List UInt8} (h : qL w base A c l) : Sl w 1 A l.length c (bys l) ∧ ∀ a, A = some a → base ≤ a.block := by
 have h1 := h.rd
 have h2 := h.cap
 obtain ⟨g, rest, fz, rfl, hb, hg, hl, hm, hf⟩ := h
 exact ⟨⟨h1, h2.1, h2.2, fun a ha => by cases ha; exact (Array.getElem?_eq_some_iff.1 hg).1⟩, fun a ha => by cases ha; exact hb⟩
section
variable {w : World} {H : Nat} {vb ve : Value} {s : AccP}
theorem StW.lt (h : StW w H vb ve s) : H + 1 < w.heap.size := h.box.lt
theorem StW.bB (h : StW w H vb ve s) : ∀ g, vb.ownBlock = some g → H + 2 ≤ g ∧ g < w.heap.size := fun g e => h.b.rwo.blk e
theorem StW.bE (h : StW w H vb ve s) : ∀ g, ve.ownBlock = some g → H + 2 ≤ g ∧ g < w.heap.size := fun g e => h.e.rwo.blk e
theorem StW.rows (h : StW w H vb ve s) (k : Nat) (u : Value) :
  RwX BlobS 50 (w.setCell ⟨H + 1, k, none⟩ u) (H + 2) vb s.blobs (fun g => (g = H ∨ g = H + 1) ∨ ve.ownBlock = some g) ∧ RwX EntS 36 (w.setCell ⟨H + 1, k, none⟩ u) (H + 2) ve s.ents (fun g => (g = H ∨ g = H + 1) ∨ vb.ownBlock = some g) ∧ Arr (w.setCell ⟨H + 1, k, none⟩ u) H 26 [.slice none 0 0, .slice none 0 0, .int .i64 0, .int .i64 0] :=
 ⟨h.b.other (zj w _ k u) (fun b e1 e2 => by cases e1; have := h.bB _ e2; omega) (fun b e => by cases e; exact .inl (.inr rfl)),
  h.e.other (zj w _ k u) (fun b e1 e2 => by cases e1; have := h.bE _ e2; omega) (fun b e => by cases e; exact .inl (.inr rfl)),
  h.res.other (by omega) u⟩
theorem StW.tick (h : StW w H vb ve s) (c : Nat) : StW (w.setCell ⟨H + 1, 3, none⟩ (.int .i64 (c : Int))) H vb ve { s with clock := c } := by
 obtain ⟨h1, h2, h3⟩ := h.rows 3 (.int .i64 (c : Int))
 exact ⟨h.box.set (k := 3) (by simp) _, h3, h1, h2, h.ne⟩
theorem StW.openB (h : StW w H vb ve s) : ∃ xs, w.ownsRow (H + 2) 50 4 vb s.blobs.length xs ∧
  ∀ (x : BlobP) (B : Option Addr) (c u : Nat) (w1 w2 : World) (v2 : Value), Below w.heap.size w w1 → Sl w1 1 B x.data.length c (bys x.data) → (∀ a, B = some a → w.heap.size ≤ a.block) →
   w2.ownsRow (H + 2) 50 4 v2 (s.blobs.length + 1) (xs ++ zB x B c) → w1.grownBy w2 vb.ownBlock → (v2.ownBlock = vb.ownBlock ∨ v2.ownBlock = some w1.heap.size) →
   Arr w2 (H + 1) 26 [vb, ve, .int .i64 0, .int .i64 (s.clock : Int)] ∧ StW (w2.setCell ⟨H + 1, 0, none⟩ v2) H v2 ve { s with blobs := s.blobs ++ [x], used := u } := by
 obtain ⟨xs, hx, hop⟩ := h.b.open_
 refine ⟨xs, hx, fun x B c u w1 w2 v2 hb hs hB ho hg hv => ?_⟩
 have h1 := h.below hb
 have hsz := hb.size
 have b2 := hop x (zB x B c) w1 w2 v2 hb ⟨B, c, rfl, hs⟩ (fun b hb' hl => by
  obtain ⟨a, e1, rfl⟩ := xi hl
  have := hB a e1
  rcases hb' with e | (e | e) | e
  ·have := (h.bB _ e).2; omega
  ·have := h.lt; omega
  ·have := h.lt; omega
  ·have := (h.bE _ e).2; omega) ho hg (hv.imp id fun e => ⟨_, e, Nat.le_refl _⟩)
 have e2 := (((h1.e.wider (N' := fun g => ((g = H ∨ g = H + 1) ∨ vb.ownBlock = some g) ∨ v2.ownBlock = some g) (fun b hb => by
  rcases hb with hb | hb
  ·exact .inl hb
  ·rcases hv with e | e
   ·exact .inl (.inr (e ▸ hb))
   ·rw [e] at hb; cases hb; exact .inr (Nat.le_refl _))).other hg (fun b e1 => h.ne b e1) (fun b e => .inl (.inr e))).wider (N' := fun g => (g = H ∨ g = H + 1) ∨ v2.ownBlock = some g) (fun b hb => .inl (hb.elim (fun e => .inl (.inl e)) .inr)))
 have box2 := h1.box.grown hg (fun e => by have := h.bB _ e; omega)
 have res2 := h1.res.grown hg (fun e => by have := h.bB _ e; omega)
 have bV : ∀ g, v2.ownBlock = some g → H + 2 ≤ g := fun g e => (b2.rwo.blk e).1
 have gs := zj w2 (H + 1) 0 v2
 refine ⟨box2, box2.set (k := 0) (by simp) v2, res2.other (by omega) v2, b2.other gs (fun b e1 e2 => by cases e1; have := bV _ e2; omega) (fun b e => by cases e; exact .inl (.inr rfl)),
  e2.other gs (fun b e1 e2 => by cases e1; have := h.bE _ e2; omega) (fun b e => by cases e; exact .inl (.inr rfl)), fun g e1 e2 => ?_⟩
 rcases hv with e | e
 ·exact h.ne g (e ▸ e1) e2
 ·rw [e] at e1; cases e1; have := (h.bE _ e2).2; omega
theorem StW.openE (h : StW w H vb ve s) : ∃ xs, w.ownsRow (H + 2) 36 4 ve s.ents.length xs ∧
  ∀ (x : EntP) (B : Option Addr) (c : Nat) (w1 w2 : World) (v2 : Value), Below w.heap.size w w1 → Sl w1 3 B x.parts.length c (pcs x.parts) → (∀ a, B = some a → w.heap.size ≤ a.block) →
   w2.ownsRow (H + 2) 36 4 v2 (s.ents.length + 1) (xs ++ qh x B c) → w1.grownBy w2 ve.ownBlock → (v2.ownBlock = ve.ownBlock ∨ ∃ g, v2.ownBlock = some g ∧ w1.heap.size ≤ g) →
   Arr w2 (H + 1) 26 [vb, ve, .int .i64 0, .int .i64 (s.clock : Int)] ∧ StW (w2.setCell ⟨H + 1, 1, none⟩ v2) H vb v2 { s with ents := s.ents ++ [x] } := by
 obtain ⟨xs, hx, hop⟩ := h.e.open_
 refine ⟨xs, hx, fun x B c w1 w2 v2 hb hs hB ho hg hv => ?_⟩
 have h1 := h.below hb
 have hsz := hb.size
 have e2 := hop x (qh x B c) w1 w2 v2 hb ⟨B, c, rfl, hs⟩ (fun b hb' hl => by
  obtain ⟨a, e1, rfl⟩ := vE hl
  have := hB a e1
  rcases hb' with e | (e | e) | e
  ·have := (h.bE _ e).2; omega
  ·have := h.lt; omega
  ·have := h.lt; omega
  ·have := (h.bB _ e).2; omega) ho hg hv
 have b2 := (((h1.b.wider (N' := fun g => ((g = H ∨ g = H + 1) ∨ ve.ownBlock = some g) ∨ v2.ownBlock = some g) (fun b hb => by
  rcases hb with hb | hb
  ·exact .inl hb
  ·rcases hv with e | ⟨g, e, hge⟩
   ·exact .inl (.inr (e ▸ hb))
   ·rw [e] at hb; cases hb; exact .inr hge)).other hg (fun b e1 e2 => h.ne b e2 e1) (fun b e => .inl (.inr e))).wider (N' := fun g => (g = H ∨ g = H + 1) ∨ v2.ownBlock = some g) (fun b hb => .inl (hb.elim (fun e => .inl (.inl e)) .inr)))
 have box2 := h1.box.grown hg (fun e => by have := h.bE _ e; omega)
 have res2 := h1.res.grown hg (fun e => by have := h.bE _ e; omega)
 have bV : ∀ g, v2.ownBlock = some g → H + 2 ≤ g := fun g e => (e2.rwo.blk e).1
 have gs := zj w2 (H + 1) 1 v2
 refine ⟨box2, box2.set (k := 1) (by simp) v2, res2.other (by omega) v2, b2.other gs (fun b e1 e2 => by cases e1; have := h.bB _ e2; omega) (fun b e => by cases e; exact .inl (.inr rfl)),
  e2.other gs (fun b e1 e2 => by cases e1; have := bV _ e2; omega) (fun b e => by cases e; exact .inl (.inr rfl)), fun g e1 e2 => ?_⟩
 rcases hv with e | ⟨g', e, hge⟩
 ·exact h.ne g e1 (e ▸ e2)
 ·rw [e] at e2; cases e2; have := (h.bB _ e1).2; omega
theorem Arr.all4 {w : World} {g : Nat} {e : TypeId} {x0 x1 x2 x3 : Value} (h : Arr w g e [x0, x1, x2, x3]) (y0 y1 y2 y3 : Value) :
  Arr ((((w.setCell ⟨g, 0, none⟩ y0).setCell ⟨g, 1, none⟩ y1).setCell ⟨g, 2, none⟩ y2).setCell ⟨g, 3, none⟩ y3) g e [y0, y1, y2, y3] :=
 (((h.set (k := 0) (by simp) y0).set (k := 1) (by simp) y1).set (k := 2) (by simp) y2).set (k := 3) (by simp) y3
theorem RwX.set {α : Type} {S : Shp α} {w : World} {e : TypeId} {base g k : Nat} {v : Value} {l : List α} {N : Nat → Prop} (h : RwX S e w base v l N) (hg : g < base) (hN : N g) (u : Value) : RwX S e (w.setCell ⟨g, k, none⟩ u) base v l N :=
 h.other (zj w g k u) (fun b e1 e2 => by cases e1; have := (h.rwo.blk e2).1; omega) (fun b e => by cases e; exact hN)
end
end Go.Proofs.YtngfnjekjfeacaaGreat
namespace Go.Proofs.YtngfnjekjfeacaaGreat
open Go.RowKit
set_option linter.unusedVariables false
set_option linter.unusedSimpArgs false
theorem Arr.setsMid {g : Nat} {e : TypeId} : ∀ (ys xs zs ts : List Value) (W : World), Arr W g e (zs ++ (xs ++ ts)) → ys.length = xs.length → Arr (W.setCells g zs.length ys) g e (zs ++ (ys ++ ts))
 | [], [], zs, ts, W, h, _ => h
 | y :: ys, x :: xs, zs, ts, W, h, hl => by
  have h1 := h.set (k := zs.length) (by simp) y
  rw [List.set_append_right _ _ (Nat.le_refl _), Nat.sub_self, List.cons_append, List.set_cons_zero] at h1
  have h2 := Arr.setsMid ys xs (zs ++ [y]) ts _ (by simpa using h1) (by simpa using hl)
  rw [List.append_assoc] at h2
  simp only [List.length_append, List.length_cons, List.length_nil, Nat.zero_add] at h2
  exact h2
theorem XS (b off j : Nat) : (⟨b, off, none⟩ : Addr).add j = ⟨b, off + j, none⟩ := by unfold Addr.add; split <;> simp_all
theorem kT {g k : Nat} (hne : k ≠ g) : ∀ (ys : List Value) (o : Nat) (W : World), (W.setCells g o ys).heap[k]? = W.heap[k]?
 | [], _, _ => rfl
 | y :: ys, o, W => (kT hne ys (o + 1) _).trans (Below.heap_setCell W _ y k hne)
theorem j0 (W : World) (g o : Nat) (ys : List Value) : W.grownBy (W.setCells g o ys) (some g) :=
 have h := Below.sets (B := 0) (g := g) (Nat.zero_le _) ys o W (Below.refl 0 W)
 ⟨h.os, h.tape, h.output, h.size, fun k hk hne => kT (fun e => hne (by rw [e])) ys o W⟩
section
variable {P : Program} {w : World}
theorem Xm {t ty e e' : TypeId} {size bytes : Nat} (E : El P t e size bytes) {base g n cap : Nat} {xs us : List Value} {m c : Nat}
  (hown : w.ownsRow base e size (.slice (some ⟨g, 0, none⟩) n cap) n xs) (hl : us.length = m * size) (h1 : ∀ u ∈ us, u.oneCell' = true) (hroom : n + m ≤ cap) :
  ∃ w', (Builtin.append_ #[t, t] ty #[.slice (some ⟨g, 0, none⟩) n cap, .slice (some ⟨w.heap.size, 0, none⟩) m c]).run P (w.alloc (.cells us.toArray e')) = .ok (.slice (some ⟨g, 0, none⟩) (n + m) cap) w' ∧
   w'.ownsRow base e size (.slice (some ⟨g, 0, none⟩) (n + m) cap) (n + m) (xs ++ us) ∧ w.grownBy w' (some g) := by
 obtain ⟨hu, ⟨i, z, hi, hz, hs, hby, hzs⟩, hp, hq⟩ := E
 subst hs
 obtain ⟨hxl, h2⟩ := hown
 rcases h2 with ⟨h, _⟩ | ⟨g', cap', cur, e1, hb, hg, hn, hm, hsz, ht⟩
 ·cases h
 ·injection e1 with e1 _ e3
  injection e1 with e1
  injection e1 with e1
  subst e1 e3
  have hA0 : Arr w g e cur.toList := by simpa [Arr] using hg
  have hA := hA0.alloc (.cells us.toArray e')
  have hcl : cur.toList.length = cap * i.size := by simpa using hsz
  have hmul : (n + m) * i.size ≤ cap * i.size := Nat.mul_le_mul_right _ hroom
  rw [Nat.add_mul] at hmul
  have hsplit : cur.toList = xs ++ ((cur.toList.drop (n * i.size)).take (m * i.size) ++ cur.toList.drop ((n + m) * i.size)) := by
   have ht' : cur.toList.take (n * i.size) = xs := ht
   rw [← ht', Nat.add_mul, ← List.drop_drop, List.take_append_drop, List.take_append_drop]
  have hlt := hA0.lt
  have hrun := run_append_room_cells (P := P) (w := w.alloc (.cells us.toArray e')) t ty e i hu hi g 0 n cap ⟨w.heap.size, 0, none⟩ m c us hl
   (fun j u hj => by
    show (w.alloc _).cell? ((⟨w.heap.size, 0, none⟩ : Addr).add j) = _
    rw [XS, Nat.zero_add, World.cell?_alloc_new]; simpa using hj) h1 hroom
   (fun j hj => by
    rw [hA.cell (k := 0 + n * i.size + j) (List.getElem?_eq_getElem (by rw [hcl]; omega))]; rfl)
   (fun j hj => hA.frozen _)
  refine ⟨_, hrun, ⟨by rw [List.length_append, hxl, hl, Nat.add_mul], .inr ⟨g, cap, (xs ++ (us ++ cur.toList.drop ((n + m) * i.size))).toArray, rfl, hb, ?_, hroom, hm, ?_, ?_⟩⟩, ?_⟩
  ·rw [hsplit] at hA
   have hA2 := Arr.setsMid us _ xs _ _ hA (by rw [List.length_take, List.length_drop, hcl, hl]; omega)
   rw [Nat.zero_add, ← hxl]
   exact hA2
  ·simp only [List.size_toArray, List.length_append, List.length_drop, hcl, hxl, hl, Nat.add_mul]; omega
  ·simp only [List.toList_toArray]
   rw [← List.append_assoc, List.take_append_of_le_length (by rw [List.length_append, hxl, hl, Nat.add_mul]; exact Nat.le_refl _), List.take_of_length_le (by rw [List.length_append, hxl, hl, Nat.add_mul]; exact Nat.le_refl _)]
  ·have h5 := j0 (w.alloc (.cells us.toArray e')) g (0 + n * i.size) us
   exact ⟨h5.os, h5.tape, h5.output, Nat.le_trans (by rw [World.size_alloc]; omega) h5.size, fun k hk hne => (h5.block k (by simp; omega) hne).trans (Below.heap_alloc _ _ _ hk)⟩
theorem xM {ops : Array Oper} {rest : List Oper} {o : Oper} {a : Act} {Q : Exit → Act → World → Prop} (hgd : o.guard = none) (s x : Operand) {t e e' : TypeId} {size bytes : Nat}
  (ho : o.op = .call { callee := .builtin .append, args := #[s, x], argTypes := #[t, t] }) (E : El P t e size bytes)
  {base g n cap : Nat} {xs : List Value} (hs : a.eval s = .slice (some ⟨g, 0, none⟩) n cap) (hown : w.ownsRow base e size (.slice (some ⟨g, 0, none⟩) n cap) n xs)
  {us : List Value} {m c : Nat} (hx : a.eval x = .slice (some ⟨w.heap.size, 0, none⟩) m c) (hl : us.length = m * size) (h1 : ∀ u ∈ us, u.oneCell' = true) (hroom : n + m ≤ cap)
  (h : ∀ w', w'.ownsRow base e size (.slice (some ⟨g, 0, none⟩) (n + m) cap) (n + m) (xs ++ us) → w.grownBy w' (some g) → wpList P ops Q rest (a.put o.dst (.slice (some ⟨g, 0, none⟩) (n + m) cap)) w') :
  wpList P ops Q (o :: rest) a (w.alloc (.cells us.toArray e')) :=
 wpList_plain hgd fun K hK => by
  obtain ⟨w', hrun, h2, h3⟩ := Xm (P := P) (ty := o.type) (e' := e') E hown hl h1 hroom (c := c)
  unfold Oper.wp execOp
  simp only [ho, resolve, invoke, builtin, Sem.run_bind, Sem.run_pure, Result.andThen_ok, List.map_toArray, List.map_cons, List.map_nil, hs, hx, hrun]
  exact hK _ _ (h w' h2 h3)
end
theorem Sl.other {w : World} {size n c g k : Nat} {A : Option Addr} {xs : List Value} (h : Sl w size A n c xs) (hne : ∀ a, A = some a → a.block ≠ g) (u : Value) : Sl (w.setCell ⟨g, k, none⟩ u) size A n c xs :=
 h.keep (by simp [World.setCell]) fun b hb hl => by
  obtain ⟨a, ha, rfl⟩ := hl
  exact Below.heap_setCell w _ u _ (hne a ha)
end Go.Proofs.YtngfnjekjfeacaaGreat
namespace Go.Proofs.YtngfnjekjfeacaaGreat
open Go.RowKit
set_option linter.unusedVariables false
set_option linter.unusedSimpArgs false
set_option maxRecDepth 100000
set_option maxHeartbeats 8000000 in
theorem Y7 (A : Option Addr) (c : Nat) (l : List BlobP) (w : World) (hl : l.length ≤ 100000) (hd : ∀ b ∈ l, b.data.length ≤ 1000000) (hA : Rw BlobS w A l) :
  Calls Tryz.prog 75 #[.slice A l.length c] w fun e w' => ∃ g, e = .returned (.slice (some ⟨g, 0, none⟩) l.length l.length) ∧ RwX BlobS 50 w' w.heap.size (.slice (some ⟨g, 0, none⟩) l.length l.length) l (fun b => b < w.heap.size) ∧ Below w.heap.size w w' := by
 have HD := Lib.hid hd
 clear hd
 let S := BlobS
 go_enter Tryz.func75, Tryz.ntmps75
 repeat' (fail_if_success (first|at_builtin|at_make));first|go_values|go_skip|go_guarded|go_step|go_upon|go_back
 refine k7 rfl (.const (.int .i64 0)) (.tmp 7) rfl jS l.length (by rfl) (by rfl) rfl (by omega) ?_
 intro w1 g ho1 hb1
 have hx1 : RwX BlobS 50 w1 w.heap.size (.slice (some ⟨g, 0, none⟩) 0 l.length) [] (fun b => b < w.heap.size) := RwX.nil_ ho1
 clear ho1
 repeat' (fail_if_success (first|at_builtin|at_make));first|go_values|go_skip|go_guarded|go_step|go_upon|go_back
 go_loopg [3, 11] l.length (fun gn v i wr => ∃ j : Nat, gn = l.length - j ∧ i = .int .i64 j ∧ j ≤ l.length ∧ v = .slice (some ⟨g, 0, none⟩) j l.length ∧ RwX BlobS 50 wr w.heap.size (.slice (some ⟨g, 0, none⟩) j l.length) (l.take j) (fun b => b < w.heap.size) ∧ Below w.heap.size w wr)
 case atStart => exact ⟨0, rfl, rfl, by omega, rfl, hx1, hb1⟩
 case round =>
  clear hx1 hb1
  obtain ⟨j, hgk, rfl, hj, rfl, hx, hbl⟩ := hrel
  have HGK := Lib.hid hgk
  clear hgk
  by_cases hlt : j < l.length
  ·have hcc : decide (j < l.length) = true := decide_eq_true hlt
   obtain ⟨b, off, B, cb, rfl, hbb, c0, c1, c2, c3, hs⟩ := (hA.below hbl).blob_at j hlt
   have hj0 : (0 : Int) ≤ (j : Int) := by omega
   have hj1 : (j : Int) < (l.length : Int) := by omega
   have HTK := Lib.hid (show l.take (j + 1) = l.take j ++ [l[j]] by rw [List.take_succ_eq_append_getElem hlt])
   have hjl : (l.take j).length = j := by rw [List.length_take]; omega
   have HBD := Lib.hid (HD.out l[j] (List.getElem_mem hlt))
   generalize l[j] = x at *
   obtain ⟨sx, hsx⟩ : ∃ s : ByteArray, s = ⟨x.dig.toArray⟩ := ⟨_, rfl⟩
   rw [← hsx] at c0
   have HSX := Lib.hid hsx
   clear hsx
   have hX : Arr (wr.alloc (.cells #[.string sx, .slice B x.data.length cb, .int .i64 (x.pins : Int), (.bool x.mark)] 50)) wr.heap.size 50 [.string sx, .slice B x.data.length cb, .int .i64 (x.pins : Int), (.bool x.mark)] := Arr.new wr 50 _
   have hba := (Below.refl wr.heap.size wr).alloc (Nat.le_refl _) (.cells #[.string sx, .slice B x.data.length cb, .int .i64 (x.pins : Int), (.bool x.mark)] 50)
   have hs2 := hs.below hba
   have hbl2 := hbl.trans (hba.mono hbl.size)
   have hgw : wr.heap.size < (wr.alloc (.cells #[.string sx, .slice B x.data.length cb, .int .i64 (x.pins : Int), (.bool x.mark)] 50)).heap.size := by simp
   have x1 := hX.cell (k := 1) rfl
   have hxw := hx.wider (N' := fun b => b < w.heap.size ∨ b = wr.heap.size) (fun b hb => hb.elim .inl (fun e => .inr (by omega)))
   have hx2 := hxw.below hba
   have hsz : w.heap.size ≤ wr.heap.size := hbl.size
   have hgx : g < wr.heap.size := (hx.rwo.blk rfl).2
   clear hs hba hbl hx hxw
   repeat' (fail_if_success (first|at_builtin|at_make));first|go_values|go_skip|go_guarded|go_step|go_upon|go_back
   generalize wr.alloc (.cells #[.string sx, .slice B x.data.length cb, .int .i64 (x.pins : Int), (.bool x.mark)] 50) = w2 at *
   generalize wr.heap.size = gx at *
   clear c0 c1 c2 c3 x1
   have HCL := Lib.hid (kS B x.data.length cb x.data w2 rfl hs2.cap (by have := HBD.out; omega) hs2.rd)
   refine ((HCL.out)).mono ?_; rintro e_ w3 ⟨v3, rfl, ho3, hb3⟩; dsimp only
   obtain ⟨A3, c3, rfl, hs3, hl3⟩ := Zw ho3
   have hX3 := hX.below hb3
   have hx3 := hx2.below hb3
   have hbl3 := hbl2.trans (hb3.mono hbl2.size)
   have hx4 := (hx3.other (zj w3 gx 1 (.slice A3 x.data.length c3)) (fun b e1 e2 => by cases e1; have e3 : g = gx := Option.some.inj e2; omega) (fun b e => .inr (by cases e; rfl))).wider (N' := fun b => b < w.heap.size) (fun b hb => .inl (.inl hb))
   have hX4 := hX3.set (k := 1) (by simp) (.slice A3 x.data.length c3)
   have hs4 := hs3.other (g := gx) (k := 1) (fun a ha => by have := hl3 a ha; omega) (.slice A3 x.data.length c3)
   have hbl4 := hbl3.setCell (p := ⟨gx, 1, none⟩) hsz (.slice A3 x.data.length c3)
   have f1 := hX3.frozen 1
   have x1 := hX3.cell (k := 1) rfl
   have z0 := hX4.cell (k := 0) rfl
   have z1 := hX4.cell (k := 1) rfl
   have z2 := hX4.cell (k := 2) rfl
   have z3 := hX4.cell (k := 3) rfl
   have hge3 : ∀ a, A3 = some a → w.heap.size ≤ a.block ∧ a.block ≠ g := fun a ha => by have := hl3 a ha; have := hb3.size; omega
   clear hX hX3 ho3 hs3 hx2 hx3 hs2 hb3 hbl2 hbl3 hl3
   obtain ⟨xs, hxo, hop⟩ := hx4.open_
   rw [hjl] at hxo hop
   have HOP := Lib.hid hop
   clear hop hX4
   repeat' (fail_if_success (first|at_builtin|at_make));first|go_values|go_skip|go_guarded|go_step|go_upon|go_back
   clear x1 f1 z0 z1 z2 z3
   have hz34 : (w3.setCell ⟨gx, 1, none⟩ (.slice A3 x.data.length c3)).heap.size = w3.heap.size := by simp [World.setCell]
   rw [← hz34]
   clear hz34
   generalize w3.setCell ⟨gx, 1, none⟩ (.slice A3 x.data.length c3) = w4 at *
   have hw4 : w.heap.size ≤ w4.heap.size := hbl4.size
   refine xM rfl (.tmp 19) (.tmp 21) rfl jS (by rfl) hxo (us := [.string sx, .slice A3 x.data.length c3, .int .i64 (x.pins : Int), (.bool x.mark)]) (by rfl) rfl (by
    intro u hu
    simp only [List.mem_cons, List.not_mem_nil, or_false] at hu
    rcases hu with rfl | rfl | rfl | rfl <;> rfl) (by omega) ?_
   intro w5 ho5 hg5
   have hcs : S.R w4 x [.string sx, .slice A3 x.data.length c3, .int .i64 (x.pins : Int), (.bool x.mark)] := ⟨A3, c3, by rw [HSX.out]; rfl, hs4⟩
   have hx5 := HOP.out x _ w4 w5 _ (Below.refl _ _) hcs (fun b hb ⟨a, n', c', hm, e⟩ => by
    simp only [List.mem_cons, List.not_mem_nil, or_false, Value.slice.injEq, reduceCtorEq, false_or] at hm
    obtain ⟨q1, q2⟩ := hge3 a hm.1.symm
    rcases hb with hb | hb
    ·cases hb; exact q2 e
    ·omega) ho5 hg5 (.inl rfl)
   have hbl5 := hbl4.grown hg5 hw4 (fun k hk => by cases hk; exact (hx5.rwo.blk rfl).1)
   clear hxo hx4 hs4 hbl4 ho5 hg5 hcs hge3
   rw [← HTK.out] at hx5
   repeat' (fail_if_success (first|at_builtin|at_make));first|go_values|go_skip|go_guarded|go_step|go_upon|go_back
   go_roundg (l.length - (j + 1))
   case measure => have := HGK.out; omega
   case rel => exact ⟨j + 1, rfl, by go_num, by omega, rfl, hx5, hbl5⟩
  ·obtain rfl : j = l.length := by omega
   have hcc : decide (l.length < l.length) = false := by simp
   rw [List.take_length] at hx
   repeat' (fail_if_success (first|at_builtin|at_make));first|go_values|go_skip|go_guarded|go_step|go_upon|go_back
   go_ret
   exact ⟨g, rfl, hx, hbl⟩
set_option maxHeartbeats 8000000 in
theorem Kq (A : Option Addr) (c : Nat) (l : List EntP) (w : World) (hl : l.length ≤ 100000) (hd : ∀ x ∈ l, x.parts.length ≤ 1000000) (hA : Rw EntS w A l) :
  Calls Tryz.prog 76 #[.slice A l.length c] w fun e w' => ∃ g, e = .returned (.slice (some ⟨g, 0, none⟩) l.length l.length) ∧ RwX EntS 36 w' w.heap.size (.slice (some ⟨g, 0, none⟩) l.length l.length) l (fun b => b < w.heap.size) ∧ Below w.heap.size w w' := by
 have HD := Lib.hid hd
 clear hd
 let S := EntS
 go_enter Tryz.func76, Tryz.ntmps76
 repeat' (fail_if_success (first|at_builtin|at_make));first|go_values|go_skip|go_guarded|go_step|go_upon|go_back
 refine k7 rfl (.const (.int .i64 0)) (.tmp 7) rfl Kd l.length (by rfl) (by rfl) rfl (by omega) ?_
 intro w1 g ho1 hb1
 have hx1 : RwX EntS 36 w1 w.heap.size (.slice (some ⟨g, 0, none⟩) 0 l.length) [] (fun b => b < w.heap.size) := RwX.nil_ ho1
 clear ho1
 repeat' (fail_if_success (first|at_builtin|at_make));first|go_values|go_skip|go_guarded|go_step|go_upon|go_back
 go_loopg [3, 11] l.length (fun gn v i wr => ∃ j : Nat, gn = l.length - j ∧ i = .int .i64 j ∧ j ≤ l.length ∧ v = .slice (some ⟨g, 0, none⟩) j l.length ∧ RwX EntS 36 wr w.heap.size (.slice (some ⟨g, 0, none⟩) j l.length) (l.take j) (fun b => b < w.heap.size) ∧ Below w.heap.size w wr)
 case atStart => exact ⟨0, rfl, rfl, by omega, rfl, hx1, hb1⟩
 case round =>
  clear hx1 hb1
  obtain ⟨j, hgk, rfl, hj, rfl, hx, hbl⟩ := hrel
  have HGK := Lib.hid hgk
  clear hgk
  by_cases hlt : j < l.length
  ·have hcc : decide (j < l.length) = true := decide_eq_true hlt
   obtain ⟨b, off, B, cb, rfl, hbb, c0, c1, c2, c3, hs⟩ := (hA.below hbl).ent_at j hlt
   have hj0 : (0 : Int) ≤ (j : Int) := by omega
   have hj1 : (j : Int) < (l.length : Int) := by omega
   have HTK := Lib.hid (show l.take (j + 1) = l.take j ++ [l[j]] by rw [List.take_succ_eq_append_getElem hlt])
   have hjl : (l.take j).length = j := by rw [List.length_take]; omega
   have HBD := Lib.hid (HD.out l[j] (List.getElem_mem hlt))
   generalize l[j] = x at *
   obtain ⟨sx, hsx⟩ : ∃ s : ByteArray, s = ⟨x.key.toArray⟩ := ⟨_, rfl⟩
   rw [← hsx] at c0
   have HSX := Lib.hid hsx
   clear hsx
   have hX : Arr (wr.alloc (.cells #[.string sx, .slice B x.parts.length cb, .int .i64 (x.pins : Int), (.int .i64 (x.stamp : Int))] 36)) wr.heap.size 36 [.string sx, .slice B x.parts.length cb, .int .i64 (x.pins : Int), (.int .i64 (x.stamp : Int))] := Arr.new wr 36 _
   have hba := (Below.refl wr.heap.size wr).alloc (Nat.le_refl _) (.cells #[.string sx, .slice B x.parts.length cb, .int .i64 (x.pins : Int), (.int .i64 (x.stamp : Int))] 36)
   have hs2 := hs.below hba
   have hbl2 := hbl.trans (hba.mono hbl.size)
   have hgw : wr.heap.size < (wr.alloc (.cells #[.string sx, .slice B x.parts.length cb, .int .i64 (x.pins : Int), (.int .i64 (x.stamp : Int))] 36)).heap.size := by simp
   have x1 := hX.cell (k := 1) rfl
   have hxw := hx.wider (N' := fun b => b < w.heap.size ∨ b = wr.heap.size) (fun b hb => hb.elim .inl (fun e => .inr (by omega)))
   have hx2 := hxw.below hba
   have hsz : w.heap.size ≤ wr.heap.size := hbl.size
   have hgx : g < wr.heap.size := (hx.rwo.blk rfl).2
   clear hs hba hbl hx hxw
   repeat' (fail_if_success (first|at_builtin|at_make));first|go_values|go_skip|go_guarded|go_step|go_upon|go_back
   generalize wr.alloc (.cells #[.string sx, .slice B x.parts.length cb, .int .i64 (x.pins : Int), (.int .i64 (x.stamp : Int))] 36) = w2 at *
   generalize wr.heap.size = gx at *
   clear c0 c1 c2 c3 x1
   have HCL := Lib.hid (uq B x.parts.length cb (pcs x.parts) w2 (by have := HBD.out; omega) hs2.rd (QT _))
   refine ((HCL.out)).mono ?_; rintro e_ w3 ⟨v3, rfl, ho3, hb3⟩; dsimp only
   obtain ⟨A3, c3, rfl, hs3, hl3⟩ := Zw ho3
   have hX3 := hX.below hb3
   have hx3 := hx2.below hb3
   have hbl3 := hbl2.trans (hb3.mono hbl2.size)
   have hx4 := (hx3.other (zj w3 gx 1 (.slice A3 x.parts.length c3)) (fun b e1 e2 => by cases e1; have e3 : g = gx := Option.some.inj e2; omega) (fun b e => .inr (by cases e; rfl))).wider (N' := fun b => b < w.heap.size) (fun b hb => .inl (.inl hb))
   have hX4 := hX3.set (k := 1) (by simp) (.slice A3 x.parts.length c3)
   have hs4 := hs3.other (g := gx) (k := 1) (fun a ha => by have := hl3 a ha; omega) (.slice A3 x.parts.length c3)
   have hbl4 := hbl3.setCell (p := ⟨gx, 1, none⟩) hsz (.slice A3 x.parts.length c3)
   have f1 := hX3.frozen 1
   have x1 := hX3.cell (k := 1) rfl
   have z0 := hX4.cell (k := 0) rfl
   have z1 := hX4.cell (k := 1) rfl
   have z2 := hX4.cell (k := 2) rfl
   have z3 := hX4.cell (k := 3) rfl
   have hge3 : ∀ a, A3 = some a → w.heap.size ≤ a.block ∧ a.block ≠ g := fun a ha => by have := hl3 a ha; have := hb3.size; omega
   clear hX hX3 ho3 hs3 hx2 hx3 hs2 hb3 hbl2 hbl3 hl3
   obtain ⟨xs, hxo, hop⟩ := hx4.open_
   rw [hjl] at hxo hop
   have HOP := Lib.hid hop
   clear hop hX4
   repeat' (fail_if_success (first|at_builtin|at_make));first|go_values|go_skip|go_guarded|go_step|go_upon|go_back
   clear x1 f1 z0 z1 z2 z3
   have hz34 : (w3.setCell ⟨gx, 1, none⟩ (.slice A3 x.parts.length c3)).heap.size = w3.heap.size := by simp [World.setCell]
   rw [← hz34]
   clear hz34
   generalize w3.setCell ⟨gx, 1, none⟩ (.slice A3 x.parts.length c3) = w4 at *
   have hw4 : w.heap.size ≤ w4.heap.size := hbl4.size
   refine xM rfl (.tmp 19) (.tmp 21) rfl Kd (by rfl) hxo (us := [.string sx, .slice A3 x.parts.length c3, .int .i64 (x.pins : Int), (.int .i64 (x.stamp : Int))]) (by rfl) rfl (by
    intro u hu
    simp only [List.mem_cons, List.not_mem_nil, or_false] at hu
    rcases hu with rfl | rfl | rfl | rfl <;> rfl) (by omega) ?_
   intro w5 ho5 hg5
   have hcs : S.R w4 x [.string sx, .slice A3 x.parts.length c3, .int .i64 (x.pins : Int), (.int .i64 (x.stamp : Int))] := ⟨A3, c3, by rw [HSX.out]; rfl, hs4⟩
   have hx5 := HOP.out x _ w4 w5 _ (Below.refl _ _) hcs (fun b hb ⟨a, n', c', hm, e⟩ => by
    simp only [List.mem_cons, List.not_mem_nil, or_false, Value.slice.injEq, reduceCtorEq, false_or] at hm
    obtain ⟨q1, q2⟩ := hge3 a hm.1.symm
    rcases hb with hb | hb
    ·cases hb; exact q2 e
    ·omega) ho5 hg5 (.inl rfl)
   have hbl5 := hbl4.grown hg5 hw4 (fun k hk => by cases hk; exact (hx5.rwo.blk rfl).1)
   clear hxo hx4 hs4 hbl4 ho5 hg5 hcs hge3
   rw [← HTK.out] at hx5
   repeat' (fail_if_success (first|at_builtin|at_make));first|go_values|go_skip|go_guarded|go_step|go_upon|go_back
   go_roundg (l.length - (j + 1))
   case measure => have := HGK.out; omega
   case rel => exact ⟨j + 1, rfl, by go_num, by omega, rfl, hx5, hbl5⟩
  ·obtain rfl : j = l.length := by omega
   have hcc : decide (l.length < l.length) = false := by simp
   rw [List.take_length] at hx
   repeat' (fail_if_success (first|at_builtin|at_make));first|go_values|go_skip|go_guarded|go_step|go_upon|go_back
   go_ret
   exact ⟨g, rfl, hx, hbl⟩
end Go.Proofs.YtngfnjekjfeacaaGreat
