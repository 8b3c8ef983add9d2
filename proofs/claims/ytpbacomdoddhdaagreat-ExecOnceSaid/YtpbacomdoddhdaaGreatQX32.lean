/- Lemmas of the proof. Conditions: as stated. -/
import Derived.Test.YtpbacomdoddhdaaGreatQX31
import Derived.Maps.GroupsBeside
set_option linter.unusedVariables false
set_option linter.unusedSimpArgs false
set_option maxRecDepth 100000
namespace Go.Proofs.YtpbacomdoddhdaaGreat
open Go.RowKit Go.Maps
open Go.ChangeShapes (lits)
def grp (fs : List FlP) (k : List UInt8) : List Int :=
 match fnd 0 fs k with
 | none => []
 | some i => match fs[i]? with
  | none => []
  | some p => p.lead :: p.wait
theorem ZC {fs : List FlP} {k : List UInt8} {i : Nat} (h : fnd 0 fs k = some i) (hi : i < fs.length) : grp fs k = fs[i].lead :: fs[i].wait := by
 rw [grp, h]; simp only [List.getElem?_eq_getElem hi]
theorem Yt : ∀ (fs : List FlP) (i j : Nat) (k : List UInt8), fnd i fs k = some j → ∃ h : j - i < fs.length, i ≤ j ∧ fs[j - i].key = k
 | p :: r, i, j, k, h => by
  rw [fnd] at h
  split at h
  ·rename_i e
   cases h
   refine ⟨by simp, Nat.le_refl _, ?_⟩
   simp only [Nat.sub_self, List.getElem_cons_zero]
   exact e
  ·obtain ⟨h1, h2, h3⟩ := Yt r (i + 1) j k h
   refine ⟨by simp only [List.length_cons]; omega, by omega, ?_⟩
   have e : j - i = (j - (i + 1)) + 1 := by omega
   simp only [e, List.getElem_cons_succ]
   exact h3
theorem ki {fs : List FlP} {j : Nat} {k : List UInt8} (h : fnd 0 fs k = some j) : ∃ h : j < fs.length, fs[j].key = k := by
 obtain ⟨h1, _, h2⟩ := Yt fs 0 j k h
 exact ⟨h1, h2⟩
theorem yg : ∀ (fs : List FlP) (p : FlP) (i : Nat) (k : List UInt8), fnd i (fs ++ [p]) k = match fnd i fs k with | some j => some j | none => if p.key = k then some (i + fs.length) else none
 | [], p, i, k => by simp [fnd]
 | f :: fs, p, i, k => by
  rw [List.cons_append, fnd, fnd]
  by_cases h : f.key = k
  ·rw [if_pos h, if_pos h]
  ·rw [if_neg h, if_neg h, yg fs p (i + 1) k, show i + 1 + fs.length = i + (f :: fs).length by simp only [List.length_cons]; omega]
theorem uy {fs : List FlP} {k : List UInt8} {n : Int} (h : fnd 0 fs k = none) : grp (fs ++ [⟨k, n, []⟩]) k = [n] := by
 have e : fnd 0 (fs ++ [(⟨k, n, []⟩ : FlP)]) k = some fs.length := by rw [yg, h]; simp
 rw [ZC e (by simp)]
 simp
theorem vd {fs : List FlP} {k k' : List UInt8} {n : Int} (h : k ≠ k') : grp (fs ++ [⟨k, n, []⟩]) k' = grp fs k' := by
 unfold grp
 rw [yg]
 cases e : fnd 0 fs k' with
 | none => simp [h]
 | some j =>
  obtain ⟨hj, _⟩ := ki e
  simp only []
  rw [List.getElem?_append_left hj]
theorem um (fs : List FlP) (i : Nat) (p : FlP) (hi : i < fs.length) (hk : p.key = fs[i].key) : (fs.set i p).map (·.key) = fs.map (·.key) := by
 rw [List.map_set]
 apply List.ext_getElem
 ·simp
 ·intro j h1 h2
  rw [List.getElem_set]
  split
  ·rename_i e; subst e; simpa using hk
  ·rfl
theorem jz {fs : List FlP} {k : List UInt8} {i : Nat} {p : FlP} (h : fnd 0 fs k = some i) (hi : i < fs.length) (hk : p.key = fs[i].key) : grp (fs.set i p) k = p.lead :: p.wait := by
 have e : fnd 0 (fs.set i p) k = some i := by rw [kM (fs.set i p) fs 0 k (um fs i p hi hk), h]
 rw [ZC e (by simpa using hi)]
 simp
theorem uW {fs : List FlP} {k k' : List UInt8} {i : Nat} {p : FlP} (h : fnd 0 fs k = some i) (hi : i < fs.length) (hk : p.key = fs[i].key) (hne : k ≠ k') : grp (fs.set i p) k' = grp fs k' := by
 unfold grp
 rw [kM (fs.set i p) fs 0 k' (um fs i p hi hk)]
 cases e : fnd 0 fs k' with
 | none => rfl
 | some j =>
  have hne' : i ≠ j := by
   rintro rfl
   obtain ⟨_, e1⟩ := ki e
   obtain ⟨_, e2⟩ := ki h
   exact hne (e2.symm.trans e1)
  simp only []
  rw [List.getElem?_set_ne hne']
def grpD (l : List Int) : DataW Unit := match l with | [] => .nil | _ :: _ => .slice (lits .i64 l) []
structure WhoD (fs : List FlP) (D : DataW Unit) : Prop where
 tidy : Tidy D
 size : size D = fs.length
 has : ∀ k, Maps.has D (.string k) = (fnd 0 fs k).isSome
 at_ : ∀ k, D.atKey (.string k) .nil = grpD (grp fs k)
theorem WhoD.nil_ : WhoD [] (.map []) := ⟨tidy_empty, rfl, fun _ => rfl, fun _ => rfl⟩
theorem vL (k : List UInt8) : WideAt.IsKeyLit (.string k) := by simp [WideAt.IsKeyLit]
theorem WhoD.new {fs : List FlP} {D : DataW Unit} {k : List UInt8} {n : Int} (h : WhoD fs D) (hf : fnd 0 fs k = none) : WhoD (fs ++ [⟨k, n, []⟩]) (D.put (.string k) (grpD [n])) := by
 have hh : Maps.has D (.string k) = false := by rw [h.has, hf]; rfl
 refine ⟨h.tidy.put (vL k) _, ?_, fun k' => ?_, fun k' => ?_⟩
 ·rw [size_put h.tidy, hh, h.size]; simp
 ·by_cases e : k' = k
  ·subst e
   rw [has_put_same h.tidy.isMap (vL k') _, yg, hf]; simp
  ·rw [has_put_other (by simpa using e), h.has, yg]
   cases fnd 0 fs k' with
   | none => simp [Ne.symm e]
   | some j => rfl
 ·by_cases e : k' = k
  ·subst e
   rw [atKey_put_same h.tidy.isMap (vL k') _ _, uy hf]
  ·rw [atKey_put_other (by simpa using e), h.at_, vd (Ne.symm e)]
theorem WhoD.more {fs : List FlP} {D : DataW Unit} {k : List UInt8} {i : Nat} {p : FlP} (h : WhoD fs D) (hf : fnd 0 fs k = some i) (hi : i < fs.length) (hk : p.key = fs[i].key) : WhoD (fs.set i p) (D.put (.string k) (grpD (p.lead :: p.wait))) := by
 have hh : Maps.has D (.string k) = true := by rw [h.has, hf]; rfl
 refine ⟨h.tidy.put (vL k) _, ?_, fun k' => ?_, fun k' => ?_⟩
 ·rw [size_put h.tidy, hh, h.size, List.length_set]; simp
 ·rw [kM (fs.set i p) fs 0 k' (um fs i p hi hk)]
  by_cases e : k' = k
  ·subst e
   rw [has_put_same h.tidy.isMap (vL k') _, hf]; rfl
  ·rw [has_put_other (by simpa using e), h.has]
 ·by_cases e : k' = k
  ·subst e
   rw [atKey_put_same h.tidy.isMap (vL k') _ _, jz hf hi hk]
  ·rw [atKey_put_other (by simpa using e), h.at_, uW hf hi hk (Ne.symm e)]
section
variable {P : Program} {k e : TypeId} {q : IntKind} {wr w : World} {base b n : Nat} {D : DataW Unit}
end
theorem FlsO.low {w w' : World} {base : Nat} {v : Value} {fs : List FlP} {row : Option Nat} (h : FlsO w base v fs) (hg : w.grownBy w' row) (hr : ∀ j, row = some j → j < base) : FlsO w' base v fs := by
 have off : ∀ {u : Value} {e s m : Nat} {xs : List Value}, w.ownsRow base e s u m xs → w'.ownsRow base e s u m xs := fun {u e s m xs} ho => by
  refine ho.kept hg ?_
  cases hu : u.ownBlock with
  | none => exact .inl rfl
  | some g => exact .inr (fun e1 => by have := (ho.lt g hu).1; have := hr g e1.symm; omega)
 obtain ⟨As, h1, h2, h3, h4⟩ := h
 exact ⟨As, h1, off h2, fun k p a hp ha => ⟨off (h3 k p a hp ha).1, (h3 k p a hp ha).2⟩, h4⟩
end Go.Proofs.YtpbacomdoddhdaaGreat
namespace Go.Proofs.YtpbacomdoddhdaaGreat
theorem zX : ∀ (fs : List FlP) (i : Nat) (k : List UInt8), fnd i fs k = none ↔ ∀ p ∈ fs, p.key ≠ k
 | [], i, k => by simp [fnd]
 | f :: fs, i, k => by
  rw [fnd]
  by_cases h : f.key = k
  ·rw [if_pos h]
   constructor
   ·intro e; cases e
   ·intro e; exact absurd h (e f (by simp))
  ·rw [if_neg h, zX fs (i + 1) k]
   constructor
   ·intro e p hp
    rcases List.mem_cons.1 hp with rfl | hp
    ·exact h
    ·exact e p hp
   ·intro e p hp; exact e p (by simp [hp])
theorem GoodF.nodup {fs : List FlP} (h : GoodF fs) : (fs.map (·.key)).Nodup := by
 rw [List.Nodup, List.pairwise_map, List.pairwise_iff_getElem]
 intro i j hi hj hij
 have h1 := (zX _ _ _).1 (h.one j hj) fs[i] (by
  rw [List.mem_take_iff_getElem]; exact ⟨i, by omega, rfl⟩)
 exact h1
theorem GoodF.of {fs : List FlP} (h6 : fs.length ≤ 6) (h : ∀ p ∈ fs, (hexC p.key = 0 ∧ p.key.length ≤ 1000) ∧ p.wait.length ≤ 5 ∧ CrewOk (p.lead :: p.wait)) (hn : (fs.map (·.key)).Nodup) : GoodF fs := by
 refine ⟨h6, fun j hj => (h _ (List.getElem_mem hj)).1, fun j hj => ?_, fun j hj => (h _ (List.getElem_mem hj)).2.1, fun j hj => (h _ (List.getElem_mem hj)).2.2⟩
 rw [zX]
 intro p hp
 rw [List.mem_take_iff_getElem] at hp
 obtain ⟨i, hi, rfl⟩ := hp
 rw [List.Nodup, List.pairwise_map, List.pairwise_iff_getElem] at hn
 exact hn i j (by omega) hj (by omega)
theorem GoodF.all {fs : List FlP} (h : GoodF fs) : ∀ p ∈ fs, (hexC p.key = 0 ∧ p.key.length ≤ 1000) ∧ p.wait.length ≤ 5 ∧ CrewOk (p.lead :: p.wait) := fun p hp => by
 obtain ⟨j, hj, rfl⟩ := List.mem_iff_getElem.1 hp
 exact ⟨h.key j hj, h.few j hj, h.crew j hj⟩
theorem GoodF.erase {fs : List FlP} (h : GoodF fs) (i : Nat) : GoodF (fs.eraseIdx i) := by
 refine GoodF.of ?_ (fun p hp => h.all p (List.mem_of_mem_eraseIdx hp)) ?_
 ·have := List.length_eraseIdx_le fs i
  have := h.len
  omega
 ·exact h.nodup.sublist ((List.eraseIdx_sublist fs i).map _)
theorem vm {fs : List FlP} (hn : (fs.map (·.key)).Nodup) {i : Nat} (hi : i < fs.length) : fnd 0 (fs.eraseIdx i) fs[i].key = none := by
 rw [zX]
 intro p hp e
 rw [List.eraseIdx_eq_take_drop_succ] at hp
 rw [List.Nodup, List.pairwise_map, List.pairwise_iff_getElem] at hn
 rcases List.mem_append.1 hp with h | h
 ·rw [List.mem_take_iff_getElem] at h
  obtain ⟨j, hj, rfl⟩ := h
  exact hn j i (by omega) hi (by omega) e
 ·rw [List.mem_drop_iff_getElem] at h
  obtain ⟨j, hj, rfl⟩ := h
  exact hn i (i + 1 + j) hi (by omega) (by omega) e.symm
end Go.Proofs.YtpbacomdoddhdaaGreat
namespace Go.Proofs.YtpbacomdoddhdaaGreat
open Go.RowKit Go.Maps
theorem FlsO.cap {w : World} {base : Nat} {v : Value} {fs : List FlP} (h : FlsO w base v fs) : ∀ A n c, v = .slice A n c → c ≤ maxLen := by
 rintro A n c rfl
 obtain ⟨As, h1, h2, h3, h4⟩ := h
 rcases h2.2 with ⟨h1, h2⟩ | ⟨_, cap, _, h1, _, _, h2, h3, _⟩
 ·injection h1 with _ _ h3; subst h3; simp [maxLen]
 ·injection h1 with _ _ h4; subst h4; exact h3
theorem Xs (A B : Option Addr) (c d : Nat) (l : List Int) (w : World) (hn : l.length ≤ 9223372036854775807) (h1 : Rd w 1 A l.length (ins l)) (h2 : Rd w 1 B l.length (ins l)) :
  Calls Tryz.prog 38 #[.slice A l.length c, .slice B l.length d] w fun e w' => e = .returned (.bool true) ∧ ∃ q, w' = w.drewN q := by
 rcases Nat.eq_zero_or_pos l.length with h0 | h0
 ·rw [h0]
  refine (Tryz.slices_Equal_int_empty A B c 0 d w (by omega)).mono ?_
  rintro e w' ⟨rfl, rfl⟩
  exact ⟨by simp, 0, rfl⟩
 ·obtain ⟨b1, o1, rfl, _, hc1⟩ := h1.2 (by omega)
  obtain ⟨b2, o2, rfl, _, hc2⟩ := h2.2 (by omega)
  have hg : ∀ j, j < l.length → (ins l)[j]? = some (.int .i64 (l.getD j 0)) := fun j hj => by
   rw [ins, List.getElem?_map, List.getElem?_eq_getElem hj, List.getD_eq_getElem?_getD, List.getElem?_eq_getElem hj]; rfl
  refine (Tryz.slices_Equal_int b1 o1 l.length c b2 o2 l.length d l l w (Nat.le_refl _) (Nat.le_refl _) hn hn (fun j hj => hc1 j _ (hg j hj)) (fun j hj => hc2 j _ (hg j hj))).mono ?_
  rintro e w' ⟨rfl, h⟩
  exact ⟨by simp, h⟩
end Go.Proofs.YtpbacomdoddhdaaGreat
namespace Go.Proofs.YtpbacomdoddhdaaGreat
open Go.RowKit
theorem XT (s : ByteArray) (ld : Int) (A B : Option Addr) (c d : Nat) (l : List Int) (w : World) (hn : l.length ≤ 9223372036854775807) (h1 : Rd w 1 A l.length (ins l)) (h2 : Rd w 1 B l.length (ins l)) :
  Calls Tryz.prog 95 #[.agg #[.string s, .int .i64 ld, .slice A l.length c], .agg #[.string s, .int .i64 ld, .slice B l.length d]] w fun e w' => e = .returned (.bool true) ∧ Below w.heap.size w w' := by
 obtain ⟨W, hW, hA, hB, hb⟩ := q4 w 142 [.string s, .int .i64 ld, .slice A l.length c] [.string s, .int .i64 ld, .slice B l.length d]
 have HE := Lib.hid (Xs A B c d l W hn (h1.below hb) (h2.below hb))
 have a0 := hA.cell (k := 0) rfl
 have a1 := hA.cell (k := 1) rfl
 have a2 := hA.cell (k := 2) rfl
 have b0 := hB.cell (k := 0) rfl
 have b1 := hB.cell (k := 1) rfl
 have b2 := hB.cell (k := 2) rfl
 rw [hW] at a0 a1 a2 b0 b1 b2
 go_enter Tryz.func95, Tryz.ntmps95
 go_wp2_with fail
 rw [← hW] at a0 a1 a2 b0 b1 b2 ⊢
 clear hW
 refine ((HE.out)).mono ?_; rintro e_ w1 ⟨rfl, ⟨q1, hq1⟩⟩; dsimp only
 have hb1 : Below W.heap.size W w1 := by rw [hq1]; exact below_drewN (Below.refl _ _) q1
 clear hq1
 go_wp2_with fail
 go_ret
 exact ⟨rfl, hb.trans (hb1.mono hb.size)⟩
set_option maxHeartbeats 4000000 in
theorem XA (A B : Option Addr) (c d : Nat) (fs : List FlP) (w : World) (hn : fs.length ≤ 1000000) (hw : ∀ p ∈ fs, p.wait.length ≤ 1000000) (h1 : Fls w A fs) (h2 : Fls w B fs) :
  Calls Tryz.prog 94 #[.slice A fs.length c, .slice B fs.length d, .func (.func 95) #[] #[]] w fun e w' => e = .returned (.bool true) ∧ Below w.heap.size w w' := by
 have HWT := Lib.hid hw
 clear hw
 go_enter Tryz.func94, Tryz.ntmps94
 go_wp2_with fail
 go_loopg [17] fs.length (fun gn i wr => ∃ j : Nat, gn = fs.length - j ∧ i = .int .i64 j ∧ j ≤ fs.length ∧ Below w.heap.size w wr)
 case atStart => exact ⟨0, rfl, rfl, by omega, Below.refl _ _⟩
 case round =>
  obtain ⟨j, hgk, rfl, hj, hbl⟩ := hrel
  have HGK := Lib.hid hgk
  clear hgk
  by_cases hlt : j < fs.length
  ·have hcc : decide (j < fs.length) = true := decide_eq_true hlt
   obtain ⟨ba, oa, BA, ca, rfl, hba, c0, c1, c2, hra, _, _⟩ := (h1.below hbl).at_ j hlt
   obtain ⟨bb, ob, BB, cb, rfl, hbb, d0, d1, d2, hrb, _, _⟩ := (h2.below hbl).at_ j hlt
   have hwl := HWT.out _ (List.getElem_mem hlt)
   have hj0 : (0 : Int) ≤ (j : Int) := by omega
   have hj1 : (j : Int) < (fs.length : Int) := by omega
   generalize (⟨fs[j].key.toArray⟩ : ByteArray) = s at *
   generalize fs[j].lead = ld at *
   generalize fs[j].wait = wt at *
   obtain ⟨W, hW, hA, hB, hb⟩ := q4 wr 142 [.string s, .int .i64 ld, .slice BA wt.length ca] [.string s, .int .i64 ld, .slice BB wt.length cb]
   have HE := Lib.hid (XT s ld BA BB ca cb wt W (by omega) (hra.below hb) (hrb.below hb))
   have a0 := hA.cell (k := 0) rfl
   have a1 := hA.cell (k := 1) rfl
   have a2 := hA.cell (k := 2) rfl
   have b0 := hB.cell (k := 0) rfl
   have b1 := hB.cell (k := 1) rfl
   have b2 := hB.cell (k := 2) rfl
   have e0 : (wr.alloc (.cells #[.string s, .int .i64 ld, .slice BA wt.length ca] 142)).cell? ⟨bb, ob + j * 3, none⟩ = some (.string s) := (World.cell?_alloc_lt wr _ _ hbb).trans d0
   have e1 : (wr.alloc (.cells #[.string s, .int .i64 ld, .slice BA wt.length ca] 142)).cell? ⟨bb, ob + j * 3 + 1, none⟩ = some (.int .i64 ld) := (World.cell?_alloc_lt wr _ _ hbb).trans d1
   have e2 : (wr.alloc (.cells #[.string s, .int .i64 ld, .slice BA wt.length ca] 142)).cell? ⟨bb, ob + j * 3 + 2, none⟩ = some (.slice BB wt.length cb) := (World.cell?_alloc_lt wr _ _ hbb).trans d2
   rw [hW] at a0 a1 a2 b0 b1 b2
   have HW := Lib.hid hW
   clear hW hA hB d0 d1 d2 hra hrb
   go_wp2_with fail
   rw [← HW.out] at a0 a1 a2 b0 b1 b2 ⊢
   refine ((HE.out)).mono ?_; rintro e_ w5 ⟨rfl, hb5⟩; dsimp only
   have hb05 := hbl.trans ((hb.trans (hb5.mono hb.size)).mono hbl.size)
   go_wp2_with fail
   go_roundg (fs.length - (j + 1))
   case measure => have := HGK.out; omega
   case rel => exact ⟨j + 1, rfl, by go_num, by omega, hb05⟩
  ·obtain rfl : j = fs.length := by omega
   have hcc : decide (fs.length < fs.length) = false := by simp
   go_wp2_with fail
   go_ret
   exact ⟨rfl, hbl⟩
end Go.Proofs.YtpbacomdoddhdaaGreat
