/- flight.Copy. Conditions: the sizes. -/
import Derived.Test.YtefhbgbhknobjaaFChk
import Derived.Test.YtefhbgbhknobjaaList
import Derived.Test.YtefhbgbhknobjaaArr
namespace Go.Proofs.Ytefhbgbhknobjaa
open Go.RowKit
set_option linter.unusedVariables false
set_option linter.unusedSimpArgs false
set_option maxRecDepth 100000

theorem elFl : El Try.prog 23 31 3 48 := El.mk' (z := .agg #[.string ByteArray.empty, .int .i64 0, .slice none 0 0]) Try.underlying23 (by kernel_rfl) rfl (by omega) (by omega)
theorem CloneI_ok (A : Option Addr) (c : Nat) (l : List Int) (w : World) (hb : l.length ≤ 1000000) (hr : Rd w 1 A l.length (ins l)) :
    Calls Try.prog 26 #[.slice A l.length c] w fun e w' => ∃ v, e = .returned v ∧ w'.ownsRow w.heap.size 3 1 v l.length (ins l) ∧ Below w.heap.size w w' := by
  have heq := fun W => Lib.run_eql_slice_nil (P := Try.prog) W 29 3 A l.length c 0 0 Try.underlying29
  cases A with
  | none =>
    have h0 : l.length = 0 := by
      rcases Nat.eq_zero_or_pos l.length with h | h
      · exact h
      · obtain ⟨_, _, h1, _⟩ := hr.2 h; cases h1
    obtain rfl : l = [] := List.eq_nil_of_length_eq_zero h0
    have heq := fun W => Lib.run_eql_slice_nil (P := Try.prog) W 29 3 none 0 c 0 0 Try.underlying29
    rw [List.length_nil]
    go_enter Try.func26, Try.ntmps26
    repeat' ((fail_if_success at_builtin); (fail_if_success at_make); (first | go_values | go_skip | go_guarded | go_step | go_upon | go_back))
    go_ret
    exact ⟨_, rfl, World.ownsRow_nil _ _ _ _, Below.refl _ _⟩
  | some ad =>
    go_enter Try.func26, Try.ntmps26
    repeat' ((fail_if_success at_builtin); (fail_if_success at_make); (first | go_values | go_skip | go_guarded | go_step | go_upon | go_back))
    refine wpList_ap rfl (.tmp 5) (.tmp 6) rfl elInt (by rfl) (World.ownsRow_made (size := 1) w #[] 0 (Nat.le_refl _) (by simp [maxLen]) rfl) (by rfl) (hr.alloc _) (ins_one l) (by omega) (by simp) ?_
    intro v1 w1 hown1 hg1 _
    have hb1 := below_own ((Below.refl _ _).alloc (Nat.le_refl _) _) (World.ownsRow_made (size := 1) w #[] 0 (Nat.le_refl _) (by simp [maxLen]) rfl) (Nat.le_refl _) hg1
    repeat' ((fail_if_success at_builtin); (fail_if_success at_make); (first | go_values | go_skip | go_guarded | go_step | go_upon | go_back))
    go_ret
    exact ⟨_, rfl, by simpa using hown1, hb1⟩

def cellsF (fs : List FlP) (As : List (Option Addr × Nat)) : List Value := (fs.zip As).flatMap fun x => fcell x.1 x.2.1 x.2.2
/-- the block of a slice -/
def blk (a : Option Addr × Nat) : Option Nat := a.1.map (·.block)
theorem blk_own (a : Option Addr × Nat) (n : Nat) : (Value.slice a.1 n a.2).ownBlock = blk a := by
  obtain ⟨A, c⟩ := a
  cases A <;> rfl
/-- a slice of flights of one's own, each one's waiters in a row apart -/
def FlsO (w : World) (base : Nat) (v : Value) (fs : List FlP) : Prop :=
  ∃ (As : List (Option Addr × Nat)), As.length = fs.length ∧ w.ownsRow base 31 3 v fs.length (cellsF fs As) ∧
    (∀ (k : Nat) (p : FlP) (a : Option Addr × Nat), fs[k]? = some p → As[k]? = some a → w.ownsRow base 3 1 (.slice a.1 p.wait.length a.2) p.wait.length (ins p.wait) ∧ ∀ g, blk a = some g → v.ownBlock ≠ some g) ∧
    (∀ (k j : Nat) (a b : Option Addr × Nat), k < j → As[k]? = some a → As[j]? = some b → ∀ g, blk a = some g → blk b ≠ some g)
theorem own_cap {w : World} {base n c : Nat} {A : Option Addr} {e : TypeId} {xs : List Value} (h : w.ownsRow base e 1 (.slice A n c) n xs) : n ≤ c ∧ c ≤ maxLen := by
  rcases h.2 with ⟨h1, h2⟩ | ⟨_, cap, _, h1, _, _, h2, h3, _⟩
  · injection h1 with _ _ h3; subst h3; omega
  · injection h1 with _ _ h4; subst h4; exact ⟨h2, h3⟩
theorem FlsO.fls {w : World} {base : Nat} {v : Value} {fs : List FlP} (h : FlsO w base v fs) : ∃ A c, v = .slice A fs.length c ∧ fs.length ≤ c ∧ Fls w A fs := by
  obtain ⟨As, h1, h2, h3, h4⟩ := h
  obtain ⟨A, c, rfl, hc, hr⟩ := Rd.of_own' h2
  refine ⟨A, c, rfl, hc, As, h1, hr, fun k p a hp ha => ?_⟩
  have ho := (h3 k p a hp ha).1
  exact ⟨Rd.of_own ho, own_cap ho⟩
theorem FlsO.nil_ (w : World) (base : Nat) (v : Value) (h : w.ownsRow base 31 3 v 0 []) : FlsO w base v [] :=
  ⟨[], rfl, h, (fun k p a hp _ => by cases hp), (fun k j a b _ ha => by cases ha)⟩
theorem FlsO.below {w w' : World} {base : Nat} {v : Value} {fs : List FlP} (h : FlsO w base v fs) (hb : Below w.heap.size w w') : FlsO w' base v fs := by
  obtain ⟨As, h1, h2, h3, h4⟩ := h
  exact ⟨As, h1, own_below h2 hb, (fun k p a hp ha => ⟨own_below (h3 k p a hp ha).1 hb, (h3 k p a hp ha).2⟩), h4⟩
theorem FlsO.lower {w : World} {base b' : Nat} {v : Value} {fs : List FlP} (h : FlsO w base v fs) (hb : b' ≤ base) : FlsO w b' v fs := by
  obtain ⟨As, h1, h2, h3, h4⟩ := h
  exact ⟨As, h1, own_lower h2 hb, (fun k p a hp ha => ⟨own_lower (h3 k p a hp ha).1 hb, (h3 k p a hp ha).2⟩), h4⟩
theorem cellsF_snoc : ∀ (fs : List FlP) (As : List (Option Addr × Nat)) (p : FlP) (a : Option Addr × Nat), As.length = fs.length → cellsF (fs ++ [p]) (As ++ [a]) = cellsF fs As ++ fcell p a.1 a.2
  | [], [], p, a, _ => by simp [cellsF]
  | f :: fs, b :: As, p, a, h => by
    have ih := cellsF_snoc fs As p a (by simpa using h)
    simp only [cellsF] at ih ⊢
    rw [List.cons_append, List.cons_append, List.zip_cons_cons, List.zip_cons_cons, List.flatMap_cons, List.flatMap_cons, ih, List.append_assoc]
/-- one flight more -/
theorem FlsO.snoc {w w' : World} {base : Nat} {v v' : Value} {fs : List FlP} {p : FlP} {B : Option Addr} {c : Nat} {As : List (Option Addr × Nat)} (h1 : As.length = fs.length)
    (h3 : ∀ (k : Nat) (p : FlP) (a : Option Addr × Nat), fs[k]? = some p → As[k]? = some a → w.ownsRow base 3 1 (.slice a.1 p.wait.length a.2) p.wait.length (ins p.wait) ∧ ∀ g, blk a = some g → v.ownBlock ≠ some g)
    (h4 : ∀ (k j : Nat) (a b : Option Addr × Nat), k < j → As[k]? = some a → As[j]? = some b → ∀ g, blk a = some g → blk b ≠ some g)
    (ho : w'.ownsRow base 31 3 v' (fs.length + 1) (cellsF fs As ++ fcell p B c))
    (hg : w.grownBy w' v.ownBlock) (hv : v'.ownBlock = v.ownBlock ∨ ∃ g, v'.ownBlock = some g ∧ w.heap.size ≤ g)
    (hB : w.ownsRow base 3 1 (.slice B p.wait.length c) p.wait.length (ins p.wait)) (hne : ∀ g, blk (B, c) = some g → v.ownBlock ≠ some g)
    (hfr : ∀ (k : Nat) (a : Option Addr × Nat), As[k]? = some a → ∀ g, blk a = some g → blk (B, c) ≠ some g) : FlsO w' base v' (fs ++ [p]) := by
  have keep : ∀ (a : Option Addr × Nat) (l : List Int), w.ownsRow base 3 1 (.slice a.1 l.length a.2) l.length (ins l) → (∀ g, blk a = some g → v.ownBlock ≠ some g) →
      w'.ownsRow base 3 1 (.slice a.1 l.length a.2) l.length (ins l) ∧ ∀ g, blk a = some g → v'.ownBlock ≠ some g := fun a l hr hn => by
    refine ⟨hr.kept hg ?_, fun g e => ?_⟩
    · rw [blk_own]
      cases hb : blk a with
      | none => exact .inl rfl
      | some g => exact .inr (fun h => hn g hb h.symm)
    · rcases hv with h | ⟨g', h, hge⟩
      · rw [h]; exact hn g e
      · rw [h]
        have := (hr.lt g (by rw [blk_own]; exact e)).2
        intro h'; cases h'; omega
  refine ⟨As ++ [(B, c)], by simp [h1], ?_, fun k q a hq ha => ?_, fun k j a b hkj ha hb g hag => ?_⟩
  · rw [cellsF_snoc fs As p (B, c) h1, List.length_append]; exact ho
  · by_cases hk : k < fs.length
    · rw [List.getElem?_append_left hk] at hq
      rw [List.getElem?_append_left (by omega)] at ha
      obtain ⟨i1, i2⟩ := h3 k q a hq ha
      exact keep a q.wait i1 i2
    · rw [List.getElem?_append_right (by omega)] at hq ha
      have hk0 : k - fs.length = 0 := by
        have := (List.getElem?_eq_some_iff.1 hq).1; simp at this; exact this
      rw [h1, hk0] at ha
      rw [hk0] at hq
      simp only [List.getElem?_cons_zero, Option.some.injEq] at hq ha
      subst hq ha
      exact keep (B, c) p.wait hB hne
  · have hjl := (List.getElem?_eq_some_iff.1 hb).1
    rw [List.length_append] at hjl
    simp only [List.length_cons, List.length_nil] at hjl
    rw [List.getElem?_append_left (by omega)] at ha
    by_cases hj : j < As.length
    · rw [List.getElem?_append_left hj] at hb
      exact h4 k j a b hkj ha hb g hag
    · rw [List.getElem?_append_right (by omega)] at hb
      have : j - As.length = 0 := by omega
      rw [this] at hb
      simp only [List.getElem?_cons_zero, Option.some.injEq] at hb
      subst hb
      exact hfr k a ha g hag

set_option maxHeartbeats 4000000 in
theorem FCopy_ok (A : Option Addr) (c : Nat) (fs : List FlP) (w : World) (hn : fs.length ≤ 1000) (hw : ∀ p ∈ fs, p.wait.length ≤ 1000) (hf : Fls w A fs) (hc : fs.length ≤ c) :
    Calls Try.prog 21 #[.slice A fs.length c] w fun e w' => ∃ v, e = .returned v ∧ FlsO w' w.heap.size v fs ∧ Below w.heap.size w w' := by
  have HWT := Lib.hid hw
  clear hw
  go_enter Try.func21, Try.ntmps21
  repeat' ((fail_if_success at_builtin); (fail_if_success at_make); (first | go_values | go_skip | go_guarded | go_step | go_upon | go_back))
  refine wpList_mk rfl _ _ rfl elFl fs.length rfl rfl (by omega) (by omega) ?_
  intro w1 g1 hown1 hb1
  have ho1 := FlsO.nil_ w1 w.heap.size _ hown1
  repeat' ((fail_if_success at_builtin); (fail_if_success at_make); (first | go_values | go_skip | go_guarded | go_step | go_upon | go_back))
  go_loopg [3, 11, 5] fs.length (fun gn v i u wr => ∃ k : Nat, gn = fs.length - k ∧ i = .int .i64 k ∧ k ≤ fs.length ∧ FlsO wr w.heap.size v (fs.take k) ∧ Below w.heap.size w wr)
  case atStart => exact ⟨0, rfl, rfl, by omega, ho1, hb1⟩
  case round =>
    clear ho1 hown1 hb1
    obtain ⟨k, hgq, rfl, hk, ho, hbl⟩ := hrel
    have HGK := Lib.hid hgq
    clear hgq
    by_cases hlt : k < fs.length
    · have hcc : decide (k < fs.length) = true := decide_eq_true hlt
      obtain ⟨b, off, B, cb, rfl, hbb, c0, c1, c2, hrw, hwc, hcbm⟩ := (hf.below hbl).at_ k hlt
      have hwl := HWT.out fs[k] (List.getElem_mem hlt)
      have HST := Lib.hid (show fs.take (k + 1) = fs.take k ++ [fs[k]] from List.take_succ_eq_append_getElem hlt)
      have htl : (fs.take k).length = k := by rw [List.length_take]; omega
      obtain ⟨p, hp⟩ : ∃ p, p = fs[k] := ⟨_, rfl⟩
      rw [← hp] at c0 c1 c2 hrw hwc hwl HST
      obtain ⟨s, hs⟩ : ∃ s : ByteArray, s = ⟨p.key.toArray⟩ := ⟨_, rfl⟩
      rw [← hs] at c0
      have HS := Lib.hid hs
      have HTL := Lib.hid htl
      have hk0 : (0 : Int) ≤ (k : Int) := by omega
      have hk1 : (k : Int) < (fs.length : Int) := by omega
      obtain ⟨ld, hld⟩ : ∃ x, x = p.lead := ⟨_, rfl⟩
      rw [← hld] at c1
      have HLD := Lib.hid hld
      have hP1 : Arr (wr.alloc (.cells #[.string s, .int .i64 ld, .slice B p.wait.length cb] 31)) wr.heap.size 31 [.string s, .int .i64 ld, .slice B p.wait.length cb] := Arr.new wr _ _
      have hbr1 := (Below.refl wr.heap.size wr).alloc (Nat.le_refl _) (.cells #[.string s, .int .i64 ld, .slice B p.wait.length cb] 31)
      have hs1 : (wr.alloc (.cells #[.string s, .int .i64 ld, .slice B p.wait.length cb] 31)).heap.size = wr.heap.size + 1 := World.size_alloc _ _
      have hrw1 := hrw.alloc (.cells #[.string s, .int .i64 ld, .slice B p.wait.length cb] 31)
      clear hs hp hld htl hrw
      repeat' ((fail_if_success at_builtin); (fail_if_success at_make); (first | go_values | go_skip | go_guarded | go_step | go_upon | go_back))
      generalize wr.alloc (.cells #[.string s, .int .i64 ld, .slice B p.wait.length cb] 31) = w1 at *
      obtain ⟨gp, hgp⟩ : ∃ gp, gp = wr.heap.size := ⟨_, rfl⟩
      rw [← hgp] at hP1 ⊢
      have HGP := Lib.hid hgp
      clear hgp c0 c1 c2
      refine ((CloneI_ok B cb p.wait w1 (by omega) hrw1)).mono ?_; rintro e_ w2 ⟨v2, rfl, ho2, hb2⟩; dsimp only
      have hbr2 := hbr1.trans (hb2.mono hbr1.size)
      have hP2 := hP1.below hb2
      have hrd2 : ∀ b, v2.ownBlock = some b → b ≠ gp := fun b h => by have := (ho2.lt b h).1; have := HGP.out; omega
      obtain ⟨A2, c2, rfl, hc2, hr2⟩ := Rd.of_own' ho2
      have hc2m : c2 ≤ maxLen := by
        rcases ho2.2 with ⟨h1, h2⟩ | ⟨_, cap, _, h1, _, _, _, h2, _⟩
        · injection h1 with _ _ h3; subst h3; exact Nat.zero_le _
        · injection h1 with _ _ h3; subst h3; exact h2
      have y2 := hP2.cell (k := 2) rfl
      have z2 := hP2.frozen 2
      have hP3 := hP2.set (k := 2) (by simp) (.slice A2 p.wait.length c2)
      have hbr3 : Below wr.heap.size wr (w2.setCell ⟨gp, 2, none⟩ (.slice A2 p.wait.length c2)) := Below.setCell hbr2 (by show wr.heap.size ≤ gp; have := HGP.out; omega) _
      have hr3 : Rd (w2.setCell ⟨gp, 2, none⟩ (.slice A2 p.wait.length c2)) 1 A2 p.wait.length (ins p.wait) := by
        refine ⟨hr2.1, fun h0 => ?_⟩
        obtain ⟨b', o', e', hb', hcc'⟩ := hr2.2 h0
        have hn' := hrd2 b' (by rw [e']; rfl)
        subst e'
        exact (hr2.other hn' _).2 h0
      have hbelow2 : True := trivial
      have f0 := hP3.cell (k := 0) rfl
      have f1 := hP3.cell (k := 1) rfl
      have f2 := hP3.cell (k := 2) rfl
      have hneA : ∀ b off, A2 = some ⟨b, off, none⟩ → 0 < p.wait.length → wr.heap.size ≤ b := fun b off e _ => by
        have := (ho2.lt b (by rw [e]; rfl)).1; omega
      have ho22 := own_other (k := 2) (u := .slice A2 p.wait.length c2) ho2 (fun h => hrd2 gp h rfl)
      clear ho2 hr2 hrw1
      repeat' ((fail_if_success at_builtin); (fail_if_success at_make); (first | go_values | go_skip | go_guarded | go_step | go_upon | go_back))
      have hsz : (w2.setCell ⟨gp, 2, none⟩ (.slice A2 p.wait.length c2)).heap.size = w2.heap.size := by simp [World.setCell]
      rw [← hsz]
      obtain ⟨w3, hw3⟩ : ∃ w3, w3 = w2.setCell ⟨gp, 2, none⟩ (.slice A2 p.wait.length c2) := ⟨_, rfl⟩
      rw [← hw3] at hbr3 hr3 ho22 ⊢
      clear f0 f1 f2 y2 z2 hP3 hw3 hsz
      obtain ⟨As, j1, j2, j3, j4⟩ := ho
      have i1 := j1
      have i2 := own_below j2 hbr3
      have i3 := fun (k : Nat) (p : FlP) (a : Option Addr × Nat) hp ha => (⟨own_below (j3 k p a hp ha).1 hbr3, (j3 k p a hp ha).2⟩ : _ ∧ _)
      have i4 := j4
      have OLD := Lib.hid (show ∀ k' a, As[k']? = some a → ∀ g, blk a = some g → g < wr.heap.size from fun k' a ha g hg => by
        have hkl := (List.getElem?_eq_some_iff.1 ha).1
        have hq : (fs.take k)[k']? = some ((fs.take k)[k']'(by omega)) := List.getElem?_eq_getElem _
        exact ((j3 k' _ a hq ha).1.lt g (by rw [blk_own]; exact hg)).2)
      have hfc : fcell p A2 c2 = [.string s, .int .i64 ld, .slice A2 p.wait.length c2] := by rw [fcell, ← HS.out, ← HLD.out]
      rw [HTL.out] at i2
      refine wpList_apN rfl (.tmp 19) (.tmp 21) rfl elFl (by rfl) i2 (us := [.string s, .int .i64 ld, .slice A2 p.wait.length c2]) (m := 1) (by rfl) rfl (by intro u hu; simp at hu; rcases hu with rfl | rfl | rfl <;> rfl) (by omega) (Nat.le_trans hbl.size hbr3.size) ?_
      intro v5 w5 ho5 hg5 hv5
      have hlt5 : ∀ g', v5.ownBlock = some g' → w.heap.size ≤ g' := fun g' h => (ho5.lt g' h).1
      have hbel5 : Below w.heap.size w w5 := (hbl.trans (hbr3.mono hbl.size)).grown hg5 (Nat.le_trans hbl.size hbr3.size) (fun k hk => (i2.lt k hk).1)
      rw [← hfc] at ho5
      have hlow : w.heap.size ≤ w1.heap.size := Nat.le_trans hbl.size hbr1.size
      have ho6 := FlsO.snoc (p := p) (B := A2) (c := c2) i1 i3 i4 (by rw [HTL.out]; exact ho5) hg5 hv5 (own_lower ho22 hlow) (fun g h h' => by
        have h1 := (ho22.lt g (by rw [blk_own (A2, c2)]; exact h)).1
        have := (j2.lt g h').2
        omega) (fun k' a ha g h h' => by
        have h1 := (ho22.lt g (by rw [blk_own (A2, c2)]; exact h')).1
        have := OLD.out k' a ha g h
        omega)
      rw [← HST.out] at ho6
      clear i1 i2 i3 i4 j1 j2 j3 j4 ho22 ho5 hg5 hv5 hr3 hbr3 hlt5
      repeat' ((fail_if_success at_builtin); (fail_if_success at_make); (first | go_values | go_skip | go_guarded | go_step | go_upon | go_back))
      go_roundg (fs.length - (k + 1))
      case measure => have := HGK.out; omega
      case rel => exact ⟨k + 1, rfl, by go_num, by omega, ho6, hbel5⟩
    · obtain rfl : k = fs.length := by omega
      have hcc : decide (fs.length < fs.length) = false := by simp
      rw [List.take_length] at ho
      obtain ⟨A5, c5, rfl, _, _⟩ := ho.fls
      repeat' ((fail_if_success at_builtin); (fail_if_success at_make); (first | go_values | go_skip | go_guarded | go_step | go_upon | go_back))
      go_ret
      exact ⟨_, rfl, ho, hbl⟩
end Go.Proofs.Ytefhbgbhknobjaa
