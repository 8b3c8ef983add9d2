/- manifest's reader of bytes: its methods. Conditions: the sizes. -/
import Derived.Test.YtkfipkmkmhkfaaaMPl
import Derived.Test.YtkfipkmkmhkfaaaText
namespace Go.Proofs.Ytkfipkmkmhkfaaa
open Go.RowKit
set_option linter.unusedVariables false
set_option linter.unusedSimpArgs false
set_option maxRecDepth 100000

/-- a reader, in a block of its own: the bytes that are left, what is wrong -/
structure Rdr (W : World) (g : Nat) (A : Option Addr) (c : Nat) (l : List UInt8) (e : Nat) : Prop where
  arr : Arr W g 102 [.slice A l.length c, .int .i64 e]
  rd : Rd W 1 A l.length (bys l)
  cap : l.length ≤ c
  ne : ∀ b off, A = some ⟨b, off, none⟩ → 0 < l.length → b ≠ g
  small : l.length ≤ 2000
  cm : c ≤ maxLen

section
variable {W W' : World} {g c e : Nat} {A : Option Addr} {l : List UInt8}
theorem grown_of {w w' : World} (h : Below w.heap.size w w') (row : Option Nat) : w.grownBy w' row := ⟨h.os, h.tape, h.output, h.size, fun k hk _ => h.block k hk⟩
theorem grown_set (w : World) (g k : Nat) (u : Value) : w.grownBy (w.setCell ⟨g, k, none⟩ u) (some g) :=
  ⟨rfl, rfl, rfl, by simp [World.setCell], fun j _ hj => Below.heap_setCell w _ u j (fun e => hj (by rw [e]))⟩
theorem Rd.far {w w' : World} {size n : Nat} {A : Option Addr} {xs : List Value} (h : Rd w size A n xs) (hg : w.grownBy w' (some g)) (hne : ∀ b off, A = some ⟨b, off, none⟩ → 0 < n → b ≠ g) : Rd w' size A n xs :=
  ⟨h.1, fun hn => by
    obtain ⟨b, off, e, hb, hc⟩ := h.2 hn
    have h1 := hne b off e hn
    exact ⟨b, off, e, Nat.lt_of_lt_of_le hb hg.size, fun j u hu => (World.cell?_of_block (hg.block b hb (by intro e'; cases e'; exact h1 rfl))).trans (hc j u hu)⟩⟩
theorem Rdr.below (h : Rdr W g A c l e) (hb : Below W.heap.size W W') : Rdr W' g A c l e := ⟨h.arr.below hb, h.rd.below hb, h.cap, h.ne, h.small, h.cm⟩
theorem Rdr.lt (h : Rdr W g A c l e) : g < W.heap.size := h.arr.lt
/-- the reader's bytes are other ones now, those of a new block -/
theorem Rdr.put (h : Rdr W g A c l e) {A' : Option Addr} {c' : Nat} {l' : List UInt8} {W1 : World} (hb : Below W.heap.size W W1) (ho : OwnB 5 W.heap.size W1 A' c' l') (hl : l'.length ≤ 2000) (e' : Nat) :
    Rdr ((W1.setCell ⟨g, 0, none⟩ (.slice A' l'.length c')).setCell ⟨g, 1, none⟩ (.int .i64 e')) g A' c' l' e' ∧ W.grownBy ((W1.setCell ⟨g, 0, none⟩ (.slice A' l'.length c')).setCell ⟨g, 1, none⟩ (.int .i64 e')) (some g) := by
  have ha := ((h.arr.below hb).set (k := 0) (by simp) (.slice A' l'.length c')).set (k := 1) (by simp) (.int .i64 e')
  have hg := ((grown_of hb (some g)).trans (grown_set W1 g 0 (.slice A' l'.length c'))).trans (grown_set _ g 1 (.int .i64 e'))
  have hne : ∀ b off, A' = some ⟨b, off, none⟩ → 0 < l'.length → b ≠ g := fun b off e _ => by
    have := (ho.own.lt b (by rw [e]; rfl)).1
    have := h.lt
    omega
  refine ⟨⟨ha, ?_, ho.cap, hne, hl, ?_⟩, hg⟩
  · exact ho.rd.far ((grown_set W1 g 0 (.slice A' l'.length c')).trans (grown_set _ g 1 (.int .i64 e'))) hne
  · rcases ho.own.2 with ⟨h1, _⟩ | ⟨_, cap, _, h1, _, _, _, h2, _⟩
    · injection h1 with _ _ h3; subst h3; exact Nat.zero_le _
    · injection h1 with _ _ h3; subst h3; exact h2
end

/-- the bytes that are left lie where they lay, or in a new block -/
def Moved (A A' : Option Addr) (sz : Nat) (l' : List UInt8) : Prop := ∀ b off, A' = some ⟨b, off, none⟩ → 0 < l'.length → (∃ off', A = some ⟨b, off', none⟩) ∨ sz ≤ b
theorem rdGo_err : ∀ (l : List UInt8) (i n : Nat), (rdGo i n l).2.2 ≠ 0 → (rdGo i n l).1 = 0
  | [], i, n, _ => rfl
  | x :: r, i, n, h => by
    simp only [rdGo] at h ⊢
    split at h
    · rename_i h1
      rw [if_pos h1]
      split at h
      · rename_i h2; rw [if_pos h2]
      · exact absurd rfl h
    · rename_i h1
      rw [if_neg h1]
      split at h
      · rename_i h2; rw [if_pos h2]
      · rename_i h2; rw [if_neg h2]; exact rdGo_err r _ _ h
theorem rdGo_rest : ∀ (l : List UInt8) (i n : Nat), (rdGo i n l).2.1.length ≤ l.length
  | [], i, n => Nat.le_refl _
  | x :: r, i, n => by
    simp only [rdGo]
    split
    · split
      · exact Nat.zero_le _
      · simp only [List.length_cons]; omega
    · split
      · exact Nat.zero_le _
      · have := rdGo_rest r (i + 1) (n + x.toNat % 128 * 128 ^ i); simp only [List.length_cons]; omega
theorem rdGo_bound : ∀ (l : List UInt8) (i n : Nat), (rdGo i n l).1 ≤ 4294967295
  | [], i, n => by simp [rdGo]
  | x :: r, i, n => by
    simp only [rdGo]
    split
    · split
      · exact Nat.zero_le _
      · dsimp only; omega
    · split
      · exact Nat.zero_le _
      · exact rdGo_bound r _ _
theorem rdTxt_rest (l : List UInt8) : (rdTxt l).2.1.length ≤ l.length := by
  have h := rdGo_rest l 0 0
  unfold rdTxt rdNum
  generalize rdGo 0 0 l = x at *
  obtain ⟨n, r, e⟩ := x
  dsimp only at h ⊢
  split
  · exact Nat.zero_le _
  · split
    · exact Nat.zero_le _
    · split
      · exact Nat.zero_le _
      · simp only [List.length_drop]; omega

def numR (l : List UInt8) (e : Nat) : Nat × List UInt8 × Nat := if e ≠ 0 then (0, l, e) else rdNum l
def txtR (l : List UInt8) (e : Nat) : List UInt8 × List UInt8 × Nat := if e ≠ 0 then ([], l, e) else rdTxt l
def takR (n : Nat) (l : List UInt8) (e : Nat) : List UInt8 × List UInt8 × Nat := if e ≠ 0 then ([], l, e) else if l.length < n then ([], l, 8) else (l.take n, l.drop n, 0)

theorem number_ok {g c e : Nat} {A : Option Addr} {l : List UInt8} {w : World} (h : Rdr w g A c l e) :
    Calls Try.prog 55 #[.pointer (some ⟨g, 0, none⟩)] w fun x w' => ∃ A' c', x = .returned (.int .i64 ((numR l e).1 : Nat)) ∧ Rdr w' g A' c' (numR l e).2.1 (numR l e).2.2 ∧ w.grownBy w' (some g) ∧ Moved A A' w.heap.size (numR l e).2.1 := by
  have f0 := h.arr.cell (k := 0) rfl
  have f1 := h.arr.cell (k := 1) rfl
  by_cases e0 : e = 0
  · have hfin : numR l e = rdNum l := by rw [numR, if_neg (by simpa using e0)]
    rw [hfin]
    obtain ⟨m, r, er, hrd⟩ : ∃ m r er, rdNum l = (m, r, er) := ⟨_, _, _, rfl⟩
    have hrl := rdGo_rest l 0 0
    have HR := Lib.hid (fun w' hr => ReadNumber_at (A := A) (n := l.length) (c := c) (w := w') (er : Int) rfl hrd rfl h.cap (by have := h.small; omega) hr)
    rw [show rdGo 0 0 l = (m, r, er) from hrd] at hrl
    rw [hrd]
    have hsm := h.small
    dsimp only at hrl ⊢
    have e1 : ((e : Int) != 0) = false := by rw [bne_eq_false_iff_eq]; omega
    clear e0 hfin hrd
    go_enter Try.func55, Try.ntmps55
    repeat' ((fail_if_success at_builtin); (fail_if_success at_make); (first | go_values | go_skip | go_guarded | go_step | go_upon | go_back))
    refine ((HR.out w h.rd)).mono ?_; rintro e_ w1 ⟨A1, c1, rfl, ho1, hb1⟩; dsimp only
    have hA1 := h.arr.below hb1
    have k0 := hA1.cell (k := 0) rfl
    have k1 := hA1.cell (k := 1) rfl
    have z0 := hA1.frozen 0
    have z1 := hA1.frozen 1
    have hA2 := hA1.set (k := 0) (by simp) (.slice A1 r.length c1)
    have k2 := hA2.cell (k := 1) rfl
    have z2 := hA2.frozen 1
    have hp := h.put hb1 ho1 (by omega) er
    clear f0 f1
    repeat' ((fail_if_success at_builtin); (fail_if_success at_make); (first | go_values | go_skip | go_guarded | go_step | go_upon | go_back))
    go_ret
    exact ⟨A1, c1, rfl, hp.1, hp.2, fun b off e _ => .inr (ho1.own.lt b (by rw [e]; rfl)).1⟩
  · have hfin : numR l e = (0, l, e) := by rw [numR, if_pos e0]
    rw [hfin]
    have e1 : ((e : Int) != 0) = true := by rw [bne_iff_ne]; omega
    clear e0 hfin
    go_enter Try.func55, Try.ntmps55
    repeat' ((fail_if_success at_builtin); (fail_if_success at_make); (first | go_values | go_skip | go_guarded | go_step | go_upon | go_back))
    go_ret
    exact ⟨A, c, rfl, h, World.grownBy.refl _ _, fun b off e _ => .inl ⟨off, e⟩⟩
theorem text_ok {g c e : Nat} {A : Option Addr} {l : List UInt8} {w : World} (h : Rdr w g A c l e) :
    Calls Try.prog 56 #[.pointer (some ⟨g, 0, none⟩)] w fun x w' => ∃ A' c', x = .returned (.string ⟨(txtR l e).1.toArray⟩) ∧ Rdr w' g A' c' (txtR l e).2.1 (txtR l e).2.2 ∧ w.grownBy w' (some g) ∧ Moved A A' w.heap.size (txtR l e).2.1 := by
  have f0 := h.arr.cell (k := 0) rfl
  have f1 := h.arr.cell (k := 1) rfl
  by_cases e0 : e = 0
  · have hfin : txtR l e = rdTxt l := by rw [txtR, if_neg (by simpa using e0)]
    rw [hfin]
    obtain ⟨m, r, er, hrd⟩ : ∃ m r er, rdTxt l = (m, r, er) := ⟨_, _, _, rfl⟩
    have hrl := rdTxt_rest l
    have HR := Lib.hid (fun w' hr => ReadText_at (A := A) (n := l.length) (c := c) (w := w') (er : Int) rfl hrd rfl h.cap (by have := h.small; omega) hr)
    rw [hrd] at hrl
    rw [hrd]
    have hsm := h.small
    dsimp only at hrl ⊢
    have e1 : ((e : Int) != 0) = false := by rw [bne_eq_false_iff_eq]; omega
    clear e0 hfin hrd
    go_enter Try.func56, Try.ntmps56
    repeat' ((fail_if_success at_builtin); (fail_if_success at_make); (first | go_values | go_skip | go_guarded | go_step | go_upon | go_back))
    refine ((HR.out w h.rd)).mono ?_; rintro e_ w1 ⟨A1, c1, rfl, ho1, hb1⟩; dsimp only
    have hA1 := h.arr.below hb1
    have k0 := hA1.cell (k := 0) rfl
    have k1 := hA1.cell (k := 1) rfl
    have z0 := hA1.frozen 0
    have z1 := hA1.frozen 1
    have hA2 := hA1.set (k := 0) (by simp) (.slice A1 r.length c1)
    have k2 := hA2.cell (k := 1) rfl
    have z2 := hA2.frozen 1
    have hp := h.put hb1 ho1 (by omega) er
    clear f0 f1
    repeat' ((fail_if_success at_builtin); (fail_if_success at_make); (first | go_values | go_skip | go_guarded | go_step | go_upon | go_back))
    go_ret
    exact ⟨A1, c1, rfl, hp.1, hp.2, fun b off e _ => .inr (ho1.own.lt b (by rw [e]; rfl)).1⟩
  · have hfin : txtR l e = ([], l, e) := by rw [txtR, if_pos e0]
    rw [hfin]
    have e1 : ((e : Int) != 0) = true := by rw [bne_iff_ne]; omega
    clear e0 hfin
    go_enter Try.func56, Try.ntmps56
    repeat' ((fail_if_success at_builtin); (fail_if_success at_make); (first | go_values | go_skip | go_guarded | go_step | go_upon | go_back))
    go_ret
    exact ⟨A, c, rfl, h, World.grownBy.refl _ _, fun b off e _ => .inl ⟨off, e⟩⟩

theorem take_ok {g c e : Nat} {A : Option Addr} {l : List UInt8} {w : World} (n : Nat) (N : Int) (hN : (n : Int) = N) (hn : n ≤ 2000) (h : Rdr w g A c l e) :
    Calls Try.prog 57 #[.pointer (some ⟨g, 0, none⟩), .int .i64 N] w fun x w' => ∃ A1 c1 A' c', x = .returned (.slice A1 (takR n l e).1.length c1) ∧ (takR n l e).1.length ≤ c1 ∧ Rd w' 1 A1 (takR n l e).1.length (bys (takR n l e).1) ∧ Rdr w' g A' c' (takR n l e).2.1 (takR n l e).2.2 ∧ w.grownBy w' (some g) ∧ Moved A A' w.heap.size (takR n l e).2.1 := by
  subst hN
  have f0 := h.arr.cell (k := 0) rfl
  have f1 := h.arr.cell (k := 1) rfl
  have z0 := h.arr.frozen 0
  have z1 := h.arr.frozen 1
  by_cases e0 : e = 0
  · have e1 : ((e : Int) == 0) = true := by rw [beq_iff_eq]; omega
    have e2 : ((e : Int) != 0) = false := by rw [bne_eq_false_iff_eq]; omega
    by_cases hlt : l.length < n
    · have hfin : takR n l e = ([], l, 8) := by rw [takR, if_neg (by simpa using e0), if_pos hlt]
      rw [hfin]
      have e3 : decide (l.length < n) = true := by simpa using hlt
      have hA2 := h.arr.set (k := 1) (by simp) (.int .i64 8)
      have k0 := hA2.cell (k := 0) rfl
      have k1 := hA2.cell (k := 1) rfl
      have hR : Rdr (w.setCell ⟨g, 1, none⟩ (.int .i64 8)) g A c l 8 := ⟨hA2, h.rd.far (grown_set w g 1 _) h.ne, h.cap, h.ne, h.small, h.cm⟩
      have hG := grown_set w g 1 (.int .i64 8)
      have HR := Lib.hid hR
      clear hfin e0 hlt hR
      go_enter Try.func57, Try.ntmps57
      repeat' ((fail_if_success at_builtin); (fail_if_success at_make); (first | go_values | go_skip | go_guarded | go_step | go_upon | go_back))
      go_ret
      exact ⟨none, 0, A, c, rfl, Nat.zero_le _, Rd.nil_, HR.out, hG, fun b off e _ => .inl ⟨off, e⟩⟩
    · have hfin : takR n l e = (l.take n, l.drop n, 0) := by rw [takR, if_neg (by simpa using e0), if_neg hlt]
      rw [hfin]
      have e3 : decide (l.length < n) = false := by simpa using hlt
      have hle : (n : Int) ≤ (c : Int) := by have := h.cap; omega
      have hle2 : (n : Int) ≤ (l.length : Int) := by omega
      have hcm : (c : Int) ≤ 9223372036854775807 := by have := h.cm; unfold maxLen at this; omega
      have hll : (l.drop n).length = l.length - n := List.length_drop
      have htl : (l.take n).length = n := by rw [List.length_take]; omega
      have r1 := h.rd.pre (k := n) (by omega)
      rw [Nat.mul_one, bys_take] at r1
      have k0n : n ≤ l.length := by omega
      have hcap := h.cap
      have hng := h.ne
      have r2 := h.rd.cut (k := n) (cap := c) k0n hcap
      rw [Nat.mul_one, bys_drop] at r2
      obtain ⟨A', hA'⟩ : ∃ A', A' = (if c = n then A else A.map (·.add n)) := ⟨_, rfl⟩
      rw [← hA'] at r2
      have hA2 := h.arr.set (k := 0) (by simp) (.slice A' (l.length - n) (c - n))
      have hG := grown_set w g 0 (.slice A' (l.length - n) (c - n))
      have hmv : ∀ b off, A' = some ⟨b, off, none⟩ → 0 < l.length - n → ∃ off', A = some ⟨b, off', none⟩ := fun b off e' h0 => by
        obtain ⟨b2, o2, e2, _⟩ := h.rd.2 (show 0 < l.length by omega)
        rw [e2] at hA'
        have : b = b2 := by
          rw [hA'] at e'
          split at e'
          · cases e'; rfl
          · simp only [Option.map_some, Option.some.injEq] at e'
            have := congrArg Addr.block e'
            rw [addBlock] at this
            exact this.symm
        rw [this]
        exact ⟨o2, e2⟩
      have hne' : ∀ b off, A' = some ⟨b, off, none⟩ → 0 < l.length - n → b ≠ g := fun b off e' h0 => by
        obtain ⟨o2, e2⟩ := hmv b off e' h0
        exact hng b o2 e2 (by omega)
      have HM := Lib.hid (show Moved A A' w.heap.size (l.drop n) from fun b off e' h0 => .inl (hmv b off e' (by rw [hll] at h0; exact h0)))
      have hR : Rdr (w.setCell ⟨g, 0, none⟩ (.slice A' (l.length - n) (c - n))) g A' (c - n) (l.drop n) 0 := by
        refine ⟨?_, ?_, by rw [hll]; omega, by rw [hll]; exact hne', by rw [hll]; have := h.small; omega, by have := h.cm; omega⟩
        · rw [hll]
          have he0 : (e : Int) = ((0 : Nat) : Int) := by omega
          rw [he0] at hA2
          exact hA2
        · rw [hll]; exact r2.far hG hne'
      have r1' := r1.far hG (fun b off e' h0 => hng b off e' (by omega))
      have HR := Lib.hid hR
      have HA := Lib.hid hA'
      rw [htl]
      have hlt' : ¬ n ≤ c → False := fun h => h (by omega)
      have hnc : n ≤ c := by omega
      clear hfin e0 hlt hR hA' hne' r2 r1 hll htl hA2
      go_enter Try.func57, Try.ntmps57
      repeat' ((fail_if_success at_builtin); (fail_if_success at_make); (first | go_values | go_skip | go_guarded | go_step | go_upon | go_back))
      rw [← HA.out]
      go_ret
      exact ⟨A, c, A', c - n, rfl, hnc, r1', HR.out, hG, HM.out⟩
  · have hfin : takR n l e = ([], l, e) := by rw [takR, if_pos e0]
    rw [hfin]
    have e1 : ((e : Int) == 0) = false := by rw [beq_eq_false_iff_ne]; omega
    have e2 : ((e : Int) != 0) = true := by rw [bne_iff_ne]; omega
    clear e0 hfin
    go_enter Try.func57, Try.ntmps57
    repeat' ((fail_if_success at_builtin); (fail_if_success at_make); (first | go_values | go_skip | go_guarded | go_step | go_upon | go_back))
    go_ret
    exact ⟨none, 0, A, c, rfl, Nat.zero_le _, Rd.nil_, h, World.grownBy.refl _ _, fun b off e _ => .inl ⟨off, e⟩⟩
end Go.Proofs.Ytkfipkmkmhkfaaa
