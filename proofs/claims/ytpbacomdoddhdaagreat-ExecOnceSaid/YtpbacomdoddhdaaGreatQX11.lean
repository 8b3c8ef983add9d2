/- Lemmas of the proof. Conditions: as stated. -/
import Derived.Test.YtpbacomdoddhdaaGreatQX10
set_option linter.unusedVariables false
set_option linter.unusedSimpArgs false
set_option maxRecDepth 100000
namespace Go.Proofs.YtpbacomdoddhdaaGreat
open Go.RowKit
theorem Arr.setsMid {g : Nat} {e : TypeId} : ∀ (ys xs zs ts : List Value) (W : World), Arr W g e (zs ++ (xs ++ ts)) → ys.length = xs.length → Arr (W.setCells g zs.length ys) g e (zs ++ (ys ++ ts))
 | [], [], zs, ts, W, h, _ => h
 | y :: ys, x :: xs, zs, ts, W, h, hl => by
  have h1 := h.set (k := zs.length) (by simp) y
  rw [List.set_append_right _ _ (Nat.le_refl _), Nat.sub_self, List.cons_append, List.set_cons_zero] at h1
  have h2 := Arr.setsMid ys xs (zs ++ [y]) ts _ (by simpa using h1) (by simpa using hl)
  rw [List.append_assoc] at h2
  simp only [List.length_append, List.length_cons, List.length_nil, Nat.zero_add] at h2
  exact h2
theorem uw (b off j : Nat) : (⟨b, off, none⟩ : Addr).add j = ⟨b, off + j, none⟩ := by unfold Addr.add; split <;> simp_all
theorem yn {g k : Nat} (hne : k ≠ g) : ∀ (ys : List Value) (o : Nat) (W : World), (W.setCells g o ys).heap[k]? = W.heap[k]?
 | [], _, _ => rfl
 | y :: ys, o, W => (yn hne ys (o + 1) _).trans (Below.heap_setCell W _ y k hne)
theorem jS (W : World) (g o : Nat) (ys : List Value) : W.grownBy (W.setCells g o ys) (some g) :=
 have h := Below.sets (B := 0) (g := g) (Nat.zero_le _) ys o W (Below.refl 0 W)
 ⟨h.os, h.tape, h.output, h.size, fun k hk hne => yn (fun e => hne (by rw [e])) ys o W⟩
section
variable {P : Program} {w : World}
theorem Uf {t ty e e' : TypeId} {size bytes : Nat} (E : El P t e size bytes) {base g n cap : Nat} {xs us : List Value} {m c : Nat}
  (hown : w.ownsRow base e size (.slice (some ⟨g, 0, none⟩) n cap) n xs) (hl : us.length = m * size) (h1 : ∀ u ∈ us, u.oneCell' = true) (hroom : n + m ≤ cap) :
  ∃ w', (Builtin.append_ #[t, t] ty #[.slice (some ⟨g, 0, none⟩) n cap, .slice (some ⟨w.heap.size, 0, none⟩) m c]).run P (w.alloc (.cells us.toArray e')) = .ok (.slice (some ⟨g, 0, none⟩) (n + m) cap) w' ∧
   w'.ownsRow base e size (.slice (some ⟨g, 0, none⟩) (n + m) cap) (n + m) (xs ++ us) ∧ w.grownBy w' (some g) := by
 obtain ⟨hu, ⟨i, z, hi, hz, hs, hby, hzs⟩, hp, hq⟩ := E
 subst hs
 obtain ⟨hxl, h2⟩ := hown
 rcases h2 with ⟨h, _⟩ | ⟨g', cap', cur, e1, hb, hg, hn, hm, hsz, ht⟩
 ·cases h
 ·injection e1 with e1 _ e3
  injection e1 with e1
  injection e1 with e1
  subst e1 e3
  have hA0 : Arr w g e cur.toList := by simpa [Arr] using hg
  have hA := hA0.alloc (.cells us.toArray e')
  have hcl : cur.toList.length = cap * i.size := by simpa using hsz
  have hmul : (n + m) * i.size ≤ cap * i.size := Nat.mul_le_mul_right _ hroom
  rw [Nat.add_mul] at hmul
  have hsplit : cur.toList = xs ++ ((cur.toList.drop (n * i.size)).take (m * i.size) ++ cur.toList.drop ((n + m) * i.size)) := by
   have ht' : cur.toList.take (n * i.size) = xs := ht
   rw [← ht', Nat.add_mul, ← List.drop_drop, List.take_append_drop, List.take_append_drop]
  have hlt := hA0.lt
  have hrun := run_append_room_cells (P := P) (w := w.alloc (.cells us.toArray e')) t ty e i hu hi g 0 n cap ⟨w.heap.size, 0, none⟩ m c us hl
   (fun j u hj => by
    show (w.alloc _).cell? ((⟨w.heap.size, 0, none⟩ : Addr).add j) = _
    rw [uw, Nat.zero_add, World.cell?_alloc_new]; simpa using hj) h1 hroom
   (fun j hj => by
    rw [hA.cell (k := 0 + n * i.size + j) (List.getElem?_eq_getElem (by rw [hcl]; omega))]; rfl)
   (fun j hj => hA.frozen _)
  refine ⟨_, hrun, ⟨by rw [List.length_append, hxl, hl, Nat.add_mul], .inr ⟨g, cap, (xs ++ (us ++ cur.toList.drop ((n + m) * i.size))).toArray, rfl, hb, ?_, hroom, hm, ?_, ?_⟩⟩, ?_⟩
  ·rw [hsplit] at hA
   have hA2 := Arr.setsMid us _ xs _ _ hA (by rw [List.length_take, List.length_drop, hcl, hl]; omega)
   rw [Nat.zero_add, ← hxl]
   exact hA2
  ·simp only [List.size_toArray, List.length_append, List.length_drop, hcl, hxl, hl, Nat.add_mul]; omega
  ·simp only [List.toList_toArray]
   rw [← List.append_assoc, List.take_append_of_le_length (by rw [List.length_append, hxl, hl, Nat.add_mul]; exact Nat.le_refl _), List.take_of_length_le (by rw [List.length_append, hxl, hl, Nat.add_mul]; exact Nat.le_refl _)]
  ·have h5 := jS (w.alloc (.cells us.toArray e')) g (0 + n * i.size) us
   exact ⟨h5.os, h5.tape, h5.output, Nat.le_trans (by rw [World.size_alloc]; omega) h5.size, fun k hk hne => (h5.block k (by simp; omega) hne).trans (Below.heap_alloc _ _ _ hk)⟩
theorem vW {ops : Array Oper} {rest : List Oper} {o : Oper} {a : Act} {Q : Exit → Act → World → Prop} (hgd : o.guard = none) (s x : Operand) {t e e' : TypeId} {size bytes : Nat}
  (ho : o.op = .call { callee := .builtin .append, args := #[s, x], argTypes := #[t, t] }) (E : El P t e size bytes)
  {base g n cap : Nat} {xs : List Value} (hs : a.eval s = .slice (some ⟨g, 0, none⟩) n cap) (hown : w.ownsRow base e size (.slice (some ⟨g, 0, none⟩) n cap) n xs)
  {us : List Value} {m c : Nat} (hx : a.eval x = .slice (some ⟨w.heap.size, 0, none⟩) m c) (hl : us.length = m * size) (h1 : ∀ u ∈ us, u.oneCell' = true) (hroom : n + m ≤ cap)
  (h : ∀ w', w'.ownsRow base e size (.slice (some ⟨g, 0, none⟩) (n + m) cap) (n + m) (xs ++ us) → w.grownBy w' (some g) → wpList P ops Q rest (a.put o.dst (.slice (some ⟨g, 0, none⟩) (n + m) cap)) w') :
  wpList P ops Q (o :: rest) a (w.alloc (.cells us.toArray e')) :=
 wpList_plain hgd fun K hK => by
  obtain ⟨w', hrun, h2, h3⟩ := Uf (P := P) (ty := o.type) (e' := e') E hown hl h1 hroom (c := c)
  unfold Oper.wp execOp
  simp only [ho, resolve, invoke, builtin, Sem.run_bind, Sem.run_pure, Result.andThen_ok, List.map_toArray, List.map_cons, List.map_nil, hs, hx, hrun]
  exact hK _ _ (h w' h2 h3)
end
theorem Sl.other {w : World} {size n c g k : Nat} {A : Option Addr} {xs : List Value} (h : Sl w size A n c xs) (hne : ∀ a, A = some a → a.block ≠ g) (u : Value) : Sl (w.setCell ⟨g, k, none⟩ u) size A n c xs :=
 h.keep (by simp [World.setCell]) fun b hb hl => by
  obtain ⟨a, ha, rfl⟩ := hl
  exact Below.heap_setCell w _ u _ (hne a ha)
structure Rdr (W : World) (g : Nat) (A : Option Addr) (c : Nat) (l : List UInt8) (e : Nat) : Prop where
 arr : Arr W g 245 [.slice A l.length c, .int .i64 e]
 rd : Rd W 1 A l.length (bys l)
 cap : l.length ≤ c
 ne : ∀ b off, A = some ⟨b, off, none⟩ → 0 < l.length → b ≠ g
 small : l.length ≤ 2000
 cm : c ≤ maxLen
section
variable {W W' : World} {g c e : Nat} {A : Option Addr} {l : List UInt8}
theorem yo {w w' : World} (h : Below w.heap.size w w') (row : Option Nat) : w.grownBy w' row := ⟨h.os, h.tape, h.output, h.size, fun k hk _ => h.block k hk⟩
theorem Rd.far {w w' : World} {size n : Nat} {A : Option Addr} {xs : List Value} (h : Rd w size A n xs) (hg : w.grownBy w' (some g)) (hne : ∀ b off, A = some ⟨b, off, none⟩ → 0 < n → b ≠ g) : Rd w' size A n xs :=
 ⟨h.1, fun hn => by
  obtain ⟨b, off, e, hb, hc⟩ := h.2 hn
  have h1 := hne b off e hn
  exact ⟨b, off, e, Nat.lt_of_lt_of_le hb hg.size, fun j u hu => (World.cell?_of_block (hg.block b hb (by intro e'; cases e'; exact h1 rfl))).trans (hc j u hu)⟩⟩
theorem Rdr.below (h : Rdr W g A c l e) (hb : Below W.heap.size W W') : Rdr W' g A c l e := ⟨h.arr.below hb, h.rd.below hb, h.cap, h.ne, h.small, h.cm⟩
theorem Rdr.lt (h : Rdr W g A c l e) : g < W.heap.size := h.arr.lt
theorem Rdr.put (h : Rdr W g A c l e) {A' : Option Addr} {c' : Nat} {l' : List UInt8} {W1 : World} (hb : Below W.heap.size W W1) (ho : OwnB 5 W.heap.size W1 A' c' l') (hl : l'.length ≤ 2000) (e' : Nat) :
  Rdr ((W1.setCell ⟨g, 0, none⟩ (.slice A' l'.length c')).setCell ⟨g, 1, none⟩ (.int .i64 e')) g A' c' l' e' ∧ W.grownBy ((W1.setCell ⟨g, 0, none⟩ (.slice A' l'.length c')).setCell ⟨g, 1, none⟩ (.int .i64 e')) (some g) := by
 have ha := ((h.arr.below hb).set (k := 0) (by simp) (.slice A' l'.length c')).set (k := 1) (by simp) (.int .i64 e')
 have hg := ((yo hb (some g)).trans (zA W1 g 0 (.slice A' l'.length c'))).trans (zA _ g 1 (.int .i64 e'))
 have hne : ∀ b off, A' = some ⟨b, off, none⟩ → 0 < l'.length → b ≠ g := fun b off e _ => by
  have := (ho.own.lt b (by rw [e]; rfl)).1
  have := h.lt
  omega
 refine ⟨⟨ha, ?_, ho.cap, hne, hl, ?_⟩, hg⟩
 ·exact ho.rd.far ((zA W1 g 0 (.slice A' l'.length c')).trans (zA _ g 1 (.int .i64 e'))) hne
 ·rcases ho.own.2 with ⟨h1, _⟩ | ⟨_, cap, _, h1, _, _, _, h2, _⟩
  ·injection h1 with _ _ h3; subst h3; exact Nat.zero_le _
  ·injection h1 with _ _ h3; subst h3; exact h2
end
def ui (A A' : Option Addr) (sz : Nat) (l' : List UInt8) : Prop := ∀ b off, A' = some ⟨b, off, none⟩ → 0 < l'.length → (∃ off', A = some ⟨b, off', none⟩) ∨ sz ≤ b
theorem Zs : ∀ (l : List UInt8) (i n : Nat), (yY i n l).2.2 ≠ 0 → (yY i n l).1 = 0
 | [], i, n, _ => rfl
 | x :: r, i, n, h => by
  simp only [yY] at h ⊢
  split at h
  ·rename_i h1
   rw [if_pos h1]
   split at h
   ·rename_i h2; rw [if_pos h2]
   ·exact absurd rfl h
  ·rename_i h1
   rw [if_neg h1]
   split at h
   ·rename_i h2; rw [if_pos h2]
   ·rename_i h2; rw [if_neg h2]; exact Zs r _ _ h
theorem qR : ∀ (l : List UInt8) (i n : Nat), (yY i n l).2.1.length ≤ l.length
 | [], i, n => Nat.le_refl _
 | x :: r, i, n => by
  simp only [yY]
  split
  ·split
   ·exact Nat.zero_le _
   ·simp only [List.length_cons]; omega
  ·split
   ·exact Nat.zero_le _
   ·have := qR r (i + 1) (n + x.toNat % 128 * 128 ^ i); simp only [List.length_cons]; omega
theorem yM : ∀ (l : List UInt8) (i n : Nat), (yY i n l).1 ≤ 4294967295
 | [], i, n => by simp [yY]
 | x :: r, i, n => by
  simp only [yY]
  split
  ·split
   ·exact Nat.zero_le _
   ·dsimp only; omega
  ·split
   ·exact Nat.zero_le _
   ·exact yM r _ _
theorem vF (l : List UInt8) : (j7 l).2.1.length ≤ l.length := by
 have h := qR l 0 0
 unfold j7 zr
 generalize yY 0 0 l = x at *
 obtain ⟨n, r, e⟩ := x
 dsimp only at h ⊢
 split
 ·exact Nat.zero_le _
 ·split
  ·exact Nat.zero_le _
  ·split
   ·exact Nat.zero_le _
   ·simp only [List.length_drop]; omega
def ZQ (l : List UInt8) (e : Nat) : Nat × List UInt8 × Nat := if e ≠ 0 then (0, l, e) else zr l
def ZR (l : List UInt8) (e : Nat) : List UInt8 × List UInt8 × Nat := if e ≠ 0 then ([], l, e) else j7 l
def uZ (n : Nat) (l : List UInt8) (e : Nat) : List UInt8 × List UInt8 × Nat := if e ≠ 0 then ([], l, e) else if l.length < n then ([], l, 8) else (l.take n, l.drop n, 0)
theorem ju {g c e : Nat} {A : Option Addr} {l : List UInt8} {w : World} (h : Rdr w g A c l e) :
  Calls Tryz.prog 192 #[.pointer (some ⟨g, 0, none⟩)] w fun x w' => ∃ A' c', x = .returned (.int .i64 ((ZQ l e).1 : Nat)) ∧ Rdr w' g A' c' (ZQ l e).2.1 (ZQ l e).2.2 ∧ w.grownBy w' (some g) ∧ ui A A' w.heap.size (ZQ l e).2.1 := by
 have f0 := h.arr.cell (k := 0) rfl
 have f1 := h.arr.cell (k := 1) rfl
 by_cases e0 : e = 0
 ·have hfin : ZQ l e = zr l := by rw [ZQ, if_neg (by simpa using e0)]
  rw [hfin]
  obtain ⟨m, r, er, hrd⟩ : ∃ m r er, zr l = (m, r, er) := ⟨_, _, _, rfl⟩
  have hrl := qR l 0 0
  have HR := Lib.hid (fun w' hr => kf (A := A) (n := l.length) (c := c) (w := w') (er : Int) rfl hrd rfl h.cap (by have := h.small; omega) hr)
  rw [show yY 0 0 l = (m, r, er) from hrd] at hrl
  rw [hrd]
  have hsm := h.small
  dsimp only at hrl ⊢
  have e1 : ((e : Int) != 0) = false := by rw [bne_eq_false_iff_eq]; omega
  clear e0 hfin hrd
  go_enter Tryz.func192, Tryz.ntmps192
  go_wp2_with fail
  refine ((HR.out w h.rd)).mono ?_; rintro e_ w1 ⟨A1, c1, rfl, ho1, hb1⟩; dsimp only
  have hA1 := h.arr.below hb1
  have k0 := hA1.cell (k := 0) rfl
  have k1 := hA1.cell (k := 1) rfl
  have z0 := hA1.frozen 0
  have z1 := hA1.frozen 1
  have hA2 := hA1.set (k := 0) (by simp) (.slice A1 r.length c1)
  have k2 := hA2.cell (k := 1) rfl
  have z2 := hA2.frozen 1
  have hp := h.put hb1 ho1 (by omega) er
  clear f0 f1
  go_wp2_with fail
  go_ret
  exact ⟨A1, c1, rfl, hp.1, hp.2, fun b off e _ => .inr (ho1.own.lt b (by rw [e]; rfl)).1⟩
 ·have hfin : ZQ l e = (0, l, e) := by rw [ZQ, if_pos e0]
  rw [hfin]
  have e1 : ((e : Int) != 0) = true := by rw [bne_iff_ne]; omega
  clear e0 hfin
  go_enter Tryz.func192, Tryz.ntmps192
  go_wp2_with fail
  go_ret
  exact ⟨A, c, rfl, h, World.grownBy.refl _ _, fun b off e _ => .inl ⟨off, e⟩⟩
theorem Vy {g c e : Nat} {A : Option Addr} {l : List UInt8} {w : World} (h : Rdr w g A c l e) :
  Calls Tryz.prog 193 #[.pointer (some ⟨g, 0, none⟩)] w fun x w' => ∃ A' c', x = .returned (.string ⟨(ZR l e).1.toArray⟩) ∧ Rdr w' g A' c' (ZR l e).2.1 (ZR l e).2.2 ∧ w.grownBy w' (some g) ∧ ui A A' w.heap.size (ZR l e).2.1 := by
 have f0 := h.arr.cell (k := 0) rfl
 have f1 := h.arr.cell (k := 1) rfl
 by_cases e0 : e = 0
 ·have hfin : ZR l e = j7 l := by rw [ZR, if_neg (by simpa using e0)]
  rw [hfin]
  obtain ⟨m, r, er, hrd⟩ : ∃ m r er, j7 l = (m, r, er) := ⟨_, _, _, rfl⟩
  have hrl := vF l
  have HR := Lib.hid (fun w' hr => Z9 (A := A) (n := l.length) (c := c) (w := w') (er : Int) rfl hrd rfl h.cap (by have := h.small; omega) hr)
  rw [hrd] at hrl
  rw [hrd]
  have hsm := h.small
  dsimp only at hrl ⊢
  have e1 : ((e : Int) != 0) = false := by rw [bne_eq_false_iff_eq]; omega
  clear e0 hfin hrd
  go_enter Tryz.func193, Tryz.ntmps193
  go_wp2_with fail
  refine ((HR.out w h.rd)).mono ?_; rintro e_ w1 ⟨A1, c1, rfl, ho1, hb1⟩; dsimp only
  have hA1 := h.arr.below hb1
  have k0 := hA1.cell (k := 0) rfl
  have k1 := hA1.cell (k := 1) rfl
  have z0 := hA1.frozen 0
  have z1 := hA1.frozen 1
  have hA2 := hA1.set (k := 0) (by simp) (.slice A1 r.length c1)
  have k2 := hA2.cell (k := 1) rfl
  have z2 := hA2.frozen 1
  have hp := h.put hb1 ho1 (by omega) er
  clear f0 f1
  go_wp2_with fail
  go_ret
  exact ⟨A1, c1, rfl, hp.1, hp.2, fun b off e _ => .inr (ho1.own.lt b (by rw [e]; rfl)).1⟩
 ·have hfin : ZR l e = ([], l, e) := by rw [ZR, if_pos e0]
  rw [hfin]
  have e1 : ((e : Int) != 0) = true := by rw [bne_iff_ne]; omega
  clear e0 hfin
  go_enter Tryz.func193, Tryz.ntmps193
  go_wp2_with fail
  go_ret
  exact ⟨A, c, rfl, h, World.grownBy.refl _ _, fun b off e _ => .inl ⟨off, e⟩⟩
theorem VN {g c e : Nat} {A : Option Addr} {l : List UInt8} {w : World} (n : Nat) (N : Int) (hN : (n : Int) = N) (hn : n ≤ 2000) (h : Rdr w g A c l e) :
  Calls Tryz.prog 195 #[.pointer (some ⟨g, 0, none⟩), .int .i64 N] w fun x w' => ∃ A1 c1 A' c', x = .returned (.slice A1 (uZ n l e).1.length c1) ∧ (uZ n l e).1.length ≤ c1 ∧ Rd w' 1 A1 (uZ n l e).1.length (bys (uZ n l e).1) ∧ Rdr w' g A' c' (uZ n l e).2.1 (uZ n l e).2.2 ∧ w.grownBy w' (some g) ∧ ui A A' w.heap.size (uZ n l e).2.1 := by
 subst hN
 have f0 := h.arr.cell (k := 0) rfl
 have f1 := h.arr.cell (k := 1) rfl
 have z0 := h.arr.frozen 0
 have z1 := h.arr.frozen 1
 by_cases e0 : e = 0
 ·have e1 : ((e : Int) == 0) = true := by rw [beq_iff_eq]; omega
  have e2 : ((e : Int) != 0) = false := by rw [bne_eq_false_iff_eq]; omega
  by_cases hlt : l.length < n
  ·have hfin : uZ n l e = ([], l, 8) := by rw [uZ, if_neg (by simpa using e0), if_pos hlt]
   rw [hfin]
   have e3 : decide (l.length < n) = true := by simpa using hlt
   have hA2 := h.arr.set (k := 1) (by simp) (.int .i64 8)
   have k0 := hA2.cell (k := 0) rfl
   have k1 := hA2.cell (k := 1) rfl
   have hR : Rdr (w.setCell ⟨g, 1, none⟩ (.int .i64 8)) g A c l 8 := ⟨hA2, h.rd.far (zA w g 1 _) h.ne, h.cap, h.ne, h.small, h.cm⟩
   have hG := zA w g 1 (.int .i64 8)
   have HR := Lib.hid hR
   clear hfin e0 hlt hR
   go_enter Tryz.func195, Tryz.ntmps195
   go_wp2_with fail
   go_ret
   exact ⟨none, 0, A, c, rfl, Nat.zero_le _, Rd.nil_, HR.out, hG, fun b off e _ => .inl ⟨off, e⟩⟩
  ·have hfin : uZ n l e = (l.take n, l.drop n, 0) := by rw [uZ, if_neg (by simpa using e0), if_neg hlt]
   rw [hfin]
   have e3 : decide (l.length < n) = false := by simpa using hlt
   have hle : (n : Int) ≤ (c : Int) := by have := h.cap; omega
   have hle2 : (n : Int) ≤ (l.length : Int) := by omega
   have hcm : (c : Int) ≤ 9223372036854775807 := by have := h.cm; unfold maxLen at this; omega
   have hll : (l.drop n).length = l.length - n := List.length_drop
   have htl : (l.take n).length = n := by rw [List.length_take]; omega
   have r1 := h.rd.pre (k := n) (by omega)
   rw [Nat.mul_one, Q3] at r1
   have k0n : n ≤ l.length := by omega
   have hcap := h.cap
   have hng := h.ne
   have r2 := h.rd.cut (k := n) (cap := c) k0n hcap
   rw [Nat.mul_one, yt] at r2
   obtain ⟨A', hA'⟩ : ∃ A', A' = (if c = n then A else A.map (·.add n)) := ⟨_, rfl⟩
   rw [← hA'] at r2
   have hA2 := h.arr.set (k := 0) (by simp) (.slice A' (l.length - n) (c - n))
   have hG := zA w g 0 (.slice A' (l.length - n) (c - n))
   have hmv : ∀ b off, A' = some ⟨b, off, none⟩ → 0 < l.length - n → ∃ off', A = some ⟨b, off', none⟩ := fun b off e' h0 => by
    obtain ⟨b2, o2, e2, _⟩ := h.rd.2 (show 0 < l.length by omega)
    rw [e2] at hA'
    have : b = b2 := by
     rw [hA'] at e'
     split at e'
     ·cases e'; rfl
     ·simp only [Option.map_some, Option.some.injEq] at e'
      have := congrArg Addr.block e'
      rw [XF] at this
      exact this.symm
    rw [this]
    exact ⟨o2, e2⟩
   have hne' : ∀ b off, A' = some ⟨b, off, none⟩ → 0 < l.length - n → b ≠ g := fun b off e' h0 => by
    obtain ⟨o2, e2⟩ := hmv b off e' h0
    exact hng b o2 e2 (by omega)
   have HM := Lib.hid (show ui A A' w.heap.size (l.drop n) from fun b off e' h0 => .inl (hmv b off e' (by rw [hll] at h0; exact h0)))
   have hR : Rdr (w.setCell ⟨g, 0, none⟩ (.slice A' (l.length - n) (c - n))) g A' (c - n) (l.drop n) 0 := by
    refine ⟨?_, ?_, by rw [hll]; omega, by rw [hll]; exact hne', by rw [hll]; have := h.small; omega, by have := h.cm; omega⟩
    ·rw [hll]
     have he0 : (e : Int) = ((0 : Nat) : Int) := by omega
     rw [he0] at hA2
     exact hA2
    ·rw [hll]; exact r2.far hG hne'
   have r1' := r1.far hG (fun b off e' h0 => hng b off e' (by omega))
   have HR := Lib.hid hR
   have HA := Lib.hid hA'
   rw [htl]
   have hlt' : ¬ n ≤ c → False := fun h => h (by omega)
   have hnc : n ≤ c := by omega
   clear hfin e0 hlt hR hA' hne' r2 r1 hll htl hA2
   go_enter Tryz.func195, Tryz.ntmps195
   repeat' (fail_if_success (first|at_builtin|at_make));first|go_values|go_skip|go_guarded|go_step|go_upon|go_back
   rw [← HA.out]
   go_ret
   exact ⟨A, c, A', c - n, rfl, hnc, r1', HR.out, hG, HM.out⟩
 ·have hfin : uZ n l e = ([], l, e) := by rw [uZ, if_pos e0]
  rw [hfin]
  have e1 : ((e : Int) == 0) = false := by rw [beq_eq_false_iff_ne]; omega
  have e2 : ((e : Int) != 0) = true := by rw [bne_iff_ne]; omega
  clear e0 hfin
  go_enter Tryz.func195, Tryz.ntmps195
  go_wp2_with fail
  go_ret
  exact ⟨none, 0, A, c, rfl, Nat.zero_le _, Rd.nil_, h, World.grownBy.refl _ _, fun b off e _ => .inl ⟨off, e⟩⟩
def jk (l : List UInt8) : PartP × List UInt8 × Nat :=
 let a := ZR l 0
 let b := uZ 32 a.2.1 a.2.2
 let c := ZQ b.2.1 b.2.2
 (⟨a.1, kn b.1, c.1⟩, c.2.1, c.2.2)
def zD : Nat → List PartP → List UInt8 → Nat × List PartP × List UInt8
 | 0, out, l => (0, out, l)
 | k + 1, out, l => if (jk l).2.2 ≠ 0 then ((jk l).2.2, [], []) else zD k (out ++ [(jk l).1]) (jk l).2.1
def xt (b : List UInt8) : List PartP × Nat :=
 if 2000 < b.length then ([], 1) else if [65, 77, 49].isPrefixOf b = false then ([], 3) else
 if (zr (b.drop 3)).2.2 ≠ 0 then ([], (zr (b.drop 3)).2.2) else if 8 < (zr (b.drop 3)).1 then ([], 1) else
 if (zD (zr (b.drop 3)).1 [] (zr (b.drop 3)).2.1).1 ≠ 0 then ([], (zD (zr (b.drop 3)).1 [] (zr (b.drop 3)).2.1).1) else
 if 0 < (zD (zr (b.drop 3)).1 [] (zr (b.drop 3)).2.1).2.2.length then ([], 3) else
 if chk (zD (zr (b.drop 3)).1 [] (zr (b.drop 3)).2.1).2.1 ≠ 0 then ([], chk (zD (zr (b.drop 3)).1 [] (zr (b.drop 3)).2.1).2.1) else
 ((zD (zr (b.drop 3)).1 [] (zr (b.drop 3)).2.1).2.1, 0)
theorem Vw (A : Option Addr) (n c g : Nat) (l : List UInt8) (w : World) (hl : l.length = n) (hc : n ≤ c) (hr : Rd w 1 A n (bys l)) (h2 : Rd w 1 (some ⟨g, 0, none⟩) 3 (bys [65, 77, 49])) :
  Calls Tryz.prog 191 #[.slice A n c, .slice (some ⟨g, 0, none⟩) 3 3] w fun e w' => (∃ A' c', e = .returned (.tuple #[.slice A' (if [65, 77, 49].isPrefixOf l then (l.drop 3).length else n) c', .bool ([65, 77, 49].isPrefixOf l)]) ∧
   ([65, 77, 49].isPrefixOf l = true → Rd w 1 A' (l.drop 3).length (bys (l.drop 3)) ∧ (l.drop 3).length ≤ c' ∧ c' ≤ c ∧ ui A A' w.heap.size (l.drop 3))) ∧ w = w' := by
 rcases Nat.eq_zero_or_pos n with h0 | h0
 ·subst h0
  obtain rfl : l = [] := List.eq_nil_of_length_eq_zero hl
  refine (Tryz.bytes_CutPrefix_e1 A (some ⟨g, 0, none⟩) c 3 3 (by omega) w).mono fun e w' h => ⟨⟨A, c, ?_, fun h => by simp at h⟩, h.2.symm⟩
  rw [h.1]; rfl
 ·obtain ⟨b, off, rfl, hb, hcell⟩ := hr.2 h0
  obtain ⟨b2, o2, e2, hb2, hcell2⟩ := h2.2 (by omega)
  cases e2
  refine (Tryz.bytes_CutPrefix b off n c g 0 3 3 (l.map fun x => (x.toNat : Int)) [65, 77, 49] w (by simpa using hl) rfl hc (fun i hi => ?_) (fun i hi => ?_)).mono fun e w' h => ⟨?_, h.2.symm⟩
  ·refine hcell i _ ?_
   have : i < l.length := by omega
   simp [bys, this]
  ·refine hcell2 i _ ?_
   match i, hi with
   | 0, _ => rfl
   | 1, _ => rfl
   | 2, _ => rfl
  ·have hbo : Lib.bytesOf (l.map fun x => (x.toNat : Int)) = l := by
    simp only [Lib.bytesOf, List.map_map]
    conv => rhs; rw [← List.map_id l]
    exact List.map_congr_left fun a _ => by simp
   have hb3 : Lib.bytesOf [65, 77, 49] = [65, 77, 49] := rfl
   obtain ⟨h1, _⟩ := h
   rw [Lib.bytesTrimPrefix, hbo, hb3, Lib.hasPrefix] at h1
   by_cases hp : [65, 77, 49].isPrefixOf l = true
   ·rw [hp, if_pos rfl, Lib.sliceFrom] at h1
    have h3 : 3 ≤ l.length := by
     have := List.IsPrefix.length_le (List.isPrefixOf_iff_prefix.1 hp); simpa using this
    have hr' := hr.cutAt (k := 3) (c := c) (by omega) hc
    rw [yt] at hr'
    have hdl : (l.drop 3).length = n - 3 := by rw [List.length_drop, hl]
    refine ⟨_, c - 3, ?_, fun _ => ⟨by rw [hdl]; exact hr', by omega, by omega, ?_⟩⟩
    ·rw [h1, hp, if_pos rfl, hdl]; rfl
    ·intro b' o' e' _
     split at e'
     ·cases e'; exact .inl ⟨_, rfl⟩
     ·cases e'; exact .inl ⟨_, rfl⟩
   ·have hp : [65, 77, 49].isPrefixOf l = false := Bool.eq_false_iff.2 hp
    rw [hp, if_neg (by decide)] at h1
    refine ⟨some ⟨b, off, none⟩, c, ?_, fun h => by rw [hp] at h; cases h⟩
    rw [h1, hp]; rfl
theorem QV (l : List UInt8) (e : Nat) : (ZR l e).2.1.length ≤ l.length := by
 unfold ZR; split
 ·exact Nat.le_refl _
 ·exact vF l
theorem Y0 (n : Nat) (l : List UInt8) (e : Nat) : (uZ n l e).2.1.length ≤ l.length ∧ (uZ n l e).1.length ≤ l.length := by
 unfold uZ; split
 ·exact ⟨Nat.le_refl _, Nat.zero_le _⟩
 ·split
  ·exact ⟨Nat.le_refl _, Nat.zero_le _⟩
  ·simp only [List.length_drop, List.length_take]; omega
theorem QS (l : List UInt8) (e : Nat) : (ZQ l e).2.1.length ≤ l.length ∧ (ZQ l e).1 ≤ 4294967295 := by
 unfold ZQ; split
 ·exact ⟨Nat.le_refl _, Nat.zero_le _⟩
 ·exact ⟨qR l 0 0, yM l 0 0⟩
theorem Y2 (l : List UInt8) (e : Nat) : (ZR l e).1.length ≤ l.length := by
 unfold ZR; split
 ·exact Nat.zero_le _
 ·have h := qR l 0 0
  unfold j7 zr
  generalize yY 0 0 l = x at *
  obtain ⟨n, r, e⟩ := x
  dsimp only at h ⊢
  split
  ·exact Nat.zero_le _
  ·split
   ·exact Nat.zero_le _
   ·split
    ·exact Nat.zero_le _
    ·simp only [List.length_take]; omega
def Far (v : Value) (A : Option Addr) (l : List UInt8) : Prop := ∀ b off, A = some ⟨b, off, none⟩ → 0 < l.length → v.ownBlock ≠ some b
theorem Far.moved {v : Value} {A A' : Option Addr} {l l' : List UInt8} {sz : Nat} (h : Far v A l) (hm : ui A A' sz l') (hl : l'.length ≤ l.length) (hv : ∀ k, v.ownBlock = some k → k < sz) : Far v A' l' := fun b off e h0 => by
 rcases hm b off e h0 with ⟨o, ho⟩ | hb
 ·exact h b o ho (by omega)
 ·intro hk; have := hv b hk; omega
theorem Zk {w w' : World} {g n : Nat} {v : Value} {e : TypeId} {size : Nat} {xs : List Value} (h : w.ownsRow (g + 1) e size v n xs) (hg : w.grownBy w' (some g)) : w'.ownsRow (g + 1) e size v n xs :=
 h.kept hg (.inr fun he => by have := (h.lt g he).1; omega)
theorem Rdr.grown {W W' : World} {g c e : Nat} {A : Option Addr} {l : List UInt8} {v : Value} (h : Rdr W g A c l e) (hg : W.grownBy W' v.ownBlock) (hv : v.ownBlock ≠ some g) (hf : Far v A l) : Rdr W' g A c l e := by
 refine ⟨?_, ⟨h.rd.1, fun hn => ?_⟩, h.cap, h.ne, h.small, h.cm⟩
 ·exact (hg.block g h.lt (fun e => hv e.symm)).trans h.arr
 ·obtain ⟨b, off, e, hb, hc⟩ := h.rd.2 hn
  have h1 := hf b off e hn
  exact ⟨b, off, e, Nat.lt_of_lt_of_le hb hg.size, fun j u hu => (World.cell?_of_block (hg.block b hb (fun e => h1 e.symm))).trans (hc j u hu)⟩
theorem yj {B g : Nat} {a w w' : World} (h : Below B a w) (hg : w.grownBy w' (some g)) (hB : B ≤ g) (hs : B ≤ w.heap.size) : Below B a w' := h.grown hg hs (fun k hk => by cases hk; exact hB)
set_option maxHeartbeats 4000000 in
theorem Kc (A : Option Addr) (n c : Nat) (l : List UInt8) (w : World) (hl : l.length = n) (hc : n ≤ c) (hm : c ≤ maxLen) (hr : Rd w 1 A n (bys l)) :
  Calls Tryz.prog 128 #[.slice A n c] w fun e w' => ∃ v, e = .returned (.tuple #[v, .int .i64 ((xt l).2 : Nat)]) ∧ w'.ownsRow w.heap.size 68 3 v (xt l).1.length (pcs (xt l).1) ∧ Below w.heap.size w w' := by
 have HL := Lib.hid hl
 by_cases hbig : 2000 < n
 ·have hfin : xt l = ([], 1) := by rw [xt, if_pos (by omega)]
  have hcm : n ≤ 9223372036854775807 := by unfold maxLen at hm; omega
  rw [hfin]
  clear hfin hl
  go_enter Tryz.func128, Tryz.ntmps128
  go_wp2_with fail
  go_ret2
  exact ⟨_, rfl, World.ownsRow_nil _ _ _ _, Below.refl _ _⟩
 have hfin1 : xt l = if [65, 77, 49].isPrefixOf l = false then ([], 3) else
   if (zr (l.drop 3)).2.2 ≠ 0 then ([], (zr (l.drop 3)).2.2) else if 8 < (zr (l.drop 3)).1 then ([], 1) else
   if (zD (zr (l.drop 3)).1 [] (zr (l.drop 3)).2.1).1 ≠ 0 then ([], (zD (zr (l.drop 3)).1 [] (zr (l.drop 3)).2.1).1) else
   if 0 < (zD (zr (l.drop 3)).1 [] (zr (l.drop 3)).2.1).2.2.length then ([], 3) else
   if chk (zD (zr (l.drop 3)).1 [] (zr (l.drop 3)).2.1).2.1 ≠ 0 then ([], chk (zD (zr (l.drop 3)).1 [] (zr (l.drop 3)).2.1).2.1) else
   ((zD (zr (l.drop 3)).1 [] (zr (l.drop 3)).2.1).2.1, 0) := by rw [xt, if_neg (by omega)]
 generalize xt l = res at *
 have hb0 := (Below.refl w.heap.size w).alloc (Nat.le_refl _) (.cells #[.int .u8 65, .int .u8 77, .int .u8 49] 5 (3, 4))
 have hr0 := hr.alloc (.cells #[.int .u8 65, .int .u8 77, .int .u8 49] 5 (3, 4))
 have hq0 : Rd (w.alloc (.cells #[.int .u8 65, .int .u8 77, .int .u8 49] 5 (3, 4))) 1 (some ⟨w.heap.size, 0, none⟩) 3 (bys [65, 77, 49]) := by
  refine ⟨rfl, fun _ => ⟨_, 0, rfl, by simp, fun j u hu => ?_⟩⟩
  rw [← hu, Nat.zero_add]
  have h1 : (w.alloc (.cells #[.int .u8 65, .int .u8 77, .int .u8 49] 5 (3, 4))).heap[w.heap.size]? = some (.cells #[.int .u8 65, .int .u8 77, .int .u8 49] 5 (3, 4)) := World.alloc_heap_new w _
  simp only [World.cell?, h1, Option.isSome_none, Bool.false_eq_true, if_false]
  simp [bys]
 have hkc := fun (w : World) (C : Array Value) (n c : Nat) => Lib.run_convert_bytes_const (P := Tryz.prog) w 43 5 C n c Tryz.underlying43 Tryz.underlying5
 have HCP := Lib.hid (Vw A n c w.heap.size l _ hl hc hr0 hq0)
 have HF1 := Lib.hid hfin1
 clear hfin1 hl hq0 hr0
 generalize hpre : [65, 77, 49].isPrefixOf l = pre at HCP HF1
 go_enter Tryz.func128, Tryz.ntmps128
 go_wp2_with fail
 refine ((HCP.out)).mono ?_; rintro e_ w1 ⟨⟨A1, c1, rfl, hcut⟩, rfl⟩; dsimp only
 cases pre with
 | false =>
  have hres : res = ([], 3) := by rw [HF1.out, if_pos rfl]
  have HR := Lib.hid hres
  clear hres hpre
  go_wp2_with fail
  go_ret2
  rw [HR.out]
  exact ⟨_, rfl, World.ownsRow_nil _ _ _ _, hb0⟩
 | true =>
  obtain ⟨hr1, hc1, hc1c, hm1⟩ := hcut rfl
  have hdl : (l.drop 3).length ≤ 2000 := by rw [List.length_drop, HL.out]; omega
  simp only [if_true]
  have HF2 := Lib.hid (show res = if (zr (l.drop 3)).2.2 ≠ 0 then ([], (zr (l.drop 3)).2.2) else if 8 < (zr (l.drop 3)).1 then ([], 1) else
   if (zD (zr (l.drop 3)).1 [] (zr (l.drop 3)).2.1).1 ≠ 0 then ([], (zD (zr (l.drop 3)).1 [] (zr (l.drop 3)).2.1).1) else
   if 0 < (zD (zr (l.drop 3)).1 [] (zr (l.drop 3)).2.1).2.2.length then ([], 3) else
   if chk (zD (zr (l.drop 3)).1 [] (zr (l.drop 3)).2.1).2.1 ≠ 0 then ([], chk (zD (zr (l.drop 3)).1 [] (zr (l.drop 3)).2.1).2.1) else
   ((zD (zr (l.drop 3)).1 [] (zr (l.drop 3)).2.1).2.1, 0) from by rw [HF1.out, if_neg (by decide)])
  have HPRE := Lib.hid hpre
  clear HF1 HCP hcut hpre
  generalize l.drop 3 = L at *
  generalize w.alloc (.cells #[.int .u8 65, .int .u8 77, .int .u8 49] 5 (3, 4)) = w1 at *
  obtain ⟨g, hg⟩ : ∃ g, g = w1.heap.size := ⟨_, rfl⟩
  obtain ⟨w2, hw2⟩ : ∃ w2, w2 = w1.alloc (.cells #[.slice A1 L.length c1, .int .i64 0] 245) := ⟨_, rfl⟩
  have hR2 : Rdr w2 g A1 c1 L 0 := by
   rw [hw2, hg]
   exact ⟨Arr.new w1 _ _, hr1.alloc _, hc1, fun b off e h0 => by
    obtain ⟨_, _, e2, hb2, _⟩ := hr1.2 h0
    rw [e] at e2; cases e2; omega, hdl, by omega⟩
  have hb2 : Below w.heap.size w w2 := by rw [hw2]; exact hb0.alloc hb0.size _
  have hgw : w.heap.size ≤ g := by rw [hg]; exact hb0.size
  have hg2 : g < w2.heap.size := hR2.lt
  have HW2 := Lib.hid hw2
  have HG := Lib.hid hg
  obtain ⟨m, r, er, hrd⟩ : ∃ m r er, zr L = (m, r, er) := ⟨_, _, _, rfl⟩
  have hmz := Zs L 0 0
  have hml := qR L 0 0
  have hmb := yM L 0 0
  rw [show yY 0 0 L = (m, r, er) from hrd] at hmz hml hmb
  rw [hrd] at HF2
  have HN := ju hR2
  rw [ZQ, if_neg (by decide), hrd] at HN
  dsimp only at HF2 HN hmz hml hmb
  have HN' := Lib.hid HN
  clear hw2 hg hr1 hm1 hb0 hr HN hrd
  go_wp2_with fail
  rw [← HG.out, ← HW2.out]
  refine ((HN'.out)).mono ?_; rintro e_ w3 ⟨A3, c3, rfl, hR3, hG3, hM3⟩; dsimp only
  have hb3 := yj hb2 hG3 hgw hb2.size
  have f1 := hR3.arr.cell (k := 1) rfl
  by_cases her : er = 0
  ·subst her
   have HF3 := Lib.hid (show res = if 8 < m then ([], 1) else if (zD m [] r).1 ≠ 0 then ([], (zD m [] r).1) else if 0 < (zD m [] r).2.2.length then ([], 3) else
    if chk (zD m [] r).2.1 ≠ 0 then ([], chk (zD m [] r).2.1) else ((zD m [] r).2.1, 0) from by rw [HF2.out, if_neg (by decide)])
   clear HF2
   rw [show ((0 : Nat) : Int) = 0 from rfl] at f1
   by_cases h8 : 8 < m
   ·have hres : res = ([], 1) := by rw [HF3.out, if_pos h8]
    have HR := Lib.hid hres
    have e1 : decide ((8 : Int) < (m : Int)) = true := by simp; omega
    clear hres hmz
    go_wp2_with fail
    go_ret2
    rw [HR.out]
    exact ⟨_, rfl, World.ownsRow_nil _ _ _ _, hb3⟩
   ·have e1 : decide ((8 : Int) < (m : Int)) = false := by simp; omega
    have HF4 := Lib.hid (show res = if (zD m [] r).1 ≠ 0 then ([], (zD m [] r).1) else if 0 < (zD m [] r).2.2.length then ([], 3) else
     if chk (zD m [] r).2.1 ≠ 0 then ([], chk (zD m [] r).2.1) else ((zD m [] r).2.1, 0) from by rw [HF3.out, if_neg h8])
    have HM8 := Lib.hid (show m ≤ 8 by omega)
    clear HF3 h8 hmz
    go_wp2_with fail
    go_loopg [8, 37] m (fun gn v i wr => ∃ (k : Nat) (out : List PartP) (A : Option Addr) (c : Nat) (l' : List UInt8), gn = m - k ∧ i = .int .i64 k ∧ k ≤ m ∧ out.length = k ∧ Zp out ∧ Rdr wr g A c l' 0 ∧ wr.ownsRow (g + 1) 68 3 v k (pcs out) ∧ Far v A l' ∧ zD m [] r = zD (m - k) out l' ∧ Below w.heap.size w wr)
    case atStart => exact ⟨0, [], A3, c3, r, rfl, rfl, by omega, rfl, (fun p hp => by cases hp), hR3, World.ownsRow_nil _ _ _ _, (fun b off _ _ h => by cases h), rfl, hb3⟩
    case round =>
     clear hb3 hR3 hM3 hG3 f1
     obtain ⟨k, out, A, c, l', hgk, rfl, hk, hol, hpo, hR, ho, hfar, hch, hbel⟩ := hrel
     have HGK := Lib.hid hgk
     have HOL := Lib.hid hol
     have HPO := Lib.hid hpo
     have HCH := Lib.hid hch
     have hm8 := HM8.out
     have hgs := hR.lt
     clear hgk hol hpo hch
     by_cases hlt : k < m
     ·have hi : decide ((k : Int) < (m : Int)) = true := by simpa using hlt
      have hi' : decide (k < m) = true := by simpa using hlt
      obtain ⟨t, l1, e1, h1⟩ : ∃ t l1 e1, ZR l' 0 = (t, l1, e1) := ⟨_, _, _, rfl⟩
      obtain ⟨d, l2, e2, h2⟩ : ∃ d l2 e2, uZ 32 l1 e1 = (d, l2, e2) := ⟨_, _, _, rfl⟩
      obtain ⟨z, l3, e3, h3⟩ : ∃ z l3 e3, ZQ l2 e2 = (z, l3, e3) := ⟨_, _, _, rfl⟩
      have hs : jk l' = (⟨t, kn d, z⟩, l3, e3) := by unfold jk; rw [h1]; dsimp only; rw [h2]; dsimp only; rw [h3]
      have n1 := QV l' 0
      have n1' := Y2 l' 0
      have n2 := Y0 32 l1 e1
      have n3 := QS l2 e2
      rw [h1] at n1 n1'
      rw [h2] at n2
      rw [h3] at n3
      have HT1 := Lib.hid (fun (w : World) (A : Option Addr) (c : Nat) (h : Rdr w g A c l' 0) => (by have := Vy h; rw [h1] at this; exact this : Calls Tryz.prog 193 #[.pointer (some ⟨g, 0, none⟩)] w fun x w' => ∃ A' c', x = .returned (.string ⟨t.toArray⟩) ∧ Rdr w' g A' c' l1 e1 ∧ w.grownBy w' (some g) ∧ ui A A' w.heap.size l1))
      have HT2 := Lib.hid (fun (w : World) (A : Option Addr) (c : Nat) (h : Rdr w g A c l1 e1) => (by have := VN 32 32 rfl (by omega) h; rw [h2] at this; exact this : Calls Tryz.prog 195 #[.pointer (some ⟨g, 0, none⟩), .int .i64 32] w fun x w' => ∃ A1 c1 A' c', x = .returned (.slice A1 d.length c1) ∧ d.length ≤ c1 ∧ Rd w' 1 A1 d.length (bys d) ∧ Rdr w' g A' c' l2 e2 ∧ w.grownBy w' (some g) ∧ ui A A' w.heap.size l2))
      have HT3 := Lib.hid (fun (w : World) (A : Option Addr) (c : Nat) (h : Rdr w g A c l2 e2) => (by have := ju h; rw [h3] at this; exact this : Calls Tryz.prog 192 #[.pointer (some ⟨g, 0, none⟩)] w fun x w' => ∃ A' c', x = .returned (.int .i64 (z : Nat)) ∧ Rdr w' g A' c' l3 e3 ∧ w.grownBy w' (some g) ∧ ui A A' w.heap.size l3))
      have hsm := hR.small
      have hstep : zD m [] r = if e3 ≠ 0 then (e3, [], []) else zD (m - (k + 1)) (out ++ [⟨t, kn d, z⟩]) l3 := by
       rw [HCH.out, show m - k = (m - (k + 1)) + 1 by omega, zD, hs]
      have HST := Lib.hid hstep
      have hpn : (⟨t, kn d, z⟩ : PartP).name.length ≤ 140737488351232 ∧ (⟨t, kn d, z⟩ : PartP).dig.length ≤ 140737488351232 ∧ ((⟨t, kn d, z⟩ : PartP).size : Int) ≤ 9223372036854775807 := by
       refine ⟨?_, ?_, ?_⟩
       ·show t.length ≤ _; dsimp only at n1'; omega
       ·show (kn d).length ≤ _; rw [kH]; dsimp only at n2 n1; omega
       ·show (z : Int) ≤ _; dsimp only at n3; omega
      have HPN := Lib.hid hpn
      dsimp only at n1 n1' n2 n3
      clear hs h1 h2 h3 hstep hpn HCH
      have hvl := fun k hk => (ho.lt k hk).2
      go_wp2_with fail
      refine ((HT1.out _ _ _ hR)).mono ?_; rintro e_ w4 ⟨A4, c4, rfl, hR4, hG4, hM4⟩; dsimp only
      have hb4 := yj hbel hG4 hgw hbel.size
      have ho4 := Zk ho hG4
      have hf4 := hfar.moved hM4 n1 hvl
      go_wp2_with fail
      refine ((HT2.out _ _ _ hR4)).mono ?_; rintro e_ w5 ⟨Ad, cd, A5, c5, rfl, hcd, hrd, hR5, hG5, hM5⟩; dsimp only
      have hb5 := yj hb4 hG5 hgw hb4.size
      have ho5 := Zk ho4 hG5
      have hf5 := hf4.moved hM5 n2.1 (fun k hk => (ho4.lt k hk).2)
      go_wp2_with fail
      refine ((K7 Ad d.length cd d w5 rfl (by omega) hcd hrd)).mono ?_; rintro e_ w6 ⟨rfl, hb6⟩; dsimp only
      have hR6 := hR5.below hb6
      have hb56 := hb5.trans (hb6.mono hb5.size)
      have ho6 := zb ho5 hb6
      go_wp2_with fail
      refine ((HT3.out _ _ _ hR6)).mono ?_; rintro e_ w7 ⟨A7, c7, rfl, hR7, hG7, hM7⟩; dsimp only
      have hb7 := yj hb56 hG7 hgw hb56.size
      have ho7 := Zk ho6 hG7
      have hf7 := hf5.moved hM7 n3.1 (fun k hk => Nat.lt_of_lt_of_le (ho5.lt k hk).2 hb6.size)
      repeat' (fail_if_success (first|at_builtin|at_make));first|go_values|go_skip|go_guarded|go_step|go_upon|go_back
      refine zn rfl (.tmp 39) (.tmp 48) rfl Yj (by rfl) ho7 (us := pcs [⟨t, kn d, z⟩]) (m := 1) (by rfl) rfl (by intro u hu; exact uj _ u hu) (by omega) (by have := hR7.lt; omega) ?_
      intro v8 w8 ho8 hg8 hv8
      have hR8 := hR7.grown hg8 (fun h => by have := (ho7.lt g h).1; omega) hf7
      have hb8 : Below w.heap.size w w8 := hb7.grown hg8 hb7.size (fun k hk => by have := (ho7.lt k hk).1; omega)
      have hf8 : Far v8 A7 l3 := fun b off e h0 => by
       rcases hv8 with h | ⟨g8, h, hge⟩
       ·rw [h]; exact hf7 b off e h0
       ·rw [h]
        obtain ⟨_, _, e2, hb2, _⟩ := hR7.rd.2 h0
        rw [e] at e2; cases e2
        intro h; cases h; omega
      rw [← KR] at ho8
      have f2 := hR8.arr.cell (k := 1) rfl
      clear hf7 ho7 hb7 hR7 ho6 hb56 hR6 hf5 ho5 hb5 hR5 hf4 ho4 hb4 hR4 hrd hM4 hM5 hM7 hG4 hG5 hG7 hvl hfar ho hR hbel hg8 hv8
      by_cases h30 : e3 = 0
      ·subst h30
       rw [show ((0 : Nat) : Int) = 0 from rfl] at f2
       have HSTT := Lib.hid (show zD m [] r = zD (m - (k + 1)) (out ++ [⟨t, kn d, z⟩]) l3 from by rw [HST.out, if_neg (by decide)])
       go_wp2_with fail
       go_roundg (m - (k + 1))
       case measure => have := HGK.out; omega
       case rel =>
        refine ⟨k + 1, out ++ [⟨t, kn d, z⟩], A7, c7, l3, rfl, by go_num, by omega, by rw [List.length_append, HOL.out]; rfl, ?_, hR8, ho8, hf8, HSTT.out, hb8⟩
        intro p hp
        rcases List.mem_append.1 hp with h | h
        ·exact HPO.out p h
        ·simp only [List.mem_cons, List.not_mem_nil, or_false] at h; subst h; exact HPN.out
      ·have e9 : ((e3 : Int) != 0) = true := by rw [bne_iff_ne]; omega
       have hres : res = ([], e3) := by rw [HF4.out, HST.out, if_pos h30]; exact if_pos h30
       have HR := Lib.hid hres
       clear hres h30
       go_wp2_with fail
       go_quiet (fail)
       have f3 : (w8.drewN nq).cell? ⟨g, 1, none⟩ = some (.int .i64 (e3 : Int)) := f2
       go_wp2_with fail
       go_ret2
       rw [HR.out]
       exact ⟨_, rfl, World.ownsRow_nil _ _ _ _, zC hb8 _⟩
     ·obtain rfl : k = m := by omega
      have hi : decide ((k : Int) < (k : Int)) = false := by simp
      have hd : zD k [] r = (0, out, l') := by rw [HCH.out, Nat.sub_self, zD]
      have HF5 := Lib.hid (show res = if 0 < l'.length then ([], 3) else if chk out ≠ 0 then ([], chk out) else (out, 0) from by rw [HF4.out, hd, if_neg (by simp)])
      have f1 := hR.arr.cell (k := 1) rfl
      have f0 := hR.arr.cell (k := 0) rfl
      rw [show ((0 : Nat) : Int) = 0 from rfl] at f1
      have hgb : w.heap.size ≤ g + 1 := by omega
      clear hd HF4 HCH hfar
      by_cases hr0 : 0 < l'.length
      ·have hres : res = ([], 3) := by rw [HF5.out, if_pos hr0]
       have HR := Lib.hid hres
       have e5 : decide ((0 : Int) < (l'.length : Int)) = true := decide_eq_true (by omega)
       have e5' : decide (0 < l'.length) = true := decide_eq_true hr0
       clear hres
       go_wp2_with fail
       go_ret2
       rw [HR.out]
       exact ⟨_, rfl, World.ownsRow_nil _ _ _ _, hbel⟩
      ·have HF6 := Lib.hid (show res = if chk out ≠ 0 then ([], chk out) else (out, 0) from by rw [HF5.out, if_neg hr0])
       have e5 : decide ((0 : Int) < (l'.length : Int)) = false := decide_eq_false (by omega)
       have e5' : decide (0 < l'.length) = false := decide_eq_false hr0
       obtain ⟨Ao, co, rfl, hco, hro⟩ := Rd.of_own' ho
       have HCK := Lib.hid (xj Ao k co out wr HOL.out hco (by omega) HPO.out hro)
       clear HF5
       go_wp2_with fail
       refine ((HCK.out)).mono ?_; rintro e_ w9 ⟨rfl, hb9⟩; dsimp only
       have hbf := hbel.trans (hb9.mono hbel.size)
       have hof := zd (zb ho hb9) hgb
       by_cases hck : chk out = 0
       ·have hres : res = (out, 0) := by rw [HF6.out, if_neg (by simpa using hck)]
        have HR := Lib.hid hres
        have e6 : ((chk out : Int) != 0) = false := by rw [bne_eq_false_iff_eq]; omega
        clear hres hck
        generalize chk out = ck at *
        go_wp2_with fail
        go_ret2
        rw [HR.out]
        refine ⟨_, rfl, ?_, hbf⟩
        dsimp only
        rw [HOL.out]; exact hof
       ·have hres : res = ([], chk out) := by rw [HF6.out, if_pos hck]
        have HR := Lib.hid hres
        have e6 : ((chk out : Int) != 0) = true := by rw [bne_iff_ne]; omega
        clear hres hck
        generalize chk out = ck at *
        go_wp2_with fail
        go_ret2
        rw [HR.out]
        exact ⟨_, rfl, World.ownsRow_nil _ _ _ _, hbf⟩
  ·have hm0 : m = 0 := hmz her
   subst hm0
   have hres : res = ([], er) := by rw [HF2.out, if_pos her]
   have HR := Lib.hid hres
   have e1 : ((er : Int) == 0) = false := by rw [beq_eq_false_iff_ne]; omega
   have e2 : ((er : Int) != 0) = true := by rw [bne_iff_ne]; omega
   clear hres her hmz
   rw [show ((0 : Nat) : Int) = 0 from rfl]
   go_wp2_with fail
   go_loopg [8, 37] 0 (fun gn v i wr => gn = 0 ∧ i = .int .i64 0 ∧ v = .slice none 0 0 ∧ Rdr wr g A3 c3 r er ∧ Below w.heap.size w wr)
   case atStart => exact ⟨rfl, rfl, rfl, hR3, hb3⟩
   case round =>
    obtain ⟨_, rfl, rfl, hR4, hb4⟩ := hrel
    have f2 := hR4.arr.cell (k := 1) rfl
    go_wp2_with fail
    go_quiet (fail)
    go_wp2_with fail
    go_ret2
    rw [HR.out]
    exact ⟨_, rfl, World.ownsRow_nil _ _ _ _, zC hb4 _⟩
def Jn (p : PartP) : Prop := qg p.name = 0 ∧ hexC p.dig = 0 ∧ p.size ≤ 300
theorem kX (A B : Option Addr) (n c d : Nat) (x : List PartP) (w : World) (hl : x.length = n) (hn : n ≤ 140737488351232) (hr : Rd w 3 A n (pcs x)) (hs : Rd w 3 B n (pcs x)) :
  Calls Tryz.prog 33 #[.slice A n c, .slice B n d] w fun e w' => e = .returned (.bool true) ∧ Below w.heap.size w w' := by
 have hnn : ((n : Int) != (n : Int)) = false := by simp
 have HL := Lib.hid hl
 clear hl
 go_enter Tryz.func33, Tryz.ntmps33
 go_wp2_with fail
 go_loopg [5, 13] n (fun gn u i wr => ∃ k : Nat, gn = n - k ∧ i = .int .i64 k ∧ k ≤ n ∧ Below w.heap.size w wr)
 case atStart => exact ⟨0, rfl, rfl, by omega, Below.refl _ _⟩
 case round =>
  obtain ⟨k, hgk, rfl, hk, hbel⟩ := hrel
  have HGK := Lib.hid hgk
  clear hgk
  by_cases hlt : k < n
  ·have hkl : k < x.length := by have := HL.out; omega
   obtain ⟨b, off, rfl, _, hcell⟩ := (hr.below hbel).2 (by omega)
   obtain ⟨b', off', rfl, _, hcell'⟩ := (hs.below hbel).2 (by omega)
   have hat := fun j (hj : j < 3) => ky x k j hkl hj
   generalize x[k] = p at *
   have c0 := hcell (k * 3 + 0) _ (hat 0 (by omega))
   have c1 := hcell (k * 3 + 1) _ (hat 1 (by omega))
   have c2 := hcell (k * 3 + 2) _ (hat 2 (by omega))
   have d0 := hcell' (k * 3 + 0) _ (hat 0 (by omega))
   have d1 := hcell' (k * 3 + 1) _ (hat 1 (by omega))
   have d2 := hcell' (k * 3 + 2) _ (hat 2 (by omega))
   rw [Nat.add_zero] at c0 d0
   rw [show off + (k * 3 + 1) = off + k * 3 + 1 by omega] at c1
   rw [show off + (k * 3 + 2) = off + k * 3 + 2 by omega] at c2
   rw [show off' + (k * 3 + 1) = off' + k * 3 + 1 by omega] at d1
   rw [show off' + (k * 3 + 2) = off' + k * 3 + 2 by omega] at d2
   obtain ⟨pn, pd, psz⟩ := p
   dsimp only [kr, List.getElem?_cons_zero, List.getElem?_cons_succ] at c0 c1 c2 d0 d1 d2
   generalize (⟨pn.toArray⟩ : ByteArray) = s at *
   generalize (⟨pd.toArray⟩ : ByteArray) = t at *
   clear hat hcell hcell'
   have hk0 : (0 : Int) ≤ (k : Int) := by omega
   have hk1 : (k : Int) < (n : Int) := by omega
   go_wp2_with fail
   go_quiet (fail)
   go_wp2_with fail
   go_roundg (n - (k + 1))
   case measure => have := HGK.out; omega
   case rel => exact ⟨k + 1, rfl, by go_num, by omega, zC hbel _⟩
  ·go_wp2_with fail
   go_ret
   exact ⟨rfl, hbel⟩
theorem Q8 {s t : ByteArray} (h : ¬ s = t) : (s.toList == t.toList) = false := by
 rw [beq_eq_false_iff_ne, ByteArray.toList_eq, ByteArray.toList_eq]
 intro e; apply h
 cases s; cases t; simp only [ByteArray.mk.injEq]; exact Array.toList_inj.1 e
theorem Zj (A B : Option Addr) (n m c d : Nat) (x y : List PartP) (w : World) (hl : x.length = n) (hl' : y.length = m) (hn : n ≤ 140737488351232) (hm : m ≤ 140737488351232) (hr : Rd w 3 A n (pcs x)) (hs : Rd w 3 B m (pcs y)) (hne : x ≠ y) :
  Calls Tryz.prog 33 #[.slice A n c, .slice B m d] w fun e w' => e = .returned (.bool false) ∧ Below w.heap.size w w' := by
 have HL := Lib.hid hl
 have HL' := Lib.hid hl'
 have HNE := Lib.hid hne
 clear hl hl' hne
 by_cases hnm : n = m
 ·subst hnm
  have hnn : ((n : Int) != (n : Int)) = false := by simp
  go_enter Tryz.func33, Tryz.ntmps33
  go_wp2_with fail
  go_loopg [5, 13] n (fun gn u i wr => ∃ k : Nat, gn = n - k ∧ i = .int .i64 k ∧ k ≤ n ∧ x.take k = y.take k ∧ Below w.heap.size w wr)
  case atStart => exact ⟨0, rfl, rfl, by omega, rfl, Below.refl _ _⟩
  case round =>
   obtain ⟨k, hgk, rfl, hk, htk, hbel⟩ := hrel
   have HGK := Lib.hid hgk
   have HTK := Lib.hid htk
   clear hgk htk
   by_cases hlt : k < n
   ·have hkl : k < x.length := by have := HL.out; omega
    have hkl' : k < y.length := by have := HL'.out; omega
    obtain ⟨b, off, rfl, _, hcell⟩ := (hr.below hbel).2 (by omega)
    obtain ⟨b', off', rfl, _, hcell'⟩ := (hs.below hbel).2 (by omega)
    have hat := fun j (hj : j < 3) => ky x k j hkl hj
    have hat' := fun j (hj : j < 3) => ky y k j hkl' hj
    have HS := Lib.hid (fun (h : x[k] = y[k]) => (by rw [List.take_succ_eq_append_getElem hkl, List.take_succ_eq_append_getElem hkl', HTK.out, h] : x.take (k + 1) = y.take (k + 1)))
    generalize x[k] = p at *
    generalize y[k] = q at *
    have c0 := hcell (k * 3 + 0) _ (hat 0 (by omega))
    have c1 := hcell (k * 3 + 1) _ (hat 1 (by omega))
    have c2 := hcell (k * 3 + 2) _ (hat 2 (by omega))
    have d0 := hcell' (k * 3 + 0) _ (hat' 0 (by omega))
    have d1 := hcell' (k * 3 + 1) _ (hat' 1 (by omega))
    have d2 := hcell' (k * 3 + 2) _ (hat' 2 (by omega))
    rw [Nat.add_zero] at c0 d0
    rw [show off + (k * 3 + 1) = off + k * 3 + 1 by omega] at c1
    rw [show off + (k * 3 + 2) = off + k * 3 + 2 by omega] at c2
    rw [show off' + (k * 3 + 1) = off' + k * 3 + 1 by omega] at d1
    rw [show off' + (k * 3 + 2) = off' + k * 3 + 2 by omega] at d2
    obtain ⟨pn, pd, psz⟩ := p
    obtain ⟨qn, qd, qsz⟩ := q
    dsimp only [kr, List.getElem?_cons_zero, List.getElem?_cons_succ] at c0 c1 c2 d0 d1 d2
    obtain ⟨s, hs⟩ : ∃ s : ByteArray, s = ⟨pn.toArray⟩ := ⟨_, rfl⟩
    obtain ⟨t, ht⟩ : ∃ s : ByteArray, s = ⟨pd.toArray⟩ := ⟨_, rfl⟩
    obtain ⟨s', hs'⟩ : ∃ s : ByteArray, s = ⟨qn.toArray⟩ := ⟨_, rfl⟩
    obtain ⟨t', ht'⟩ : ∃ s : ByteArray, s = ⟨qd.toArray⟩ := ⟨_, rfl⟩
    rw [← hs] at c0
    rw [← ht] at c1
    rw [← hs'] at d0
    rw [← ht'] at d1
    have H4 := Lib.hid (And.intro hs (And.intro ht (And.intro hs' ht')))
    clear hat hcell hcell' hat' hs ht hs' ht'
    have hk0 : (0 : Int) ≤ (k : Int) := by omega
    have hk1 : (k : Int) < (n : Int) := by omega
    by_cases hss : s = s'
    ·subst hss
     by_cases htt : t = t'
     ·subst htt
      by_cases hzz : psz = qsz
      ·subst hzz
       have HS2 := Lib.hid (HS.out (by
        have h1 : pn = qn := by have := H4.out.1.symm.trans H4.out.2.2.1; simpa using this
        have h2 : pd = qd := by have := H4.out.2.1.symm.trans H4.out.2.2.2; simpa using this
        rw [h1, h2]))
       go_wp2_with fail
       go_quiet (fail)
       go_wp2_with fail
       go_roundg (n - (k + 1))
       case measure => have := HGK.out; omega
       case rel => exact ⟨k + 1, rfl, by go_num, by omega, HS2.out, zC hbel _⟩
      ·have e1 : ((psz : Int) == (qsz : Int)) = false := by rw [beq_eq_false_iff_ne]; omega
       have e2 : ¬ ((psz : Int) = (qsz : Int)) := by omega
       have e3 : (psz == qsz) = false := by rw [beq_eq_false_iff_ne]; exact hzz
       go_wp2_with fail
       go_quiet (fail)
       go_wp2_with fail
       go_ret
       exact ⟨rfl, zC hbel _⟩
     ·have e1 : (t.toList == t'.toList) = false := Q8 htt
      go_wp2_with fail
      go_quiet (fail)
      go_wp2_with fail
      go_ret
      exact ⟨rfl, zC hbel _⟩
    ·have e1 : (s.toList == s'.toList) = false := Q8 hss
     go_wp2_with fail
     go_quiet (fail)
     go_wp2_with fail
     go_ret
     exact ⟨rfl, zC hbel _⟩
   ·exfalso
    apply HNE.out
    have h1 := HTK.out
    rwa [List.take_of_length_le (by have := HL.out; omega), List.take_of_length_le (by have := HL'.out; omega)] at h1
 ·have hnn : ((n : Int) != (m : Int)) = true := by rw [bne_iff_ne]; omega
  go_enter Tryz.func33, Tryz.ntmps33
  go_wp2_with fail
  go_ret
  exact ⟨rfl, Below.refl _ _⟩
theorem kD (A : Option Addr) (n c : Nat) (xs : List Value) (w : World) (hb : n * 40 ≤ 140737488355328) (hr : Rd w 3 A n xs) (h1 : ∀ u ∈ xs, u.oneCell' = true) :
  Calls Tryz.prog 117 #[.slice A n c] w fun e w' => ∃ v, e = .returned v ∧ w'.ownsRow w.heap.size 68 3 v n xs ∧ Below w.heap.size w w' := by
 have heq := fun W => Lib.run_eql_slice_nil (P := Tryz.prog) W 45 68 A n c 0 0 Tryz.underlying45
 cases A with
 | none =>
  obtain rfl : n = 0 := by
   rcases Nat.eq_zero_or_pos n with h | h
   ·exact h
   ·obtain ⟨_, _, h1, _⟩ := hr.2 h; cases h1
  obtain rfl : xs = [] := List.eq_nil_of_length_eq_zero (by simpa using hr.1)
  go_enter Tryz.func117, Tryz.ntmps117
  go_wp2_with fail
  go_ret
  exact ⟨_, rfl, World.ownsRow_nil _ _ _ _, Below.refl _ _⟩
 | some ad =>
  go_enter Tryz.func117, Tryz.ntmps117
  repeat' (fail_if_success (first|at_builtin|at_make));first|go_values|go_skip|go_guarded|go_step|go_upon|go_back
  refine zz rfl (.tmp 5) (.tmp 6) rfl Yj (by rfl) (World.ownsRow_made (size := 3) w #[] 0 (Nat.le_refl _) (by simp [maxLen]) rfl) (by rfl) (hr.alloc _) h1 (by omega) (by simp) ?_
  intro v1 w1 hown1 hg1 _
  have hb1 := zf ((Below.refl _ _).alloc (Nat.le_refl _) _) (World.ownsRow_made (size := 3) w #[] 0 (Nat.le_refl _) (by simp [maxLen]) rfl) (Nat.le_refl _) hg1
  go_wp2_with fail
  go_ret
  exact ⟨_, rfl, by simpa using hown1, hb1⟩
end Go.Proofs.YtpbacomdoddhdaaGreat
