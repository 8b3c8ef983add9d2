/- keep.Orders: orders that may be, as a row of one's own. Conditions: the slice's size. -/
import Derived.Test.YtdpedkgdobfemaaOrL
import Derived.Test.YtdpedkgdobfemaaStW
import Derived.Test.YtdpedkgdobfemaaHeld
import Derived.Test.YtdpedkgdobfemaaMan
namespace Go.Proofs.Ytdpedkgdobfemaa
open Go.RowKit
set_option linter.unusedVariables false
set_option linter.unusedSimpArgs false
set_option maxRecDepth 100000

theorem good_f {k n : Nat} {d t : List UInt8} {p : List PartP} {f : FldP} (hf : fOf k = (f, true)) (h1 : f.n = false → n = 0) (h2 : f.dig = false → d = []) (h3 : f.data = false → t = []) (h4 : f.parts = false → p = []) (hn : n ≤ 4000) (hd : f.dig = true → hexC d = 0) (ht : t.length ≤ 300) (hp : chk p = 0) : GoodO ⟨k, n, d, t, p⟩ :=
  ⟨by show (fOf k).2 = true; rw [hf], by show (fOf k).1.n = false → _; rw [hf]; exact h1, by show (fOf k).1.dig = false → _; rw [hf]; exact h2, by show (fOf k).1.data = false → _; rw [hf]; exact h3, by show (fOf k).1.parts = false → _; rw [hf]; exact h4, hn, by show (fOf k).1.dig = true → _; rw [hf]; exact hd, ht, hp⟩

def ocell (o : OrdP) (A : Option Addr) (c : Nat) (A' : Option Addr) (c' : Nat) : List Value := [.int .i64 (o.kind : Int), .int .i64 (o.n : Int), .string ⟨o.dig.toArray⟩, .slice A o.data.length c, .slice A' o.parts.length c']
theorem oc_one (o : OrdP) (A : Option Addr) (c : Nat) (A' : Option Addr) (c' : Nat) : ∀ u ∈ ocell o A c A' c', u.oneCell' = true := by
  intro u hu
  simp only [ocell, List.mem_cons, List.not_mem_nil, or_false] at hu
  rcases hu with rfl | rfl | rfl | rfl | rfl <;> rfl
theorem oc_leads {o : OrdP} {A : Option Addr} {c : Nat} {A' : Option Addr} {c' b : Nat} (h : leads b (ocell o A c A' c')) : ∃ a, (A = some a ∨ A' = some a) ∧ a.block = b := by
  obtain ⟨a, n, c2, hm, rfl⟩ := h
  simp only [ocell, List.mem_cons, List.not_mem_nil, or_false, Value.slice.injEq, reduceCtorEq, false_or] at hm
  rcases hm with ⟨e, _⟩ | ⟨e, _⟩
  · exact ⟨a, .inl e.symm, rfl⟩
  · exact ⟨a, .inr e.symm, rfl⟩
def OrdS : Shp OrdP where
  size := 5
  R w o cs := ∃ A c A' c', cs = ocell o A c A' c' ∧ Sl w 1 A o.data.length c (bys o.data) ∧ Sl w 3 A' o.parts.length c' (pcs o.parts)
  len := by rintro w b cs ⟨A, c, A', c', rfl, _⟩; rfl
  one := by
    rintro w b cs ⟨A, c, A', c', rfl, _⟩
    exact oc_one b A c A' c'
  live := by
    rintro w b cs ⟨A, c, A', c', rfl, h, h'⟩ g hl
    obtain ⟨a, e | e, rfl⟩ := oc_leads hl
    · exact h.live a e
    · exact h'.live a e
  keep := by
    rintro w w' b cs ⟨A, c, A', c', rfl, h, h'⟩ hs hk
    exact ⟨A, c, A', c', rfl, h.keep hs fun g hg ⟨a, ha, hb⟩ => hk g hg ⟨a, b.data.length, c, by subst ha; simp [ocell], hb⟩, h'.keep hs fun g hg ⟨a, ha, hb⟩ => hk g hg ⟨a, b.parts.length, c', by subst ha; simp [ocell], hb⟩⟩
theorem Rw.ord_at {w : World} {A : Option Addr} {l : List OrdP} (h : Rw OrdS w A l) (k : Nat) (hk : k < l.length) :
    ∃ b off B c B' c', A = some ⟨b, off, none⟩ ∧ b < w.heap.size ∧ w.cell? ⟨b, off + k * 5, none⟩ = some (.int .i64 (l[k].kind : Int)) ∧ w.cell? ⟨b, off + k * 5 + 1, none⟩ = some (.int .i64 (l[k].n : Int)) ∧
      w.cell? ⟨b, off + k * 5 + 2, none⟩ = some (.string ⟨l[k].dig.toArray⟩) ∧ w.cell? ⟨b, off + k * 5 + 3, none⟩ = some (.slice B l[k].data.length c) ∧ w.cell? ⟨b, off + k * 5 + 4, none⟩ = some (.slice B' l[k].parts.length c') ∧
      Sl w 1 B l[k].data.length c (bys l[k].data) ∧ Sl w 3 B' l[k].parts.length c' (pcs l[k].parts) := by
  obtain ⟨b, off, cs, rfl, hb, ⟨B, c, B', c', rfl, hs, hs'⟩, hc⟩ := h.at_ k hk
  exact ⟨b, off, B, c, B', c', rfl, hb, hc 0 _ rfl, hc 1 _ rfl, hc 2 _ rfl, hc 3 _ rfl, hc 4 _ rfl, hs, hs'⟩
theorem elOrd : El Try.prog 23 28 5 80 := El.mk' (z := .agg #[.int .i64 0, .int .i64 0, .string ByteArray.empty, .slice none 0 0, .slice none 0 0]) Try.underlying23 (by kernel_rfl) rfl (by omega) (by omega)

/-- what is put while Orders goes on -/
structure PutP (ps : List BlobP) : Prop where
  hex : ∀ b ∈ ps, hexC b.dig = 0 ∧ b.data.length ≤ 300
/-- while Orders goes on: its two rows -/
structure OrW (w : World) (H : Nat) (vo vp : Value) (os : List OrdP) (ps : List BlobP) : Prop where
  o : RwX OrdS 28 w H vo os (fun g => vp.ownBlock = some g)
  p : RwX BlobS 54 w H vp ps (fun g => vo.ownBlock = some g)
  ne : ∀ g, vo.ownBlock = some g → vp.ownBlock ≠ some g
section
variable {w w' : World} {H : Nat} {vo vp : Value} {os : List OrdP} {ps : List BlobP}
theorem OrW.below (h : OrW w H vo vp os ps) (hb : Below w.heap.size w w') : OrW w' H vo vp os ps := ⟨h.o.below hb, h.p.below hb, h.ne⟩
theorem OrW.bO (h : OrW w H vo vp os ps) : ∀ g, vo.ownBlock = some g → H ≤ g ∧ g < w.heap.size := fun g e => h.o.rwo.blk e
theorem OrW.bP (h : OrW w H vo vp os ps) : ∀ g, vp.ownBlock = some g → H ≤ g ∧ g < w.heap.size := fun g e => h.p.rwo.blk e
/-- one blob more -/
theorem OrW.openP (h : OrW w H vo vp os ps) : ∃ xs, w.ownsRow H 54 4 vp ps.length xs ∧
    ∀ (x : BlobP) (B : Option Addr) (c : Nat) (w1 w2 : World) (v2 : Value), Below w.heap.size w w1 → Sl w1 1 B x.data.length c (bys x.data) → (∀ a, B = some a → w.heap.size ≤ a.block) →
      w2.ownsRow H 54 4 v2 (ps.length + 1) (xs ++ blcell x B c) → w1.grownBy w2 vp.ownBlock → (v2.ownBlock = vp.ownBlock ∨ v2.ownBlock = some w1.heap.size) →
      OrW w2 H vo v2 os (ps ++ [x]) ∧ Sl w2 1 B x.data.length c (bys x.data) ∧ (∀ a, B = some a → ∀ g, (vo.ownBlock = some g ∨ v2.ownBlock = some g) → a.block ≠ g) := by
  obtain ⟨xs, hx, hop⟩ := h.p.open_
  refine ⟨xs, hx, fun x B c w1 w2 v2 hb hs hB ho hg hv => ?_⟩
  have h1 := h.below hb
  have hsz := hb.size
  have b2 := hop x (blcell x B c) w1 w2 v2 hb ⟨B, c, rfl, hs⟩ (fun b hb' hl => by
    obtain ⟨a, e1, rfl⟩ := blc_leads hl
    have := hB a e1
    rcases hb' with e | e
    · have := (h.bP _ e).2; omega
    · have := (h.bO _ e).2; omega) ho hg (hv.imp id fun e => ⟨_, e, Nat.le_refl _⟩)
  have o2 := (((h1.o.wider (N' := fun g => vp.ownBlock = some g ∨ v2.ownBlock = some g) (fun b hb => by
    rcases hb with hb | hb
    · exact .inl hb
    · rcases hv with e | e
      · exact .inl (e ▸ hb)
      · rw [e] at hb; cases hb; exact .inr (Nat.le_refl _))).other hg (fun b e1 e2 => h.ne b e2 e1) (fun b e => .inl e)).wider (N' := fun g => v2.ownBlock = some g) (fun b hb => .inl (.inr hb)))
  refine ⟨⟨o2, b2, fun g e1 e2 => ?_⟩, hs.keep hg.size (fun b hb' ⟨a, e1, e2⟩ => hg.block b hb' (fun e3 => ?_)), fun a e1 g e2 e3 => ?_⟩
  · rcases hv with e | e
    · exact h.ne g e1 (e ▸ e2)
    · rw [e] at e2; cases e2; have := (h1.bO _ e1).2; omega
  · have := hB a e1; have := (h.bP _ e3.symm).2; omega
  · have h5 := hB a e1
    have h6 := hs.live a e1
    rcases e2 with e2 | e2
    · have := (h.bO _ e2).2; omega
    · rcases hv with e | e
      · rw [e] at e2; have := (h.bP _ e2).2; omega
      · rw [e] at e2; cases e2; omega
/-- one order more -/
theorem OrW.openO (h : OrW w H vo vp os ps) : ∃ xs, w.ownsRow H 28 5 vo os.length xs ∧
    ∀ (x : OrdP) (B : Option Addr) (c : Nat) (B' : Option Addr) (c' : Nat) (w2 : World) (v2 : Value), Sl w 1 B x.data.length c (bys x.data) → Sl w 3 B' x.parts.length c' (pcs x.parts) →
      (∀ a, B = some a → ∀ g, (vo.ownBlock = some g ∨ vp.ownBlock = some g) → a.block ≠ g) → (∀ a, B' = some a → ∀ g, (vo.ownBlock = some g ∨ vp.ownBlock = some g) → a.block ≠ g) →
      w2.ownsRow H 28 5 v2 (os.length + 1) (xs ++ ocell x B c B' c') → w.grownBy w2 vo.ownBlock → (v2.ownBlock = vo.ownBlock ∨ ∃ g, v2.ownBlock = some g ∧ w.heap.size ≤ g) →
      OrW w2 H v2 vp (os ++ [x]) ps := by
  obtain ⟨xs, hx, hop⟩ := h.o.open_
  refine ⟨xs, hx, fun x B c B' c' w2 v2 hs hs' hB hB' ho hg hv => ?_⟩
  have o2 := hop x (ocell x B c B' c') w w2 v2 (Below.refl _ _) ⟨B, c, B', c', rfl, hs, hs'⟩ (fun b hb' hl => by
    obtain ⟨a, e1 | e1, rfl⟩ := oc_leads hl
    · exact hB a e1 a.block hb' rfl
    · exact hB' a e1 a.block hb' rfl) ho hg hv
  have p2 := (((h.p.wider (N' := fun g => vo.ownBlock = some g ∨ v2.ownBlock = some g) (fun b hb => by
    rcases hb with hb | hb
    · exact .inl hb
    · rcases hv with e | ⟨g, e, hge⟩
      · exact .inl (e ▸ hb)
      · rw [e] at hb; cases hb; exact .inr hge)).other hg (fun b e1 e2 => h.ne b e1 e2) (fun b e => .inl e)).wider (N' := fun g => v2.ownBlock = some g) (fun b hb => .inl (.inr hb)))
  refine ⟨o2, p2, fun g e1 e2 => ?_⟩
  rcases hv with e | ⟨g', e, hge⟩
  · exact h.ne g (e ▸ e1) e2
  · rw [e] at e1; cases e1; have := (h.bP _ e2).2; omega
end
theorem at_sreg_ {P : Program} {ops : Array Oper} {c : Code} {b : Bool} {a : Act} {w : World} {Q : Exit → Act → World → Prop} (i : Nat) (h : Code.wp P (.seq (.region i ops b) c) Q a w) : Code.wp P (.seq (.region i ops b) c) Q a w := h
theorem at_ssreg_ {P : Program} {ops : Array Oper} {c d : Code} {b : Bool} {a : Act} {w : World} {Q : Exit → Act → World → Prop} (i : Nat) (h : Code.wp P (.seq (.seq (.region i ops b) c) d) Q a w) : Code.wp P (.seq (.seq (.region i ops b) c) d) Q a w := h
theorem at_reg_ {P : Program} {ops : Array Oper} {b : Bool} {a : Act} {w : World} {Q : Exit → Act → World → Prop} (i : Nat) (h : Code.wp P (.region i ops b) Q a w) : Code.wp P (.region i ops b) Q a w := h
theorem share_o {P Q : Prop} (h : Hid P → Q) (p : P) : Q := h (Lib.hid p)
theorem enc_pts (l : List BlobP) (r : RawP) (h : chk (ptsOf l r) = 0) : (enc (ptsOf l r)).length ≤ 148 := by
  have h3 := pts_len l r
  have hz := chk_zero h
  rw [enc_length _ hz.1]
  have := flat_len _ hz.2
  omega
--ORDERS
set_option maxHeartbeats 16000000 in
theorem Orders_ok (A : Option Addr) (n c : Nat) (l : List RawP) (many : Nat) (M : Int) (hM : (many : Int) = M) (h20 : many ≤ 20) (w : World) (hl : l.length = n) (hc : n ≤ c) (hm : c ≤ maxLen) (hok : ∀ r ∈ l, RawOk r) (hr : Rd w 4 A n (rcs l)) :
    Calls Try.prog 7 #[.slice A n c, .int .i64 M] w fun e w' => ∃ v os, e = .returned v ∧ RwO OrdS 28 w' w.heap.size v os ∧ (∀ o ∈ os, GoodO o) ∧ os.length ≤ many ∧ Below w.heap.size w w' := by
  subst hM
  have hn63 : n ≤ 9223372036854775807 := by unfold maxLen at hm; omega
  have HOK := Lib.hid hok
  have HL := Lib.hid hl
  clear hok hl hm
  obtain ⟨H, hH⟩ : ∃ H, H = w.heap.size := ⟨_, rfl⟩
  have hst0 : OrW w H (.slice none 0 0) (.slice none 0 0) [] [] := ⟨RwX.nil_ (World.ownsRow_nil _ _ _ _), RwX.nil_ (World.ownsRow_nil _ _ _ _), fun g h => by cases h⟩
  have hb0 : Below H w w := by rw [hH]; exact Below.refl _ _
  have HH := Lib.hid hH
  clear hH
  go_enter Try.func7, Try.ntmps7
  repeat' ((fail_if_success at_builtin); (fail_if_success at_make); (first | go_values | go_skip | go_guarded | go_step | go_upon | go_back))
  go_loopg [5, 6, 13] n (fun gn vo vp i wr => ∃ (k : Nat) (os : List OrdP) (ps : List BlobP), gn = n - k ∧ i = .int .i64 k ∧ k ≤ n ∧ k ≤ many ∧ OrW wr H vo vp os ps ∧ (∀ o ∈ os, GoodO o) ∧ (∀ b ∈ ps, hexC b.dig = 0 ∧ b.data.length ≤ 300) ∧ os.length ≤ k ∧ ps.length ≤ k ∧ Below H w wr)
  case atStart => exact ⟨0, [], [], rfl, rfl, by omega, by omega, hst0, (fun o h => absurd h (by simp)), (fun b h => absurd h (by simp)), Nat.le_refl _, Nat.le_refl _, hb0⟩
  case round =>
    clear hst0 hb0
    obtain ⟨k, os, ps, hgk, rfl, hk, hkm, hst, hgo, hgp, hol, hpl, hbel⟩ := hrel
    have HGK := Lib.hid hgk
    have HGO := Lib.hid hgo
    have HGP := Lib.hid hgp
    have HOL := Lib.hid (And.intro hol hpl)
    have hol24 : os.length ≤ 20 := by omega
    have hpl24 : ps.length ≤ 20 := by omega
    clear hgk hgo hgp hol hpl
    by_cases hlt : k < n
    rotate_left
    · obtain rfl : k = n := by omega
      have hlb : decide (k < k) = false := by simp
      repeat' ((fail_if_success at_builtin); (fail_if_success at_make); (first | go_values | go_skip | go_guarded | go_step | go_upon | go_back))
      go_ret
      exact ⟨_, os, rfl, by rw [← HH.out]; exact hst.o.rwo, HGO.out, by have := HOL.out.1; omega, by rw [← HH.out]; exact hbel⟩
    have hlb : decide (k < n) = true := decide_eq_true hlt
    have hk0 : (0 : Int) ≤ (k : Int) := by omega
    have hk1 : (k : Int) < (n : Int) := by omega
    have hkl : k < l.length := by have := HL.out; omega
    have hbel' : Below w.heap.size w wr := by rw [← HH.out]; exact hbel
    obtain ⟨b, off, rfl, hbw, hcell⟩ := (hr.below hbel').2 (by omega)
    have hat := fun j (hj : j < 4) => rcs_at l k j hkl hj
    have hrok := HOK.out l[k] (List.getElem_mem hkl)
    generalize l[k] = r at *
    have c0 := hcell (k * 4 + 0) _ (hat 0 (by omega))
    have c1 := hcell (k * 4 + 1) _ (hat 1 (by omega))
    have c2 := hcell (k * 4 + 2) _ (hat 2 (by omega))
    have c3 := hcell (k * 4 + 3) _ (hat 3 (by omega))
    obtain ⟨rk, ra, rb, rt⟩ := r
    have HR := Lib.hid hrok
    clear hat hcell hrok hkl
    rw [Nat.add_zero] at c0
    rw [show off + (k * 4 + 1) = off + k * 4 + 1 by omega] at c1
    rw [show off + (k * 4 + 2) = off + k * 4 + 2 by omega] at c2
    rw [show off + (k * 4 + 3) = off + k * 4 + 3 by omega] at c3
    by_cases h12 : k < many
    rotate_left
    · have h12b : decide ((k : Int) ≥ (many : Int)) = true := decide_eq_true (by omega)
      have h12c : decide ((many : Int) ≤ (k : Int)) = true := decide_eq_true (by omega)
      have h12d : decide (many ≤ k) = true := decide_eq_true (by omega)
      have hba := (Below.refl wr.heap.size wr).alloc (Nat.le_refl _) (.cells #[.int .i64 rk, .int .i64 ra, .int .i64 rb, .string rt] 51)
      have hstF := hst.below hba
      have hbelF := hbel'.trans (hba.mono hbel'.size)
      repeat' ((fail_if_success at_builtin); (fail_if_success at_make); (first | go_values | go_skip | go_guarded | go_step | go_upon | go_back))
      go_ret
      exact ⟨_, os, rfl, by rw [← HH.out]; exact hstF.o.rwo, HGO.out, by have := HOL.out.1; omega, hbelF⟩
    have h12b : decide ((k : Int) ≥ (many : Int)) = false := decide_eq_false (by omega)
    have h12c : decide ((many : Int) ≤ (k : Int)) = false := decide_eq_false (by omega)
    have h12d : decide (many ≤ k) = false := decide_eq_false (by omega)
    have HP14 := Lib.hid (fun w' => Picked_ok rk 14 14 rfl w' HR.out.k0 HR.out.k1 (by omega) (by omega))
    have hp14 := pk_lt rk (m := 14) (by omega)
    have HP3 := Lib.hid (fun w' => Picked_ok rk 3 3 rfl w' HR.out.k0 HR.out.k1 (by omega) (by omega))
    have hR1 := Arr.new wr 51 [.int .i64 rk, .int .i64 ra, .int .i64 rb, .string rt]
    have hba := (Below.refl wr.heap.size wr).alloc (Nat.le_refl _) (.cells #[.int .i64 rk, .int .i64 ra, .int .i64 rb, .string rt] 51)
    have hR1' : Arr (wr.alloc (.cells #[.int .i64 rk, .int .i64 ra, .int .i64 rb, .string rt] 51)) wr.heap.size 51 [.int .i64 rk, .int .i64 ra, .int .i64 rb, .string rt] := hR1
    have k0 := hR1'.cell (k := 0) rfl
    clear hR1
    repeat' ((fail_if_success at_builtin); (fail_if_success at_make); (first | go_values | go_skip | go_guarded | go_step | go_upon | go_back))
    clear c0 c1 c2 c3
    have hst1 := hst.below hba
    have hbel1 := hbel.trans (hba.mono (by rw [HH.out]; exact hbel'.size))
    have hHr : H ≤ wr.heap.size := by rw [HH.out]; exact hbel'.size
    have hsw1 : wr.heap.size < (wr.alloc (.cells #[.int .i64 rk, .int .i64 ra, .int .i64 rb, .string rt] 51)).heap.size := by rw [World.size_alloc]; omega
    have hbO := hst.bO
    have hbP := hst.bP
    generalize wr.alloc (.cells #[.int .i64 rk, .int .i64 ra, .int .i64 rb, .string rt] 51) = w1 at *
    generalize wr.heap.size = g6 at *
    clear k0 hst hba hbel hbel' hbw hr
    refine ((HP14.out w1)).mono ?_; rintro e_ _ ⟨rfl, rfl⟩; dsimp only
    generalize pk rk 14 = q14 at *
    generalize pk rk 3 = q3 at *
    obtain ⟨kd, hkd⟩ : ∃ kd : Nat, kd = 1 + q14 := ⟨_, rfl⟩
    have hw14 : IntKind.i64.wrap (1 + (q14 : Int)) = (kd : Int) := by rw [IntWalk.i64_in _ (by omega)]; omega
    have hkd1 : 1 ≤ kd ∧ kd ≤ 14 := by omega
    clear hkd hp14
    have x0 := hR1'.cell (k := 0) rfl
    have hO2 := Arr.new w1 28 [.int .i64 (kd : Int), .int .i64 0, .string ⟨#[]⟩, .slice none 0 0, .slice none 0 0]
    have hba := (Below.refl w1.heap.size w1).alloc (Nat.le_refl _) (.cells #[.int .i64 (kd : Int), .int .i64 0, .string ⟨#[]⟩, .slice none 0 0, .slice none 0 0] 28)
    have hR2 := hR1'.alloc (.cells #[.int .i64 (kd : Int), .int .i64 0, .string ⟨#[]⟩, .slice none 0 0, .slice none 0 0] 28)
    have hO2' : Arr (w1.alloc (.cells #[.int .i64 (kd : Int), .int .i64 0, .string ⟨#[]⟩, .slice none 0 0, .slice none 0 0] 28)) w1.heap.size 28 [.int .i64 (kd : Int), .int .i64 0, .string ⟨#[]⟩, .slice none 0 0, .slice none 0 0] := hO2
    have hR2' : Arr (w1.alloc (.cells #[.int .i64 (kd : Int), .int .i64 0, .string ⟨#[]⟩, .slice none 0 0, .slice none 0 0] 28)) g6 51 [.int .i64 rk, .int .i64 ra, .int .i64 rb, .string rt] := hR2
    have y0 := hR2'.cell (k := 0) rfl
    clear hO2 hR2
    repeat' ((fail_if_success at_builtin); (fail_if_success at_make); (first | go_values | go_skip | go_guarded | go_step | go_upon | go_back))
    obtain ⟨Ap, cp, rfl, hcp1, hcp2, hRp⟩ := hst1.p.rwo.rows
    obtain ⟨xsP, hxsP, hopP⟩ := hst1.openP
    have hHw1 : H ≤ w1.heap.size := by omega
    have HOPN := Lib.hid (And.intro (fun W (h : Below w1.heap.size w1 W) => own_below hxsP h) hopP)
    have HST1 := Lib.hid (fun W (h : Below w1.heap.size w1 W) => hst1.below h)
    have HR1 := Lib.hid (fun W (h : Below w1.heap.size w1 W) => hR1'.below h)
    have HRP := Lib.hid (fun W (h : Below w1.heap.size w1 W) => hRp.below h)
    have HBE1 := Lib.hid (fun W (h : Below w1.heap.size w1 W) => hbel1.trans (h.mono hHw1))
    have HGW := Lib.hid (fun W (h : Below w1.heap.size w1 W) => h.size)
    have HBO := Lib.hid (show ∀ g, (u5.ownBlock = some g ∨ (Value.slice Ap ps.length cp).ownBlock = some g) → g < w1.heap.size from fun g e => e.elim (fun e => (hst1.bO g e).2) (fun e => (hst1.bP g e).2))
    have HBP := Lib.hid (show ∀ g, (Value.slice Ap ps.length cp).ownBlock = some g → H ≤ g from fun g e => (hst1.bP g e).1)
    have HKY := Lib.hid (fun W => Key_ok ra W HR.out.a0 HR.out.a1)
    have hpt := fun W (h : Below w1.heap.size w1 W) => Parts_ok Ap cp ps ⟨rk, ra, rb, rt⟩ W (by omega) hcp1 hcp2 (fun b hb => by have := (HGP.out b hb).2; omega) (hRp.below h) HR.out
    dsimp only at hpt
    have HPT := Lib.hid hpt
    have HHG := Lib.hid hHw1
    have HHW := Lib.hid (show H ≤ w.heap.size from by rw [HH.out]; exact Nat.le_refl _)
    have hb2' := hba
    clear hpt hba hxsP hopP hst1 hbel1 hR1' hRp hHw1 hcp1 hcp2 hbO hbP
    generalize w1.alloc (.cells #[.int .i64 (kd : Int), .int .i64 0, .string ⟨#[]⟩, .slice none 0 0, .slice none 0 0] 28) = w2 at *
    generalize hgO : w1.heap.size = gO at *
    have HgO := Lib.hid hgO
    clear hgO y0 x0 hw14
    have HR2 := Lib.hid hR2'
    clear hR2'
    refine ((HP3.out w2)).mono ?_; rintro e_ _ ⟨rfl, rfl⟩; dsimp only
    have HDG := Lib.hid (fun W => Digest_ok none 0 0 [] W rfl (Nat.le_refl _) (by omega) Rd.nil_)
    apply share_o
    · intro REST
      by_cases h3 : q3 = 0
      rotate_left
      · have e3 : ((q3 : Int) == 0) = false := by rw [beq_eq_false_iff_ne]; omega
        repeat' ((fail_if_success at_builtin); (fail_if_success at_make); (first | go_values | go_skip | go_guarded | go_step | go_upon | go_back))
        refine ((HDG.out _)).mono ?_; rintro e_ w3 ⟨rfl, hb3⟩; dsimp only
        by_cases hp0 : ps.length = 0
        · have e4 : decide ((0 : Int) < (ps.length : Int)) = false := decide_eq_false (by omega)
          have e4' : decide (0 < ps.length) = false := decide_eq_false (by omega)
          have HP0 := Lib.hid hp0
          clear hp0
          repeat' ((fail_if_success (with_reducible refine at_reg_ 13 ?_)); (fail_if_success (with_reducible refine at_sreg_ 13 ?_)); (fail_if_success (with_reducible refine at_ssreg_ 13 ?_)); (fail_if_success at_builtin); (fail_if_success at_make); (first | go_values | go_skip | go_guarded | go_step | go_upon | go_back))
          have hbW := hb2'.trans (hb3.mono (HGW.out _ hb2'))
          have hOW := hO2'.below hb3
          have hall : ∃ bd : List UInt8, (⟨(shaS []).toArray⟩ : ByteArray) = ⟨bd.toArray⟩ ∧ hexC bd = 0 := ⟨_, rfl, hexC_sha _⟩
          obtain ⟨vb29, h29⟩ : ∃ v, v = Value.bool false := ⟨_, rfl⟩
          obtain ⟨vb34, h34⟩ : ∃ v, v = Value.bool false := ⟨_, rfl⟩
          obtain ⟨v31, h31⟩ : ∃ v, v = Value.string ⟨(shaS []).toArray⟩ := ⟨_, rfl⟩
          obtain ⟨S, hS⟩ : ∃ S : ByteArray, S = ⟨(shaS []).toArray⟩ := ⟨_, rfl⟩
          obtain ⟨kx, hkx⟩ : ∃ kx, kx = kd := ⟨_, rfl⟩
          generalize u30 = t30
          generalize u35 = t35
          generalize u36 = t36
          generalize u37 = t37
          generalize u38 = t38
          generalize u39 = t39
          generalize u40 = t40
          generalize u41 = t41
          generalize u42 = t42
          generalize u43 = t43
          rw (occs := .pos [3]) [← h34]
          rw (occs := .pos [2]) [← h29]
          rw (occs := .pos [2]) [← h31]
          rw [← hS] at hall ⊢
          rw [← hkx] at hOW
          have hall2 := And.intro hbW (And.intro hOW (And.intro hall (show 1 ≤ kx ∧ kx ≤ 14 by omega)))
          clear h34 h29 h31 hS hkx hall hbW hOW hb3
          revert w3 vb29 vb34 v31 S kx t30 t35 t36 t37 t38 t39 t40 t41 t42 t43
          exact REST.out
        · have e4 : decide ((0 : Int) < (ps.length : Int)) = true := decide_eq_true (by omega)
          have e4' : decide (0 < ps.length) = true := decide_eq_true (by omega)
          have hbW := hb2'.trans (hb3.mono (HGW.out _ hb2'))
          have hp : 0 < ps.length := by omega
          have hj := pk_lt rb (m := ps.length) hp
          have HPB := Lib.hid (fun w' => Picked_ok rb ps.length (ps.length : Int) rfl w' HR.out.b0 HR.out.b1 hp (by omega))
          have hRw := HR1.out _ hbW
          have x2 := hRw.cell (k := 2) rfl
          have hOW := hO2'.below hb3
          repeat' ((fail_if_success at_builtin); (fail_if_success at_make); (first | go_values | go_skip | go_guarded | go_step | go_upon | go_back))
          refine ((HPB.out _)).mono ?_; rintro e_ _ ⟨rfl, rfl⟩; dsimp only
          generalize pk rb ps.length = j at *
          obtain ⟨bq, oq, Bq, cq, hAq, _, d0, _⟩ := (HRP.out _ hbW).blob_at j hj
          subst hAq
          have hex := (HGP.out _ (List.getElem_mem hj)).1
          have hj0 : (0 : Int) ≤ (j : Int) := by omega
          have hj1 : (j : Int) < (ps.length : Int) := by omega
          clear hRw hb3 x2
          repeat' ((fail_if_success (with_reducible refine at_reg_ 13 ?_)); (fail_if_success (with_reducible refine at_sreg_ 13 ?_)); (fail_if_success (with_reducible refine at_ssreg_ 13 ?_)); (fail_if_success at_builtin); (fail_if_success at_make); (first | go_values | go_skip | go_guarded | go_step | go_upon | go_back))
          exact REST.out w3 _ _ _ _ kd _ _ _ _ _ _ _ _ _ _ ⟨hbW, hOW, ⟨_, rfl, hex⟩, hkd1⟩
      · have e3 : ((q3 : Int) == 0) = true := by rw [beq_iff_eq]; omega
        have y0 := hO2'.cell (k := 0) rfl
        have z0 := hO2'.frozen 0
        repeat' ((fail_if_success at_builtin); (fail_if_success at_make); (first | go_values | go_skip | go_guarded | go_step | go_upon | go_back))
        have hb4 : Below gO w1 (w2.setCell ⟨gO, 0, none⟩ (.int .i64 1)) := hb2'.setCell (p := ⟨gO, 0, none⟩) (Nat.le_refl _) _
        have hO4 : Arr (w2.setCell ⟨gO, 0, none⟩ (.int .i64 1)) gO 28 [.int .i64 ((1 : Nat) : Int), .int .i64 0, .string ⟨#[]⟩, .slice none 0 0, .slice none 0 0] := hO2'.set (k := 0) (by simp) _
        generalize w2.setCell ⟨gO, 0, none⟩ (.int .i64 1) = w4 at *
        clear y0 z0
        refine ((HDG.out _)).mono ?_; rintro e_ w3 ⟨rfl, hb3⟩; dsimp only
        by_cases hp0 : ps.length = 0
        · have e4 : decide ((0 : Int) < (ps.length : Int)) = false := decide_eq_false (by omega)
          have e4' : decide (0 < ps.length) = false := decide_eq_false (by omega)
          have HP0 := Lib.hid hp0
          clear hp0
          repeat' ((fail_if_success (with_reducible refine at_reg_ 13 ?_)); (fail_if_success (with_reducible refine at_sreg_ 13 ?_)); (fail_if_success (with_reducible refine at_ssreg_ 13 ?_)); (fail_if_success at_builtin); (fail_if_success at_make); (first | go_values | go_skip | go_guarded | go_step | go_upon | go_back))
          exact REST.out w3 _ _ _ _ 1 _ _ _ _ _ _ _ _ _ _ ⟨hb4.trans (hb3.mono (HGW.out _ hb4)), hO4.below hb3, ⟨_, rfl, hexC_sha _⟩, ⟨Nat.le_refl 1, by decide⟩⟩
        · have e4 : decide ((0 : Int) < (ps.length : Int)) = true := decide_eq_true (by omega)
          have e4' : decide (0 < ps.length) = true := decide_eq_true (by omega)
          have hbW := hb4.trans (hb3.mono (HGW.out _ hb4))
          have hp : 0 < ps.length := by omega
          have hj := pk_lt rb (m := ps.length) hp
          have HPB := Lib.hid (fun w' => Picked_ok rb ps.length (ps.length : Int) rfl w' HR.out.b0 HR.out.b1 hp (by omega))
          have hRw := HR1.out _ hbW
          have x2 := hRw.cell (k := 2) rfl
          have hOW := hO4.below hb3
          repeat' ((fail_if_success at_builtin); (fail_if_success at_make); (first | go_values | go_skip | go_guarded | go_step | go_upon | go_back))
          refine ((HPB.out _)).mono ?_; rintro e_ _ ⟨rfl, rfl⟩; dsimp only
          generalize pk rb ps.length = j at *
          obtain ⟨bq, oq, Bq, cq, hAq, _, d0, _⟩ := (HRP.out _ hbW).blob_at j hj
          subst hAq
          have hex := (HGP.out _ (List.getElem_mem hj)).1
          have hj0 : (0 : Int) ≤ (j : Int) := by omega
          have hj1 : (j : Int) < (ps.length : Int) := by omega
          clear hRw hb3 x2
          repeat' ((fail_if_success (with_reducible refine at_reg_ 13 ?_)); (fail_if_success (with_reducible refine at_sreg_ 13 ?_)); (fail_if_success (with_reducible refine at_ssreg_ 13 ?_)); (fail_if_success at_builtin); (fail_if_success at_make); (first | go_values | go_skip | go_guarded | go_step | go_upon | go_back))
          exact REST.out w3 _ _ _ _ 1 _ _ _ _ _ _ _ _ _ _ ⟨hbW, hOW, ⟨_, rfl, hex⟩, ⟨Nat.le_refl 1, by decide⟩⟩
    intro W vb29 vb34 v31 S kx t30 t35 t36 t37 t38 t39 t40 t41 t42 t43 hall
    obtain ⟨hbW, hOW, hss, hkx⟩ := hall
    have HSS := Lib.hid hss
    clear hss hb2' hO2' HP3 HP14 HDG HR2
    have hkx' : kx = 1 ∨ kx = 2 ∨ kx = 3 ∨ kx = 4 ∨ kx = 5 ∨ kx = 6 ∨ kx = 7 ∨ kx = 8 ∨ kx = 9 ∨ kx = 10 ∨ kx = 11 ∨ kx = 12 ∨ kx = 13 ∨ kx = 14 := by omega
    clear hkx hkd1
    rcases hkx' with rfl | rfl | rfl | rfl | rfl | rfl | rfl | rfl | rfl | rfl | rfl | rfl | rfl | rfl
    · have o0 : W.cell? ⟨gO, 0, none⟩ = some (.int .i64 1) := hOW.cell (k := 0) rfl
      replace hOW : Arr W gO 28 [.int .i64 1, .int .i64 0, .string ⟨#[]⟩, .slice none 0 0, .slice none 0 0] := hOW
      have hRw := HR1.out _ hbW
      have x0 := hRw.cell (k := 0) rfl
      have x1 := hRw.cell (k := 1) rfl
      have x2 := hRw.cell (k := 2) rfl
      have x3 := hRw.cell (k := 3) rfl
      have HPA3 := Lib.hid (fun w' => Picked_ok ra 3 3 rfl w' HR.out.a0 HR.out.a1 (by omega) (by omega))
      have hDL := datL_len ⟨rk, ra, rb, rt⟩ 40
      have HD := Data_ok ⟨rk, ra, rb, rt⟩ 40 40 rfl (by omega) HR.out W
      unfold rval at HD
      replace HD := Lib.hid HD
      generalize datL ⟨rk, ra, rb, rt⟩ 40 = D at *
      repeat' ((fail_if_success at_builtin); (fail_if_success at_make); (first | go_values | go_skip | go_guarded | go_step | go_upon | go_back))
      refine ((HD.out)).mono ?_; rintro e_ w4 ⟨A4, c4, rfl, hz4, hb4⟩; dsimp only
      clear o0 x0 x1 x2 x3 hRw HD
      have hO4 := hOW.below hb4
      have hgW := HGW.out _ hbW
      have hbW4 := hbW.trans (hb4.mono hgW)
      have z3 := hO4.frozen 3
      have y3 := hO4.cell (k := 3) rfl
      have hb5 : Below gO w1 (w4.setCell ⟨gO, 3, none⟩ (.slice A4 D.length c4)) := hbW4.setCell (p := ⟨gO, 3, none⟩) (Nat.le_refl _) _
      have hO5 : Arr (w4.setCell ⟨gO, 3, none⟩ (.slice A4 D.length c4)) gO 28 [.int .i64 1, .int .i64 0, .string ⟨#[]⟩, .slice A4 D.length c4, .slice none 0 0] := hO4.set (k := 3) (by simp) _
      have hz5 := (hz4.sl.1.keep (w' := w4.setCell ⟨gO, 3, none⟩ (.slice A4 D.length c4)) (by simp [World.setCell]) (fun b hb ⟨a, e1, e2⟩ => Below.heap_setCell w4 _ _ b (fun e3 => by have := hz4.sl.2 a e1; have h7 := hOW.lt; have e4 : b = gO := e3; omega)))
      have hz5' := fun a e => Nat.le_trans hgW (hz4.sl.2 a e)
      have hRw := HR1.out _ hb5
      have x1 := hRw.cell (k := 1) rfl
      clear hO4 hbW4 hz4 hb4 hOW hbW hgW
      repeat' ((fail_if_success at_builtin); (fail_if_success at_make); (first | go_values | go_skip | go_guarded | go_step | go_upon | go_back))
      generalize (w4.setCell ⟨gO, 3, none⟩ (.slice A4 D.length c4)) = w5 at *
      clear x1 z3 y3
      refine ((HPA3.out _)).mono ?_; rintro e_ _ ⟨rfl, rfl⟩; dsimp only
      generalize pk ra 3 = qa at *
      by_cases h3 : qa = 0
      rotate_left
      · have e3 : ((qa : Int) == 0) = false := by rw [beq_eq_false_iff_ne]; omega
        have HSZ := Lib.hid hz5
        have HZB := Lib.hid hz5'
        have HOX := Lib.hid hO5
        have HBR := Lib.hid hb5
        have HDL := Lib.hid (show D.length ≤ 148 by omega)
        clear hz5 hz5' hO5 hb5 hDL hRw
        have HXP := Lib.hid (HOPN.out.1 _ HBR.out)
        have HNE := Lib.hid (own_ne HXP.out HOX.out (by decide))
        have HSB := Lib.hid (show ∀ w', Below w5.heap.size w5 w' → w'.cell? ⟨gO, 3, none⟩ = some (.slice A4 D.length c4) from fun w' hb => (HOX.out.below hb).cell (k := 3) rfl)
        have HLW := Lib.hid (show gO ≤ w5.heap.size from HGW.out _ HBR.out)
        repeat' ((fail_if_success at_builtin); (fail_if_success at_make); (first | go_values | go_skip | go_guarded | go_step | go_upon | go_back))
        refine wp_region_held_drew (S := (fun w' => w'.cell? ⟨gO, 3, none⟩ = some (.slice A4 D.length c4))) (by kernel_rfl) ?_ (fun hHeld => ?_)
        · exact HSB.out _ (Below.refl _ w5).drew
        have hB := (Below.refl w5.heap.size w5).drew
        generalize w5.drew = wn0 at *
        refine wpAnyH_take (i := 0) (oi := _) (v := ?_) rfl (by kernel_rfl) (by kernel_rfl) (by kernel_rfl) (fun _ _ _ h => h) (Or.inl ⟨by rfl, ?_⟩) (by assumption) ?_
        rotate_left
        · (intro w hSw; (try dsimp only at hSw); go_simp; try (with_reducible rfl))
        try simp only [List.getElem_toArray, List.getElem_cons_zero, List.getElem_cons_succ, Act.put, List.setIfInBounds_toArray, List.set_cons_zero, List.set_cons_succ]
        refine wpAnyH_take (i := 1) (oi := _) (v := ?_) rfl (by kernel_rfl) (by kernel_rfl) (by kernel_rfl) (fun _ _ _ h => h) (Or.inl ⟨by rfl, ?_⟩) (by assumption) ?_
        rotate_left
        · (intro w hSw; (try dsimp only at hSw); go_simp; try (with_reducible rfl))
        try simp only [List.getElem_toArray, List.getElem_cons_zero, List.getElem_cons_succ, Act.put, List.setIfInBounds_toArray, List.set_cons_zero, List.set_cons_succ]
        refine wpAnyH_take (i := 2) (oi := _) (v := ?_) rfl (by kernel_rfl) (by kernel_rfl) (by kernel_rfl) (fun _ _ _ h => h) (Or.inl ⟨by rfl, ?_⟩) (by assumption) ?_
        rotate_left
        · (intro w hSw; (try dsimp only at hSw); go_simp; try (with_reducible rfl))
        try simp only [List.getElem_toArray, List.getElem_cons_zero, List.getElem_cons_succ, Act.put, List.setIfInBounds_toArray, List.set_cons_zero, List.set_cons_succ]
        refine wpAnyH_take (i := 4) (oi := _) (v := ?_) rfl (by kernel_rfl) (by kernel_rfl) (by kernel_rfl) (fun _ _ _ h => h) (Or.inl ⟨by rfl, ?_⟩) (by assumption) ?_
        rotate_left
        · (intro w hSw; (try dsimp only at hSw); go_simp; try (with_reducible rfl))
        try simp only [List.getElem_toArray, List.getElem_cons_zero, List.getElem_cons_succ, Act.put, List.setIfInBounds_toArray, List.set_cons_zero, List.set_cons_succ]
        refine wpAnyH_take (i := 5) (oi := _) (v := ?_) rfl (by kernel_rfl) (by kernel_rfl) (by kernel_rfl) (fun _ _ _ h => h) (Or.inl ⟨by rfl, ?_⟩) (by assumption) ?_
        rotate_left
        · (intro w hSw; (try dsimp only at hSw); go_simp; try (with_reducible rfl))
        try simp only [List.getElem_toArray, List.getElem_cons_zero, List.getElem_cons_succ, Act.put, List.setIfInBounds_toArray, List.set_cons_zero, List.set_cons_succ]
        refine wpAnyH_ready (rs := [3]) (by kernel_rfl) (by simp) ?_
        refine AllReadyH.cons (o := _) rfl (fun K hK => ?_) ?_
        ·
          go_simp
          refine (Digest_ok A4 D.length c4 D wn0 rfl HSZ.out.cap (by have := HDL.out; omega) (HSZ.out.below hB).rd).mono ?_
          rintro e5 w5 ⟨rfl, hb5⟩
          dsimp only
          refine outG hK ?_ (Below wn0.heap.size wn0) (fun W => True) ?_ ?_ (fun wn1 hHeld hst hnew => ?_)
          · (exact HSB.out _ (hB.trans (Below.mono (show Below wn0.heap.size wn0 _ from by (first | exact (Below.refl _ _).alloc (Nat.le_refl _) _ | exact hb5 | exact Below.refl _ _)) hB.size)))
          · (first | exact (Below.refl _ _).alloc (Nat.le_refl _) _ | exact hb5 | exact Below.refl _ _)
          · (trivial)
          have hB := hB.trans (hst.mono hB.size)
          clear hst
          clear hK K
          try simp only [List.getElem_toArray, List.getElem_cons_zero, List.getElem_cons_succ, Act.put, List.setIfInBounds_toArray, List.set_cons_zero, List.set_cons_succ]
          refine wpAnyH_take (i := 6) (oi := _) (v := ?_) rfl (by kernel_rfl) (by kernel_rfl) (by kernel_rfl) (fun _ _ _ h => h) (Or.inl ⟨by rfl, ?_⟩) (by assumption) ?_
          rotate_left
          · (intro w hSw; (try dsimp only at hSw); go_simp; try (with_reducible rfl))
          try simp only [List.getElem_toArray, List.getElem_cons_zero, List.getElem_cons_succ, Act.put, List.setIfInBounds_toArray, List.set_cons_zero, List.set_cons_succ]
          refine wpAnyH_ready (rs := [7]) (by kernel_rfl) (by simp) ?_
          refine AllReadyH.cons (o := _) rfl (fun K hK => ?_) ?_
          ·
            go_simp
            refine outG hK ?_ (Below wn1.heap.size wn1) (fun W => Rd W 4 (some ⟨wn1.heap.size, 0, none⟩) 1 (blcell ⟨shaS D, D, 0, false⟩ A4 c4)) ?_ ?_ (fun wn2 hHeld hst hnew => ?_)
            · (exact HSB.out _ (hB.trans (Below.mono (show Below wn1.heap.size wn1 _ from by (first | exact (Below.refl _ _).alloc (Nat.le_refl _) _ | exact hb5 | exact Below.refl _ _)) hB.size)))
            · (first | exact (Below.refl _ _).alloc (Nat.le_refl _) _ | exact hb5 | exact Below.refl _ _)
            · (exact Rd.newN [.string ⟨(shaS D).toArray⟩, .slice A4 D.length c4, .int .i64 0, .bool false] rfl)
            have hB := hB.trans (hst.mono hB.size)
            have h10 := hnew
            clear hst
            clear hK K
            try simp only [List.getElem_toArray, List.getElem_cons_zero, List.getElem_cons_succ, Act.put, List.setIfInBounds_toArray, List.set_cons_zero, List.set_cons_succ]
            refine wpAnyH_ready (rs := [8]) (by kernel_rfl) (by simp) ?_
            refine AllReadyH.cons (o := _) rfl (fun K hK => ?_) ?_
            ·
              refine step_ap rfl (.tmp 60) (.tmp 67) rfl elBlob (by rfl) (own_below HXP.out hB) (by rfl) h10 (blc_one _ _ _) (by show (ps.length + 1) * 56 ≤ 140737488355328; omega) (by have := hB.size; have := HLW.out; have := HHG.out; omega) ?_
              intro v8 w8 ho8 hg8 hv8
              refine outG hK ?_ (fun W => OrW W H u5 v8 os (ps ++ [⟨shaS D, D, 0, false⟩]) ∧ Sl W 1 A4 D.length c4 (bys D) ∧ (∀ a, A4 = some a → ∀ g, (u5.ownBlock = some g ∨ v8.ownBlock = some g) → a.block ≠ g)) (fun W => Arr W gO 28 [.int .i64 1, .int .i64 0, .string ⟨#[]⟩, .slice A4 D.length c4, .slice none 0 0] ∧ Below H w W) ?_ ?_ (fun wn3 hHeld hF hG => ?_)
              · exact hg8.cell (HSB.out _ hB) (fun e => HNE.out e.symm)
              · exact HOPN.out.2 ⟨shaS D, D, 0, false⟩ A4 c4 wn2 w8 v8 (HBR.out.trans (hB.mono HLW.out)) (HSZ.out.below hB) HZB.out ho8 hg8 hv8
              · exact ⟨(HOX.out.below hB).grown hg8 (fun e => HNE.out e), (HBE1.out _ (HBR.out.trans (hB.mono HLW.out))).grown hg8 (by have := hB.size; have := HLW.out; have := HHG.out; omega) (fun k hk => HBP.out k hk)⟩
              clear hK K
              try simp only [List.getElem_toArray, List.getElem_cons_zero, List.getElem_cons_succ, Act.put, List.setIfInBounds_toArray, List.set_cons_zero, List.set_cons_succ]
              refine wpAnyH_take (i := 9) (oi := _) (v := ?_) rfl (by kernel_rfl) (by kernel_rfl) (by kernel_rfl) (fun _ _ _ h => h) (Or.inl ⟨by rfl, ?_⟩) (by assumption) ?_
              rotate_left
              · (intro w hSw; (try dsimp only at hSw); go_simp; try (with_reducible rfl))
              try simp only [List.getElem_toArray, List.getElem_cons_zero, List.getElem_cons_succ, Act.put, List.setIfInBounds_toArray, List.set_cons_zero, List.set_cons_succ]
              refine wpAnyH_done (by kernel_rfl) ?_ _
              try dsimp only [Exit.then]
              clear hHeld hB h10
              obtain ⟨hF1, hF2, hF3⟩ := hF
              obtain ⟨hG1, hG2⟩ := hG
              have HGP9 := Lib.hid (show ∀ b ∈ ps ++ [(⟨shaS D, D, 0, false⟩ : BlobP)], hexC b.dig = 0 ∧ b.data.length ≤ 300 from fun b hb => by
                rcases List.mem_append.1 hb with h | h
                · exact HGP.out b h
                · have := List.mem_singleton.1 h; subst this; exact ⟨hexC_sha _, by have := HDL.out; show D.length ≤ 300; omega⟩)
              have HPL9 := Lib.hid (show (ps ++ [(⟨shaS D, D, 0, false⟩ : BlobP)]).length ≤ k + 1 from by rw [List.length_append]; have := HOL.out.2; simp only [List.length_cons, List.length_nil]; omega)
              generalize ps ++ [(⟨shaS D, D, 0, false⟩ : BlobP)] = ps2 at *
              have HST9 := Lib.hid hF1
              have HBL9 := Lib.hid hG2
              have HOX9 := Lib.hid hG1
              have HGD9 : Hid (GoodO ⟨1, 0, [], D, []⟩) := Lib.hid (good_f (k := 1) (f := ⟨false, false, true, false⟩) rfl (fun _ => rfl) (fun _ => rfl) (fun h => by cases h) (fun _ => rfl) (by omega) (fun h => by cases h) (by have := HDL.out; omega) rfl)
              have HSA9 := Lib.hid hF2
              have HSP9 : Hid (Sl wn3 3 none 0 0 []) := Lib.hid (Sl.nil_ _ _)
              have HNA9 := Lib.hid hF3
              have HNP9 : Hid (∀ a, (none : Option Addr) = some a → ∀ g, (u5.ownBlock = some g ∨ v8.ownBlock = some g) → a.block ≠ g) := Lib.hid (fun a e => by cases e)
              clear hF1 hF2 hF3 hG1 hG2
              obtain ⟨xs9, hxs9, hop9⟩ := HST9.out.openO
              have HX9 := Lib.hid hxs9
              have HP9 := Lib.hid (hop9 ⟨1, 0, [], D, []⟩ A4 c4 none 0)
              have o0 := HOX9.out.cell (k := 0) rfl
              have o1 := HOX9.out.cell (k := 1) rfl
              have o2 := HOX9.out.cell (k := 2) rfl
              have o3 := HOX9.out.cell (k := 3) rfl
              have o4 := HOX9.out.cell (k := 4) rfl
              have HSZ9 := Lib.hid HBL9.out.size
              clear hxs9 hop9
              repeat' ((fail_if_success at_builtin); (fail_if_success at_make); (first | go_values | go_skip | go_guarded | go_step | go_upon | go_back))
              refine wpList_apN rfl (.tmp 119) (.tmp 121) rfl elOrd (by rfl) HX9.out (us := [.int .i64 1, .int .i64 0, .string ⟨#[]⟩, .slice A4 D.length c4, .slice none 0 0]) (by rfl) rfl (oc_one ⟨1, 0, [], D, []⟩ A4 c4 none 0) (by show (os.length + 1) * 80 ≤ 140737488355328; omega) (by have := HSZ9.out; have := HHW.out; omega) ?_
              intro v9 w9 ho9 hg9 hv9
              have hst9 := HP9.out w9 v9 HSA9.out HSP9.out HNA9.out HNP9.out ho9 hg9 hv9
              have hbl9 := HBL9.out.grown hg9 (by have := HSZ9.out; have := HHW.out; omega) (fun k hk => (HST9.out.bO k hk).1)
              have HQ9 := Lib.hid hst9
              have HB9 := Lib.hid hbl9
              clear o0 o1 o2 o3 o4 ho9 hg9 hv9 hst9 hbl9
              repeat' ((fail_if_success at_builtin); (fail_if_success at_make); (first | go_values | go_skip | go_guarded | go_step | go_upon | go_back))
              go_roundg (n - (k + 1))
              case measure => have := HGK.out; omega
              case rel =>
                refine ⟨k + 1, os ++ [⟨1, 0, [], D, []⟩], ps2, rfl, by go_num, by omega, by omega, HQ9.out, fun o ho => ?_, HGP9.out, by rw [List.length_append]; have := HOL.out.1; simp only [List.length_cons, List.length_nil]; omega, HPL9.out, HB9.out⟩
                rcases List.mem_append.1 ho with h | h
                · exact HGO.out o h
                · have := List.mem_singleton.1 h; subst this; exact HGD9.out
            exact AllReadyH.nil
          exact AllReadyH.nil
        exact AllReadyH.nil
      have e3 : ((qa : Int) == 0) = true := by rw [beq_iff_eq]; omega
      have x0 := hRw.cell (k := 0) rfl
      have x1 := hRw.cell (k := 1) rfl
      have x2 := hRw.cell (k := 2) rfl
      have x3 := hRw.cell (k := 3) rfl
      repeat' ((fail_if_success at_builtin); (fail_if_success at_make); (first | go_values | go_skip | go_guarded | go_step | go_upon | go_back))
      refine ((HPT.out _ hb5)).mono ?_; rintro e_ w6 ⟨v6, rfl, ho6, hb6⟩; dsimp only
      clear x0 x1 x2 x3 hz5 hz5' hDL HPA3 hRw
      obtain ⟨A6, c6, rfl, hs6, _⟩ := OwnSl ho6
      have hpc := chk_pts HGP.out ⟨rk, ra, rb, rt⟩
      have hz := chk_zero hpc
      have HMN := Lib.hid (Manifest_ok A6 (ptsOf ps ⟨rk, ra, rb, rt⟩).length c6 (ptsOf ps ⟨rk, ra, rb, rt⟩) w6 rfl (by have := pts_len ps ⟨rk, ra, rb, rt⟩; omega) (fun p hp => hz.2 p hp) hs6.rd)
      have hDL : (enc (ptsOf ps ⟨rk, ra, rb, rt⟩)).length ≤ 148 := enc_pts ps ⟨rk, ra, rb, rt⟩ hpc
      generalize enc (ptsOf ps ⟨rk, ra, rb, rt⟩) = D2 at *
      generalize (ptsOf ps ⟨rk, ra, rb, rt⟩).length = n6 at *
      clear ho6 hs6 hz hpc
      repeat' ((fail_if_success at_builtin); (fail_if_success at_make); (first | go_values | go_skip | go_guarded | go_step | go_upon | go_back))
      refine ((HMN.out)).mono ?_; rintro e_ w7 ⟨A7, c7, rfl, hz7, hb7⟩; dsimp only
      have hO7 := (hO5.below hb6).below hb7
      have hg5 := HGW.out _ hb5
      have hbW6 := hb5.trans (hb6.mono hg5)
      have hg6 := HGW.out _ hbW6
      have hbW7 := hbW6.trans (hb7.mono hg6)
      have z3 := hO7.frozen 3
      have y3 := hO7.cell (k := 3) rfl
      have hb8 : Below gO w1 (w7.setCell ⟨gO, 3, none⟩ (.slice A7 D2.length c7)) := hbW7.setCell (p := ⟨gO, 3, none⟩) (Nat.le_refl _) _
      have hO8 : Arr (w7.setCell ⟨gO, 3, none⟩ (.slice A7 D2.length c7)) gO 28 [.int .i64 1, .int .i64 0, .string ⟨#[]⟩, .slice A7 D2.length c7, .slice none 0 0] := hO7.set (k := 3) (by simp) _
      have hz8 := (hz7.sl.1.keep (w' := w7.setCell ⟨gO, 3, none⟩ (.slice A7 D2.length c7)) (by simp [World.setCell]) (fun b hb ⟨a, e1, e2⟩ => Below.heap_setCell w7 _ _ b (fun e3 => by have := hz7.sl.2 a e1; have h7 := (hO5.below hb6).lt; have e4 : b = gO := e3; omega)))
      have hz8' := fun a e => Nat.le_trans hg6 (hz7.sl.2 a e)
      clear hO7 hbW6 hbW7 hz7 hb7 hO5 hb5 hb6 hg5 hg6 HMN
      have HSZ := Lib.hid hz8
      have HZB := Lib.hid hz8'
      have HOX := Lib.hid hO8
      have HBR := Lib.hid hb8
      have HDL := Lib.hid hDL
      clear hz8 hz8' hO8 hb8 hDL
      have HXP := Lib.hid (HOPN.out.1 _ HBR.out)
      have HNE := Lib.hid (own_ne HXP.out HOX.out (by decide))
      have HSB := Lib.hid (show ∀ w', Below (w7.setCell ⟨gO, 3, none⟩ (.slice A7 D2.length c7)).heap.size (w7.setCell ⟨gO, 3, none⟩ (.slice A7 D2.length c7)) w' → w'.cell? ⟨gO, 3, none⟩ = some (.slice A7 D2.length c7) from fun w' hb => (HOX.out.below hb).cell (k := 3) rfl)
      have HLW := Lib.hid (show gO ≤ (w7.setCell ⟨gO, 3, none⟩ (.slice A7 D2.length c7)).heap.size from HGW.out _ HBR.out)
      repeat' ((fail_if_success at_builtin); (fail_if_success at_make); (first | go_values | go_skip | go_guarded | go_step | go_upon | go_back))
      refine wp_region_held_drew (S := (fun w' => w'.cell? ⟨gO, 3, none⟩ = some (.slice A7 D2.length c7))) (by kernel_rfl) ?_ (fun hHeld => ?_)
      · exact HSB.out _ (Below.refl _ (w7.setCell ⟨gO, 3, none⟩ (.slice A7 D2.length c7))).drew
      have hB := (Below.refl (w7.setCell ⟨gO, 3, none⟩ (.slice A7 D2.length c7)).heap.size (w7.setCell ⟨gO, 3, none⟩ (.slice A7 D2.length c7))).drew
      generalize (w7.setCell ⟨gO, 3, none⟩ (.slice A7 D2.length c7)).drew = wn0 at *
      refine wpAnyH_take (i := 0) (oi := _) (v := ?_) rfl (by kernel_rfl) (by kernel_rfl) (by kernel_rfl) (fun _ _ _ h => h) (Or.inl ⟨by rfl, ?_⟩) (by assumption) ?_
      rotate_left
      · (intro w hSw; (try dsimp only at hSw); go_simp; try (with_reducible rfl))
      try simp only [List.getElem_toArray, List.getElem_cons_zero, List.getElem_cons_succ, Act.put, List.setIfInBounds_toArray, List.set_cons_zero, List.set_cons_succ]
      refine wpAnyH_take (i := 1) (oi := _) (v := ?_) rfl (by kernel_rfl) (by kernel_rfl) (by kernel_rfl) (fun _ _ _ h => h) (Or.inl ⟨by rfl, ?_⟩) (by assumption) ?_
      rotate_left
      · (intro w hSw; (try dsimp only at hSw); go_simp; try (with_reducible rfl))
      try simp only [List.getElem_toArray, List.getElem_cons_zero, List.getElem_cons_succ, Act.put, List.setIfInBounds_toArray, List.set_cons_zero, List.set_cons_succ]
      refine wpAnyH_take (i := 2) (oi := _) (v := ?_) rfl (by kernel_rfl) (by kernel_rfl) (by kernel_rfl) (fun _ _ _ h => h) (Or.inl ⟨by rfl, ?_⟩) (by assumption) ?_
      rotate_left
      · (intro w hSw; (try dsimp only at hSw); go_simp; try (with_reducible rfl))
      try simp only [List.getElem_toArray, List.getElem_cons_zero, List.getElem_cons_succ, Act.put, List.setIfInBounds_toArray, List.set_cons_zero, List.set_cons_succ]
      refine wpAnyH_take (i := 4) (oi := _) (v := ?_) rfl (by kernel_rfl) (by kernel_rfl) (by kernel_rfl) (fun _ _ _ h => h) (Or.inl ⟨by rfl, ?_⟩) (by assumption) ?_
      rotate_left
      · (intro w hSw; (try dsimp only at hSw); go_simp; try (with_reducible rfl))
      try simp only [List.getElem_toArray, List.getElem_cons_zero, List.getElem_cons_succ, Act.put, List.setIfInBounds_toArray, List.set_cons_zero, List.set_cons_succ]
      refine wpAnyH_take (i := 5) (oi := _) (v := ?_) rfl (by kernel_rfl) (by kernel_rfl) (by kernel_rfl) (fun _ _ _ h => h) (Or.inl ⟨by rfl, ?_⟩) (by assumption) ?_
      rotate_left
      · (intro w hSw; (try dsimp only at hSw); go_simp; try (with_reducible rfl))
      try simp only [List.getElem_toArray, List.getElem_cons_zero, List.getElem_cons_succ, Act.put, List.setIfInBounds_toArray, List.set_cons_zero, List.set_cons_succ]
      refine wpAnyH_ready (rs := [3]) (by kernel_rfl) (by simp) ?_
      refine AllReadyH.cons (o := _) rfl (fun K hK => ?_) ?_
      ·
        go_simp
        refine (Digest_ok A7 D2.length c7 D2 wn0 rfl HSZ.out.cap (by have := HDL.out; omega) (HSZ.out.below hB).rd).mono ?_
        rintro e5 w5 ⟨rfl, hb5⟩
        dsimp only
        refine outG hK ?_ (Below wn0.heap.size wn0) (fun W => True) ?_ ?_ (fun wn1 hHeld hst hnew => ?_)
        · (exact HSB.out _ (hB.trans (Below.mono (show Below wn0.heap.size wn0 _ from by (first | exact (Below.refl _ _).alloc (Nat.le_refl _) _ | exact hb5 | exact Below.refl _ _)) hB.size)))
        · (first | exact (Below.refl _ _).alloc (Nat.le_refl _) _ | exact hb5 | exact Below.refl _ _)
        · (trivial)
        have hB := hB.trans (hst.mono hB.size)
        clear hst
        clear hK K
        try simp only [List.getElem_toArray, List.getElem_cons_zero, List.getElem_cons_succ, Act.put, List.setIfInBounds_toArray, List.set_cons_zero, List.set_cons_succ]
        refine wpAnyH_take (i := 6) (oi := _) (v := ?_) rfl (by kernel_rfl) (by kernel_rfl) (by kernel_rfl) (fun _ _ _ h => h) (Or.inl ⟨by rfl, ?_⟩) (by assumption) ?_
        rotate_left
        · (intro w hSw; (try dsimp only at hSw); go_simp; try (with_reducible rfl))
        try simp only [List.getElem_toArray, List.getElem_cons_zero, List.getElem_cons_succ, Act.put, List.setIfInBounds_toArray, List.set_cons_zero, List.set_cons_succ]
        refine wpAnyH_ready (rs := [7]) (by kernel_rfl) (by simp) ?_
        refine AllReadyH.cons (o := _) rfl (fun K hK => ?_) ?_
        ·
          go_simp
          refine outG hK ?_ (Below wn1.heap.size wn1) (fun W => Rd W 4 (some ⟨wn1.heap.size, 0, none⟩) 1 (blcell ⟨shaS D2, D2, 0, false⟩ A7 c7)) ?_ ?_ (fun wn2 hHeld hst hnew => ?_)
          · (exact HSB.out _ (hB.trans (Below.mono (show Below wn1.heap.size wn1 _ from by (first | exact (Below.refl _ _).alloc (Nat.le_refl _) _ | exact hb5 | exact Below.refl _ _)) hB.size)))
          · (first | exact (Below.refl _ _).alloc (Nat.le_refl _) _ | exact hb5 | exact Below.refl _ _)
          · (exact Rd.newN [.string ⟨(shaS D2).toArray⟩, .slice A7 D2.length c7, .int .i64 0, .bool false] rfl)
          have hB := hB.trans (hst.mono hB.size)
          have h10 := hnew
          clear hst
          clear hK K
          try simp only [List.getElem_toArray, List.getElem_cons_zero, List.getElem_cons_succ, Act.put, List.setIfInBounds_toArray, List.set_cons_zero, List.set_cons_succ]
          refine wpAnyH_ready (rs := [8]) (by kernel_rfl) (by simp) ?_
          refine AllReadyH.cons (o := _) rfl (fun K hK => ?_) ?_
          ·
            refine step_ap rfl (.tmp 60) (.tmp 67) rfl elBlob (by rfl) (own_below HXP.out hB) (by rfl) h10 (blc_one _ _ _) (by show (ps.length + 1) * 56 ≤ 140737488355328; omega) (by have := hB.size; have := HLW.out; have := HHG.out; omega) ?_
            intro v8 w8 ho8 hg8 hv8
            refine outG hK ?_ (fun W => OrW W H u5 v8 os (ps ++ [⟨shaS D2, D2, 0, false⟩]) ∧ Sl W 1 A7 D2.length c7 (bys D2) ∧ (∀ a, A7 = some a → ∀ g, (u5.ownBlock = some g ∨ v8.ownBlock = some g) → a.block ≠ g)) (fun W => Arr W gO 28 [.int .i64 1, .int .i64 0, .string ⟨#[]⟩, .slice A7 D2.length c7, .slice none 0 0] ∧ Below H w W) ?_ ?_ (fun wn3 hHeld hF hG => ?_)
            · exact hg8.cell (HSB.out _ hB) (fun e => HNE.out e.symm)
            · exact HOPN.out.2 ⟨shaS D2, D2, 0, false⟩ A7 c7 wn2 w8 v8 (HBR.out.trans (hB.mono HLW.out)) (HSZ.out.below hB) HZB.out ho8 hg8 hv8
            · exact ⟨(HOX.out.below hB).grown hg8 (fun e => HNE.out e), (HBE1.out _ (HBR.out.trans (hB.mono HLW.out))).grown hg8 (by have := hB.size; have := HLW.out; have := HHG.out; omega) (fun k hk => HBP.out k hk)⟩
            clear hK K
            try simp only [List.getElem_toArray, List.getElem_cons_zero, List.getElem_cons_succ, Act.put, List.setIfInBounds_toArray, List.set_cons_zero, List.set_cons_succ]
            refine wpAnyH_take (i := 9) (oi := _) (v := ?_) rfl (by kernel_rfl) (by kernel_rfl) (by kernel_rfl) (fun _ _ _ h => h) (Or.inl ⟨by rfl, ?_⟩) (by assumption) ?_
            rotate_left
            · (intro w hSw; (try dsimp only at hSw); go_simp; try (with_reducible rfl))
            try simp only [List.getElem_toArray, List.getElem_cons_zero, List.getElem_cons_succ, Act.put, List.setIfInBounds_toArray, List.set_cons_zero, List.set_cons_succ]
            refine wpAnyH_done (by kernel_rfl) ?_ _
            try dsimp only [Exit.then]
            clear hHeld hB h10
            obtain ⟨hF1, hF2, hF3⟩ := hF
            obtain ⟨hG1, hG2⟩ := hG
            have HGP9 := Lib.hid (show ∀ b ∈ ps ++ [(⟨shaS D2, D2, 0, false⟩ : BlobP)], hexC b.dig = 0 ∧ b.data.length ≤ 300 from fun b hb => by
              rcases List.mem_append.1 hb with h | h
              · exact HGP.out b h
              · have := List.mem_singleton.1 h; subst this; exact ⟨hexC_sha _, by have := HDL.out; show D2.length ≤ 300; omega⟩)
            have HPL9 := Lib.hid (show (ps ++ [(⟨shaS D2, D2, 0, false⟩ : BlobP)]).length ≤ k + 1 from by rw [List.length_append]; have := HOL.out.2; simp only [List.length_cons, List.length_nil]; omega)
            generalize ps ++ [(⟨shaS D2, D2, 0, false⟩ : BlobP)] = ps2 at *
            have HST9 := Lib.hid hF1
            have HBL9 := Lib.hid hG2
            have HOX9 := Lib.hid hG1
            have HGD9 : Hid (GoodO ⟨1, 0, [], D2, []⟩) := Lib.hid (good_f (k := 1) (f := ⟨false, false, true, false⟩) rfl (fun _ => rfl) (fun _ => rfl) (fun h => by cases h) (fun _ => rfl) (by omega) (fun h => by cases h) (by have := HDL.out; omega) rfl)
            have HSA9 := Lib.hid hF2
            have HSP9 : Hid (Sl wn3 3 none 0 0 []) := Lib.hid (Sl.nil_ _ _)
            have HNA9 := Lib.hid hF3
            have HNP9 : Hid (∀ a, (none : Option Addr) = some a → ∀ g, (u5.ownBlock = some g ∨ v8.ownBlock = some g) → a.block ≠ g) := Lib.hid (fun a e => by cases e)
            clear hF1 hF2 hF3 hG1 hG2
            obtain ⟨xs9, hxs9, hop9⟩ := HST9.out.openO
            have HX9 := Lib.hid hxs9
            have HP9 := Lib.hid (hop9 ⟨1, 0, [], D2, []⟩ A7 c7 none 0)
            have o0 := HOX9.out.cell (k := 0) rfl
            have o1 := HOX9.out.cell (k := 1) rfl
            have o2 := HOX9.out.cell (k := 2) rfl
            have o3 := HOX9.out.cell (k := 3) rfl
            have o4 := HOX9.out.cell (k := 4) rfl
            have HSZ9 := Lib.hid HBL9.out.size
            clear hxs9 hop9
            repeat' ((fail_if_success at_builtin); (fail_if_success at_make); (first | go_values | go_skip | go_guarded | go_step | go_upon | go_back))
            refine wpList_apN rfl (.tmp 119) (.tmp 121) rfl elOrd (by rfl) HX9.out (us := [.int .i64 1, .int .i64 0, .string ⟨#[]⟩, .slice A7 D2.length c7, .slice none 0 0]) (by rfl) rfl (oc_one ⟨1, 0, [], D2, []⟩ A7 c7 none 0) (by show (os.length + 1) * 80 ≤ 140737488355328; omega) (by have := HSZ9.out; have := HHW.out; omega) ?_
            intro v9 w9 ho9 hg9 hv9
            have hst9 := HP9.out w9 v9 HSA9.out HSP9.out HNA9.out HNP9.out ho9 hg9 hv9
            have hbl9 := HBL9.out.grown hg9 (by have := HSZ9.out; have := HHW.out; omega) (fun k hk => (HST9.out.bO k hk).1)
            have HQ9 := Lib.hid hst9
            have HB9 := Lib.hid hbl9
            clear o0 o1 o2 o3 o4 ho9 hg9 hv9 hst9 hbl9
            repeat' ((fail_if_success at_builtin); (fail_if_success at_make); (first | go_values | go_skip | go_guarded | go_step | go_upon | go_back))
            go_roundg (n - (k + 1))
            case measure => have := HGK.out; omega
            case rel =>
              refine ⟨k + 1, os ++ [⟨1, 0, [], D2, []⟩], ps2, rfl, by go_num, by omega, by omega, HQ9.out, fun o ho => ?_, HGP9.out, by rw [List.length_append]; have := HOL.out.1; simp only [List.length_cons, List.length_nil]; omega, HPL9.out, HB9.out⟩
              rcases List.mem_append.1 ho with h | h
              · exact HGO.out o h
              · have := List.mem_singleton.1 h; subst this; exact HGD9.out
          exact AllReadyH.nil
        exact AllReadyH.nil
      exact AllReadyH.nil
    · have o0 : W.cell? ⟨gO, 0, none⟩ = some (.int .i64 2) := hOW.cell (k := 0) rfl
      replace hOW : Arr W gO 28 [.int .i64 2, .int .i64 0, .string ⟨#[]⟩, .slice none 0 0, .slice none 0 0] := hOW
      have z2 := hOW.frozen 2
      have y2 := hOW.cell (k := 2) rfl
      obtain ⟨bd, hSb, hbd⟩ := HSS.out
      have HSB_ := Lib.hid hSb
      have hb9 : Below gO w1 (W.setCell ⟨gO, 2, none⟩ (.string S)) := hbW.setCell (p := ⟨gO, 2, none⟩) (Nat.le_refl _) _
      have hox9 : Arr (W.setCell ⟨gO, 2, none⟩ (.string S)) gO 28 [.int .i64 2, .int .i64 0, .string S, .slice none 0 0, .slice none 0 0] := hOW.set (k := 2) (by simp) _
      subst hSb
      clear HSB_
      have HST9 := Lib.hid (HST1.out _ (hb9))
      have HBL9 := Lib.hid (HBE1.out _ (hb9))
      have HOX9 : Hid (Arr (W.setCell ⟨gO, 2, none⟩ (.string ⟨bd.toArray⟩)) gO 28 [.int .i64 2, .int .i64 0, .string ⟨bd.toArray⟩, .slice none 0 0, .slice none 0 0]) := Lib.hid (hox9)
      have HGD9 : Hid (GoodO ⟨2, 0, bd, [], []⟩) := Lib.hid (good_f (k := 2) (f := ⟨false, true, false, false⟩) rfl (fun _ => rfl) (fun h => by cases h) (fun _ => rfl) (fun _ => rfl) (by omega) (fun _ => hbd) (by simp) (rfl))
      have HGP9 := Lib.hid HGP.out
      have HPL9 := Lib.hid (show ps.length ≤ k + 1 from by have := HOL.out.2; omega)
      have HSA9 : Hid (Sl (W.setCell ⟨gO, 2, none⟩ (.string ⟨bd.toArray⟩)) 1 none (⟨2, 0, bd, [], []⟩ : OrdP).data.length 0 (bys (⟨2, 0, bd, [], []⟩ : OrdP).data)) := Lib.hid (Sl.nil_ _ _)
      have HSP9 : Hid (Sl (W.setCell ⟨gO, 2, none⟩ (.string ⟨bd.toArray⟩)) 3 none (⟨2, 0, bd, [], []⟩ : OrdP).parts.length 0 (pcs (⟨2, 0, bd, [], []⟩ : OrdP).parts)) := Lib.hid (Sl.nil_ _ _)
      have HNA9 : Hid (∀ a, (none : Option Addr) = some a → ∀ g, (u5.ownBlock = some g ∨ (Value.slice Ap ps.length cp).ownBlock = some g) → a.block ≠ g) := Lib.hid (fun a e => by cases e)
      have HNP9 : Hid (∀ a, (none : Option Addr) = some a → ∀ g, (u5.ownBlock = some g ∨ (Value.slice Ap ps.length cp).ownBlock = some g) → a.block ≠ g) := Lib.hid (fun a e => by cases e)
      repeat' ((fail_if_success (with_reducible refine at_reg_ 37 ?_)); (fail_if_success (with_reducible refine at_sreg_ 37 ?_)); (fail_if_success (with_reducible refine at_ssreg_ 37 ?_)); (fail_if_success at_builtin); (fail_if_success at_make); (first | go_values | go_skip | go_guarded | go_step | go_upon | go_back))
      generalize (W.setCell ⟨gO, 2, none⟩ (.string ⟨bd.toArray⟩)) = wx at *
      obtain ⟨xs9, hxs9, hop9⟩ := HST9.out.openO
      have HX9 := Lib.hid hxs9
      have HP9 := Lib.hid (hop9 ⟨2, 0, bd, [], []⟩ none 0 none 0)
      have o0 := HOX9.out.cell (k := 0) rfl
      have o1 := HOX9.out.cell (k := 1) rfl
      have o2 := HOX9.out.cell (k := 2) rfl
      have o3 := HOX9.out.cell (k := 3) rfl
      have o4 := HOX9.out.cell (k := 4) rfl
      have HSZ9 := Lib.hid HBL9.out.size
      clear hxs9 hop9
      repeat' ((fail_if_success at_builtin); (fail_if_success at_make); (first | go_values | go_skip | go_guarded | go_step | go_upon | go_back))
      refine wpList_apN rfl (.tmp 119) (.tmp 121) rfl elOrd (by rfl) HX9.out (us := [.int .i64 2, .int .i64 0, .string ⟨bd.toArray⟩, .slice none 0 0, .slice none 0 0]) (by rfl) rfl (oc_one ⟨2, 0, bd, [], []⟩ none 0 none 0) (by show (os.length + 1) * 80 ≤ 140737488355328; omega) (by have := HSZ9.out; have := HHW.out; omega) ?_
      intro v9 w9 ho9 hg9 hv9
      have hst9 := HP9.out w9 v9 HSA9.out HSP9.out HNA9.out HNP9.out ho9 hg9 hv9
      have hbl9 := HBL9.out.grown hg9 (by have := HSZ9.out; have := HHW.out; omega) (fun k hk => (HST9.out.bO k hk).1)
      have HQ9 := Lib.hid hst9
      have HB9 := Lib.hid hbl9
      clear o0 o1 o2 o3 o4 ho9 hg9 hv9 hst9 hbl9
      repeat' ((fail_if_success at_builtin); (fail_if_success at_make); (first | go_values | go_skip | go_guarded | go_step | go_upon | go_back))
      go_roundg (n - (k + 1))
      case measure => have := HGK.out; omega
      case rel =>
        refine ⟨k + 1, os ++ [⟨2, 0, bd, [], []⟩], ps, rfl, by go_num, by omega, by omega, HQ9.out, fun o ho => ?_, HGP9.out, by rw [List.length_append]; have := HOL.out.1; simp only [List.length_cons, List.length_nil]; omega, HPL9.out, HB9.out⟩
        rcases List.mem_append.1 ho with h | h
        · exact HGO.out o h
        · have := List.mem_singleton.1 h; subst this; exact HGD9.out
    · have o0 : W.cell? ⟨gO, 0, none⟩ = some (.int .i64 3) := hOW.cell (k := 0) rfl
      replace hOW : Arr W gO 28 [.int .i64 3, .int .i64 0, .string ⟨#[]⟩, .slice none 0 0, .slice none 0 0] := hOW
      have z2 := hOW.frozen 2
      have y2 := hOW.cell (k := 2) rfl
      obtain ⟨bd, hSb, hbd⟩ := HSS.out
      have HSB_ := Lib.hid hSb
      have hb9 : Below gO w1 (W.setCell ⟨gO, 2, none⟩ (.string S)) := hbW.setCell (p := ⟨gO, 2, none⟩) (Nat.le_refl _) _
      have hox9 : Arr (W.setCell ⟨gO, 2, none⟩ (.string S)) gO 28 [.int .i64 3, .int .i64 0, .string S, .slice none 0 0, .slice none 0 0] := hOW.set (k := 2) (by simp) _
      subst hSb
      clear HSB_
      have HST9 := Lib.hid (HST1.out _ (hb9))
      have HBL9 := Lib.hid (HBE1.out _ (hb9))
      have HOX9 : Hid (Arr (W.setCell ⟨gO, 2, none⟩ (.string ⟨bd.toArray⟩)) gO 28 [.int .i64 3, .int .i64 0, .string ⟨bd.toArray⟩, .slice none 0 0, .slice none 0 0]) := Lib.hid (hox9)
      have HGD9 : Hid (GoodO ⟨3, 0, bd, [], []⟩) := Lib.hid (good_f (k := 3) (f := ⟨false, true, false, false⟩) rfl (fun _ => rfl) (fun h => by cases h) (fun _ => rfl) (fun _ => rfl) (by omega) (fun _ => hbd) (by simp) (rfl))
      have HGP9 := Lib.hid HGP.out
      have HPL9 := Lib.hid (show ps.length ≤ k + 1 from by have := HOL.out.2; omega)
      have HSA9 : Hid (Sl (W.setCell ⟨gO, 2, none⟩ (.string ⟨bd.toArray⟩)) 1 none (⟨3, 0, bd, [], []⟩ : OrdP).data.length 0 (bys (⟨3, 0, bd, [], []⟩ : OrdP).data)) := Lib.hid (Sl.nil_ _ _)
      have HSP9 : Hid (Sl (W.setCell ⟨gO, 2, none⟩ (.string ⟨bd.toArray⟩)) 3 none (⟨3, 0, bd, [], []⟩ : OrdP).parts.length 0 (pcs (⟨3, 0, bd, [], []⟩ : OrdP).parts)) := Lib.hid (Sl.nil_ _ _)
      have HNA9 : Hid (∀ a, (none : Option Addr) = some a → ∀ g, (u5.ownBlock = some g ∨ (Value.slice Ap ps.length cp).ownBlock = some g) → a.block ≠ g) := Lib.hid (fun a e => by cases e)
      have HNP9 : Hid (∀ a, (none : Option Addr) = some a → ∀ g, (u5.ownBlock = some g ∨ (Value.slice Ap ps.length cp).ownBlock = some g) → a.block ≠ g) := Lib.hid (fun a e => by cases e)
      repeat' ((fail_if_success (with_reducible refine at_reg_ 37 ?_)); (fail_if_success (with_reducible refine at_sreg_ 37 ?_)); (fail_if_success (with_reducible refine at_ssreg_ 37 ?_)); (fail_if_success at_builtin); (fail_if_success at_make); (first | go_values | go_skip | go_guarded | go_step | go_upon | go_back))
      generalize (W.setCell ⟨gO, 2, none⟩ (.string ⟨bd.toArray⟩)) = wx at *
      obtain ⟨xs9, hxs9, hop9⟩ := HST9.out.openO
      have HX9 := Lib.hid hxs9
      have HP9 := Lib.hid (hop9 ⟨3, 0, bd, [], []⟩ none 0 none 0)
      have o0 := HOX9.out.cell (k := 0) rfl
      have o1 := HOX9.out.cell (k := 1) rfl
      have o2 := HOX9.out.cell (k := 2) rfl
      have o3 := HOX9.out.cell (k := 3) rfl
      have o4 := HOX9.out.cell (k := 4) rfl
      have HSZ9 := Lib.hid HBL9.out.size
      clear hxs9 hop9
      repeat' ((fail_if_success at_builtin); (fail_if_success at_make); (first | go_values | go_skip | go_guarded | go_step | go_upon | go_back))
      refine wpList_apN rfl (.tmp 119) (.tmp 121) rfl elOrd (by rfl) HX9.out (us := [.int .i64 3, .int .i64 0, .string ⟨bd.toArray⟩, .slice none 0 0, .slice none 0 0]) (by rfl) rfl (oc_one ⟨3, 0, bd, [], []⟩ none 0 none 0) (by show (os.length + 1) * 80 ≤ 140737488355328; omega) (by have := HSZ9.out; have := HHW.out; omega) ?_
      intro v9 w9 ho9 hg9 hv9
      have hst9 := HP9.out w9 v9 HSA9.out HSP9.out HNA9.out HNP9.out ho9 hg9 hv9
      have hbl9 := HBL9.out.grown hg9 (by have := HSZ9.out; have := HHW.out; omega) (fun k hk => (HST9.out.bO k hk).1)
      have HQ9 := Lib.hid hst9
      have HB9 := Lib.hid hbl9
      clear o0 o1 o2 o3 o4 ho9 hg9 hv9 hst9 hbl9
      repeat' ((fail_if_success at_builtin); (fail_if_success at_make); (first | go_values | go_skip | go_guarded | go_step | go_upon | go_back))
      go_roundg (n - (k + 1))
      case measure => have := HGK.out; omega
      case rel =>
        refine ⟨k + 1, os ++ [⟨3, 0, bd, [], []⟩], ps, rfl, by go_num, by omega, by omega, HQ9.out, fun o ho => ?_, HGP9.out, by rw [List.length_append]; have := HOL.out.1; simp only [List.length_cons, List.length_nil]; omega, HPL9.out, HB9.out⟩
        rcases List.mem_append.1 ho with h | h
        · exact HGO.out o h
        · have := List.mem_singleton.1 h; subst this; exact HGD9.out
    · have o0 : W.cell? ⟨gO, 0, none⟩ = some (.int .i64 4) := hOW.cell (k := 0) rfl
      replace hOW : Arr W gO 28 [.int .i64 4, .int .i64 0, .string ⟨#[]⟩, .slice none 0 0, .slice none 0 0] := hOW
      have z2 := hOW.frozen 2
      have y2 := hOW.cell (k := 2) rfl
      obtain ⟨bd, hSb, hbd⟩ := HSS.out
      have HSB_ := Lib.hid hSb
      have hb9 : Below gO w1 (W.setCell ⟨gO, 2, none⟩ (.string S)) := hbW.setCell (p := ⟨gO, 2, none⟩) (Nat.le_refl _) _
      have hox9 : Arr (W.setCell ⟨gO, 2, none⟩ (.string S)) gO 28 [.int .i64 4, .int .i64 0, .string S, .slice none 0 0, .slice none 0 0] := hOW.set (k := 2) (by simp) _
      subst hSb
      clear HSB_
      have HST9 := Lib.hid (HST1.out _ (hb9))
      have HBL9 := Lib.hid (HBE1.out _ (hb9))
      have HOX9 : Hid (Arr (W.setCell ⟨gO, 2, none⟩ (.string ⟨bd.toArray⟩)) gO 28 [.int .i64 4, .int .i64 0, .string ⟨bd.toArray⟩, .slice none 0 0, .slice none 0 0]) := Lib.hid (hox9)
      have HGD9 : Hid (GoodO ⟨4, 0, bd, [], []⟩) := Lib.hid (good_f (k := 4) (f := ⟨false, true, false, false⟩) rfl (fun _ => rfl) (fun h => by cases h) (fun _ => rfl) (fun _ => rfl) (by omega) (fun _ => hbd) (by simp) (rfl))
      have HGP9 := Lib.hid HGP.out
      have HPL9 := Lib.hid (show ps.length ≤ k + 1 from by have := HOL.out.2; omega)
      have HSA9 : Hid (Sl (W.setCell ⟨gO, 2, none⟩ (.string ⟨bd.toArray⟩)) 1 none (⟨4, 0, bd, [], []⟩ : OrdP).data.length 0 (bys (⟨4, 0, bd, [], []⟩ : OrdP).data)) := Lib.hid (Sl.nil_ _ _)
      have HSP9 : Hid (Sl (W.setCell ⟨gO, 2, none⟩ (.string ⟨bd.toArray⟩)) 3 none (⟨4, 0, bd, [], []⟩ : OrdP).parts.length 0 (pcs (⟨4, 0, bd, [], []⟩ : OrdP).parts)) := Lib.hid (Sl.nil_ _ _)
      have HNA9 : Hid (∀ a, (none : Option Addr) = some a → ∀ g, (u5.ownBlock = some g ∨ (Value.slice Ap ps.length cp).ownBlock = some g) → a.block ≠ g) := Lib.hid (fun a e => by cases e)
      have HNP9 : Hid (∀ a, (none : Option Addr) = some a → ∀ g, (u5.ownBlock = some g ∨ (Value.slice Ap ps.length cp).ownBlock = some g) → a.block ≠ g) := Lib.hid (fun a e => by cases e)
      repeat' ((fail_if_success (with_reducible refine at_reg_ 37 ?_)); (fail_if_success (with_reducible refine at_sreg_ 37 ?_)); (fail_if_success (with_reducible refine at_ssreg_ 37 ?_)); (fail_if_success at_builtin); (fail_if_success at_make); (first | go_values | go_skip | go_guarded | go_step | go_upon | go_back))
      generalize (W.setCell ⟨gO, 2, none⟩ (.string ⟨bd.toArray⟩)) = wx at *
      obtain ⟨xs9, hxs9, hop9⟩ := HST9.out.openO
      have HX9 := Lib.hid hxs9
      have HP9 := Lib.hid (hop9 ⟨4, 0, bd, [], []⟩ none 0 none 0)
      have o0 := HOX9.out.cell (k := 0) rfl
      have o1 := HOX9.out.cell (k := 1) rfl
      have o2 := HOX9.out.cell (k := 2) rfl
      have o3 := HOX9.out.cell (k := 3) rfl
      have o4 := HOX9.out.cell (k := 4) rfl
      have HSZ9 := Lib.hid HBL9.out.size
      clear hxs9 hop9
      repeat' ((fail_if_success at_builtin); (fail_if_success at_make); (first | go_values | go_skip | go_guarded | go_step | go_upon | go_back))
      refine wpList_apN rfl (.tmp 119) (.tmp 121) rfl elOrd (by rfl) HX9.out (us := [.int .i64 4, .int .i64 0, .string ⟨bd.toArray⟩, .slice none 0 0, .slice none 0 0]) (by rfl) rfl (oc_one ⟨4, 0, bd, [], []⟩ none 0 none 0) (by show (os.length + 1) * 80 ≤ 140737488355328; omega) (by have := HSZ9.out; have := HHW.out; omega) ?_
      intro v9 w9 ho9 hg9 hv9
      have hst9 := HP9.out w9 v9 HSA9.out HSP9.out HNA9.out HNP9.out ho9 hg9 hv9
      have hbl9 := HBL9.out.grown hg9 (by have := HSZ9.out; have := HHW.out; omega) (fun k hk => (HST9.out.bO k hk).1)
      have HQ9 := Lib.hid hst9
      have HB9 := Lib.hid hbl9
      clear o0 o1 o2 o3 o4 ho9 hg9 hv9 hst9 hbl9
      repeat' ((fail_if_success at_builtin); (fail_if_success at_make); (first | go_values | go_skip | go_guarded | go_step | go_upon | go_back))
      go_roundg (n - (k + 1))
      case measure => have := HGK.out; omega
      case rel =>
        refine ⟨k + 1, os ++ [⟨4, 0, bd, [], []⟩], ps, rfl, by go_num, by omega, by omega, HQ9.out, fun o ho => ?_, HGP9.out, by rw [List.length_append]; have := HOL.out.1; simp only [List.length_cons, List.length_nil]; omega, HPL9.out, HB9.out⟩
        rcases List.mem_append.1 ho with h | h
        · exact HGO.out o h
        · have := List.mem_singleton.1 h; subst this; exact HGD9.out
    · have o0 : W.cell? ⟨gO, 0, none⟩ = some (.int .i64 5) := hOW.cell (k := 0) rfl
      replace hOW : Arr W gO 28 [.int .i64 5, .int .i64 0, .string ⟨#[]⟩, .slice none 0 0, .slice none 0 0] := hOW
      have HSB := Lib.hid (show ∀ w', Below gO w1 w' → w'.cell? ⟨g6, 0, none⟩ = some (.int .i64 rk) ∧ w'.cell? ⟨g6, 1, none⟩ = some (.int .i64 ra) ∧ w'.cell? ⟨g6, 2, none⟩ = some (.int .i64 rb) ∧ w'.cell? ⟨g6, 3, none⟩ = some (.string rt) from fun w' hb => ⟨(HR1.out w' hb).cell (k := 0) rfl, (HR1.out w' hb).cell (k := 1) rfl, (HR1.out w' hb).cell (k := 2) rfl, (HR1.out w' hb).cell (k := 3) rfl⟩)
      repeat' ((fail_if_success at_builtin); (fail_if_success at_make); (first | go_values | go_skip | go_guarded | go_step | go_upon | go_back))
      clear o0
      refine wp_region_held_drew (S := (fun w' => w'.cell? ⟨g6, 0, none⟩ = some (.int .i64 rk) ∧ w'.cell? ⟨g6, 1, none⟩ = some (.int .i64 ra) ∧ w'.cell? ⟨g6, 2, none⟩ = some (.int .i64 rb) ∧ w'.cell? ⟨g6, 3, none⟩ = some (.string rt))) (by kernel_rfl) ?_ (fun hHeld => ?_)
      · exact HSB.out _ hbW.drew
      have hB := hbW.drew
      have hOx := hOW.drew
      generalize W.drew = wn0 at *
      refine wpAnyH_take (i := 0) (oi := _) (v := ?_) rfl (by kernel_rfl) (by kernel_rfl) (by kernel_rfl) (fun _ _ _ h => h) (Or.inl ⟨by rfl, ?_⟩) (by assumption) ?_
      rotate_left
      · (intro w hSw; (try dsimp only at hSw); go_simp; try (with_reducible rfl))
      try simp only [List.getElem_toArray, List.getElem_cons_zero, List.getElem_cons_succ, Act.put, List.setIfInBounds_toArray, List.set_cons_zero, List.set_cons_succ]
      refine wpAnyH_take (i := 1) (oi := _) (v := ?_) rfl (by kernel_rfl) (by kernel_rfl) (by kernel_rfl) (fun _ _ _ h => h) (Or.inl ⟨by rfl, ?_⟩) (by assumption) ?_
      rotate_left
      · (intro w hSw; (try dsimp only at hSw); go_simp; try (with_reducible rfl))
      try simp only [List.getElem_toArray, List.getElem_cons_zero, List.getElem_cons_succ, Act.put, List.setIfInBounds_toArray, List.set_cons_zero, List.set_cons_succ]
      refine wpAnyH_take (i := 3) (oi := _) (v := ?_) rfl (by kernel_rfl) (by kernel_rfl) (by kernel_rfl) (fun _ _ _ h => h) (Or.inl ⟨by rfl, ?_⟩) (by assumption) ?_
      rotate_left
      · (intro w hSw; (try dsimp only at hSw); go_simp; try (with_reducible rfl))
      try simp only [List.getElem_toArray, List.getElem_cons_zero, List.getElem_cons_succ, Act.put, List.setIfInBounds_toArray, List.set_cons_zero, List.set_cons_succ]
      refine wpAnyH_take (i := 4) (oi := _) (v := ?_) rfl (by kernel_rfl) (by kernel_rfl) (by kernel_rfl) (fun _ _ _ h => h) (Or.inl ⟨by rfl, ?_⟩) (by assumption) ?_
      rotate_left
      · (intro w hSw; (try dsimp only at hSw); go_simp; try (with_reducible rfl))
      try simp only [List.getElem_toArray, List.getElem_cons_zero, List.getElem_cons_succ, Act.put, List.setIfInBounds_toArray, List.set_cons_zero, List.set_cons_succ]
      refine wpAnyH_ready (rs := [2]) (by kernel_rfl) (by simp) ?_
      refine AllReadyH.cons (o := _) rfl (fun K hK => ?_) ?_
      ·
        go_simp
        refine (HKY.out wn0).mono ?_
        rintro e5 w5 ⟨rfl, hb5⟩
        dsimp only
        refine outG hK ?_ (Below wn0.heap.size wn0) (fun W => True) ?_ ?_ (fun wn1 hHeld hst hnew => ?_)
        · (exact HSB.out _ (hB.trans (Below.mono (show Below wn0.heap.size wn0 _ from by (first | exact hb5 | exact hb4 | exact Below.refl _ _)) (by have := hB.size; have := HgO.out; omega))))
        · (first | exact hb5 | exact hb4 | exact Below.refl _ _)
        · (trivial)
        have hB := hB.trans (hst.mono (by have := hB.size; have := HgO.out; omega))
        have hOx := hOx.below hst
        clear hst
        clear hK K
        try simp only [List.getElem_toArray, List.getElem_cons_zero, List.getElem_cons_succ, Act.put, List.setIfInBounds_toArray, List.set_cons_zero, List.set_cons_succ]
        refine wpAnyH_take (i := 6) (oi := _) (v := ?_) rfl (by kernel_rfl) (by kernel_rfl) (by kernel_rfl) (fun _ _ _ h => h) (Or.inl ⟨by rfl, ?_⟩) (by assumption) ?_
        rotate_left
        · (intro w hSw; (try dsimp only at hSw); go_simp; try (with_reducible rfl))
        try simp only [List.getElem_toArray, List.getElem_cons_zero, List.getElem_cons_succ, Act.put, List.setIfInBounds_toArray, List.set_cons_zero, List.set_cons_succ]
        refine wpAnyH_ready (rs := [5]) (by kernel_rfl) (by simp) ?_
        refine AllReadyH.cons (o := _) rfl (fun K hK => ?_) ?_
        ·
          go_simp
          refine (HPT.out wn1 hB).mono ?_
          rintro e4 wp4 ⟨v4, rfl, ho4, hb4⟩
          obtain ⟨A4, c4, rfl, _, _⟩ := Rd.of_own' ho4
          dsimp only
          refine outG hK ?_ (Below wn1.heap.size wn1) (fun W => W.ownsRow gO 40 3 (.slice A4 (ptsOf ps ⟨rk, ra, rb, rt⟩).length c4) (ptsOf ps ⟨rk, ra, rb, rt⟩).length (pcs (ptsOf ps ⟨rk, ra, rb, rt⟩))) ?_ ?_ (fun wn2 hHeld hst hnew => ?_)
          · (exact HSB.out _ (hB.trans (Below.mono (show Below wn1.heap.size wn1 _ from by (first | exact hb5 | exact hb4 | exact Below.refl _ _)) (by have := hB.size; have := HgO.out; omega))))
          · (first | exact hb5 | exact hb4 | exact Below.refl _ _)
          · (exact own_lower ho4 (by have := hB.size; have := HgO.out; omega))
          have hB := hB.trans (hst.mono (by have := hB.size; have := HgO.out; omega))
          have hOx := hOx.below hst
          have hs4 := hnew
          clear hst
          clear hK K
          try simp only [List.getElem_toArray, List.getElem_cons_zero, List.getElem_cons_succ, Act.put, List.setIfInBounds_toArray, List.set_cons_zero, List.set_cons_succ]
          refine wpAnyH_ready (rs := [7]) (by kernel_rfl) (by simp) ?_
          refine AllReadyH.cons (o := _) rfl (fun K hK => ?_) ?_
          ·
            have z2 := hOx.frozen 2
            have y2 := hOx.cell (k := 2) rfl
            go_simp
            clear z2 y2
            have hne4 := own_ne hs4 hOx (by decide)
            refine outG hK ?_ (fun W => Arr W gO 28 [.int .i64 5, .int .i64 0, .string ⟨(keyS (pk ra 7)).toArray⟩, .slice none 0 0, .slice none 0 0]) (fun W => Below gO w1 W ∧ W.ownsRow gO 40 3 (.slice A4 (ptsOf ps ⟨rk, ra, rb, rt⟩).length c4) (ptsOf ps ⟨rk, ra, rb, rt⟩).length (pcs (ptsOf ps ⟨rk, ra, rb, rt⟩))) ?_ ?_ (fun wn3 hHeld hF hG => ?_)
            · exact HSB.out _ (hB.setCell (p := ⟨gO, 2, none⟩) (Nat.le_refl _) _)
            · exact hOx.set (k := 2) (by simp) _
            · exact ⟨hB.setCell (p := ⟨gO, 2, none⟩) (Nat.le_refl _) _, own_other hs4 hne4⟩
            clear hB hs4 hOx hne4
            obtain ⟨hB, hs4⟩ := hG
            have hOx := hF
            clear hF
            clear hK K
            try simp only [List.getElem_toArray, List.getElem_cons_zero, List.getElem_cons_succ, Act.put, List.setIfInBounds_toArray, List.set_cons_zero, List.set_cons_succ]
            refine wpAnyH_take (i := 8) (oi := _) (v := ?_) rfl (by kernel_rfl) (by kernel_rfl) (by kernel_rfl) (fun _ _ _ h => h) (Or.inl ⟨by rfl, ?_⟩) (by assumption) ?_
            rotate_left
            · (intro w hSw; (try dsimp only at hSw); go_simp; try (with_reducible rfl))
            try simp only [List.getElem_toArray, List.getElem_cons_zero, List.getElem_cons_succ, Act.put, List.setIfInBounds_toArray, List.set_cons_zero, List.set_cons_succ]
            refine wpAnyH_ready (rs := [9]) (by kernel_rfl) (by simp) ?_
            refine AllReadyH.cons (o := _) rfl (fun K hK => ?_) ?_
            ·
              have z4 := hOx.frozen 4
              have y4 := hOx.cell (k := 4) rfl
              go_simp
              clear z4 y4
              have hne4 := own_ne hs4 hOx (by decide)
              refine outG hK ?_ (fun W => Arr W gO 28 [.int .i64 5, .int .i64 0, .string ⟨(keyS (pk ra 7)).toArray⟩, .slice none 0 0, .slice A4 (ptsOf ps ⟨rk, ra, rb, rt⟩).length c4]) (fun W => Below gO w1 W ∧ W.ownsRow gO 40 3 (.slice A4 (ptsOf ps ⟨rk, ra, rb, rt⟩).length c4) (ptsOf ps ⟨rk, ra, rb, rt⟩).length (pcs (ptsOf ps ⟨rk, ra, rb, rt⟩))) ?_ ?_ (fun wn4 hHeld hF hG => ?_)
              · exact HSB.out _ (hB.setCell (p := ⟨gO, 4, none⟩) (Nat.le_refl _) _)
              · exact hOx.set (k := 4) (by simp) _
              · exact ⟨hB.setCell (p := ⟨gO, 4, none⟩) (Nat.le_refl _) _, own_other hs4 hne4⟩
              clear hB hs4 hOx hne4
              obtain ⟨hB, hs4⟩ := hG
              have hOx := hF
              clear hF
              clear hK K
              try simp only [List.getElem_toArray, List.getElem_cons_zero, List.getElem_cons_succ, Act.put, List.setIfInBounds_toArray, List.set_cons_zero, List.set_cons_succ]
              refine wpAnyH_done (by kernel_rfl) ?_ _
              try dsimp only [Exit.then]
              clear hHeld
              obtain ⟨A5, c5, e5, hsl, hll⟩ := OwnSl hs4
              cases e5
              have HST9 := Lib.hid (HST1.out _ (hB))
              have HBL9 := Lib.hid (HBE1.out _ (hB))
              have HOX9 : Hid (Arr wn4 gO 28 [.int .i64 5, .int .i64 0, .string ⟨(keyS (pk ra 7)).toArray⟩, .slice none 0 0, .slice A4 (ptsOf ps ⟨rk, ra, rb, rt⟩).length c4]) := Lib.hid (hOx)
              have HGD9 : Hid (GoodO ⟨5, 0, keyS (pk ra 7), [], ptsOf ps ⟨rk, ra, rb, rt⟩⟩) := Lib.hid (good_f (k := 5) (f := ⟨false, true, false, true⟩) rfl (fun _ => rfl) (fun h => by cases h) (fun _ => rfl) (fun h => by cases h) (by omega) (fun _ => hexC_sha _) (by simp) (chk_pts HGP.out _))
              have HGP9 := Lib.hid HGP.out
              have HPL9 := Lib.hid (show ps.length ≤ k + 1 from by have := HOL.out.2; omega)
              have HSA9 : Hid (Sl wn4 1 none (⟨5, 0, keyS (pk ra 7), [], ptsOf ps ⟨rk, ra, rb, rt⟩⟩ : OrdP).data.length 0 (bys (⟨5, 0, keyS (pk ra 7), [], ptsOf ps ⟨rk, ra, rb, rt⟩⟩ : OrdP).data)) := Lib.hid (Sl.nil_ _ _)
              have HSP9 : Hid (Sl wn4 3 A4 (⟨5, 0, keyS (pk ra 7), [], ptsOf ps ⟨rk, ra, rb, rt⟩⟩ : OrdP).parts.length c4 (pcs (⟨5, 0, keyS (pk ra 7), [], ptsOf ps ⟨rk, ra, rb, rt⟩⟩ : OrdP).parts)) := Lib.hid (hsl)
              have HNA9 : Hid (∀ a, (none : Option Addr) = some a → ∀ g, (u5.ownBlock = some g ∨ (Value.slice Ap ps.length cp).ownBlock = some g) → a.block ≠ g) := Lib.hid (fun a e => by cases e)
              have HNP9 : Hid (∀ a, (A4 : Option Addr) = some a → ∀ g, (u5.ownBlock = some g ∨ (Value.slice Ap ps.length cp).ownBlock = some g) → a.block ≠ g) := Lib.hid (fun a e g hg e2 => by have := hll a e; have := HBO.out g hg; omega)
              obtain ⟨xs9, hxs9, hop9⟩ := HST9.out.openO
              have HX9 := Lib.hid hxs9
              have HP9 := Lib.hid (hop9 ⟨5, 0, keyS (pk ra 7), [], ptsOf ps ⟨rk, ra, rb, rt⟩⟩ none 0 A4 c4)
              have o0 := HOX9.out.cell (k := 0) rfl
              have o1 := HOX9.out.cell (k := 1) rfl
              have o2 := HOX9.out.cell (k := 2) rfl
              have o3 := HOX9.out.cell (k := 3) rfl
              have o4 := HOX9.out.cell (k := 4) rfl
              have HSZ9 := Lib.hid HBL9.out.size
              clear hxs9 hop9
              repeat' ((fail_if_success at_builtin); (fail_if_success at_make); (first | go_values | go_skip | go_guarded | go_step | go_upon | go_back))
              refine wpList_apN rfl (.tmp 119) (.tmp 121) rfl elOrd (by rfl) HX9.out (us := [.int .i64 5, .int .i64 0, .string ⟨(keyS (pk ra 7)).toArray⟩, .slice none 0 0, .slice A4 (ptsOf ps ⟨rk, ra, rb, rt⟩).length c4]) (by rfl) rfl (oc_one ⟨5, 0, keyS (pk ra 7), [], ptsOf ps ⟨rk, ra, rb, rt⟩⟩ none 0 A4 c4) (by show (os.length + 1) * 80 ≤ 140737488355328; omega) (by have := HSZ9.out; have := HHW.out; omega) ?_
              intro v9 w9 ho9 hg9 hv9
              have hst9 := HP9.out w9 v9 HSA9.out HSP9.out HNA9.out HNP9.out ho9 hg9 hv9
              have hbl9 := HBL9.out.grown hg9 (by have := HSZ9.out; have := HHW.out; omega) (fun k hk => (HST9.out.bO k hk).1)
              have HQ9 := Lib.hid hst9
              have HB9 := Lib.hid hbl9
              clear o0 o1 o2 o3 o4 ho9 hg9 hv9 hst9 hbl9
              repeat' ((fail_if_success at_builtin); (fail_if_success at_make); (first | go_values | go_skip | go_guarded | go_step | go_upon | go_back))
              go_roundg (n - (k + 1))
              case measure => have := HGK.out; omega
              case rel =>
                refine ⟨k + 1, os ++ [⟨5, 0, keyS (pk ra 7), [], ptsOf ps ⟨rk, ra, rb, rt⟩⟩], ps, rfl, by go_num, by omega, by omega, HQ9.out, fun o ho => ?_, HGP9.out, by rw [List.length_append]; have := HOL.out.1; simp only [List.length_cons, List.length_nil]; omega, HPL9.out, HB9.out⟩
                rcases List.mem_append.1 ho with h | h
                · exact HGO.out o h
                · have := List.mem_singleton.1 h; subst this; exact HGD9.out
            exact AllReadyH.nil
          exact AllReadyH.nil
        exact AllReadyH.nil
      exact AllReadyH.nil
    · have o0 : W.cell? ⟨gO, 0, none⟩ = some (.int .i64 6) := hOW.cell (k := 0) rfl
      replace hOW : Arr W gO 28 [.int .i64 6, .int .i64 0, .string ⟨#[]⟩, .slice none 0 0, .slice none 0 0] := hOW
      have hRw := HR1.out _ hbW
      have x0 := hRw.cell (k := 0) rfl
      have x1 := hRw.cell (k := 1) rfl
      have x2 := hRw.cell (k := 2) rfl
      have x3 := hRw.cell (k := 3) rfl
      repeat' ((fail_if_success at_builtin); (fail_if_success at_make); (first | go_values | go_skip | go_guarded | go_step | go_upon | go_back))
      refine ((HKY.out _)).mono ?_; rintro e_ w4 ⟨rfl, hb4⟩; dsimp only
      clear o0 x0 x1 x2 x3 hRw
      have hO4 := hOW.below hb4
      have hbW4 := hbW.trans (hb4.mono (HGW.out _ hbW))
      have z2 := hO4.frozen 2
      have y2 := hO4.cell (k := 2) rfl
      have hb9 : Below gO w1 (w4.setCell ⟨gO, 2, none⟩ (.string ⟨(keyS (pk ra 7)).toArray⟩)) := hbW4.setCell (p := ⟨gO, 2, none⟩) (Nat.le_refl _) _
      have hox9 : Arr (w4.setCell ⟨gO, 2, none⟩ (.string ⟨(keyS (pk ra 7)).toArray⟩)) gO 28 [.int .i64 6, .int .i64 0, .string ⟨(keyS (pk ra 7)).toArray⟩, .slice none 0 0, .slice none 0 0] := hO4.set (k := 2) (by simp) _
      have HST9 := Lib.hid (HST1.out _ (hb9))
      have HBL9 := Lib.hid (HBE1.out _ (hb9))
      have HOX9 : Hid (Arr (w4.setCell ⟨gO, 2, none⟩ (.string ⟨(keyS (pk ra 7)).toArray⟩)) gO 28 [.int .i64 6, .int .i64 0, .string ⟨(keyS (pk ra 7)).toArray⟩, .slice none 0 0, .slice none 0 0]) := Lib.hid (hox9)
      have HGD9 : Hid (GoodO ⟨6, 0, keyS (pk ra 7), [], []⟩) := Lib.hid (good_f (k := 6) (f := ⟨false, true, false, false⟩) rfl (fun _ => rfl) (fun h => by cases h) (fun _ => rfl) (fun _ => rfl) (by omega) (fun _ => hexC_sha _) (by simp) (rfl))
      have HGP9 := Lib.hid HGP.out
      have HPL9 := Lib.hid (show ps.length ≤ k + 1 from by have := HOL.out.2; omega)
      have HSA9 : Hid (Sl (w4.setCell ⟨gO, 2, none⟩ (.string ⟨(keyS (pk ra 7)).toArray⟩)) 1 none (⟨6, 0, keyS (pk ra 7), [], []⟩ : OrdP).data.length 0 (bys (⟨6, 0, keyS (pk ra 7), [], []⟩ : OrdP).data)) := Lib.hid (Sl.nil_ _ _)
      have HSP9 : Hid (Sl (w4.setCell ⟨gO, 2, none⟩ (.string ⟨(keyS (pk ra 7)).toArray⟩)) 3 none (⟨6, 0, keyS (pk ra 7), [], []⟩ : OrdP).parts.length 0 (pcs (⟨6, 0, keyS (pk ra 7), [], []⟩ : OrdP).parts)) := Lib.hid (Sl.nil_ _ _)
      have HNA9 : Hid (∀ a, (none : Option Addr) = some a → ∀ g, (u5.ownBlock = some g ∨ (Value.slice Ap ps.length cp).ownBlock = some g) → a.block ≠ g) := Lib.hid (fun a e => by cases e)
      have HNP9 : Hid (∀ a, (none : Option Addr) = some a → ∀ g, (u5.ownBlock = some g ∨ (Value.slice Ap ps.length cp).ownBlock = some g) → a.block ≠ g) := Lib.hid (fun a e => by cases e)
      repeat' ((fail_if_success (with_reducible refine at_reg_ 37 ?_)); (fail_if_success (with_reducible refine at_sreg_ 37 ?_)); (fail_if_success (with_reducible refine at_ssreg_ 37 ?_)); (fail_if_success at_builtin); (fail_if_success at_make); (first | go_values | go_skip | go_guarded | go_step | go_upon | go_back))
      generalize (w4.setCell ⟨gO, 2, none⟩ (.string ⟨(keyS (pk ra 7)).toArray⟩)) = wx at *
      obtain ⟨xs9, hxs9, hop9⟩ := HST9.out.openO
      have HX9 := Lib.hid hxs9
      have HP9 := Lib.hid (hop9 ⟨6, 0, keyS (pk ra 7), [], []⟩ none 0 none 0)
      have o0 := HOX9.out.cell (k := 0) rfl
      have o1 := HOX9.out.cell (k := 1) rfl
      have o2 := HOX9.out.cell (k := 2) rfl
      have o3 := HOX9.out.cell (k := 3) rfl
      have o4 := HOX9.out.cell (k := 4) rfl
      have HSZ9 := Lib.hid HBL9.out.size
      clear hxs9 hop9
      repeat' ((fail_if_success at_builtin); (fail_if_success at_make); (first | go_values | go_skip | go_guarded | go_step | go_upon | go_back))
      refine wpList_apN rfl (.tmp 119) (.tmp 121) rfl elOrd (by rfl) HX9.out (us := [.int .i64 6, .int .i64 0, .string ⟨(keyS (pk ra 7)).toArray⟩, .slice none 0 0, .slice none 0 0]) (by rfl) rfl (oc_one ⟨6, 0, keyS (pk ra 7), [], []⟩ none 0 none 0) (by show (os.length + 1) * 80 ≤ 140737488355328; omega) (by have := HSZ9.out; have := HHW.out; omega) ?_
      intro v9 w9 ho9 hg9 hv9
      have hst9 := HP9.out w9 v9 HSA9.out HSP9.out HNA9.out HNP9.out ho9 hg9 hv9
      have hbl9 := HBL9.out.grown hg9 (by have := HSZ9.out; have := HHW.out; omega) (fun k hk => (HST9.out.bO k hk).1)
      have HQ9 := Lib.hid hst9
      have HB9 := Lib.hid hbl9
      clear o0 o1 o2 o3 o4 ho9 hg9 hv9 hst9 hbl9
      repeat' ((fail_if_success at_builtin); (fail_if_success at_make); (first | go_values | go_skip | go_guarded | go_step | go_upon | go_back))
      go_roundg (n - (k + 1))
      case measure => have := HGK.out; omega
      case rel =>
        refine ⟨k + 1, os ++ [⟨6, 0, keyS (pk ra 7), [], []⟩], ps, rfl, by go_num, by omega, by omega, HQ9.out, fun o ho => ?_, HGP9.out, by rw [List.length_append]; have := HOL.out.1; simp only [List.length_cons, List.length_nil]; omega, HPL9.out, HB9.out⟩
        rcases List.mem_append.1 ho with h | h
        · exact HGO.out o h
        · have := List.mem_singleton.1 h; subst this; exact HGD9.out
    · have o0 : W.cell? ⟨gO, 0, none⟩ = some (.int .i64 7) := hOW.cell (k := 0) rfl
      replace hOW : Arr W gO 28 [.int .i64 7, .int .i64 0, .string ⟨#[]⟩, .slice none 0 0, .slice none 0 0] := hOW
      have hRw := HR1.out _ hbW
      have x0 := hRw.cell (k := 0) rfl
      have x1 := hRw.cell (k := 1) rfl
      have x2 := hRw.cell (k := 2) rfl
      have x3 := hRw.cell (k := 3) rfl
      repeat' ((fail_if_success at_builtin); (fail_if_success at_make); (first | go_values | go_skip | go_guarded | go_step | go_upon | go_back))
      refine ((HKY.out _)).mono ?_; rintro e_ w4 ⟨rfl, hb4⟩; dsimp only
      clear o0 x0 x1 x2 x3 hRw
      have hO4 := hOW.below hb4
      have hbW4 := hbW.trans (hb4.mono (HGW.out _ hbW))
      have z2 := hO4.frozen 2
      have y2 := hO4.cell (k := 2) rfl
      have hb9 : Below gO w1 (w4.setCell ⟨gO, 2, none⟩ (.string ⟨(keyS (pk ra 7)).toArray⟩)) := hbW4.setCell (p := ⟨gO, 2, none⟩) (Nat.le_refl _) _
      have hox9 : Arr (w4.setCell ⟨gO, 2, none⟩ (.string ⟨(keyS (pk ra 7)).toArray⟩)) gO 28 [.int .i64 7, .int .i64 0, .string ⟨(keyS (pk ra 7)).toArray⟩, .slice none 0 0, .slice none 0 0] := hO4.set (k := 2) (by simp) _
      have HST9 := Lib.hid (HST1.out _ (hb9))
      have HBL9 := Lib.hid (HBE1.out _ (hb9))
      have HOX9 : Hid (Arr (w4.setCell ⟨gO, 2, none⟩ (.string ⟨(keyS (pk ra 7)).toArray⟩)) gO 28 [.int .i64 7, .int .i64 0, .string ⟨(keyS (pk ra 7)).toArray⟩, .slice none 0 0, .slice none 0 0]) := Lib.hid (hox9)
      have HGD9 : Hid (GoodO ⟨7, 0, keyS (pk ra 7), [], []⟩) := Lib.hid (good_f (k := 7) (f := ⟨false, true, false, false⟩) rfl (fun _ => rfl) (fun h => by cases h) (fun _ => rfl) (fun _ => rfl) (by omega) (fun _ => hexC_sha _) (by simp) (rfl))
      have HGP9 := Lib.hid HGP.out
      have HPL9 := Lib.hid (show ps.length ≤ k + 1 from by have := HOL.out.2; omega)
      have HSA9 : Hid (Sl (w4.setCell ⟨gO, 2, none⟩ (.string ⟨(keyS (pk ra 7)).toArray⟩)) 1 none (⟨7, 0, keyS (pk ra 7), [], []⟩ : OrdP).data.length 0 (bys (⟨7, 0, keyS (pk ra 7), [], []⟩ : OrdP).data)) := Lib.hid (Sl.nil_ _ _)
      have HSP9 : Hid (Sl (w4.setCell ⟨gO, 2, none⟩ (.string ⟨(keyS (pk ra 7)).toArray⟩)) 3 none (⟨7, 0, keyS (pk ra 7), [], []⟩ : OrdP).parts.length 0 (pcs (⟨7, 0, keyS (pk ra 7), [], []⟩ : OrdP).parts)) := Lib.hid (Sl.nil_ _ _)
      have HNA9 : Hid (∀ a, (none : Option Addr) = some a → ∀ g, (u5.ownBlock = some g ∨ (Value.slice Ap ps.length cp).ownBlock = some g) → a.block ≠ g) := Lib.hid (fun a e => by cases e)
      have HNP9 : Hid (∀ a, (none : Option Addr) = some a → ∀ g, (u5.ownBlock = some g ∨ (Value.slice Ap ps.length cp).ownBlock = some g) → a.block ≠ g) := Lib.hid (fun a e => by cases e)
      repeat' ((fail_if_success (with_reducible refine at_reg_ 37 ?_)); (fail_if_success (with_reducible refine at_sreg_ 37 ?_)); (fail_if_success (with_reducible refine at_ssreg_ 37 ?_)); (fail_if_success at_builtin); (fail_if_success at_make); (first | go_values | go_skip | go_guarded | go_step | go_upon | go_back))
      generalize (w4.setCell ⟨gO, 2, none⟩ (.string ⟨(keyS (pk ra 7)).toArray⟩)) = wx at *
      obtain ⟨xs9, hxs9, hop9⟩ := HST9.out.openO
      have HX9 := Lib.hid hxs9
      have HP9 := Lib.hid (hop9 ⟨7, 0, keyS (pk ra 7), [], []⟩ none 0 none 0)
      have o0 := HOX9.out.cell (k := 0) rfl
      have o1 := HOX9.out.cell (k := 1) rfl
      have o2 := HOX9.out.cell (k := 2) rfl
      have o3 := HOX9.out.cell (k := 3) rfl
      have o4 := HOX9.out.cell (k := 4) rfl
      have HSZ9 := Lib.hid HBL9.out.size
      clear hxs9 hop9
      repeat' ((fail_if_success at_builtin); (fail_if_success at_make); (first | go_values | go_skip | go_guarded | go_step | go_upon | go_back))
      refine wpList_apN rfl (.tmp 119) (.tmp 121) rfl elOrd (by rfl) HX9.out (us := [.int .i64 7, .int .i64 0, .string ⟨(keyS (pk ra 7)).toArray⟩, .slice none 0 0, .slice none 0 0]) (by rfl) rfl (oc_one ⟨7, 0, keyS (pk ra 7), [], []⟩ none 0 none 0) (by show (os.length + 1) * 80 ≤ 140737488355328; omega) (by have := HSZ9.out; have := HHW.out; omega) ?_
      intro v9 w9 ho9 hg9 hv9
      have hst9 := HP9.out w9 v9 HSA9.out HSP9.out HNA9.out HNP9.out ho9 hg9 hv9
      have hbl9 := HBL9.out.grown hg9 (by have := HSZ9.out; have := HHW.out; omega) (fun k hk => (HST9.out.bO k hk).1)
      have HQ9 := Lib.hid hst9
      have HB9 := Lib.hid hbl9
      clear o0 o1 o2 o3 o4 ho9 hg9 hv9 hst9 hbl9
      repeat' ((fail_if_success at_builtin); (fail_if_success at_make); (first | go_values | go_skip | go_guarded | go_step | go_upon | go_back))
      go_roundg (n - (k + 1))
      case measure => have := HGK.out; omega
      case rel =>
        refine ⟨k + 1, os ++ [⟨7, 0, keyS (pk ra 7), [], []⟩], ps, rfl, by go_num, by omega, by omega, HQ9.out, fun o ho => ?_, HGP9.out, by rw [List.length_append]; have := HOL.out.1; simp only [List.length_cons, List.length_nil]; omega, HPL9.out, HB9.out⟩
        rcases List.mem_append.1 ho with h | h
        · exact HGO.out o h
        · have := List.mem_singleton.1 h; subst this; exact HGD9.out
    · have o0 : W.cell? ⟨gO, 0, none⟩ = some (.int .i64 8) := hOW.cell (k := 0) rfl
      replace hOW : Arr W gO 28 [.int .i64 8, .int .i64 0, .string ⟨#[]⟩, .slice none 0 0, .slice none 0 0] := hOW
      have hRw := HR1.out _ hbW
      have x0 := hRw.cell (k := 0) rfl
      have x1 := hRw.cell (k := 1) rfl
      have x2 := hRw.cell (k := 2) rfl
      have x3 := hRw.cell (k := 3) rfl
      repeat' ((fail_if_success at_builtin); (fail_if_success at_make); (first | go_values | go_skip | go_guarded | go_step | go_upon | go_back))
      refine ((HKY.out _)).mono ?_; rintro e_ w4 ⟨rfl, hb4⟩; dsimp only
      clear o0 x0 x1 x2 x3 hRw
      have hO4 := hOW.below hb4
      have hbW4 := hbW.trans (hb4.mono (HGW.out _ hbW))
      have z2 := hO4.frozen 2
      have y2 := hO4.cell (k := 2) rfl
      have hb9 : Below gO w1 (w4.setCell ⟨gO, 2, none⟩ (.string ⟨(keyS (pk ra 7)).toArray⟩)) := hbW4.setCell (p := ⟨gO, 2, none⟩) (Nat.le_refl _) _
      have hox9 : Arr (w4.setCell ⟨gO, 2, none⟩ (.string ⟨(keyS (pk ra 7)).toArray⟩)) gO 28 [.int .i64 8, .int .i64 0, .string ⟨(keyS (pk ra 7)).toArray⟩, .slice none 0 0, .slice none 0 0] := hO4.set (k := 2) (by simp) _
      have HST9 := Lib.hid (HST1.out _ (hb9))
      have HBL9 := Lib.hid (HBE1.out _ (hb9))
      have HOX9 : Hid (Arr (w4.setCell ⟨gO, 2, none⟩ (.string ⟨(keyS (pk ra 7)).toArray⟩)) gO 28 [.int .i64 8, .int .i64 0, .string ⟨(keyS (pk ra 7)).toArray⟩, .slice none 0 0, .slice none 0 0]) := Lib.hid (hox9)
      have HGD9 : Hid (GoodO ⟨8, 0, keyS (pk ra 7), [], []⟩) := Lib.hid (good_f (k := 8) (f := ⟨false, true, false, false⟩) rfl (fun _ => rfl) (fun h => by cases h) (fun _ => rfl) (fun _ => rfl) (by omega) (fun _ => hexC_sha _) (by simp) (rfl))
      have HGP9 := Lib.hid HGP.out
      have HPL9 := Lib.hid (show ps.length ≤ k + 1 from by have := HOL.out.2; omega)
      have HSA9 : Hid (Sl (w4.setCell ⟨gO, 2, none⟩ (.string ⟨(keyS (pk ra 7)).toArray⟩)) 1 none (⟨8, 0, keyS (pk ra 7), [], []⟩ : OrdP).data.length 0 (bys (⟨8, 0, keyS (pk ra 7), [], []⟩ : OrdP).data)) := Lib.hid (Sl.nil_ _ _)
      have HSP9 : Hid (Sl (w4.setCell ⟨gO, 2, none⟩ (.string ⟨(keyS (pk ra 7)).toArray⟩)) 3 none (⟨8, 0, keyS (pk ra 7), [], []⟩ : OrdP).parts.length 0 (pcs (⟨8, 0, keyS (pk ra 7), [], []⟩ : OrdP).parts)) := Lib.hid (Sl.nil_ _ _)
      have HNA9 : Hid (∀ a, (none : Option Addr) = some a → ∀ g, (u5.ownBlock = some g ∨ (Value.slice Ap ps.length cp).ownBlock = some g) → a.block ≠ g) := Lib.hid (fun a e => by cases e)
      have HNP9 : Hid (∀ a, (none : Option Addr) = some a → ∀ g, (u5.ownBlock = some g ∨ (Value.slice Ap ps.length cp).ownBlock = some g) → a.block ≠ g) := Lib.hid (fun a e => by cases e)
      repeat' ((fail_if_success (with_reducible refine at_reg_ 37 ?_)); (fail_if_success (with_reducible refine at_sreg_ 37 ?_)); (fail_if_success (with_reducible refine at_ssreg_ 37 ?_)); (fail_if_success at_builtin); (fail_if_success at_make); (first | go_values | go_skip | go_guarded | go_step | go_upon | go_back))
      generalize (w4.setCell ⟨gO, 2, none⟩ (.string ⟨(keyS (pk ra 7)).toArray⟩)) = wx at *
      obtain ⟨xs9, hxs9, hop9⟩ := HST9.out.openO
      have HX9 := Lib.hid hxs9
      have HP9 := Lib.hid (hop9 ⟨8, 0, keyS (pk ra 7), [], []⟩ none 0 none 0)
      have o0 := HOX9.out.cell (k := 0) rfl
      have o1 := HOX9.out.cell (k := 1) rfl
      have o2 := HOX9.out.cell (k := 2) rfl
      have o3 := HOX9.out.cell (k := 3) rfl
      have o4 := HOX9.out.cell (k := 4) rfl
      have HSZ9 := Lib.hid HBL9.out.size
      clear hxs9 hop9
      repeat' ((fail_if_success at_builtin); (fail_if_success at_make); (first | go_values | go_skip | go_guarded | go_step | go_upon | go_back))
      refine wpList_apN rfl (.tmp 119) (.tmp 121) rfl elOrd (by rfl) HX9.out (us := [.int .i64 8, .int .i64 0, .string ⟨(keyS (pk ra 7)).toArray⟩, .slice none 0 0, .slice none 0 0]) (by rfl) rfl (oc_one ⟨8, 0, keyS (pk ra 7), [], []⟩ none 0 none 0) (by show (os.length + 1) * 80 ≤ 140737488355328; omega) (by have := HSZ9.out; have := HHW.out; omega) ?_
      intro v9 w9 ho9 hg9 hv9
      have hst9 := HP9.out w9 v9 HSA9.out HSP9.out HNA9.out HNP9.out ho9 hg9 hv9
      have hbl9 := HBL9.out.grown hg9 (by have := HSZ9.out; have := HHW.out; omega) (fun k hk => (HST9.out.bO k hk).1)
      have HQ9 := Lib.hid hst9
      have HB9 := Lib.hid hbl9
      clear o0 o1 o2 o3 o4 ho9 hg9 hv9 hst9 hbl9
      repeat' ((fail_if_success at_builtin); (fail_if_success at_make); (first | go_values | go_skip | go_guarded | go_step | go_upon | go_back))
      go_roundg (n - (k + 1))
      case measure => have := HGK.out; omega
      case rel =>
        refine ⟨k + 1, os ++ [⟨8, 0, keyS (pk ra 7), [], []⟩], ps, rfl, by go_num, by omega, by omega, HQ9.out, fun o ho => ?_, HGP9.out, by rw [List.length_append]; have := HOL.out.1; simp only [List.length_cons, List.length_nil]; omega, HPL9.out, HB9.out⟩
        rcases List.mem_append.1 ho with h | h
        · exact HGO.out o h
        · have := List.mem_singleton.1 h; subst this; exact HGD9.out
    · have o0 : W.cell? ⟨gO, 0, none⟩ = some (.int .i64 9) := hOW.cell (k := 0) rfl
      replace hOW : Arr W gO 28 [.int .i64 9, .int .i64 0, .string ⟨#[]⟩, .slice none 0 0, .slice none 0 0] := hOW
      have HPN := Lib.hid (fun w' => Picked_ok ra 300 300 rfl w' HR.out.a0 HR.out.a1 (by omega) (by omega))
      have hpn := pk_lt ra (m := 300) (by omega)
      generalize pk ra 300 = nb at *
      have hRw := HR1.out _ hbW
      have x0 := hRw.cell (k := 0) rfl
      have x1 := hRw.cell (k := 1) rfl
      have x2 := hRw.cell (k := 2) rfl
      have x3 := hRw.cell (k := 3) rfl
      repeat' ((fail_if_success at_builtin); (fail_if_success at_make); (first | go_values | go_skip | go_guarded | go_step | go_upon | go_back))
      refine ((HPN.out _)).mono ?_; rintro e_ _ ⟨rfl, rfl⟩; dsimp only
      clear o0 x0 x1 x2 x3 hRw
      have z2 := hOW.frozen 1
      have y2 := hOW.cell (k := 1) rfl
      have hb9 : Below gO w1 (W.setCell ⟨gO, 1, none⟩ (.int .i64 (nb : Int))) := hbW.setCell (p := ⟨gO, 1, none⟩) (Nat.le_refl _) _
      have hox9 : Arr (W.setCell ⟨gO, 1, none⟩ (.int .i64 (nb : Int))) gO 28 [.int .i64 9, .int .i64 (nb : Int), .string ⟨#[]⟩, .slice none 0 0, .slice none 0 0] := hOW.set (k := 1) (by simp) _
      have HST9 := Lib.hid (HST1.out _ (hb9))
      have HBL9 := Lib.hid (HBE1.out _ (hb9))
      have HOX9 : Hid (Arr (W.setCell ⟨gO, 1, none⟩ (.int .i64 (nb : Int))) gO 28 [.int .i64 9, .int .i64 (nb : Int), .string ⟨#[]⟩, .slice none 0 0, .slice none 0 0]) := Lib.hid (hox9)
      have HGD9 : Hid (GoodO ⟨9, nb, [], [], []⟩) := Lib.hid (good_f (k := 9) (f := ⟨true, false, false, false⟩) rfl (fun h => by cases h) (fun _ => rfl) (fun _ => rfl) (fun _ => rfl) (by omega) (fun h => by cases h) (by simp) (rfl))
      have HGP9 := Lib.hid HGP.out
      have HPL9 := Lib.hid (show ps.length ≤ k + 1 from by have := HOL.out.2; omega)
      have HSA9 : Hid (Sl (W.setCell ⟨gO, 1, none⟩ (.int .i64 (nb : Int))) 1 none (⟨9, nb, [], [], []⟩ : OrdP).data.length 0 (bys (⟨9, nb, [], [], []⟩ : OrdP).data)) := Lib.hid (Sl.nil_ _ _)
      have HSP9 : Hid (Sl (W.setCell ⟨gO, 1, none⟩ (.int .i64 (nb : Int))) 3 none (⟨9, nb, [], [], []⟩ : OrdP).parts.length 0 (pcs (⟨9, nb, [], [], []⟩ : OrdP).parts)) := Lib.hid (Sl.nil_ _ _)
      have HNA9 : Hid (∀ a, (none : Option Addr) = some a → ∀ g, (u5.ownBlock = some g ∨ (Value.slice Ap ps.length cp).ownBlock = some g) → a.block ≠ g) := Lib.hid (fun a e => by cases e)
      have HNP9 : Hid (∀ a, (none : Option Addr) = some a → ∀ g, (u5.ownBlock = some g ∨ (Value.slice Ap ps.length cp).ownBlock = some g) → a.block ≠ g) := Lib.hid (fun a e => by cases e)
      repeat' ((fail_if_success (with_reducible refine at_reg_ 37 ?_)); (fail_if_success (with_reducible refine at_sreg_ 37 ?_)); (fail_if_success (with_reducible refine at_ssreg_ 37 ?_)); (fail_if_success at_builtin); (fail_if_success at_make); (first | go_values | go_skip | go_guarded | go_step | go_upon | go_back))
      generalize (W.setCell ⟨gO, 1, none⟩ (.int .i64 (nb : Int))) = wx at *
      obtain ⟨xs9, hxs9, hop9⟩ := HST9.out.openO
      have HX9 := Lib.hid hxs9
      have HP9 := Lib.hid (hop9 ⟨9, nb, [], [], []⟩ none 0 none 0)
      have o0 := HOX9.out.cell (k := 0) rfl
      have o1 := HOX9.out.cell (k := 1) rfl
      have o2 := HOX9.out.cell (k := 2) rfl
      have o3 := HOX9.out.cell (k := 3) rfl
      have o4 := HOX9.out.cell (k := 4) rfl
      have HSZ9 := Lib.hid HBL9.out.size
      clear hxs9 hop9
      repeat' ((fail_if_success at_builtin); (fail_if_success at_make); (first | go_values | go_skip | go_guarded | go_step | go_upon | go_back))
      refine wpList_apN rfl (.tmp 119) (.tmp 121) rfl elOrd (by rfl) HX9.out (us := [.int .i64 9, .int .i64 (nb : Int), .string ⟨#[]⟩, .slice none 0 0, .slice none 0 0]) (by rfl) rfl (oc_one ⟨9, nb, [], [], []⟩ none 0 none 0) (by show (os.length + 1) * 80 ≤ 140737488355328; omega) (by have := HSZ9.out; have := HHW.out; omega) ?_
      intro v9 w9 ho9 hg9 hv9
      have hst9 := HP9.out w9 v9 HSA9.out HSP9.out HNA9.out HNP9.out ho9 hg9 hv9
      have hbl9 := HBL9.out.grown hg9 (by have := HSZ9.out; have := HHW.out; omega) (fun k hk => (HST9.out.bO k hk).1)
      have HQ9 := Lib.hid hst9
      have HB9 := Lib.hid hbl9
      clear o0 o1 o2 o3 o4 ho9 hg9 hv9 hst9 hbl9
      repeat' ((fail_if_success at_builtin); (fail_if_success at_make); (first | go_values | go_skip | go_guarded | go_step | go_upon | go_back))
      go_roundg (n - (k + 1))
      case measure => have := HGK.out; omega
      case rel =>
        refine ⟨k + 1, os ++ [⟨9, nb, [], [], []⟩], ps, rfl, by go_num, by omega, by omega, HQ9.out, fun o ho => ?_, HGP9.out, by rw [List.length_append]; have := HOL.out.1; simp only [List.length_cons, List.length_nil]; omega, HPL9.out, HB9.out⟩
        rcases List.mem_append.1 ho with h | h
        · exact HGO.out o h
        · have := List.mem_singleton.1 h; subst this; exact HGD9.out
    · have o0 : W.cell? ⟨gO, 0, none⟩ = some (.int .i64 10) := hOW.cell (k := 0) rfl
      replace hOW : Arr W gO 28 [.int .i64 10, .int .i64 0, .string ⟨#[]⟩, .slice none 0 0, .slice none 0 0] := hOW
      have HST9 := Lib.hid (HST1.out _ (hbW))
      have HBL9 := Lib.hid (HBE1.out _ (hbW))
      have HOX9 : Hid (Arr W gO 28 [.int .i64 10, .int .i64 0, .string ⟨#[]⟩, .slice none 0 0, .slice none 0 0]) := Lib.hid (hOW)
      have HGD9 : Hid (GoodO ⟨10, 0, [], [], []⟩) := Lib.hid (good_f (k := 10) (f := ⟨false, false, false, false⟩) rfl (fun _ => rfl) (fun _ => rfl) (fun _ => rfl) (fun _ => rfl) (by omega) (fun h => by cases h) (by simp) (rfl))
      have HGP9 := Lib.hid HGP.out
      have HPL9 := Lib.hid (show ps.length ≤ k + 1 from by have := HOL.out.2; omega)
      have HSA9 : Hid (Sl W 1 none (⟨10, 0, [], [], []⟩ : OrdP).data.length 0 (bys (⟨10, 0, [], [], []⟩ : OrdP).data)) := Lib.hid (Sl.nil_ _ _)
      have HSP9 : Hid (Sl W 3 none (⟨10, 0, [], [], []⟩ : OrdP).parts.length 0 (pcs (⟨10, 0, [], [], []⟩ : OrdP).parts)) := Lib.hid (Sl.nil_ _ _)
      have HNA9 : Hid (∀ a, (none : Option Addr) = some a → ∀ g, (u5.ownBlock = some g ∨ (Value.slice Ap ps.length cp).ownBlock = some g) → a.block ≠ g) := Lib.hid (fun a e => by cases e)
      have HNP9 : Hid (∀ a, (none : Option Addr) = some a → ∀ g, (u5.ownBlock = some g ∨ (Value.slice Ap ps.length cp).ownBlock = some g) → a.block ≠ g) := Lib.hid (fun a e => by cases e)
      obtain ⟨xs9, hxs9, hop9⟩ := HST9.out.openO
      have HX9 := Lib.hid hxs9
      have HP9 := Lib.hid (hop9 ⟨10, 0, [], [], []⟩ none 0 none 0)
      have o0 := HOX9.out.cell (k := 0) rfl
      have o1 := HOX9.out.cell (k := 1) rfl
      have o2 := HOX9.out.cell (k := 2) rfl
      have o3 := HOX9.out.cell (k := 3) rfl
      have o4 := HOX9.out.cell (k := 4) rfl
      have HSZ9 := Lib.hid HBL9.out.size
      clear hxs9 hop9
      repeat' ((fail_if_success at_builtin); (fail_if_success at_make); (first | go_values | go_skip | go_guarded | go_step | go_upon | go_back))
      refine wpList_apN rfl (.tmp 119) (.tmp 121) rfl elOrd (by rfl) HX9.out (us := [.int .i64 10, .int .i64 0, .string ⟨#[]⟩, .slice none 0 0, .slice none 0 0]) (by rfl) rfl (oc_one ⟨10, 0, [], [], []⟩ none 0 none 0) (by show (os.length + 1) * 80 ≤ 140737488355328; omega) (by have := HSZ9.out; have := HHW.out; omega) ?_
      intro v9 w9 ho9 hg9 hv9
      have hst9 := HP9.out w9 v9 HSA9.out HSP9.out HNA9.out HNP9.out ho9 hg9 hv9
      have hbl9 := HBL9.out.grown hg9 (by have := HSZ9.out; have := HHW.out; omega) (fun k hk => (HST9.out.bO k hk).1)
      have HQ9 := Lib.hid hst9
      have HB9 := Lib.hid hbl9
      clear o0 o1 o2 o3 o4 ho9 hg9 hv9 hst9 hbl9
      repeat' ((fail_if_success at_builtin); (fail_if_success at_make); (first | go_values | go_skip | go_guarded | go_step | go_upon | go_back))
      go_roundg (n - (k + 1))
      case measure => have := HGK.out; omega
      case rel =>
        refine ⟨k + 1, os ++ [⟨10, 0, [], [], []⟩], ps, rfl, by go_num, by omega, by omega, HQ9.out, fun o ho => ?_, HGP9.out, by rw [List.length_append]; have := HOL.out.1; simp only [List.length_cons, List.length_nil]; omega, HPL9.out, HB9.out⟩
        rcases List.mem_append.1 ho with h | h
        · exact HGO.out o h
        · have := List.mem_singleton.1 h; subst this; exact HGD9.out
    · have o0 : W.cell? ⟨gO, 0, none⟩ = some (.int .i64 11) := hOW.cell (k := 0) rfl
      replace hOW : Arr W gO 28 [.int .i64 11, .int .i64 0, .string ⟨#[]⟩, .slice none 0 0, .slice none 0 0] := hOW
      have HPN := Lib.hid (fun w' => Picked_ok ra 9 9 rfl w' HR.out.a0 HR.out.a1 (by omega) (by omega))
      have hpq := pk_lt ra (m := 9) (by omega)
      generalize pk ra 9 = qb at *
      obtain ⟨nb, hnb⟩ : ∃ nb : Nat, nb = 1 + qb := ⟨_, rfl⟩
      have hwn : IntKind.i64.wrap (1 + (qb : Int)) = (nb : Int) := by rw [IntWalk.i64_in _ (by omega)]; omega
      have hpn : nb < 300 := by omega
      clear hnb hpq
      have hRw := HR1.out _ hbW
      have x0 := hRw.cell (k := 0) rfl
      have x1 := hRw.cell (k := 1) rfl
      have x2 := hRw.cell (k := 2) rfl
      have x3 := hRw.cell (k := 3) rfl
      repeat' ((fail_if_success at_builtin); (fail_if_success at_make); (first | go_values | go_skip | go_guarded | go_step | go_upon | go_back))
      refine ((HPN.out _)).mono ?_; rintro e_ _ ⟨rfl, rfl⟩; dsimp only
      clear o0 x0 x1 x2 x3 hRw
      have z2 := hOW.frozen 1
      have y2 := hOW.cell (k := 1) rfl
      have hb9 : Below gO w1 (W.setCell ⟨gO, 1, none⟩ (.int .i64 (nb : Int))) := hbW.setCell (p := ⟨gO, 1, none⟩) (Nat.le_refl _) _
      have hox9 : Arr (W.setCell ⟨gO, 1, none⟩ (.int .i64 (nb : Int))) gO 28 [.int .i64 11, .int .i64 (nb : Int), .string ⟨#[]⟩, .slice none 0 0, .slice none 0 0] := hOW.set (k := 1) (by simp) _
      have HST9 := Lib.hid (HST1.out _ (hb9))
      have HBL9 := Lib.hid (HBE1.out _ (hb9))
      have HOX9 : Hid (Arr (W.setCell ⟨gO, 1, none⟩ (.int .i64 (nb : Int))) gO 28 [.int .i64 11, .int .i64 (nb : Int), .string ⟨#[]⟩, .slice none 0 0, .slice none 0 0]) := Lib.hid (hox9)
      have HGD9 : Hid (GoodO ⟨11, nb, [], [], []⟩) := Lib.hid (good_f (k := 11) (f := ⟨true, false, false, false⟩) rfl (fun h => by cases h) (fun _ => rfl) (fun _ => rfl) (fun _ => rfl) (by omega) (fun h => by cases h) (by simp) (rfl))
      have HGP9 := Lib.hid HGP.out
      have HPL9 := Lib.hid (show ps.length ≤ k + 1 from by have := HOL.out.2; omega)
      have HSA9 : Hid (Sl (W.setCell ⟨gO, 1, none⟩ (.int .i64 (nb : Int))) 1 none (⟨11, nb, [], [], []⟩ : OrdP).data.length 0 (bys (⟨11, nb, [], [], []⟩ : OrdP).data)) := Lib.hid (Sl.nil_ _ _)
      have HSP9 : Hid (Sl (W.setCell ⟨gO, 1, none⟩ (.int .i64 (nb : Int))) 3 none (⟨11, nb, [], [], []⟩ : OrdP).parts.length 0 (pcs (⟨11, nb, [], [], []⟩ : OrdP).parts)) := Lib.hid (Sl.nil_ _ _)
      have HNA9 : Hid (∀ a, (none : Option Addr) = some a → ∀ g, (u5.ownBlock = some g ∨ (Value.slice Ap ps.length cp).ownBlock = some g) → a.block ≠ g) := Lib.hid (fun a e => by cases e)
      have HNP9 : Hid (∀ a, (none : Option Addr) = some a → ∀ g, (u5.ownBlock = some g ∨ (Value.slice Ap ps.length cp).ownBlock = some g) → a.block ≠ g) := Lib.hid (fun a e => by cases e)
      repeat' ((fail_if_success (with_reducible refine at_reg_ 37 ?_)); (fail_if_success (with_reducible refine at_sreg_ 37 ?_)); (fail_if_success (with_reducible refine at_ssreg_ 37 ?_)); (fail_if_success at_builtin); (fail_if_success at_make); (first | go_values | go_skip | go_guarded | go_step | go_upon | go_back))
      generalize (W.setCell ⟨gO, 1, none⟩ (.int .i64 (nb : Int))) = wx at *
      obtain ⟨xs9, hxs9, hop9⟩ := HST9.out.openO
      have HX9 := Lib.hid hxs9
      have HP9 := Lib.hid (hop9 ⟨11, nb, [], [], []⟩ none 0 none 0)
      have o0 := HOX9.out.cell (k := 0) rfl
      have o1 := HOX9.out.cell (k := 1) rfl
      have o2 := HOX9.out.cell (k := 2) rfl
      have o3 := HOX9.out.cell (k := 3) rfl
      have o4 := HOX9.out.cell (k := 4) rfl
      have HSZ9 := Lib.hid HBL9.out.size
      clear hxs9 hop9
      repeat' ((fail_if_success at_builtin); (fail_if_success at_make); (first | go_values | go_skip | go_guarded | go_step | go_upon | go_back))
      refine wpList_apN rfl (.tmp 119) (.tmp 121) rfl elOrd (by rfl) HX9.out (us := [.int .i64 11, .int .i64 (nb : Int), .string ⟨#[]⟩, .slice none 0 0, .slice none 0 0]) (by rfl) rfl (oc_one ⟨11, nb, [], [], []⟩ none 0 none 0) (by show (os.length + 1) * 80 ≤ 140737488355328; omega) (by have := HSZ9.out; have := HHW.out; omega) ?_
      intro v9 w9 ho9 hg9 hv9
      have hst9 := HP9.out w9 v9 HSA9.out HSP9.out HNA9.out HNP9.out ho9 hg9 hv9
      have hbl9 := HBL9.out.grown hg9 (by have := HSZ9.out; have := HHW.out; omega) (fun k hk => (HST9.out.bO k hk).1)
      have HQ9 := Lib.hid hst9
      have HB9 := Lib.hid hbl9
      clear o0 o1 o2 o3 o4 ho9 hg9 hv9 hst9 hbl9
      repeat' ((fail_if_success at_builtin); (fail_if_success at_make); (first | go_values | go_skip | go_guarded | go_step | go_upon | go_back))
      go_roundg (n - (k + 1))
      case measure => have := HGK.out; omega
      case rel =>
        refine ⟨k + 1, os ++ [⟨11, nb, [], [], []⟩], ps, rfl, by go_num, by omega, by omega, HQ9.out, fun o ho => ?_, HGP9.out, by rw [List.length_append]; have := HOL.out.1; simp only [List.length_cons, List.length_nil]; omega, HPL9.out, HB9.out⟩
        rcases List.mem_append.1 ho with h | h
        · exact HGO.out o h
        · have := List.mem_singleton.1 h; subst this; exact HGD9.out
    · have o0 : W.cell? ⟨gO, 0, none⟩ = some (.int .i64 12) := hOW.cell (k := 0) rfl
      replace hOW : Arr W gO 28 [.int .i64 12, .int .i64 0, .string ⟨#[]⟩, .slice none 0 0, .slice none 0 0] := hOW
      have HPB9 := Lib.hid (fun w' => Picked_ok rb 9 9 rfl w' HR.out.b0 HR.out.b1 (by omega) (by omega))
      have hpq := pk_lt rb (m := 9) (by omega)
      generalize pk rb 9 = qb at *
      obtain ⟨nb, hnb⟩ : ∃ nb : Nat, nb = 1 + qb := ⟨_, rfl⟩
      have hwn : IntKind.i64.wrap (1 + (qb : Int)) = (nb : Int) := by rw [IntWalk.i64_in _ (by omega)]; omega
      have hpn : nb < 300 := by omega
      clear hnb hpq
      have HSB := Lib.hid (show ∀ w', Below gO w1 w' → w'.cell? ⟨g6, 0, none⟩ = some (.int .i64 rk) ∧ w'.cell? ⟨g6, 1, none⟩ = some (.int .i64 ra) ∧ w'.cell? ⟨g6, 2, none⟩ = some (.int .i64 rb) ∧ w'.cell? ⟨g6, 3, none⟩ = some (.string rt) from fun w' hb => ⟨(HR1.out w' hb).cell (k := 0) rfl, (HR1.out w' hb).cell (k := 1) rfl, (HR1.out w' hb).cell (k := 2) rfl, (HR1.out w' hb).cell (k := 3) rfl⟩)
      repeat' ((fail_if_success at_builtin); (fail_if_success at_make); (first | go_values | go_skip | go_guarded | go_step | go_upon | go_back))
      clear o0
      refine wp_region_held_drew (S := (fun w' => w'.cell? ⟨g6, 0, none⟩ = some (.int .i64 rk) ∧ w'.cell? ⟨g6, 1, none⟩ = some (.int .i64 ra) ∧ w'.cell? ⟨g6, 2, none⟩ = some (.int .i64 rb) ∧ w'.cell? ⟨g6, 3, none⟩ = some (.string rt))) (by kernel_rfl) ?_ (fun hHeld => ?_)
      · exact HSB.out _ hbW.drew
      have hB := hbW.drew
      have hOx := hOW.drew
      generalize W.drew = wn0 at *
      refine wpAnyH_take (i := 0) (oi := _) (v := ?_) rfl (by kernel_rfl) (by kernel_rfl) (by kernel_rfl) (fun _ _ _ h => h) (Or.inl ⟨by rfl, ?_⟩) (by assumption) ?_
      rotate_left
      · (intro w hSw; (try dsimp only at hSw); go_simp; try (with_reducible rfl))
      try simp only [List.getElem_toArray, List.getElem_cons_zero, List.getElem_cons_succ, Act.put, List.setIfInBounds_toArray, List.set_cons_zero, List.set_cons_succ]
      refine wpAnyH_take (i := 1) (oi := _) (v := ?_) rfl (by kernel_rfl) (by kernel_rfl) (by kernel_rfl) (fun _ _ _ h => h) (Or.inl ⟨by rfl, ?_⟩) (by assumption) ?_
      rotate_left
      · (intro w hSw; (try dsimp only at hSw); go_simp; try (with_reducible rfl))
      try simp only [List.getElem_toArray, List.getElem_cons_zero, List.getElem_cons_succ, Act.put, List.setIfInBounds_toArray, List.set_cons_zero, List.set_cons_succ]
      refine wpAnyH_take (i := 4) (oi := _) (v := ?_) rfl (by kernel_rfl) (by kernel_rfl) (by kernel_rfl) (fun _ _ _ h => h) (Or.inl ⟨by rfl, ?_⟩) (by assumption) ?_
      rotate_left
      · (intro w hSw; (try dsimp only at hSw); go_simp; try (with_reducible rfl))
      try simp only [List.getElem_toArray, List.getElem_cons_zero, List.getElem_cons_succ, Act.put, List.setIfInBounds_toArray, List.set_cons_zero, List.set_cons_succ]
      refine wpAnyH_take (i := 5) (oi := _) (v := ?_) rfl (by kernel_rfl) (by kernel_rfl) (by kernel_rfl) (fun _ _ _ h => h) (Or.inl ⟨by rfl, ?_⟩) (by assumption) ?_
      rotate_left
      · (intro w hSw; (try dsimp only at hSw); go_simp; try (with_reducible rfl))
      try simp only [List.getElem_toArray, List.getElem_cons_zero, List.getElem_cons_succ, Act.put, List.setIfInBounds_toArray, List.set_cons_zero, List.set_cons_succ]
      refine wpAnyH_ready (rs := [2]) (by kernel_rfl) (by simp) ?_
      refine AllReadyH.cons (o := _) rfl (fun K hK => ?_) ?_
      ·
        go_simp
        refine (HPB9.out wn0).mono ?_
        rintro e6 wp6 ⟨rfl, rfl⟩
        dsimp only
        refine outG hK ?_ (Below wn0.heap.size wn0) (fun W => True) ?_ ?_ (fun wn1 hHeld hst hnew => ?_)
        · (exact HSB.out _ (hB.trans (Below.mono (show Below wn0.heap.size wn0 _ from by (first | exact hb5 | exact Below.refl _ _)) (by have := hB.size; have := HgO.out; omega))))
        · (first | exact hb5 | exact Below.refl _ _)
        · (trivial)
        have hB := hB.trans (hst.mono (by have := hB.size; have := HgO.out; omega))
        have hOx := hOx.below hst
        clear hst
        clear hK K
        try simp only [List.getElem_toArray, List.getElem_cons_zero, List.getElem_cons_succ, Act.put, List.setIfInBounds_toArray, List.set_cons_zero, List.set_cons_succ]
        refine wpAnyH_take (i := 3) (oi := _) (v := ?_) rfl (by kernel_rfl) (by kernel_rfl) (by kernel_rfl) (fun _ _ _ h => h) (Or.inl ⟨by rfl, ?_⟩) (by assumption) ?_
        rotate_left
        · (intro w hSw; (try dsimp only at hSw); go_simp; try (with_reducible rfl))
        try simp only [List.getElem_toArray, List.getElem_cons_zero, List.getElem_cons_succ, Act.put, List.setIfInBounds_toArray, List.set_cons_zero, List.set_cons_succ]
        refine wpAnyH_take (i := 7) (oi := _) (v := ?_) rfl (by kernel_rfl) (by kernel_rfl) (by kernel_rfl) (fun _ _ _ h => h) (Or.inl ⟨by rfl, ?_⟩) (by assumption) ?_
        rotate_left
        · (intro w hSw; (try dsimp only at hSw); go_simp; try (with_reducible rfl))
        try simp only [List.getElem_toArray, List.getElem_cons_zero, List.getElem_cons_succ, Act.put, List.setIfInBounds_toArray, List.set_cons_zero, List.set_cons_succ]
        refine wpAnyH_ready (rs := [6]) (by kernel_rfl) (by simp) ?_
        refine AllReadyH.cons (o := _) rfl (fun K hK => ?_) ?_
        ·
          go_simp
          refine (HKY.out wn1).mono ?_
          rintro e5 w5 ⟨rfl, hb5⟩
          dsimp only
          refine outG hK ?_ (Below wn1.heap.size wn1) (fun W => True) ?_ ?_ (fun wn2 hHeld hst hnew => ?_)
          · (exact HSB.out _ (hB.trans (Below.mono (show Below wn1.heap.size wn1 _ from by (first | exact hb5 | exact Below.refl _ _)) (by have := hB.size; have := HgO.out; omega))))
          · (first | exact hb5 | exact Below.refl _ _)
          · (trivial)
          have hB := hB.trans (hst.mono (by have := hB.size; have := HgO.out; omega))
          have hOx := hOx.below hst
          clear hst
          clear hK K
          try simp only [List.getElem_toArray, List.getElem_cons_zero, List.getElem_cons_succ, Act.put, List.setIfInBounds_toArray, List.set_cons_zero, List.set_cons_succ]
          refine wpAnyH_ready (rs := [8]) (by kernel_rfl) (by simp) ?_
          refine AllReadyH.cons (o := _) rfl (fun K hK => ?_) ?_
          ·
            have z2 := hOx.frozen 1
            have y2 := hOx.cell (k := 1) rfl
            go_simp
            clear z2 y2
            refine outG hK ?_ (fun W => Arr W gO 28 [.int .i64 12, .int .i64 (nb : Int), .string ⟨#[]⟩, .slice none 0 0, .slice none 0 0]) (fun W => Below gO w1 W) ?_ ?_ (fun wn3 hHeld hF hG => ?_)
            · exact HSB.out _ (hB.setCell (p := ⟨gO, 1, none⟩) (Nat.le_refl _) _)
            · exact hOx.set (k := 1) (by simp) _
            · exact hB.setCell (p := ⟨gO, 1, none⟩) (Nat.le_refl _) _
            clear hB hOx
            have hB := hG
            have hOx := hF
            clear hF hG
            clear hK K
            try simp only [List.getElem_toArray, List.getElem_cons_zero, List.getElem_cons_succ, Act.put, List.setIfInBounds_toArray, List.set_cons_zero, List.set_cons_succ]
            refine wpAnyH_take (i := 9) (oi := _) (v := ?_) rfl (by kernel_rfl) (by kernel_rfl) (by kernel_rfl) (fun _ _ _ h => h) (Or.inl ⟨by rfl, ?_⟩) (by assumption) ?_
            rotate_left
            · (intro w hSw; (try dsimp only at hSw); go_simp; try (with_reducible rfl))
            try simp only [List.getElem_toArray, List.getElem_cons_zero, List.getElem_cons_succ, Act.put, List.setIfInBounds_toArray, List.set_cons_zero, List.set_cons_succ]
            refine wpAnyH_ready (rs := [10]) (by kernel_rfl) (by simp) ?_
            refine AllReadyH.cons (o := _) rfl (fun K hK => ?_) ?_
            ·
              have z4 := hOx.frozen 2
              have y4 := hOx.cell (k := 2) rfl
              go_simp
              clear z4 y4
              refine outG hK ?_ (fun W => Arr W gO 28 [.int .i64 12, .int .i64 (nb : Int), .string ⟨(keyS (pk ra 7)).toArray⟩, .slice none 0 0, .slice none 0 0]) (fun W => Below gO w1 W) ?_ ?_ (fun wn4 hHeld hF hG => ?_)
              · exact HSB.out _ (hB.setCell (p := ⟨gO, 2, none⟩) (Nat.le_refl _) _)
              · exact hOx.set (k := 2) (by simp) _
              · exact hB.setCell (p := ⟨gO, 2, none⟩) (Nat.le_refl _) _
              clear hB hOx
              have hB := hG
              have hOx := hF
              clear hF hG
              clear hK K
              try simp only [List.getElem_toArray, List.getElem_cons_zero, List.getElem_cons_succ, Act.put, List.setIfInBounds_toArray, List.set_cons_zero, List.set_cons_succ]
              refine wpAnyH_done (by kernel_rfl) ?_ _
              try dsimp only [Exit.then]
              clear hHeld
              have HST9 := Lib.hid (HST1.out _ (hB))
              have HBL9 := Lib.hid (HBE1.out _ (hB))
              have HOX9 : Hid (Arr wn4 gO 28 [.int .i64 12, .int .i64 (nb : Int), .string ⟨(keyS (pk ra 7)).toArray⟩, .slice none 0 0, .slice none 0 0]) := Lib.hid (hOx)
              have HGD9 : Hid (GoodO ⟨12, nb, keyS (pk ra 7), [], []⟩) := Lib.hid (good_f (k := 12) (f := ⟨true, true, false, false⟩) rfl (fun h => by cases h) (fun h => by cases h) (fun _ => rfl) (fun _ => rfl) (by omega) (fun _ => hexC_sha _) (by simp) (rfl))
              have HGP9 := Lib.hid HGP.out
              have HPL9 := Lib.hid (show ps.length ≤ k + 1 from by have := HOL.out.2; omega)
              have HSA9 : Hid (Sl wn4 1 none (⟨12, nb, keyS (pk ra 7), [], []⟩ : OrdP).data.length 0 (bys (⟨12, nb, keyS (pk ra 7), [], []⟩ : OrdP).data)) := Lib.hid (Sl.nil_ _ _)
              have HSP9 : Hid (Sl wn4 3 none (⟨12, nb, keyS (pk ra 7), [], []⟩ : OrdP).parts.length 0 (pcs (⟨12, nb, keyS (pk ra 7), [], []⟩ : OrdP).parts)) := Lib.hid (Sl.nil_ _ _)
              have HNA9 : Hid (∀ a, (none : Option Addr) = some a → ∀ g, (u5.ownBlock = some g ∨ (Value.slice Ap ps.length cp).ownBlock = some g) → a.block ≠ g) := Lib.hid (fun a e => by cases e)
              have HNP9 : Hid (∀ a, (none : Option Addr) = some a → ∀ g, (u5.ownBlock = some g ∨ (Value.slice Ap ps.length cp).ownBlock = some g) → a.block ≠ g) := Lib.hid (fun a e => by cases e)
              obtain ⟨xs9, hxs9, hop9⟩ := HST9.out.openO
              have HX9 := Lib.hid hxs9
              have HP9 := Lib.hid (hop9 ⟨12, nb, keyS (pk ra 7), [], []⟩ none 0 none 0)
              have o0 := HOX9.out.cell (k := 0) rfl
              have o1 := HOX9.out.cell (k := 1) rfl
              have o2 := HOX9.out.cell (k := 2) rfl
              have o3 := HOX9.out.cell (k := 3) rfl
              have o4 := HOX9.out.cell (k := 4) rfl
              have HSZ9 := Lib.hid HBL9.out.size
              clear hxs9 hop9
              repeat' ((fail_if_success at_builtin); (fail_if_success at_make); (first | go_values | go_skip | go_guarded | go_step | go_upon | go_back))
              refine wpList_apN rfl (.tmp 119) (.tmp 121) rfl elOrd (by rfl) HX9.out (us := [.int .i64 12, .int .i64 (nb : Int), .string ⟨(keyS (pk ra 7)).toArray⟩, .slice none 0 0, .slice none 0 0]) (by rfl) rfl (oc_one ⟨12, nb, keyS (pk ra 7), [], []⟩ none 0 none 0) (by show (os.length + 1) * 80 ≤ 140737488355328; omega) (by have := HSZ9.out; have := HHW.out; omega) ?_
              intro v9 w9 ho9 hg9 hv9
              have hst9 := HP9.out w9 v9 HSA9.out HSP9.out HNA9.out HNP9.out ho9 hg9 hv9
              have hbl9 := HBL9.out.grown hg9 (by have := HSZ9.out; have := HHW.out; omega) (fun k hk => (HST9.out.bO k hk).1)
              have HQ9 := Lib.hid hst9
              have HB9 := Lib.hid hbl9
              clear o0 o1 o2 o3 o4 ho9 hg9 hv9 hst9 hbl9
              repeat' ((fail_if_success at_builtin); (fail_if_success at_make); (first | go_values | go_skip | go_guarded | go_step | go_upon | go_back))
              go_roundg (n - (k + 1))
              case measure => have := HGK.out; omega
              case rel =>
                refine ⟨k + 1, os ++ [⟨12, nb, keyS (pk ra 7), [], []⟩], ps, rfl, by go_num, by omega, by omega, HQ9.out, fun o ho => ?_, HGP9.out, by rw [List.length_append]; have := HOL.out.1; simp only [List.length_cons, List.length_nil]; omega, HPL9.out, HB9.out⟩
                rcases List.mem_append.1 ho with h | h
                · exact HGO.out o h
                · have := List.mem_singleton.1 h; subst this; exact HGD9.out
            exact AllReadyH.nil
          exact AllReadyH.nil
        exact AllReadyH.nil
      exact AllReadyH.nil
    · have o0 : W.cell? ⟨gO, 0, none⟩ = some (.int .i64 13) := hOW.cell (k := 0) rfl
      replace hOW : Arr W gO 28 [.int .i64 13, .int .i64 0, .string ⟨#[]⟩, .slice none 0 0, .slice none 0 0] := hOW
      have HSB := Lib.hid (show ∀ w', Below gO w1 w' → w'.cell? ⟨g6, 0, none⟩ = some (.int .i64 rk) ∧ w'.cell? ⟨g6, 1, none⟩ = some (.int .i64 ra) ∧ w'.cell? ⟨g6, 2, none⟩ = some (.int .i64 rb) ∧ w'.cell? ⟨g6, 3, none⟩ = some (.string rt) from fun w' hb => ⟨(HR1.out w' hb).cell (k := 0) rfl, (HR1.out w' hb).cell (k := 1) rfl, (HR1.out w' hb).cell (k := 2) rfl, (HR1.out w' hb).cell (k := 3) rfl⟩)
      repeat' ((fail_if_success at_builtin); (fail_if_success at_make); (first | go_values | go_skip | go_guarded | go_step | go_upon | go_back))
      clear o0
      refine wp_region_held_drew (S := (fun w' => w'.cell? ⟨g6, 0, none⟩ = some (.int .i64 rk) ∧ w'.cell? ⟨g6, 1, none⟩ = some (.int .i64 ra) ∧ w'.cell? ⟨g6, 2, none⟩ = some (.int .i64 rb) ∧ w'.cell? ⟨g6, 3, none⟩ = some (.string rt))) (by kernel_rfl) ?_ (fun hHeld => ?_)
      · exact HSB.out _ hbW.drew
      have hB := hbW.drew
      have hOx := hOW.drew
      generalize W.drew = wn0 at *
      refine wpAnyH_take (i := 0) (oi := _) (v := ?_) rfl (by kernel_rfl) (by kernel_rfl) (by kernel_rfl) (fun _ _ _ h => h) (Or.inl ⟨by rfl, ?_⟩) (by assumption) ?_
      rotate_left
      · (intro w hSw; (try dsimp only at hSw); go_simp; try (with_reducible rfl))
      try simp only [List.getElem_toArray, List.getElem_cons_zero, List.getElem_cons_succ, Act.put, List.setIfInBounds_toArray, List.set_cons_zero, List.set_cons_succ]
      refine wpAnyH_take (i := 1) (oi := _) (v := ?_) rfl (by kernel_rfl) (by kernel_rfl) (by kernel_rfl) (fun _ _ _ h => h) (Or.inl ⟨by rfl, ?_⟩) (by assumption) ?_
      rotate_left
      · (intro w hSw; (try dsimp only at hSw); go_simp; try (with_reducible rfl))
      try simp only [List.getElem_toArray, List.getElem_cons_zero, List.getElem_cons_succ, Act.put, List.setIfInBounds_toArray, List.set_cons_zero, List.set_cons_succ]
      refine wpAnyH_take (i := 3) (oi := _) (v := ?_) rfl (by kernel_rfl) (by kernel_rfl) (by kernel_rfl) (fun _ _ _ h => h) (Or.inl ⟨by rfl, ?_⟩) (by assumption) ?_
      rotate_left
      · (intro w hSw; (try dsimp only at hSw); go_simp; try (with_reducible rfl))
      try simp only [List.getElem_toArray, List.getElem_cons_zero, List.getElem_cons_succ, Act.put, List.setIfInBounds_toArray, List.set_cons_zero, List.set_cons_succ]
      refine wpAnyH_take (i := 4) (oi := _) (v := ?_) rfl (by kernel_rfl) (by kernel_rfl) (by kernel_rfl) (fun _ _ _ h => h) (Or.inl ⟨by rfl, ?_⟩) (by assumption) ?_
      rotate_left
      · (intro w hSw; (try dsimp only at hSw); go_simp; try (with_reducible rfl))
      try simp only [List.getElem_toArray, List.getElem_cons_zero, List.getElem_cons_succ, Act.put, List.setIfInBounds_toArray, List.set_cons_zero, List.set_cons_succ]
      refine wpAnyH_ready (rs := [2]) (by kernel_rfl) (by simp) ?_
      refine AllReadyH.cons (o := _) rfl (fun K hK => ?_) ?_
      ·
        go_simp
        refine (HKY.out wn0).mono ?_
        rintro e5 w5 ⟨rfl, hb5⟩
        dsimp only
        refine outG hK ?_ (Below wn0.heap.size wn0) (fun W => True) ?_ ?_ (fun wn1 hHeld hst hnew => ?_)
        · (exact HSB.out _ (hB.trans (Below.mono (show Below wn0.heap.size wn0 _ from by (first | exact hb5 | exact hb4 | exact Below.refl _ _)) (by have := hB.size; have := HgO.out; omega))))
        · (first | exact hb5 | exact hb4 | exact Below.refl _ _)
        · (trivial)
        have hB := hB.trans (hst.mono (by have := hB.size; have := HgO.out; omega))
        have hOx := hOx.below hst
        clear hst
        clear hK K
        try simp only [List.getElem_toArray, List.getElem_cons_zero, List.getElem_cons_succ, Act.put, List.setIfInBounds_toArray, List.set_cons_zero, List.set_cons_succ]
        refine wpAnyH_take (i := 6) (oi := _) (v := ?_) rfl (by kernel_rfl) (by kernel_rfl) (by kernel_rfl) (fun _ _ _ h => h) (Or.inl ⟨by rfl, ?_⟩) (by assumption) ?_
        rotate_left
        · (intro w hSw; (try dsimp only at hSw); go_simp; try (with_reducible rfl))
        try simp only [List.getElem_toArray, List.getElem_cons_zero, List.getElem_cons_succ, Act.put, List.setIfInBounds_toArray, List.set_cons_zero, List.set_cons_succ]
        refine wpAnyH_ready (rs := [5]) (by kernel_rfl) (by simp) ?_
        refine AllReadyH.cons (o := _) rfl (fun K hK => ?_) ?_
        ·
          go_simp
          refine (HPT.out wn1 hB).mono ?_
          rintro e4 wp4 ⟨v4, rfl, ho4, hb4⟩
          obtain ⟨A4, c4, rfl, _, _⟩ := Rd.of_own' ho4
          dsimp only
          refine outG hK ?_ (Below wn1.heap.size wn1) (fun W => W.ownsRow gO 40 3 (.slice A4 (ptsOf ps ⟨rk, ra, rb, rt⟩).length c4) (ptsOf ps ⟨rk, ra, rb, rt⟩).length (pcs (ptsOf ps ⟨rk, ra, rb, rt⟩))) ?_ ?_ (fun wn2 hHeld hst hnew => ?_)
          · (exact HSB.out _ (hB.trans (Below.mono (show Below wn1.heap.size wn1 _ from by (first | exact hb5 | exact hb4 | exact Below.refl _ _)) (by have := hB.size; have := HgO.out; omega))))
          · (first | exact hb5 | exact hb4 | exact Below.refl _ _)
          · (exact own_lower ho4 (by have := hB.size; have := HgO.out; omega))
          have hB := hB.trans (hst.mono (by have := hB.size; have := HgO.out; omega))
          have hOx := hOx.below hst
          have hs4 := hnew
          clear hst
          clear hK K
          try simp only [List.getElem_toArray, List.getElem_cons_zero, List.getElem_cons_succ, Act.put, List.setIfInBounds_toArray, List.set_cons_zero, List.set_cons_succ]
          refine wpAnyH_ready (rs := [7]) (by kernel_rfl) (by simp) ?_
          refine AllReadyH.cons (o := _) rfl (fun K hK => ?_) ?_
          ·
            have z2 := hOx.frozen 2
            have y2 := hOx.cell (k := 2) rfl
            go_simp
            clear z2 y2
            have hne4 := own_ne hs4 hOx (by decide)
            refine outG hK ?_ (fun W => Arr W gO 28 [.int .i64 13, .int .i64 0, .string ⟨(keyS (pk ra 7)).toArray⟩, .slice none 0 0, .slice none 0 0]) (fun W => Below gO w1 W ∧ W.ownsRow gO 40 3 (.slice A4 (ptsOf ps ⟨rk, ra, rb, rt⟩).length c4) (ptsOf ps ⟨rk, ra, rb, rt⟩).length (pcs (ptsOf ps ⟨rk, ra, rb, rt⟩))) ?_ ?_ (fun wn3 hHeld hF hG => ?_)
            · exact HSB.out _ (hB.setCell (p := ⟨gO, 2, none⟩) (Nat.le_refl _) _)
            · exact hOx.set (k := 2) (by simp) _
            · exact ⟨hB.setCell (p := ⟨gO, 2, none⟩) (Nat.le_refl _) _, own_other hs4 hne4⟩
            clear hB hs4 hOx hne4
            obtain ⟨hB, hs4⟩ := hG
            have hOx := hF
            clear hF
            clear hK K
            try simp only [List.getElem_toArray, List.getElem_cons_zero, List.getElem_cons_succ, Act.put, List.setIfInBounds_toArray, List.set_cons_zero, List.set_cons_succ]
            refine wpAnyH_take (i := 8) (oi := _) (v := ?_) rfl (by kernel_rfl) (by kernel_rfl) (by kernel_rfl) (fun _ _ _ h => h) (Or.inl ⟨by rfl, ?_⟩) (by assumption) ?_
            rotate_left
            · (intro w hSw; (try dsimp only at hSw); go_simp; try (with_reducible rfl))
            try simp only [List.getElem_toArray, List.getElem_cons_zero, List.getElem_cons_succ, Act.put, List.setIfInBounds_toArray, List.set_cons_zero, List.set_cons_succ]
            refine wpAnyH_ready (rs := [9]) (by kernel_rfl) (by simp) ?_
            refine AllReadyH.cons (o := _) rfl (fun K hK => ?_) ?_
            ·
              have z4 := hOx.frozen 4
              have y4 := hOx.cell (k := 4) rfl
              go_simp
              clear z4 y4
              have hne4 := own_ne hs4 hOx (by decide)
              refine outG hK ?_ (fun W => Arr W gO 28 [.int .i64 13, .int .i64 0, .string ⟨(keyS (pk ra 7)).toArray⟩, .slice none 0 0, .slice A4 (ptsOf ps ⟨rk, ra, rb, rt⟩).length c4]) (fun W => Below gO w1 W ∧ W.ownsRow gO 40 3 (.slice A4 (ptsOf ps ⟨rk, ra, rb, rt⟩).length c4) (ptsOf ps ⟨rk, ra, rb, rt⟩).length (pcs (ptsOf ps ⟨rk, ra, rb, rt⟩))) ?_ ?_ (fun wn4 hHeld hF hG => ?_)
              · exact HSB.out _ (hB.setCell (p := ⟨gO, 4, none⟩) (Nat.le_refl _) _)
              · exact hOx.set (k := 4) (by simp) _
              · exact ⟨hB.setCell (p := ⟨gO, 4, none⟩) (Nat.le_refl _) _, own_other hs4 hne4⟩
              clear hB hs4 hOx hne4
              obtain ⟨hB, hs4⟩ := hG
              have hOx := hF
              clear hF
              clear hK K
              try simp only [List.getElem_toArray, List.getElem_cons_zero, List.getElem_cons_succ, Act.put, List.setIfInBounds_toArray, List.set_cons_zero, List.set_cons_succ]
              refine wpAnyH_done (by kernel_rfl) ?_ _
              try dsimp only [Exit.then]
              clear hHeld
              obtain ⟨A5, c5, e5, hsl, hll⟩ := OwnSl hs4
              cases e5
              have HST9 := Lib.hid (HST1.out _ (hB))
              have HBL9 := Lib.hid (HBE1.out _ (hB))
              have HOX9 : Hid (Arr wn4 gO 28 [.int .i64 13, .int .i64 0, .string ⟨(keyS (pk ra 7)).toArray⟩, .slice none 0 0, .slice A4 (ptsOf ps ⟨rk, ra, rb, rt⟩).length c4]) := Lib.hid (hOx)
              have HGD9 : Hid (GoodO ⟨13, 0, keyS (pk ra 7), [], ptsOf ps ⟨rk, ra, rb, rt⟩⟩) := Lib.hid (good_f (k := 13) (f := ⟨false, true, false, true⟩) rfl (fun _ => rfl) (fun h => by cases h) (fun _ => rfl) (fun h => by cases h) (by omega) (fun _ => hexC_sha _) (by simp) (chk_pts HGP.out _))
              have HGP9 := Lib.hid HGP.out
              have HPL9 := Lib.hid (show ps.length ≤ k + 1 from by have := HOL.out.2; omega)
              have HSA9 : Hid (Sl wn4 1 none (⟨13, 0, keyS (pk ra 7), [], ptsOf ps ⟨rk, ra, rb, rt⟩⟩ : OrdP).data.length 0 (bys (⟨13, 0, keyS (pk ra 7), [], ptsOf ps ⟨rk, ra, rb, rt⟩⟩ : OrdP).data)) := Lib.hid (Sl.nil_ _ _)
              have HSP9 : Hid (Sl wn4 3 A4 (⟨13, 0, keyS (pk ra 7), [], ptsOf ps ⟨rk, ra, rb, rt⟩⟩ : OrdP).parts.length c4 (pcs (⟨13, 0, keyS (pk ra 7), [], ptsOf ps ⟨rk, ra, rb, rt⟩⟩ : OrdP).parts)) := Lib.hid (hsl)
              have HNA9 : Hid (∀ a, (none : Option Addr) = some a → ∀ g, (u5.ownBlock = some g ∨ (Value.slice Ap ps.length cp).ownBlock = some g) → a.block ≠ g) := Lib.hid (fun a e => by cases e)
              have HNP9 : Hid (∀ a, (A4 : Option Addr) = some a → ∀ g, (u5.ownBlock = some g ∨ (Value.slice Ap ps.length cp).ownBlock = some g) → a.block ≠ g) := Lib.hid (fun a e g hg e2 => by have := hll a e; have := HBO.out g hg; omega)
              obtain ⟨xs9, hxs9, hop9⟩ := HST9.out.openO
              have HX9 := Lib.hid hxs9
              have HP9 := Lib.hid (hop9 ⟨13, 0, keyS (pk ra 7), [], ptsOf ps ⟨rk, ra, rb, rt⟩⟩ none 0 A4 c4)
              have o0 := HOX9.out.cell (k := 0) rfl
              have o1 := HOX9.out.cell (k := 1) rfl
              have o2 := HOX9.out.cell (k := 2) rfl
              have o3 := HOX9.out.cell (k := 3) rfl
              have o4 := HOX9.out.cell (k := 4) rfl
              have HSZ9 := Lib.hid HBL9.out.size
              clear hxs9 hop9
              repeat' ((fail_if_success at_builtin); (fail_if_success at_make); (first | go_values | go_skip | go_guarded | go_step | go_upon | go_back))
              refine wpList_apN rfl (.tmp 119) (.tmp 121) rfl elOrd (by rfl) HX9.out (us := [.int .i64 13, .int .i64 0, .string ⟨(keyS (pk ra 7)).toArray⟩, .slice none 0 0, .slice A4 (ptsOf ps ⟨rk, ra, rb, rt⟩).length c4]) (by rfl) rfl (oc_one ⟨13, 0, keyS (pk ra 7), [], ptsOf ps ⟨rk, ra, rb, rt⟩⟩ none 0 A4 c4) (by show (os.length + 1) * 80 ≤ 140737488355328; omega) (by have := HSZ9.out; have := HHW.out; omega) ?_
              intro v9 w9 ho9 hg9 hv9
              have hst9 := HP9.out w9 v9 HSA9.out HSP9.out HNA9.out HNP9.out ho9 hg9 hv9
              have hbl9 := HBL9.out.grown hg9 (by have := HSZ9.out; have := HHW.out; omega) (fun k hk => (HST9.out.bO k hk).1)
              have HQ9 := Lib.hid hst9
              have HB9 := Lib.hid hbl9
              clear o0 o1 o2 o3 o4 ho9 hg9 hv9 hst9 hbl9
              repeat' ((fail_if_success at_builtin); (fail_if_success at_make); (first | go_values | go_skip | go_guarded | go_step | go_upon | go_back))
              go_roundg (n - (k + 1))
              case measure => have := HGK.out; omega
              case rel =>
                refine ⟨k + 1, os ++ [⟨13, 0, keyS (pk ra 7), [], ptsOf ps ⟨rk, ra, rb, rt⟩⟩], ps, rfl, by go_num, by omega, by omega, HQ9.out, fun o ho => ?_, HGP9.out, by rw [List.length_append]; have := HOL.out.1; simp only [List.length_cons, List.length_nil]; omega, HPL9.out, HB9.out⟩
                rcases List.mem_append.1 ho with h | h
                · exact HGO.out o h
                · have := List.mem_singleton.1 h; subst this; exact HGD9.out
            exact AllReadyH.nil
          exact AllReadyH.nil
        exact AllReadyH.nil
      exact AllReadyH.nil
    · have o0 : W.cell? ⟨gO, 0, none⟩ = some (.int .i64 14) := hOW.cell (k := 0) rfl
      replace hOW : Arr W gO 28 [.int .i64 14, .int .i64 0, .string ⟨#[]⟩, .slice none 0 0, .slice none 0 0] := hOW
      have hRw := HR1.out _ hbW
      have x0 := hRw.cell (k := 0) rfl
      have x1 := hRw.cell (k := 1) rfl
      have x2 := hRw.cell (k := 2) rfl
      have x3 := hRw.cell (k := 3) rfl
      repeat' ((fail_if_success at_builtin); (fail_if_success at_make); (first | go_values | go_skip | go_guarded | go_step | go_upon | go_back))
      refine ((HKY.out _)).mono ?_; rintro e_ w4 ⟨rfl, hb4⟩; dsimp only
      clear o0 x0 x1 x2 x3 hRw
      have hO4 := hOW.below hb4
      have hbW4 := hbW.trans (hb4.mono (HGW.out _ hbW))
      have z2 := hO4.frozen 2
      have y2 := hO4.cell (k := 2) rfl
      have hb9 : Below gO w1 (w4.setCell ⟨gO, 2, none⟩ (.string ⟨(keyS (pk ra 7)).toArray⟩)) := hbW4.setCell (p := ⟨gO, 2, none⟩) (Nat.le_refl _) _
      have hox9 : Arr (w4.setCell ⟨gO, 2, none⟩ (.string ⟨(keyS (pk ra 7)).toArray⟩)) gO 28 [.int .i64 14, .int .i64 0, .string ⟨(keyS (pk ra 7)).toArray⟩, .slice none 0 0, .slice none 0 0] := hO4.set (k := 2) (by simp) _
      have HST9 := Lib.hid (HST1.out _ (hb9))
      have HBL9 := Lib.hid (HBE1.out _ (hb9))
      have HOX9 : Hid (Arr (w4.setCell ⟨gO, 2, none⟩ (.string ⟨(keyS (pk ra 7)).toArray⟩)) gO 28 [.int .i64 14, .int .i64 0, .string ⟨(keyS (pk ra 7)).toArray⟩, .slice none 0 0, .slice none 0 0]) := Lib.hid (hox9)
      have HGD9 : Hid (GoodO ⟨14, 0, keyS (pk ra 7), [], []⟩) := Lib.hid (good_f (k := 14) (f := ⟨false, true, false, false⟩) rfl (fun _ => rfl) (fun h => by cases h) (fun _ => rfl) (fun _ => rfl) (by omega) (fun _ => hexC_sha _) (by simp) (rfl))
      have HGP9 := Lib.hid HGP.out
      have HPL9 := Lib.hid (show ps.length ≤ k + 1 from by have := HOL.out.2; omega)
      have HSA9 : Hid (Sl (w4.setCell ⟨gO, 2, none⟩ (.string ⟨(keyS (pk ra 7)).toArray⟩)) 1 none (⟨14, 0, keyS (pk ra 7), [], []⟩ : OrdP).data.length 0 (bys (⟨14, 0, keyS (pk ra 7), [], []⟩ : OrdP).data)) := Lib.hid (Sl.nil_ _ _)
      have HSP9 : Hid (Sl (w4.setCell ⟨gO, 2, none⟩ (.string ⟨(keyS (pk ra 7)).toArray⟩)) 3 none (⟨14, 0, keyS (pk ra 7), [], []⟩ : OrdP).parts.length 0 (pcs (⟨14, 0, keyS (pk ra 7), [], []⟩ : OrdP).parts)) := Lib.hid (Sl.nil_ _ _)
      have HNA9 : Hid (∀ a, (none : Option Addr) = some a → ∀ g, (u5.ownBlock = some g ∨ (Value.slice Ap ps.length cp).ownBlock = some g) → a.block ≠ g) := Lib.hid (fun a e => by cases e)
      have HNP9 : Hid (∀ a, (none : Option Addr) = some a → ∀ g, (u5.ownBlock = some g ∨ (Value.slice Ap ps.length cp).ownBlock = some g) → a.block ≠ g) := Lib.hid (fun a e => by cases e)
      repeat' ((fail_if_success (with_reducible refine at_reg_ 37 ?_)); (fail_if_success (with_reducible refine at_sreg_ 37 ?_)); (fail_if_success (with_reducible refine at_ssreg_ 37 ?_)); (fail_if_success at_builtin); (fail_if_success at_make); (first | go_values | go_skip | go_guarded | go_step | go_upon | go_back))
      generalize (w4.setCell ⟨gO, 2, none⟩ (.string ⟨(keyS (pk ra 7)).toArray⟩)) = wx at *
      obtain ⟨xs9, hxs9, hop9⟩ := HST9.out.openO
      have HX9 := Lib.hid hxs9
      have HP9 := Lib.hid (hop9 ⟨14, 0, keyS (pk ra 7), [], []⟩ none 0 none 0)
      have o0 := HOX9.out.cell (k := 0) rfl
      have o1 := HOX9.out.cell (k := 1) rfl
      have o2 := HOX9.out.cell (k := 2) rfl
      have o3 := HOX9.out.cell (k := 3) rfl
      have o4 := HOX9.out.cell (k := 4) rfl
      have HSZ9 := Lib.hid HBL9.out.size
      clear hxs9 hop9
      repeat' ((fail_if_success at_builtin); (fail_if_success at_make); (first | go_values | go_skip | go_guarded | go_step | go_upon | go_back))
      refine wpList_apN rfl (.tmp 119) (.tmp 121) rfl elOrd (by rfl) HX9.out (us := [.int .i64 14, .int .i64 0, .string ⟨(keyS (pk ra 7)).toArray⟩, .slice none 0 0, .slice none 0 0]) (by rfl) rfl (oc_one ⟨14, 0, keyS (pk ra 7), [], []⟩ none 0 none 0) (by show (os.length + 1) * 80 ≤ 140737488355328; omega) (by have := HSZ9.out; have := HHW.out; omega) ?_
      intro v9 w9 ho9 hg9 hv9
      have hst9 := HP9.out w9 v9 HSA9.out HSP9.out HNA9.out HNP9.out ho9 hg9 hv9
      have hbl9 := HBL9.out.grown hg9 (by have := HSZ9.out; have := HHW.out; omega) (fun k hk => (HST9.out.bO k hk).1)
      have HQ9 := Lib.hid hst9
      have HB9 := Lib.hid hbl9
      clear o0 o1 o2 o3 o4 ho9 hg9 hv9 hst9 hbl9
      repeat' ((fail_if_success at_builtin); (fail_if_success at_make); (first | go_values | go_skip | go_guarded | go_step | go_upon | go_back))
      go_roundg (n - (k + 1))
      case measure => have := HGK.out; omega
      case rel =>
        refine ⟨k + 1, os ++ [⟨14, 0, keyS (pk ra 7), [], []⟩], ps, rfl, by go_num, by omega, by omega, HQ9.out, fun o ho => ?_, HGP9.out, by rw [List.length_append]; have := HOL.out.1; simp only [List.length_cons, List.length_nil]; omega, HPL9.out, HB9.out⟩
        rcases List.mem_append.1 ho with h | h
        · exact HGO.out o h
        · have := List.mem_singleton.1 h; subst this; exact HGD9.out
end Go.Proofs.Ytdpedkgdobfemaa
