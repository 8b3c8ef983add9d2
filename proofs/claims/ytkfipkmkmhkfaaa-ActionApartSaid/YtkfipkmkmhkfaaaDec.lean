/- manifest.Decode. Conditions: the sizes. -/
import Derived.Test.YtkfipkmkmhkfaaaRdr
import Derived.Test.YtkfipkmkmhkfaaaTxtP
namespace Go.Proofs.Ytkfipkmkmhkfaaa
open Go.RowKit
set_option linter.unusedVariables false
set_option linter.unusedSimpArgs false
set_option maxRecDepth 100000

/-- one part, read: the part, what is left, what is wrong -/
def stepD (l : List UInt8) : PartP × List UInt8 × Nat :=
  let a := txtR l 0
  let b := takR 32 a.2.1 a.2.2
  let c := numR b.2.1 b.2.2
  (⟨a.1, hexs b.1, c.1⟩, c.2.1, c.2.2)
def decGo : Nat → List PartP → List UInt8 → Nat × List PartP × List UInt8
  | 0, out, l => (0, out, l)
  | k + 1, out, l => if (stepD l).2.2 ≠ 0 then ((stepD l).2.2, [], []) else decGo k (out ++ [(stepD l).1]) (stepD l).2.1
/-- what Decode answers -/
def decL (b : List UInt8) : List PartP × Nat :=
  if 2000 < b.length then ([], 1) else if [65, 77, 49].isPrefixOf b = false then ([], 3) else
  if (rdNum (b.drop 3)).2.2 ≠ 0 then ([], (rdNum (b.drop 3)).2.2) else if 8 < (rdNum (b.drop 3)).1 then ([], 1) else
  if (decGo (rdNum (b.drop 3)).1 [] (rdNum (b.drop 3)).2.1).1 ≠ 0 then ([], (decGo (rdNum (b.drop 3)).1 [] (rdNum (b.drop 3)).2.1).1) else
  if 0 < (decGo (rdNum (b.drop 3)).1 [] (rdNum (b.drop 3)).2.1).2.2.length then ([], 3) else
  if chk (decGo (rdNum (b.drop 3)).1 [] (rdNum (b.drop 3)).2.1).2.1 ≠ 0 then ([], chk (decGo (rdNum (b.drop 3)).1 [] (rdNum (b.drop 3)).2.1).2.1) else
  ((decGo (rdNum (b.drop 3)).1 [] (rdNum (b.drop 3)).2.1).2.1, 0)

theorem CutP_ok (A : Option Addr) (n c g : Nat) (l : List UInt8) (w : World) (hl : l.length = n) (hc : n ≤ c) (hr : Rd w 1 A n (bys l)) (h2 : Rd w 1 (some ⟨g, 0, none⟩) 3 (bys [65, 77, 49])) :
    Calls Try.prog 30 #[.slice A n c, .slice (some ⟨g, 0, none⟩) 3 3] w fun e w' => (∃ A' c', e = .returned (.tuple #[.slice A' (if [65, 77, 49].isPrefixOf l then (l.drop 3).length else n) c', .bool ([65, 77, 49].isPrefixOf l)]) ∧
      ([65, 77, 49].isPrefixOf l = true → Rd w 1 A' (l.drop 3).length (bys (l.drop 3)) ∧ (l.drop 3).length ≤ c' ∧ c' ≤ c ∧ Moved A A' w.heap.size (l.drop 3))) ∧ w = w' := by
  rcases Nat.eq_zero_or_pos n with h0 | h0
  · subst h0
    obtain rfl : l = [] := List.eq_nil_of_length_eq_zero hl
    refine (Try.bytes_CutPrefix_e1 A (some ⟨g, 0, none⟩) c 3 3 (by omega) w).mono fun e w' h => ⟨⟨A, c, ?_, fun h => by simp at h⟩, h.2.symm⟩
    rw [h.1]; rfl
  · obtain ⟨b, off, rfl, hb, hcell⟩ := hr.2 h0
    obtain ⟨b2, o2, e2, hb2, hcell2⟩ := h2.2 (by omega)
    cases e2
    refine (Try.bytes_CutPrefix b off n c g 0 3 3 (l.map fun x => (x.toNat : Int)) [65, 77, 49] w (by simpa using hl) rfl hc (fun i hi => ?_) (fun i hi => ?_)).mono fun e w' h => ⟨?_, h.2.symm⟩
    · refine hcell i _ ?_
      have : i < l.length := by omega
      simp [bys, this]
    · refine hcell2 i _ ?_
      match i, hi with
      | 0, _ => rfl
      | 1, _ => rfl
      | 2, _ => rfl
    · have hbo : Lib.bytesOf (l.map fun x => (x.toNat : Int)) = l := by
        simp only [Lib.bytesOf, List.map_map]
        conv => rhs; rw [← List.map_id l]
        exact List.map_congr_left fun a _ => by simp
      have hb3 : Lib.bytesOf [65, 77, 49] = [65, 77, 49] := rfl
      obtain ⟨h1, _⟩ := h
      rw [Lib.bytesTrimPrefix, hbo, hb3, Lib.hasPrefix] at h1
      by_cases hp : [65, 77, 49].isPrefixOf l = true
      · rw [hp, if_pos rfl, Lib.sliceFrom] at h1
        have h3 : 3 ≤ l.length := by
          have := List.IsPrefix.length_le (List.isPrefixOf_iff_prefix.1 hp); simpa using this
        have hr' := hr.cutAt (k := 3) (c := c) (by omega) hc
        rw [bys_drop] at hr'
        have hdl : (l.drop 3).length = n - 3 := by rw [List.length_drop, hl]
        refine ⟨_, c - 3, ?_, fun _ => ⟨by rw [hdl]; exact hr', by omega, by omega, ?_⟩⟩
        · rw [h1, hp, if_pos rfl, hdl]; rfl
        · intro b' o' e' _
          split at e'
          · cases e'; exact .inl ⟨_, rfl⟩
          · cases e'; exact .inl ⟨_, rfl⟩
      · have hp : [65, 77, 49].isPrefixOf l = false := Bool.eq_false_iff.2 hp
        rw [hp, if_neg (by decide)] at h1
        refine ⟨some ⟨b, off, none⟩, c, ?_, fun h => by rw [hp] at h; cases h⟩
        rw [h1, hp]; rfl

theorem txtR_rest (l : List UInt8) (e : Nat) : (txtR l e).2.1.length ≤ l.length := by
  unfold txtR; split
  · exact Nat.le_refl _
  · exact rdTxt_rest l
theorem takR_rest (n : Nat) (l : List UInt8) (e : Nat) : (takR n l e).2.1.length ≤ l.length ∧ (takR n l e).1.length ≤ l.length := by
  unfold takR; split
  · exact ⟨Nat.le_refl _, Nat.zero_le _⟩
  · split
    · exact ⟨Nat.le_refl _, Nat.zero_le _⟩
    · simp only [List.length_drop, List.length_take]; omega
theorem numR_rest (l : List UInt8) (e : Nat) : (numR l e).2.1.length ≤ l.length ∧ (numR l e).1 ≤ 4294967295 := by
  unfold numR; split
  · exact ⟨Nat.le_refl _, Nat.zero_le _⟩
  · exact ⟨rdGo_rest l 0 0, rdGo_bound l 0 0⟩
theorem txtR_name (l : List UInt8) (e : Nat) : (txtR l e).1.length ≤ l.length := by
  unfold txtR; split
  · exact Nat.zero_le _
  · have h := rdGo_rest l 0 0
    unfold rdTxt rdNum
    generalize rdGo 0 0 l = x at *
    obtain ⟨n, r, e⟩ := x
    dsimp only at h ⊢
    split
    · exact Nat.zero_le _
    · split
      · exact Nat.zero_le _
      · split
        · exact Nat.zero_le _
        · simp only [List.length_take]; omega

/-- the bytes that are left do not lie in the row v -/
def Far (v : Value) (A : Option Addr) (l : List UInt8) : Prop := ∀ b off, A = some ⟨b, off, none⟩ → 0 < l.length → v.ownBlock ≠ some b
theorem Far.moved {v : Value} {A A' : Option Addr} {l l' : List UInt8} {sz : Nat} (h : Far v A l) (hm : Moved A A' sz l') (hl : l'.length ≤ l.length) (hv : ∀ k, v.ownBlock = some k → k < sz) : Far v A' l' := fun b off e h0 => by
  rcases hm b off e h0 with ⟨o, ho⟩ | hb
  · exact h b o ho (by omega)
  · intro hk; have := hv b hk; omega
theorem own_far {w w' : World} {g n : Nat} {v : Value} {e : TypeId} {size : Nat} {xs : List Value} (h : w.ownsRow (g + 1) e size v n xs) (hg : w.grownBy w' (some g)) : w'.ownsRow (g + 1) e size v n xs :=
  h.kept hg (.inr fun he => by have := (h.lt g he).1; omega)
theorem Rdr.grown {W W' : World} {g c e : Nat} {A : Option Addr} {l : List UInt8} {v : Value} (h : Rdr W g A c l e) (hg : W.grownBy W' v.ownBlock) (hv : v.ownBlock ≠ some g) (hf : Far v A l) : Rdr W' g A c l e := by
  refine ⟨?_, ⟨h.rd.1, fun hn => ?_⟩, h.cap, h.ne, h.small, h.cm⟩
  · exact (hg.block g h.lt (fun e => hv e.symm)).trans h.arr
  · obtain ⟨b, off, e, hb, hc⟩ := h.rd.2 hn
    have h1 := hf b off e hn
    exact ⟨b, off, e, Nat.lt_of_lt_of_le hb hg.size, fun j u hu => (World.cell?_of_block (hg.block b hb (fun e => h1 e.symm))).trans (hc j u hu)⟩
theorem below_far {B g : Nat} {a w w' : World} (h : Below B a w) (hg : w.grownBy w' (some g)) (hB : B ≤ g) (hs : B ≤ w.heap.size) : Below B a w' := h.grown hg hs (fun k hk => by cases hk; exact hB)

set_option maxHeartbeats 4000000 in
theorem Decode_ok (A : Option Addr) (n c : Nat) (l : List UInt8) (w : World) (hl : l.length = n) (hc : n ≤ c) (hm : c ≤ maxLen) (hr : Rd w 1 A n (bys l)) :
    Calls Try.prog 32 #[.slice A n c] w fun e w' => ∃ v, e = .returned (.tuple #[v, .int .i64 ((decL l).2 : Nat)]) ∧ w'.ownsRow w.heap.size 45 3 v (decL l).1.length (pcs (decL l).1) ∧ Below w.heap.size w w' := by
  have HL := Lib.hid hl
  by_cases hbig : 2000 < n
  · have hfin : decL l = ([], 1) := by rw [decL, if_pos (by omega)]
    have hcm : n ≤ 9223372036854775807 := by unfold maxLen at hm; omega
    rw [hfin]
    clear hfin hl
    go_enter Try.func32, Try.ntmps32
    repeat' ((fail_if_success at_builtin); (fail_if_success at_make); (first | go_values | go_skip | go_guarded | go_step | go_upon | go_back))
    go_ret2
    exact ⟨_, rfl, World.ownsRow_nil _ _ _ _, Below.refl _ _⟩
  have hfin1 : decL l = if [65, 77, 49].isPrefixOf l = false then ([], 3) else
      if (rdNum (l.drop 3)).2.2 ≠ 0 then ([], (rdNum (l.drop 3)).2.2) else if 8 < (rdNum (l.drop 3)).1 then ([], 1) else
      if (decGo (rdNum (l.drop 3)).1 [] (rdNum (l.drop 3)).2.1).1 ≠ 0 then ([], (decGo (rdNum (l.drop 3)).1 [] (rdNum (l.drop 3)).2.1).1) else
      if 0 < (decGo (rdNum (l.drop 3)).1 [] (rdNum (l.drop 3)).2.1).2.2.length then ([], 3) else
      if chk (decGo (rdNum (l.drop 3)).1 [] (rdNum (l.drop 3)).2.1).2.1 ≠ 0 then ([], chk (decGo (rdNum (l.drop 3)).1 [] (rdNum (l.drop 3)).2.1).2.1) else
      ((decGo (rdNum (l.drop 3)).1 [] (rdNum (l.drop 3)).2.1).2.1, 0) := by rw [decL, if_neg (by omega)]
  generalize decL l = res at *
  have hb0 := (Below.refl w.heap.size w).alloc (Nat.le_refl _) (.cells #[.int .u8 65, .int .u8 77, .int .u8 49] 5 (3, 4))
  have hr0 := hr.alloc (.cells #[.int .u8 65, .int .u8 77, .int .u8 49] 5 (3, 4))
  have hq0 : Rd (w.alloc (.cells #[.int .u8 65, .int .u8 77, .int .u8 49] 5 (3, 4))) 1 (some ⟨w.heap.size, 0, none⟩) 3 (bys [65, 77, 49]) := by
    refine ⟨rfl, fun _ => ⟨_, 0, rfl, by simp, fun j u hu => ?_⟩⟩
    rw [← hu, Nat.zero_add]
    have h1 : (w.alloc (.cells #[.int .u8 65, .int .u8 77, .int .u8 49] 5 (3, 4))).heap[w.heap.size]? = some (.cells #[.int .u8 65, .int .u8 77, .int .u8 49] 5 (3, 4)) := World.alloc_heap_new w _
    simp only [World.cell?, h1, Option.isSome_none, Bool.false_eq_true, if_false]
    simp [bys]
  have hkc := fun (w : World) (C : Array Value) (n c : Nat) => Lib.run_convert_bytes_const (P := Try.prog) w 35 5 C n c Try.underlying35 Try.underlying5
  have HCP := Lib.hid (CutP_ok A n c w.heap.size l _ hl hc hr0 hq0)
  have HF1 := Lib.hid hfin1
  clear hfin1 hl hq0 hr0
  generalize hpre : [65, 77, 49].isPrefixOf l = pre at HCP HF1
  go_enter Try.func32, Try.ntmps32
  repeat' ((fail_if_success at_builtin); (fail_if_success at_make); (first | go_values | go_skip | go_guarded | go_step | go_upon | go_back))
  refine ((HCP.out)).mono ?_; rintro e_ w1 ⟨⟨A1, c1, rfl, hcut⟩, rfl⟩; dsimp only
  cases pre with
  | false =>
    have hres : res = ([], 3) := by rw [HF1.out, if_pos rfl]
    have HR := Lib.hid hres
    clear hres hpre
    repeat' ((fail_if_success at_builtin); (fail_if_success at_make); (first | go_values | go_skip | go_guarded | go_step | go_upon | go_back))
    go_ret2
    rw [HR.out]
    exact ⟨_, rfl, World.ownsRow_nil _ _ _ _, hb0⟩
  | true =>
    obtain ⟨hr1, hc1, hc1c, hm1⟩ := hcut rfl
    have hdl : (l.drop 3).length ≤ 2000 := by rw [List.length_drop, HL.out]; omega
    simp only [if_true]
    have HF2 := Lib.hid (show res = if (rdNum (l.drop 3)).2.2 ≠ 0 then ([], (rdNum (l.drop 3)).2.2) else if 8 < (rdNum (l.drop 3)).1 then ([], 1) else
      if (decGo (rdNum (l.drop 3)).1 [] (rdNum (l.drop 3)).2.1).1 ≠ 0 then ([], (decGo (rdNum (l.drop 3)).1 [] (rdNum (l.drop 3)).2.1).1) else
      if 0 < (decGo (rdNum (l.drop 3)).1 [] (rdNum (l.drop 3)).2.1).2.2.length then ([], 3) else
      if chk (decGo (rdNum (l.drop 3)).1 [] (rdNum (l.drop 3)).2.1).2.1 ≠ 0 then ([], chk (decGo (rdNum (l.drop 3)).1 [] (rdNum (l.drop 3)).2.1).2.1) else
      ((decGo (rdNum (l.drop 3)).1 [] (rdNum (l.drop 3)).2.1).2.1, 0) from by rw [HF1.out, if_neg (by decide)])
    have HPRE := Lib.hid hpre
    clear HF1 HCP hcut hpre
    generalize l.drop 3 = L at *
    generalize w.alloc (.cells #[.int .u8 65, .int .u8 77, .int .u8 49] 5 (3, 4)) = w1 at *
    obtain ⟨g, hg⟩ : ∃ g, g = w1.heap.size := ⟨_, rfl⟩
    obtain ⟨w2, hw2⟩ : ∃ w2, w2 = w1.alloc (.cells #[.slice A1 L.length c1, .int .i64 0] 102) := ⟨_, rfl⟩
    have hR2 : Rdr w2 g A1 c1 L 0 := by
      rw [hw2, hg]
      exact ⟨Arr.new w1 _ _, hr1.alloc _, hc1, fun b off e h0 => by
        obtain ⟨_, _, e2, hb2, _⟩ := hr1.2 h0
        rw [e] at e2; cases e2; omega, hdl, by omega⟩
    have hb2 : Below w.heap.size w w2 := by rw [hw2]; exact hb0.alloc hb0.size _
    have hgw : w.heap.size ≤ g := by rw [hg]; exact hb0.size
    have hg2 : g < w2.heap.size := hR2.lt
    have HW2 := Lib.hid hw2
    have HG := Lib.hid hg
    obtain ⟨m, r, er, hrd⟩ : ∃ m r er, rdNum L = (m, r, er) := ⟨_, _, _, rfl⟩
    have hmz := rdGo_err L 0 0
    have hml := rdGo_rest L 0 0
    have hmb := rdGo_bound L 0 0
    rw [show rdGo 0 0 L = (m, r, er) from hrd] at hmz hml hmb
    rw [hrd] at HF2
    have HN := number_ok hR2
    rw [numR, if_neg (by decide), hrd] at HN
    dsimp only at HF2 HN hmz hml hmb
    have HN' := Lib.hid HN
    clear hw2 hg hr1 hm1 hb0 hr HN hrd
    repeat' ((fail_if_success at_builtin); (fail_if_success at_make); (first | go_values | go_skip | go_guarded | go_step | go_upon | go_back))
    rw [← HG.out, ← HW2.out]
    refine ((HN'.out)).mono ?_; rintro e_ w3 ⟨A3, c3, rfl, hR3, hG3, hM3⟩; dsimp only
    have hb3 := below_far hb2 hG3 hgw hb2.size
    have f1 := hR3.arr.cell (k := 1) rfl
    by_cases her : er = 0
    · subst her
      have HF3 := Lib.hid (show res = if 8 < m then ([], 1) else if (decGo m [] r).1 ≠ 0 then ([], (decGo m [] r).1) else if 0 < (decGo m [] r).2.2.length then ([], 3) else
        if chk (decGo m [] r).2.1 ≠ 0 then ([], chk (decGo m [] r).2.1) else ((decGo m [] r).2.1, 0) from by rw [HF2.out, if_neg (by decide)])
      clear HF2
      rw [show ((0 : Nat) : Int) = 0 from rfl] at f1
      by_cases h8 : 8 < m
      · have hres : res = ([], 1) := by rw [HF3.out, if_pos h8]
        have HR := Lib.hid hres
        have e1 : decide ((8 : Int) < (m : Int)) = true := by simp; omega
        clear hres hmz
        repeat' ((fail_if_success at_builtin); (fail_if_success at_make); (first | go_values | go_skip | go_guarded | go_step | go_upon | go_back))
        go_ret2
        rw [HR.out]
        exact ⟨_, rfl, World.ownsRow_nil _ _ _ _, hb3⟩
      · have e1 : decide ((8 : Int) < (m : Int)) = false := by simp; omega
        have HF4 := Lib.hid (show res = if (decGo m [] r).1 ≠ 0 then ([], (decGo m [] r).1) else if 0 < (decGo m [] r).2.2.length then ([], 3) else
          if chk (decGo m [] r).2.1 ≠ 0 then ([], chk (decGo m [] r).2.1) else ((decGo m [] r).2.1, 0) from by rw [HF3.out, if_neg h8])
        have HM8 := Lib.hid (show m ≤ 8 by omega)
        clear HF3 h8 hmz
        repeat' ((fail_if_success at_builtin); (fail_if_success at_make); (first | go_values | go_skip | go_guarded | go_step | go_upon | go_back))
        go_loopg [8, 37] m (fun gn v i wr => ∃ (k : Nat) (out : List PartP) (A : Option Addr) (c : Nat) (l' : List UInt8), gn = m - k ∧ i = .int .i64 k ∧ k ≤ m ∧ out.length = k ∧ PartsOk out ∧ Rdr wr g A c l' 0 ∧ wr.ownsRow (g + 1) 45 3 v k (pcs out) ∧ Far v A l' ∧ decGo m [] r = decGo (m - k) out l' ∧ Below w.heap.size w wr)
        case atStart => exact ⟨0, [], A3, c3, r, rfl, rfl, by omega, rfl, (fun p hp => by cases hp), hR3, World.ownsRow_nil _ _ _ _, (fun b off _ _ h => by cases h), rfl, hb3⟩
        case round =>
          clear hb3 hR3 hM3 hG3 f1
          obtain ⟨k, out, A, c, l', hgk, rfl, hk, hol, hpo, hR, ho, hfar, hch, hbel⟩ := hrel
          have HGK := Lib.hid hgk
          have HOL := Lib.hid hol
          have HPO := Lib.hid hpo
          have HCH := Lib.hid hch
          have hm8 := HM8.out
          have hgs := hR.lt
          clear hgk hol hpo hch
          by_cases hlt : k < m
          · have hi : decide ((k : Int) < (m : Int)) = true := by simpa using hlt
            have hi' : decide (k < m) = true := by simpa using hlt
            obtain ⟨t, l1, e1, h1⟩ : ∃ t l1 e1, txtR l' 0 = (t, l1, e1) := ⟨_, _, _, rfl⟩
            obtain ⟨d, l2, e2, h2⟩ : ∃ d l2 e2, takR 32 l1 e1 = (d, l2, e2) := ⟨_, _, _, rfl⟩
            obtain ⟨z, l3, e3, h3⟩ : ∃ z l3 e3, numR l2 e2 = (z, l3, e3) := ⟨_, _, _, rfl⟩
            have hs : stepD l' = (⟨t, hexs d, z⟩, l3, e3) := by unfold stepD; rw [h1]; dsimp only; rw [h2]; dsimp only; rw [h3]
            have n1 := txtR_rest l' 0
            have n1' := txtR_name l' 0
            have n2 := takR_rest 32 l1 e1
            have n3 := numR_rest l2 e2
            rw [h1] at n1 n1'
            rw [h2] at n2
            rw [h3] at n3
            have HT1 := Lib.hid (fun (w : World) (A : Option Addr) (c : Nat) (h : Rdr w g A c l' 0) => (by have := text_ok h; rw [h1] at this; exact this : Calls Try.prog 56 #[.pointer (some ⟨g, 0, none⟩)] w fun x w' => ∃ A' c', x = .returned (.string ⟨t.toArray⟩) ∧ Rdr w' g A' c' l1 e1 ∧ w.grownBy w' (some g) ∧ Moved A A' w.heap.size l1))
            have HT2 := Lib.hid (fun (w : World) (A : Option Addr) (c : Nat) (h : Rdr w g A c l1 e1) => (by have := take_ok 32 32 rfl (by omega) h; rw [h2] at this; exact this : Calls Try.prog 57 #[.pointer (some ⟨g, 0, none⟩), .int .i64 32] w fun x w' => ∃ A1 c1 A' c', x = .returned (.slice A1 d.length c1) ∧ d.length ≤ c1 ∧ Rd w' 1 A1 d.length (bys d) ∧ Rdr w' g A' c' l2 e2 ∧ w.grownBy w' (some g) ∧ Moved A A' w.heap.size l2))
            have HT3 := Lib.hid (fun (w : World) (A : Option Addr) (c : Nat) (h : Rdr w g A c l2 e2) => (by have := number_ok h; rw [h3] at this; exact this : Calls Try.prog 55 #[.pointer (some ⟨g, 0, none⟩)] w fun x w' => ∃ A' c', x = .returned (.int .i64 (z : Nat)) ∧ Rdr w' g A' c' l3 e3 ∧ w.grownBy w' (some g) ∧ Moved A A' w.heap.size l3))
            have hsm := hR.small
            have hstep : decGo m [] r = if e3 ≠ 0 then (e3, [], []) else decGo (m - (k + 1)) (out ++ [⟨t, hexs d, z⟩]) l3 := by
              rw [HCH.out, show m - k = (m - (k + 1)) + 1 by omega, decGo, hs]
            have HST := Lib.hid hstep
            have hpn : (⟨t, hexs d, z⟩ : PartP).name.length ≤ 140737488351232 ∧ (⟨t, hexs d, z⟩ : PartP).dig.length ≤ 140737488351232 ∧ ((⟨t, hexs d, z⟩ : PartP).size : Int) ≤ 9223372036854775807 := by
              refine ⟨?_, ?_, ?_⟩
              · show t.length ≤ _; dsimp only at n1'; omega
              · show (hexs d).length ≤ _; rw [hexs_len]; dsimp only at n2 n1; omega
              · show (z : Int) ≤ _; dsimp only at n3; omega
            have HPN := Lib.hid hpn
            dsimp only at n1 n1' n2 n3
            clear hs h1 h2 h3 hstep hpn HCH
            have hvl := fun k hk => (ho.lt k hk).2
            repeat' ((fail_if_success at_builtin); (fail_if_success at_make); (first | go_values | go_skip | go_guarded | go_step | go_upon | go_back))
            refine ((HT1.out _ _ _ hR)).mono ?_; rintro e_ w4 ⟨A4, c4, rfl, hR4, hG4, hM4⟩; dsimp only
            have hb4 := below_far hbel hG4 hgw hbel.size
            have ho4 := own_far ho hG4
            have hf4 := hfar.moved hM4 n1 hvl
            repeat' ((fail_if_success at_builtin); (fail_if_success at_make); (first | go_values | go_skip | go_guarded | go_step | go_upon | go_back))
            refine ((HT2.out _ _ _ hR4)).mono ?_; rintro e_ w5 ⟨Ad, cd, A5, c5, rfl, hcd, hrd, hR5, hG5, hM5⟩; dsimp only
            have hb5 := below_far hb4 hG5 hgw hb4.size
            have ho5 := own_far ho4 hG5
            have hf5 := hf4.moved hM5 n2.1 (fun k hk => (ho4.lt k hk).2)
            repeat' ((fail_if_success at_builtin); (fail_if_success at_make); (first | go_values | go_skip | go_guarded | go_step | go_upon | go_back))
            refine ((Text_ok Ad d.length cd d w5 rfl (by omega) hcd hrd)).mono ?_; rintro e_ w6 ⟨rfl, hb6⟩; dsimp only
            have hR6 := hR5.below hb6
            have hb56 := hb5.trans (hb6.mono hb5.size)
            have ho6 := own_below ho5 hb6
            repeat' ((fail_if_success at_builtin); (fail_if_success at_make); (first | go_values | go_skip | go_guarded | go_step | go_upon | go_back))
            refine ((HT3.out _ _ _ hR6)).mono ?_; rintro e_ w7 ⟨A7, c7, rfl, hR7, hG7, hM7⟩; dsimp only
            have hb7 := below_far hb56 hG7 hgw hb56.size
            have ho7 := own_far ho6 hG7
            have hf7 := hf5.moved hM7 n3.1 (fun k hk => Nat.lt_of_lt_of_le (ho5.lt k hk).2 hb6.size)
            repeat' ((fail_if_success at_builtin); (fail_if_success at_make); (first | go_values | go_skip | go_guarded | go_step | go_upon | go_back))
            refine wpList_apN rfl (.tmp 39) (.tmp 48) rfl elPart (by rfl) ho7 (us := pcs [⟨t, hexs d, z⟩]) (m := 1) (by rfl) rfl (by intro u hu; exact pcs_one _ u hu) (by omega) (by have := hR7.lt; omega) ?_
            intro v8 w8 ho8 hg8 hv8
            have hR8 := hR7.grown hg8 (fun h => by have := (ho7.lt g h).1; omega) hf7
            have hb8 : Below w.heap.size w w8 := hb7.grown hg8 hb7.size (fun k hk => by have := (ho7.lt k hk).1; omega)
            have hf8 : Far v8 A7 l3 := fun b off e h0 => by
              rcases hv8 with h | ⟨g8, h, hge⟩
              · rw [h]; exact hf7 b off e h0
              · rw [h]
                obtain ⟨_, _, e2, hb2, _⟩ := hR7.rd.2 h0
                rw [e] at e2; cases e2
                intro h; cases h; omega
            rw [← pcs_app] at ho8
            have f2 := hR8.arr.cell (k := 1) rfl
            clear hf7 ho7 hb7 hR7 ho6 hb56 hR6 hf5 ho5 hb5 hR5 hf4 ho4 hb4 hR4 hrd hM4 hM5 hM7 hG4 hG5 hG7 hvl hfar ho hR hbel hg8 hv8
            by_cases h30 : e3 = 0
            · subst h30
              rw [show ((0 : Nat) : Int) = 0 from rfl] at f2
              have HSTT := Lib.hid (show decGo m [] r = decGo (m - (k + 1)) (out ++ [⟨t, hexs d, z⟩]) l3 from by rw [HST.out, if_neg (by decide)])
              repeat' ((fail_if_success at_builtin); (fail_if_success at_make); (first | go_values | go_skip | go_guarded | go_step | go_upon | go_back))
              go_roundg (m - (k + 1))
              case measure => have := HGK.out; omega
              case rel =>
                refine ⟨k + 1, out ++ [⟨t, hexs d, z⟩], A7, c7, l3, rfl, by go_num, by omega, by rw [List.length_append, HOL.out]; rfl, ?_, hR8, ho8, hf8, HSTT.out, hb8⟩
                intro p hp
                rcases List.mem_append.1 hp with h | h
                · exact HPO.out p h
                · simp only [List.mem_cons, List.not_mem_nil, or_false] at h; subst h; exact HPN.out
            · have e9 : ((e3 : Int) != 0) = true := by rw [bne_iff_ne]; omega
              have hres : res = ([], e3) := by rw [HF4.out, HST.out, if_pos h30]; exact if_pos h30
              have HR := Lib.hid hres
              clear hres h30
              repeat' ((fail_if_success at_builtin); (fail_if_success at_make); (first | go_values | go_skip | go_guarded | go_step | go_upon | go_back))
              go_quiet (fail)
              have f3 : (w8.drewN nq).cell? ⟨g, 1, none⟩ = some (.int .i64 (e3 : Int)) := f2
              repeat' ((fail_if_success at_builtin); (fail_if_success at_make); (first | go_values | go_skip | go_guarded | go_step | go_upon | go_back))
              go_ret2
              rw [HR.out]
              exact ⟨_, rfl, World.ownsRow_nil _ _ _ _, bdrewN hb8 _⟩
          · obtain rfl : k = m := by omega
            have hi : decide ((k : Int) < (k : Int)) = false := by simp
            have hd : decGo k [] r = (0, out, l') := by rw [HCH.out, Nat.sub_self, decGo]
            have HF5 := Lib.hid (show res = if 0 < l'.length then ([], 3) else if chk out ≠ 0 then ([], chk out) else (out, 0) from by rw [HF4.out, hd, if_neg (by simp)])
            have f1 := hR.arr.cell (k := 1) rfl
            have f0 := hR.arr.cell (k := 0) rfl
            rw [show ((0 : Nat) : Int) = 0 from rfl] at f1
            have hgb : w.heap.size ≤ g + 1 := by omega
            clear hd HF4 HCH hfar
            by_cases hr0 : 0 < l'.length
            · have hres : res = ([], 3) := by rw [HF5.out, if_pos hr0]
              have HR := Lib.hid hres
              have e5 : decide ((0 : Int) < (l'.length : Int)) = true := decide_eq_true (by omega)
              have e5' : decide (0 < l'.length) = true := decide_eq_true hr0
              clear hres
              repeat' ((fail_if_success at_builtin); (fail_if_success at_make); (first | go_values | go_skip | go_guarded | go_step | go_upon | go_back))
              go_ret2
              rw [HR.out]
              exact ⟨_, rfl, World.ownsRow_nil _ _ _ _, hbel⟩
            · have HF6 := Lib.hid (show res = if chk out ≠ 0 then ([], chk out) else (out, 0) from by rw [HF5.out, if_neg hr0])
              have e5 : decide ((0 : Int) < (l'.length : Int)) = false := decide_eq_false (by omega)
              have e5' : decide (0 < l'.length) = false := decide_eq_false hr0
              obtain ⟨Ao, co, rfl, hco, hro⟩ := Rd.of_own' ho
              have HCK := Lib.hid (Check_ok Ao k co out wr HOL.out hco (by omega) HPO.out hro)
              clear HF5
              repeat' ((fail_if_success at_builtin); (fail_if_success at_make); (first | go_values | go_skip | go_guarded | go_step | go_upon | go_back))
              refine ((HCK.out)).mono ?_; rintro e_ w9 ⟨rfl, hb9⟩; dsimp only
              have hbf := hbel.trans (hb9.mono hbel.size)
              have hof := own_lower (own_below ho hb9) hgb
              by_cases hck : chk out = 0
              · have hres : res = (out, 0) := by rw [HF6.out, if_neg (by simpa using hck)]
                have HR := Lib.hid hres
                have e6 : ((chk out : Int) != 0) = false := by rw [bne_eq_false_iff_eq]; omega
                clear hres hck
                generalize chk out = ck at *
                repeat' ((fail_if_success at_builtin); (fail_if_success at_make); (first | go_values | go_skip | go_guarded | go_step | go_upon | go_back))
                go_ret2
                rw [HR.out]
                refine ⟨_, rfl, ?_, hbf⟩
                dsimp only
                rw [HOL.out]; exact hof
              · have hres : res = ([], chk out) := by rw [HF6.out, if_pos hck]
                have HR := Lib.hid hres
                have e6 : ((chk out : Int) != 0) = true := by rw [bne_iff_ne]; omega
                clear hres hck
                generalize chk out = ck at *
                repeat' ((fail_if_success at_builtin); (fail_if_success at_make); (first | go_values | go_skip | go_guarded | go_step | go_upon | go_back))
                go_ret2
                rw [HR.out]
                exact ⟨_, rfl, World.ownsRow_nil _ _ _ _, hbf⟩
    · have hm0 : m = 0 := hmz her
      subst hm0
      have hres : res = ([], er) := by rw [HF2.out, if_pos her]
      have HR := Lib.hid hres
      have e1 : ((er : Int) == 0) = false := by rw [beq_eq_false_iff_ne]; omega
      have e2 : ((er : Int) != 0) = true := by rw [bne_iff_ne]; omega
      clear hres her hmz
      rw [show ((0 : Nat) : Int) = 0 from rfl]
      repeat' ((fail_if_success at_builtin); (fail_if_success at_make); (first | go_values | go_skip | go_guarded | go_step | go_upon | go_back))
      go_loopg [8, 37] 0 (fun gn v i wr => gn = 0 ∧ i = .int .i64 0 ∧ v = .slice none 0 0 ∧ Rdr wr g A3 c3 r er ∧ Below w.heap.size w wr)
      case atStart => exact ⟨rfl, rfl, rfl, hR3, hb3⟩
      case round =>
        obtain ⟨_, rfl, rfl, hR4, hb4⟩ := hrel
        have f2 := hR4.arr.cell (k := 1) rfl
        repeat' ((fail_if_success at_builtin); (fail_if_success at_make); (first | go_values | go_skip | go_guarded | go_step | go_upon | go_back))
        go_quiet (fail)
        repeat' ((fail_if_success at_builtin); (fail_if_success at_make); (first | go_values | go_skip | go_guarded | go_step | go_upon | go_back))
        go_ret2
        rw [HR.out]
        exact ⟨_, rfl, World.ownsRow_nil _ _ _ _, bdrewN hb4 _⟩
end Go.Proofs.Ytkfipkmkmhkfaaa
