/- The walk of Digest: it is the plain digest shaS. Condition: the slice's size. -/
import Derived.Test.YtefhbgbhknobjaaHsh
import Derived.Test.YtefhbgbhknobjaaDigP
import Derived.Deep.LoopGhost
namespace Go.Proofs.Ytefhbgbhknobjaa
open Go.RowKit
set_option linter.unusedVariables false
set_option linter.unusedSimpArgs false
set_option maxRecDepth 20000

theorem SClone_ok (A : Option Addr) (n c : Nat) (l : List UInt8) (w : World) (hl : l.length = n) (hc : n ≤ c) (hm : n ≤ 140737488353280) (hr : Rd w 1 A n (bys l)) :
    Calls Try.prog 22 #[.slice A n c] w fun e w' => ∃ v, e = .returned v ∧ w'.ownsRow w.heap.size 5 1 v n (bys l) ∧ Below w.heap.size w w' := by
  have heq := fun W => Lib.run_eql_slice_nil (P := Try.prog) W 37 5 A n c 0 0 Try.underlying37
  cases A with
  | none =>
    obtain rfl : n = 0 := by
      rcases Nat.eq_zero_or_pos n with h | h
      · exact h
      · obtain ⟨_, _, h1, _⟩ := hr.2 h; cases h1
    obtain rfl : l = [] := List.eq_nil_of_length_eq_zero hl
    go_enter Try.func22, Try.ntmps22
    repeat' ((fail_if_success at_builtin); (fail_if_success at_make); (first | go_values | go_skip | go_guarded | go_step | go_upon | go_back))
    go_ret
    exact ⟨_, rfl, World.ownsRow_nil _ _ _ _, Below.refl _ _⟩
  | some ad =>
    go_enter Try.func22, Try.ntmps22
    repeat' ((fail_if_success at_builtin); (fail_if_success at_make); (first | go_values | go_skip | go_guarded | go_step | go_upon | go_back))
    refine wpList_ap rfl (.tmp 5) (.tmp 6) rfl elU8 (by rfl) (World.ownsRow_made (size := 1) w #[] 0 (Nat.le_refl _) (by simp [maxLen]) rfl) (by rfl) (hr.alloc _) (bys_one _) (by omega) (by simp) ?_
    intro v1 w1 hown1 hg1 _
    have hb1 := below_own ((Below.refl _ _).alloc (Nat.le_refl _) _) (World.ownsRow_made (size := 1) w #[] 0 (Nat.le_refl _) (by simp [maxLen]) rfl) (Nat.le_refl _) hg1
    repeat' ((fail_if_success at_builtin); (fail_if_success at_make); (first | go_values | go_skip | go_guarded | go_step | go_upon | go_back))
    go_ret
    exact ⟨_, rfl, by simpa using hown1, hb1⟩

theorem constants_ok (w : World) : Calls Try.prog 23 #[] w fun e w' => e = .returned (.slice (some ⟨w.heap.size, 0, none⟩) 64 64) ∧ Rd w' 1 (some ⟨w.heap.size, 0, none⟩) 64 (wds rks) ∧ Below w.heap.size w w' := by
  go_enter Try.func23, Try.ntmps23
  repeat' ((fail_if_success at_builtin); (fail_if_success at_make); (first | go_values | go_skip | go_guarded | go_step | go_upon | go_back))
  go_ret
  refine ⟨rfl, ?_, (Below.refl _ _).alloc (Nat.le_refl _) _⟩
  exact Rd.newN (w := w) (e := 65) (size := 1) (m := 64) (wds rks) (by rfl)

theorem hashed_at (A : Option Addr) (n c : Nat) (l : List UInt8) (B : Option Addr) (d : Nat) (a0 a1 a2 a3 a4 a5 a6 a7 d0 d1 d2 d3 d4 d5 d6 d7 : W32) (w : World) (hst : stepS [a0, a1, a2, a3, a4, a5, a6, a7] (wsOf (l.take 64)) = [d0, d1, d2, d3, d4, d5, d6, d7]) (hl : l.length = n) (hn : 64 ≤ n) (hc : n ≤ c) (hm : n ≤ 140737488353280) (hr : Rd w 1 A n (bys l)) (hk : Rd w 1 B 64 (wds rks)) (hd : 64 ≤ d) :
    Calls Try.prog 24 #[.agg #[.int .u32 (wd a0), .int .u32 (wd a1), .int .u32 (wd a2), .int .u32 (wd a3), .int .u32 (wd a4), .int .u32 (wd a5), .int .u32 (wd a6), .int .u32 (wd a7)], .slice A n c, .slice B 64 d] w fun e w' =>
      e = .returned (.agg #[.int .u32 (wd d0), .int .u32 (wd d1), .int .u32 (wd d2), .int .u32 (wd d3), .int .u32 (wd d4), .int .u32 (wd d5), .int .u32 (wd d6), .int .u32 (wd d7)]) ∧ Below w.heap.size w w' := by
  refine (hashed_ok A n c l B d [a0, a1, a2, a3, a4, a5, a6, a7] w hl hn hc hm hr hk hd rfl).mono fun e w' h => ?_
  rw [hst] at h
  exact h

theorem Digest_ok (A : Option Addr) (n c : Nat) (l : List UInt8) (w : World) (hl : l.length = n) (hc : n ≤ c) (hm : n ≤ 140737488351232) (hr : Rd w 1 A n (bys l)) :
    Calls Try.prog 10 #[.slice A n c] w fun e w' => e = .returned (.string ⟨(shaS l).toArray⟩) ∧ Below w.heap.size w w' := by
  have HL := Lib.hid hl
  clear hl
  go_enter Try.func10, Try.ntmps10
  repeat' ((fail_if_success at_builtin); (fail_if_success at_make); (first | go_values | go_skip | go_guarded | go_step | go_upon | go_back))
  refine ((SClone_ok _ _ _ l _ HL.out hc (by omega) hr)).mono ?_; rintro e_ w1 ⟨v1, rfl, ho1, hb1⟩; dsimp only
  repeat' ((fail_if_success at_builtin); (fail_if_success at_make); (first | go_values | go_skip | go_guarded | go_step | go_upon | go_back))
  have hl := HL.out
  refine wpList_apN rfl (.tmp 13) (.tmp 14) rfl elU8 (by rfl) ho1 rfl rfl (by simp; rfl) (by omega) hb1.size ?_
  intro v2 w2 ho2 hg2 _
  have hb2 := below_own hb1 ho1 (Nat.le_refl _) hg2
  have ho3 : w2.ownsRow w.heap.size 5 1 v2 (n + 1 + 0) (bys (l ++ [128] ++ List.replicate 0 0)) := by
    rw [List.replicate_zero, List.append_nil, bys_app]; exact ho2
  clear hl ho1 ho2 hg2 hb1
  repeat' ((fail_if_success at_builtin); (fail_if_success at_make); (first | go_values | go_skip | go_guarded | go_step | go_upon | go_back))
  go_loopg [3] (zpad n) (fun gn v wr => ∃ k, gn = zpad n - k ∧ k ≤ zpad n ∧ wr.ownsRow w.heap.size 5 1 v (n + 1 + k) (bys (l ++ [128] ++ List.replicate k 0)) ∧ Below w.heap.size w wr)
  case atStart => exact ⟨0, rfl, by omega, ho3, hb2⟩
  case round =>
    clear ho3 hb2
    obtain ⟨k, hgk, hk, hown, hbel⟩ := hrel
    obtain ⟨A3, c3, rfl, hc3, hrd3⟩ := Rd.of_own' hown
    have hz : zpad n ≤ 63 := by unfold zpad; omega
    by_cases h56 : (n + 1 + k) % 64 = 56
    · have hkz := zpad_end n k h56 hk
      have hb56 : (((n + 1 + k : Nat) : Int) % 64 != 56) = false := by rw [bne_eq_false_iff_eq]; omega
      generalize hm1 : n + 1 + k = m at *
      have HM := Lib.hid hm1
      have hm2 : m ≤ n + 64 := by omega
      clear hm1 h56 hgk
      subst hkz
      repeat' ((fail_if_success at_builtin); (fail_if_success at_make); (first | go_values | go_skip | go_guarded | go_step | go_upon | go_back))
      have ho4 : wr.ownsRow w.heap.size 5 1 (.slice A3 m c3) (m + 0) (bys (l ++ [128] ++ List.replicate (zpad n) 0 ++ (be64 (8 * n)).take 0)) := by
        rw [List.take_zero, List.append_nil]; exact hown
      clear hown hrd3 hc3 hb56
      go_loopg [3, 27] 8 (fun gn v i wr => ∃ k : Nat, gn = 8 - k ∧ i = .int .i64 k ∧ k ≤ 8 ∧ wr.ownsRow w.heap.size 5 1 v (m + k) (bys (l ++ [128] ++ List.replicate (zpad n) 0 ++ (be64 (8 * n)).take k)) ∧ Below w.heap.size w wr)
      case atStart => exact ⟨0, rfl, rfl, by omega, ho4, hbel⟩
      case round =>
        clear ho4 hbel
        obtain ⟨k, hgk, rfl, hk, hown, hbel⟩ := hrel
        have HGK := Lib.hid hgk
        clear hgk
        by_cases hk8 : k < 8
        · have hbn := be_next (8 * n) k hk8
          have HBN := Lib.hid hbn
          clear hbn
          repeat' ((fail_if_success at_builtin); (fail_if_success at_make); (first | go_values | go_skip | go_guarded | go_step | go_upon | go_back))
          refine wpList_apN rfl (.tmp 30) (.tmp 37) rfl elU8 (by rfl) hown rfl rfl (by simp; rfl) (by omega) hbel.size ?_
          intro v2 w2 ho2 hg2 _
          have hb2 := below_own hbel hown (Nat.le_refl _) hg2
          repeat' ((fail_if_success at_builtin); (fail_if_success at_make); (first | go_values | go_skip | go_guarded | go_step | go_upon | go_back))
          go_roundg (8 - (k + 1))
          case measure => have := HGK.out; omega
          case rel =>
            refine ⟨k + 1, rfl, by go_num, by omega, ?_, hb2⟩
            rw [be_val n k hk8] at ho2
            rw [HBN.out, ← List.append_assoc, bys_app _ [_]]
            exact ho2
        · obtain rfl : k = 8 := by omega
          have hsp : l ++ [128] ++ List.replicate (zpad n) 0 ++ (be64 (8 * n)).take 8 = shaPad l := by
            rw [List.take_of_length_le (by rw [be_len]; omega)]; unfold shaPad; rw [HL.out]
          have hpl := shaPad_len l
          have hpl2 : (shaPad l).length = m + 8 := by rw [← hsp]; have := HM.out; have := HL.out; simp [be_len]; omega
          rw [hsp] at hown
          clear hsp
          obtain ⟨q, hq⟩ : ∃ q, (shaPad l).length = 64 * q := ⟨(shaPad l).length / 64, by omega⟩
          have hfin : shaS l = hexs (wbs (chain h0s (wsOf (shaPad l)) q)) := by
            unfold shaS shaWs; rw [hq, Nat.mul_div_cancel_left _ (by omega)]
          have HFIN := Lib.hid hfin
          clear hfin
          generalize shaPad l = P at *
          obtain ⟨A5, c5, rfl, hc5, hrd5⟩ := Rd.of_own' hown
          have hm8 : m + 8 ≤ n + 72 := by omega
          have HPL := Lib.hid hpl2
          have HQ := Lib.hid hq
          clear hq hpl2 hown hpl hm2
          generalize m + 8 = L at *
          have hLq : L = 64 * q := by rw [← HPL.out]; exact HQ.out
          have HLQ := Lib.hid hLq
          clear hLq
          rw [show ((8 : Nat) : Int) = (8 : Int) from rfl]
          repeat' ((fail_if_success at_builtin); (fail_if_success at_make); (first | go_values | go_skip | go_guarded | go_step | go_upon | go_back))
          have qa := Arr.new wr 66 (wds h0s)
          have qb := hbel.alloc hbel.size (.cells (wds h0s).toArray 66)
          have qr := hrd5.alloc (.cells (wds h0s).toArray 66)
          have qw : 0 < L - 64 * 0 → ∃ b off, A5 = some ⟨b, off, none⟩ ∧ b < wr.heap.size := fun h => by
            obtain ⟨b, off, e, hb, _⟩ := hrd5.2 h
            exact ⟨b, off, e, hb⟩
          change Calls _ _ _ (wr.alloc (.cells (wds h0s).toArray 66)) _
          have hgb := hbel.size
          clear hbel hrd5 hk
          generalize wr.alloc (.cells (wds h0s).toArray 66) = wa at *
          generalize wr.heap.size = gh at *
          refine ((constants_ok _)).mono ?_; rintro e_ w5 ⟨rfl, qk, hb5⟩; dsimp only
          have qa2 := qa.below hb5
          have qr2 := qr.below hb5
          have qb2 := qb.trans (hb5.mono qb.size)
          have hga := qa.lt
          generalize wa.heap.size = gc at *
          have qr3 : Rd w5 1 A5 (L - 64 * 0) (bys (P.drop (64 * 0))) := qr2
          clear qa qb qr hb5 qr2
          repeat' ((fail_if_success at_builtin); (fail_if_success at_make); (first | go_values | go_skip | go_guarded | go_step | go_upon | go_back))
          go_loopg [3] q (fun gn v wr => ∃ k A' c', gn = q - k ∧ k ≤ q ∧ v = .slice A' (L - 64 * k) c' ∧ L - 64 * k ≤ c' ∧ (0 < L - 64 * k → ∃ b off, A' = some ⟨b, off, none⟩ ∧ b < gh) ∧ Rd wr 1 A' (L - 64 * k) (bys (P.drop (64 * k))) ∧ Arr wr gh 66 (wds (chain h0s (wsOf P) k)) ∧ Rd wr 1 (some ⟨gc, 0, none⟩) 64 (wds rks) ∧ Below w.heap.size w wr)
          case atStart => exact ⟨0, A5, c5, rfl, by omega, rfl, hc5, qw, qr3, qa2, qk, qb2⟩
          case round =>
            clear qa2 qk qb2 qr3 qw
            obtain ⟨k, A', c', hgk, hk, rfl, hc', qw, qr, qa, qk, qb⟩ := hrel
            have hclen := chain_len h0s (wsOf P) rfl k
            obtain ⟨a0, a1, a2, a3, a4, a5, a6, a7, hch⟩ := eight _ hclen
            have HCH := Lib.hid hch
            rw [hch] at qa
            have HGK := Lib.hid hgk
            by_cases hkq : k < q
            · have hnx := chain_next h0s P k (by have := HQ.out; omega)
              have hclen2 := chain_len h0s (wsOf P) rfl (k + 1)
              obtain ⟨d0, d1, d2, d3, d4, d5, d6, d7, hch2⟩ := eight _ hclen2
              rw [hch, hch2] at hnx
              have HCH2 := Lib.hid hch2
              have hr64 : 64 ≤ L - 64 * k := by have := HLQ.out; omega
              have hpd : (P.drop (64 * k)).length = L - 64 * k := by rw [List.length_drop, HPL.out]
              have hdd : (P.drop (64 * k)).drop 64 = P.drop (64 * (k + 1)) := by rw [List.drop_drop]; congr 1
              have hll : L - 64 * k - 64 = L - 64 * (k + 1) := by omega
              obtain ⟨b, off, rfl, hbg⟩ := qw (by omega)
              clear qw
              generalize hr1 : L - 64 * k = r at *
              have HNX := Lib.hid hnx
              have HPD := Lib.hid hpd
              have HDD := Lib.hid hdd
              have HLL := Lib.hid hll
              have hr2 : r ≤ n + 72 := by omega
              generalize P.drop (64 * k) = Q at *
              clear hch hch2 hclen hclen2 hgk hnx hpd hdd hll hr1
              have f0 := qa.cell (k := 0) rfl
              have f1 := qa.cell (k := 1) rfl
              have f2 := qa.cell (k := 2) rfl
              have f3 := qa.cell (k := 3) rfl
              have f4 := qa.cell (k := 4) rfl
              have f5 := qa.cell (k := 5) rfl
              have f6 := qa.cell (k := 6) rfl
              have f7 := qa.cell (k := 7) rfl
              repeat' ((fail_if_success at_builtin); (fail_if_success at_make); (first | go_values | go_skip | go_guarded | go_step | go_upon | go_back))
              refine ((hashed_at _ _ _ Q _ _ _ _ _ _ _ _ _ _ d0 d1 d2 d3 d4 d5 d6 d7 _ HNX.out HPD.out hr64 hc' (by omega) qr qk (by omega))).mono ?_; rintro e_ w6 ⟨rfl, hb6⟩; dsimp only
              have qa6 := qa.below hb6
              have qr6 := qr.below hb6
              have qk6 := qk.below hb6
              have qb6 := qb.trans (hb6.mono qb.size)
              clear qa qr qk qb hb6 f0 f1 f2 f3 f4 f5 f6 f7
              have f0 := qa6.cell (k := 0) rfl
              have f1 := qa6.cell (k := 1) rfl
              have f2 := qa6.cell (k := 2) rfl
              have f3 := qa6.cell (k := 3) rfl
              have f4 := qa6.cell (k := 4) rfl
              have f5 := qa6.cell (k := 5) rfl
              have f6 := qa6.cell (k := 6) rfl
              have f7 := qa6.cell (k := 7) rfl
              have z := qa6.frozen
              have i64 : (64 : Int) ≤ (r : Int) := by omega
              have i65 : (r : Int) ≤ (c' : Int) := by omega
              repeat' ((fail_if_success at_builtin); (fail_if_success at_make); (first | go_values | go_skip | go_guarded | go_step | go_upon | go_back))
              go_roundg (q - (k + 1))
              case measure => have := HGK.out; omega
              case rel =>
                have hcut := (qr6.other8 (show b ≠ gh by omega) (.int .u32 (wd d0)) (.int .u32 (wd d1)) (.int .u32 (wd d2)) (.int .u32 (wd d3)) (.int .u32 (wd d4)) (.int .u32 (wd d5)) (.int .u32 (wd d6)) (.int .u32 (wd d7))).cutAt (k := 64) (c := c') hr64 hc'
                rw [bys_drop, HDD.out] at hcut
                refine ⟨k + 1, _, c' - 64, rfl, by omega, by rw [HLL.out], by rw [← HLL.out]; omega, fun _ => ?_, by rw [← HLL.out]; exact hcut, ?_, qk6.other8 (show gc ≠ gh by omega) _ _ _ _ _ _ _ _, Below.set8 qb6 hgb _ _ _ _ _ _ _ _⟩
                · split
                  · exact ⟨_, _, rfl, hbg⟩
                  · exact ⟨_, _, rfl, hbg⟩
                · rw [HCH2.out]; exact qa6.set8 _ _ _ _ _ _ _ _
            · obtain rfl : k = q := by omega
              have hL0 : L - 64 * k = 0 := by have := HLQ.out; omega
              rw [hL0]
              have hfin := HFIN.out
              rw [hch] at hfin
              have hHl : [a0, a1, a2, a3, a4, a5, a6, a7].length = 8 := rfl
              have hidx := fun j hj => idx8 a0 a1 a2 a3 a4 a5 a6 a7 j hj
              have HIDX := Lib.hid hidx
              have HFIN2 := Lib.hid hfin
              clear hidx hfin hch hgk HCH HFIN HGK qw qr qk hclen hL0 hkq hk hc' HQ HLQ
              have f0 := qa.cell (k := 0) rfl
              have f1 := qa.cell (k := 1) rfl
              have f2 := qa.cell (k := 2) rfl
              have f3 := qa.cell (k := 3) rfl
              have f4 := qa.cell (k := 4) rfl
              have f5 := qa.cell (k := 5) rfl
              have f6 := qa.cell (k := 6) rfl
              have f7 := qa.cell (k := 7) rfl
              clear qa
              repeat' ((fail_if_success at_builtin); (fail_if_success at_make); (first | go_values | go_skip | go_guarded | go_step | go_upon | go_back))
              clear f0 f1 f2 f3 f4 f5 f6 f7
              go_loopg [8, 52] 8 (fun gn v i wr => ∃ j : Nat, gn = 8 - j ∧ i = .int .i64 j ∧ j ≤ 8 ∧ wr.ownsRow w.heap.size 5 1 v (8 * j) (bys (hexs (wbs ([a0, a1, a2, a3, a4, a5, a6, a7].take j)))) ∧ Below w.heap.size w wr)
              case atStart => exact ⟨0, rfl, rfl, by omega, World.ownsRow_nil _ _ _ _, qb⟩
              case round =>
                clear qb
                obtain ⟨j, hgj, rfl, hj, hown, hbel⟩ := hrel
                have HGJ := Lib.hid hgj
                clear hgj
                by_cases hj8 : j < 8
                · obtain ⟨x, hx, hxi⟩ := HIDX.out j hj8
                  have hwx := wbs_snoc [a0, a1, a2, a3, a4, a5, a6, a7] j hj8
                  have hxe : [a0, a1, a2, a3, a4, a5, a6, a7][j]'hj8 = x := by
                    rw [List.getElem?_eq_getElem hj8] at hx; exact Option.some.inj hx
                  rw [hxe] at hwx
                  have HWX := Lib.hid hwx
                  clear hwx hxe hx
                  have hjl : (j : Int) < 8 := by omega
                  have hjb : decide ((j : Int) < 8) = true := by simpa using hjl
                  repeat' ((fail_if_success at_builtin); (fail_if_success at_make); (first | go_values | go_skip | go_guarded | go_step | go_upon | go_back))
                  have ho5 : wr.ownsRow w.heap.size 5 1 u8 (8 * j + 0) (bys (hexs (wbs ([a0, a1, a2, a3, a4, a5, a6, a7].take j)) ++ nibs x 0)) := by
                    rw [show nibs x 0 = [] from rfl, List.append_nil]; exact hown
                  clear hown hxi
                  generalize hF : hexs (wbs ([a0, a1, a2, a3, a4, a5, a6, a7].take j)) = F at *
                  have HF := Lib.hid hF
                  clear hF
                  go_loopg [8, 55] 8 (fun gn v i wr => ∃ k : Nat, gn = 8 - k ∧ i = .int .i64 k ∧ k ≤ 8 ∧ wr.ownsRow w.heap.size 5 1 v (8 * j + k) (bys (F ++ nibs x k)) ∧ Below w.heap.size w wr)
                  case atStart => exact ⟨0, rfl, rfl, by omega, ho5, hbel⟩
                  case round =>
                    clear ho5 hbel
                    obtain ⟨k, hgk, rfl, hk, hown, hbel⟩ := hrel
                    have HGK := Lib.hid hgk
                    clear hgk
                    by_cases hk8 : k < 8
                    · have hnb := nib_bits x k hk8
                      have hq16 : x.toNat / 16 ^ (7 - k) % 16 < 16 := by omega
                      have hnib : nib x k = dig (x.toNat / 16 ^ (7 - k) % 16) := rfl
                      generalize x.toNat / 16 ^ (7 - k) % 16 = qn at *
                      have HNIB := Lib.hid hnib
                      clear hnib
                      have hwx0 := wd_nn x
                      have hwx1 := wd_lt x
                      have hkl : (k : Int) < 8 := by omega
                      repeat' ((fail_if_success at_builtin); (fail_if_success at_make); (first | go_values | go_skip | go_guarded | go_step | go_upon | go_back))
                      rw [dif_pos (by omega)]
                      simp only [digAt, Result.andThen]
                      repeat' ((fail_if_success at_builtin); (fail_if_success at_make); (first | go_values | go_skip | go_guarded | go_step | go_upon | go_back))
                      refine wpList_apN rfl (.tmp 58) (.tmp 66) rfl elU8 (by rfl) hown rfl rfl (by simp; rfl) (by omega) hbel.size ?_
                      intro v7 w7 ho7 hg7 _
                      have hb7 := below_own hbel hown (Nat.le_refl _) hg7
                      repeat' ((fail_if_success at_builtin); (fail_if_success at_make); (first | go_values | go_skip | go_guarded | go_step | go_upon | go_back))
                      go_roundg (8 - (k + 1))
                      case measure => have := HGK.out; omega
                      case rel =>
                        refine ⟨k + 1, rfl, by go_num, by omega, ?_, hb7⟩
                        rw [nibs_succ, ← List.append_assoc, bys_app _ [_], HNIB.out]
                        exact ho7
                    · obtain rfl : k = 8 := by omega
                      have ho6 : wr.ownsRow w.heap.size 5 1 u8 (8 * (j + 1)) (bys (F ++ hexs (wb x))) := by
                        rw [← nibs_all]; exact hown
                      clear hown
                      repeat' ((fail_if_success at_builtin); (fail_if_success at_make); (first | go_values | go_skip | go_guarded | go_step | go_upon | go_back))
                      go_roundg (8 - (j + 1))
                      case measure => have := HGJ.out; omega
                      case rel =>
                        refine ⟨j + 1, rfl, by go_num, by omega, ?_, hbel⟩
                        rw [HWX.out, hexs_app, HF.out]
                        exact ho6
                · obtain rfl : j = 8 := by omega
                  obtain ⟨A8, c8, rfl, hc8, hrd8⟩ := Rd.of_own' hown
                  rw [List.take_of_length_le (show [a0, a1, a2, a3, a4, a5, a6, a7].length ≤ 8 by rw [hHl]; omega), ← HFIN2.out] at hrd8
                  have hstr := run_str (P := Try.prog) (w := wr) (c := c8) (src := 37) (dst := 9) Try.underlying37 Try.underlying5 Try.underlying9 (shaS_len l) hrd8
                  generalize hS : shaS l = S at *
                  have HS := Lib.hid hS
                  clear hS
                  repeat' ((fail_if_success at_builtin); (fail_if_success at_make); (first | go_values | go_skip | go_guarded | go_step | go_upon | go_back))
                  go_ret
                  rw [HS.out]
                  exact ⟨rfl, hbel⟩
    · have hkz := zpad_go n k h56 hk
      have hb56 : (((n + 1 + k : Nat) : Int) % 64 != 56) = true := by rw [bne_iff_ne]; omega
      generalize hm1 : n + 1 + k = m at *
      have HM := Lib.hid hm1
      have hm2 : m ≤ n + 64 := by omega
      have HGK := Lib.hid hgk
      clear hm1 h56 hgk
      repeat' ((fail_if_success at_builtin); (fail_if_success at_make); (first | go_values | go_skip | go_guarded | go_step | go_upon | go_back))
      refine wpList_apN rfl (.tmp 20) (.tmp 21) rfl elU8 (by rfl) hown rfl rfl (by simp; rfl) (by omega) hbel.size ?_
      intro v2 w2 ho2 hg2 _
      have hb2 := below_own hbel hown (Nat.le_refl _) hg2
      repeat' ((fail_if_success at_builtin); (fail_if_success at_make); (first | go_values | go_skip | go_guarded | go_step | go_upon | go_back))
      go_roundg (zpad n - (k + 1))
      case measure => have := HGK.out; omega
      case rel =>
        refine ⟨k + 1, rfl, by omega, ?_, hb2⟩
        rw [← Nat.add_assoc, HM.out, List.replicate_succ', ← List.append_assoc, bys_app]
        exact ho2
end Go.Proofs.Ytefhbgbhknobjaa
