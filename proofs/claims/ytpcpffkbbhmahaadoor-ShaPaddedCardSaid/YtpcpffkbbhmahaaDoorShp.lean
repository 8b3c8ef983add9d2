/- The walk of ShaPadded. Condition: the slice's size. -/
import Derived.Test.YtpcpffkbbhmahaaDoorDig
import Derived.Lib.TrimByte
import Derived.Test.YtpcpffkbbhmahaaDoorShelf
namespace Go.Proofs.YtpcpffkbbhmahaaDoor
open Go.RowKit
set_option linter.unusedVariables false
set_option linter.unusedSimpArgs false
set_option maxRecDepth 100000

theorem trim_zeros (z : Nat) : Lib.trimB (List.replicate z 0) 0 = [] := by
  have h1 : Lib.trimRightB (List.replicate z (0 : UInt8)) 0 = (List.replicate z (0 : UInt8)).take 0 :=
    Lib.trimRightB_take _ _ 0 (Nat.zero_le _) (fun j b _ hb => by
      have := List.getElem?_eq_some_iff.1 hb
      obtain ⟨h, e⟩ := this
      rw [← e]; simp) (fun b h => absurd h (by omega))
  have h2 : Lib.trimLeftB ([] : List UInt8) 0 = ([] : List UInt8).drop 0 := Lib.trimLeftB_drop _ _ 0 (Nat.zero_le _) (fun j b h => absurd h (by omega)) (fun b hb => by simp at hb)
  unfold Lib.trimB
  rw [h1, List.take_zero, h2]; rfl
/-- the number that the last bytes tell -/
def beN (l : List UInt8) : Nat := l.foldl (fun a b => 256 * a + b.toNat) 0
theorem beN_succ (l : List UInt8) (k : Nat) (h : k < l.length) : beN (l.take (k + 1)) = 256 * beN (l.take k) + l[k].toNat := by
  unfold beN
  rw [List.take_succ_eq_append_getElem h, List.foldl_append]; rfl
theorem beN_be64 (n : Nat) (h : n < 65536) : beN (be64 n) = n := by
  have e : ∀ i, 2 ≤ i → n / 256 ^ i = 0 := fun i hi => Nat.div_eq_of_lt (Nat.lt_of_lt_of_le h (by
    have : 256 ^ 2 ≤ 256 ^ i := Nat.pow_le_pow_right (by omega) hi
    omega))
  unfold beN be64
  simp only [List.map_cons, List.map_nil, List.foldl_cons, List.foldl_nil, e 7 (by omega), e 6 (by omega), e 5 (by omega), e 4 (by omega), e 3 (by omega), e 2 (by omega)]
  simp only [Nat.pow_zero, Nat.pow_one, Nat.div_one, UInt8.toNat_ofNat']
  omega
theorem beN_le (l : List UInt8) : ∀ k, k ≤ 8 → l.length = 8 → beN (l.take k) < 256 ^ k
  | 0, _, _ => by simp [beN]
  | k + 1, hk, hl => by
    have := beN_le l k (by omega) hl
    rw [beN_succ l k (by omega), Nat.pow_succ]
    have h2 := l[k].toNat_lt
    omega
theorem beN_small (n k : Nat) (h : n < 65536) (hk : k ≤ 8) : beN ((be64 n).take k) < 65536 := by
  have h0 : ∀ i, 2 ≤ i → n / 256 ^ i = 0 := fun i hi => Nat.div_eq_of_lt (Nat.lt_of_lt_of_le h (by
    have : 256 ^ 2 ≤ 256 ^ i := Nat.pow_le_pow_right (by omega) hi
    omega))
  rcases Nat.lt_or_ge k 8 with h8 | h8
  · have hz : ∀ j, j ≤ 6 → beN ((be64 n).take j) = 0 := fun j hj => by
      have : j = 0 ∨ j = 1 ∨ j = 2 ∨ j = 3 ∨ j = 4 ∨ j = 5 ∨ j = 6 := by omega
      rcases this with rfl | rfl | rfl | rfl | rfl | rfl | rfl <;> simp [beN, be64, h0 7 (by omega), h0 6 (by omega), h0 5 (by omega), h0 4 (by omega), h0 3 (by omega), h0 2 (by omega)]
    by_cases h7 : k ≤ 6
    · rw [hz k h7]; omega
    · obtain rfl : k = 7 := by omega
      have hl : (be64 n).length = 8 := rfl
      rw [beN_succ (be64 n) 6 (by omega), hz 6 (by omega)]
      have := (be64 n)[6].toNat_lt
      omega
  · obtain rfl : k = 8 := by omega
    rw [List.take_of_length_le (by simp [be64]), beN_be64 n h]; exact h
set_option maxHeartbeats 8000000 in
theorem ShaPadded_walk (A : Option Addr) (n c : Nat) (l : List UInt8) (w : World) (hl : l.length = n) (hc : n ≤ c) (hm : c ≤ 140737488351232) (hr : Rd w 1 A n (bys l)) :
    Calls Tryd.prog 3 #[.slice A n c] w fun e w' => e = .returned (.bool true) ∧ Below w.heap.size w w' := by
  obtain ⟨n', hn'⟩ : ∃ n', n' = min n 1500 := ⟨_, rfl⟩
  obtain ⟨zs, hzs⟩ : ∃ zs, zs = l.take n' := ⟨_, rfl⟩
  have hzl : zs.length = n' := by rw [hzs, List.length_take]; omega
  have hr' := hr.pre (k := n') (by omega)
  rw [Nat.mul_one, bys_take, ← hzs] at hr'
  have h30 : n' ≤ 1500 := by omega
  have hnn : n' ≤ n := by omega
  have hmin2 : min (n : Int) 1500 = n' := by omega
  clear hzs hr hl hn'
  have hpl := shaPad_len zs
  have HPAD := Lib.hid (Pad_ok A n' c zs w hzl (by omega) (by omega) hr')
  obtain ⟨z, hz⟩ : ∃ z, z = zpad zs.length := ⟨_, rfl⟩
  have hP : shaPad zs = zs ++ [128] ++ List.replicate z 0 ++ be64 (8 * n') := by rw [hz, ← hzl]; rfl
  have hb8 : (be64 (8 * n')).length = 8 := rfl
  have HPP := Lib.hid hP
  obtain ⟨L, hL⟩ : ∃ L, L = (shaPad zs).length := ⟨_, rfl⟩
  have hLl : L = n' + 1 + z + 8 := by rw [hL, hP]; simp only [List.length_append, List.length_cons, List.length_nil, List.length_replicate, hzl, hb8]
  have hL64 : L % 64 = 0 := by rw [hL]; exact hpl.1
  have hL9 : n' + 9 ≤ L := by omega
  have hL72 : L ≤ n' + 72 := by omega
  have hT1 : (shaPad zs).take n' = zs := by rw [hP, List.append_assoc, List.append_assoc, List.take_append_of_le_length (by omega), List.take_of_length_le (by omega)]
  have hT2 : (shaPad zs)[n']? = some 128 := by rw [hP, List.append_assoc, List.append_assoc, List.getElem?_append_right (by omega), hzl, Nat.sub_self]; rfl
  have hT3 : (shaPad zs).drop (L - 8) = be64 (8 * n') := by
    have e : L - 8 - (zs ++ [(128 : UInt8)] ++ List.replicate z (0 : UInt8)).length = 0 := by
      simp only [List.length_append, List.length_cons, List.length_nil, List.length_replicate]; omega
    rw [hP, List.drop_append, List.drop_eq_nil_of_le (by simp; omega), List.nil_append, e]; rfl
  have hT4 : ((shaPad zs).take (L - 8)).drop (n' + 1) = List.replicate z 0 := by
    rw [hP, List.take_append_of_le_length (by simp; omega), List.take_of_length_le (by simp; omega), List.drop_append_of_le_length (by simp; omega)]
    simp [hzl]
  rw [← hL] at HPAD
  generalize shaPad zs = P at *
  have HT1 := Lib.hid hT1
  have HT2 := Lib.hid hT2
  have HT3 := Lib.hid hT3
  have HT4 := Lib.hid hT4
  have HLL := Lib.hid hL
  have HL64 := Lib.hid hL64
  have HLZ := Lib.hid hLl
  have HZL := Lib.hid hzl
  clear hT1 hT2 hT3 hT4 hL hP HPP hz hpl hb8 hL64 hLl
  go_enter Tryd.func3, Tryd.ntmps3
  repeat' ((fail_if_success at_builtin); (fail_if_success at_make); (first | go_values | go_skip | go_guarded | go_step | go_upon | go_back))
  refine ((HPAD.out)).mono ?_; rintro e_ w1 ⟨A1, c1, rfl, ho1, hb1⟩; dsimp only
  have hr1 := ho1.rd
  have hcap1 := ho1.cap
  have hc1m : c1 ≤ maxLen := by
    rcases ho1.own.2 with ⟨h1, h2⟩ | ⟨_, cap, _, h1, _, _, _, h2, _⟩
    · injection h1 with _ _ h3; subst h3; exact Nat.zero_le _
    · injection h1 with _ _ h3; subst h3; exact h2
  rw [← HLL.out] at hr1 hcap1
  have hr0 := hr'.below hb1
  obtain ⟨b1, o1, hA1, hbb, hcell⟩ := hr1.2 (by omega)
  subst hA1
  have hr2 := hr1.pre (k := n') (by omega)
  rw [Nat.mul_one, bys_take, HT1.out] at hr2
  have q1 := fun m => run_str (P := Tryd.prog) (w := w1.drewN m) (c := c) (src := 22) (dst := 9) Tryd.underlying22 Tryd.underlying5 Tryd.underlying9 HZL.out hr0
  have q2 := fun m => run_str (P := Tryd.prog) (w := w1.drewN m) (c := c1) (src := 22) (dst := 9) Tryd.underlying22 Tryd.underlying5 Tryd.underlying9 HZL.out hr2
  have e128 : w1.cell? ⟨b1, o1 + n', none⟩ = some (.int .u8 128) := by
    have hlt : n' < P.length := by have := HLL.out; omega
    have h2 := HT2.out
    rw [List.getElem?_eq_getElem hlt] at h2
    have h3 := hcell n' _ (bys_at P n' hlt)
    rw [Option.some.inj h2] at h3
    exact h3
  have hm2 : (L : Int) % 64 = 0 := by have := HL64.out; omega
  have hm1 : Int.tmod (L : Int) 64 = 0 := by rw [Int.tmod_eq_emod_of_nonneg (by omega)]; exact hm2
  have hw9 : IntKind.i64.wrap ((n' : Int) + 9) = (n' : Int) + 9 := IntWalk.i64_in _ (by omega)
  have hw73 : IntKind.i64.wrap ((n' : Int) + 9 + 64) = (n' : Int) + 9 + 64 := IntWalk.i64_in _ (by omega)
  have d1 : decide ((L : Int) < (n' : Int) + 9) = false := decide_eq_false (by omega)
  have d2 : decide ((n' : Int) + 9 + 64 ≤ (L : Int)) = false := decide_eq_false (by omega)
  have d3 : decide ((L : Int) ≥ (n' : Int) + 9 + 64) = false := decide_eq_false (by omega)
  have i0 : (0 : Int) ≤ (n' : Int) := by omega
  have i1 : (n' : Int) < (L : Int) := by omega
  have i2 : (n' : Int) ≤ (c1 : Int) := by omega
  have i3 : (c1 : Int) ≤ 9223372036854775807 := by unfold maxLen at hc1m; omega
  obtain ⟨L8, hL8⟩ : ∃ L8, L8 = L - 8 := ⟨_, rfl⟩
  have hL8' : L = L8 + 8 := by omega
  have hw8 : IntKind.i64.wrap ((L : Int) - 8) = (L8 : Int) := by rw [IntWalk.i64_in _ (by omega)]; omega
  have HC1 := Lib.hid (And.intro hr1 hcap1)
  have HB1 := Lib.hid hb1
  have HL8 := Lib.hid hL8
  have j0 : (0 : Int) ≤ (L8 : Int) := by omega
  have j1 : (L8 : Int) ≤ (L : Int) := by omega
  have j2 : (L8 : Int) ≤ (c1 : Int) := by omega
  generalize (⟨zs.toArray⟩ : ByteArray) = ZS at *
  clear ho1 hr1 hr2 hr0 hb1 hcell hr' hcap1 hL8 hL8'
  repeat' ((fail_if_success at_builtin); (fail_if_success at_make); (first | go_values | go_skip | go_guarded | go_step | go_upon | go_back))
  go_quiet (fail)
  have HC2 := Lib.hid (And.intro (show Rd (w1.drewN nq) 1 _ _ _ from HC1.out.1) HC1.out.2)
  have HB2 := Lib.hid (bdrewN HB1.out nq)
  generalize w1.drewN nq = w2 at *
  clear q1 q2 e128 HC1 HB1 hbb HPAD HT1 HT2
  have hne8 : ¬ c1 = L8 := by have := HC2.out.2; have := HL8.out; omega
  have h88 : (L : Int) - (L8 : Int) = 8 := by have := HL8.out; omega
  have R8 := HC2.out.1.cutAt (k := L8) (by omega) HC2.out.2
  rw [if_neg hne8, bys_drop, show P.drop L8 = be64 (8 * n') from by rw [HL8.out]; exact HT3.out, show L - L8 = 8 from by have := HL8.out; omega] at R8
  have HR8 := Lib.hid R8
  clear R8
  repeat' ((fail_if_success (with_reducible refine at_reg_ 7 ?_)); (fail_if_success (with_reducible refine at_sreg_ 7 ?_)); (fail_if_success (with_reducible refine at_ssreg_ 7 ?_)); (fail_if_success at_builtin); (fail_if_success at_make); (first | go_values | go_skip | go_guarded | go_step | go_upon | go_back))
  go_loopw [5, 67] (fun x i wr => ∃ k : Nat, i = .int .i64 k ∧ k ≤ 8 ∧ x = .int .i64 (beN ((be64 (8 * n')).take k) : Nat) ∧ Below w2.heap.size w2 wr) (fun _ i _ => 8 - (intOf i).toNat)
  case atStart => exact ⟨0, rfl, by omega, rfl, Below.refl _ _⟩
  case round =>
    obtain ⟨k, rfl, hk, rfl, hbel⟩ := hrel
    by_cases hlt : k < 8
    · obtain ⟨b, off, u, hA, _, hu, hcell⟩ := (HR8.out.below hbel).at_ hlt
      cases hA
      have hbl : (be64 (8 * n')).length = 8 := rfl
      rw [bys_at _ k (by omega)] at hu
      cases hu
      have hs := beN_succ (be64 (8 * n')) k (by omega)
      have hsm := beN_small (8 * n') k (by omega) (by omega)
      have hx8 := (be64 (8 * n'))[k].toNat_lt
      generalize (be64 (8 * n'))[k].toNat = x at *
      generalize hyy : beN ((be64 (8 * n')).take (k + 1)) = y at *
      have HY := Lib.hid hyy
      clear hyy
      generalize beN ((be64 (8 * n')).take k) = z at *
      have hk0 : (0 : Int) ≤ (k : Int) := by omega
      have hk1 : (k : Int) < 8 := by omega
      have hk2 : decide ((k : Int) < 8) = true := by simpa using hk1
      have hw1 : IntKind.i64.wrap (256 * (z : Int)) = 256 * (z : Int) := IntWalk.i64_in _ (by omega)
      have hw2 : IntKind.i64.wrap (x : Int) = (x : Int) := IntWalk.i64_in _ (by omega)
      have hw3 : IntKind.i64.wrap (256 * (z : Int) + (x : Int)) = (y : Int) := by rw [IntWalk.i64_in _ (by omega)]; omega
      clear hs
      repeat' ((fail_if_success at_builtin); (fail_if_success at_make); (first | go_values | go_skip | go_guarded | go_step | go_upon | go_back))
      go_roundw
      case rel => exact ⟨k + 1, by go_num, by omega, by rw [HY.out], hbel⟩
      case measure => simp [intOf]; omega
    · obtain rfl : k = 8 := by omega
      have hfin : (be64 (8 * n')).take 8 = be64 (8 * n') := rfl
      rw [hfin, beN_be64 _ (by omega)]
      obtain ⟨M, hM⟩ : ∃ M, M = n' + 1 := ⟨_, rfl⟩
      have RT := (HC2.out.1.pre (k := L8) (by omega)).cutAt (k := M) (c := c1) (by have := HL8.out; omega) (by have := HC2.out.2; omega)
      have hneM : ¬ c1 = M := by have := HC2.out.2; omega
      rw [if_neg hneM, Nat.mul_one, bys_take, bys_drop, show (P.take L8).drop M = List.replicate z 0 from by rw [HL8.out, hM]; exact HT4.out] at RT
      have HRT := Lib.hid (RT.below hbel)
      have hw1 : IntKind.i64.wrap ((n' : Int) + 1) = (M : Int) := by rw [IntWalk.i64_in _ (by omega)]; omega
      have hw2 : IntKind.i64.wrap (8 * (n' : Int)) = 8 * (n' : Int) := IntWalk.i64_in _ (by omega)
      have hc8 : ((8 * n' : Nat) : Int) = 8 * (n' : Int) := by omega
      rw [hc8]
      have k0 : (0 : Int) ≤ (M : Int) := by omega
      have k1 : (M : Int) ≤ (L8 : Int) := by have := HL8.out; omega
      have k2 : (L8 : Int) - (M : Int) = (z : Int) := by have := HLZ.out; have := HL8.out; omega
      have q3 := fun w => run_str (P := Tryd.prog) (w := w) (A := some ⟨b1, o1 + M, none⟩) (c := c1 - M) (src := 22) (dst := 9) Tryd.underlying22 Tryd.underlying5 Tryd.underlying9 (show (List.replicate z (0 : UInt8)).length = L8 - M from by rw [List.length_replicate]; have := HLZ.out; have := HL8.out; omega)
      have q4 := q3 wr HRT.out
      clear q3 RT hM
      generalize hTS : (⟨(List.replicate z (0 : UInt8)).toArray⟩ : ByteArray) = TS at *
      have HTS := Lib.hid hTS
      clear hTS
      repeat' ((fail_if_success at_builtin); (fail_if_success at_make); (first | go_values | go_skip | go_guarded | go_step | go_upon | go_back))
      have hsz : TS.size ≤ 9223372036854775807 := by
        rw [← HTS.out]
        show (List.replicate z (0 : UInt8)).toArray.size ≤ _
        rw [List.size_toArray, List.length_replicate]; have := HLZ.out; omega
      have htl : (Lib.trimB TS.data.toList 0).toArray = #[] := by
        rw [← HTS.out]
        show (Lib.trimB (List.replicate z (0 : UInt8)) 0).toArray = #[]
        rw [trim_zeros]
      have hT := Tryd.strings_Trim_one TS 0 (by decide) wr hsz
      rw [htl] at hT
      refine ((hT)).mono ?_; rintro e_ w4 ⟨rfl, hw4⟩; dsimp only
      have hb4 : Below w2.heap.size w2 w4 := by
        rcases hw4 with rfl | rfl
        · exact hbel
        · exact hbel.drew
      have hb5 : Below w.heap.size w w4 := HB2.out.trans (hb4.mono HB2.out.size)
      clear hw4
      repeat' ((fail_if_success at_builtin); (fail_if_success at_make); (first | go_values | go_skip | go_guarded | go_step | go_upon | go_back))
      go_ret
      exact ⟨rfl, hb5⟩
end Go.Proofs.YtpcpffkbbhmahaaDoor
