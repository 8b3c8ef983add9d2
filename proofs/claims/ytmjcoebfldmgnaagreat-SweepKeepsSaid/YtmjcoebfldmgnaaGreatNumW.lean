/- Numbers as bytes, plain. No condition. wire.Number gives a number's bytes. Condition: the number fits. word.Bytes, word.Words, slices.Equal over words; the walk of WordBack. Conditions: the slices' sizes. word.rotated and word.Mix. Conditions: the numbers fit. strings.Builder: copyCheck and WriteByte at a builder of the call's own; hex.Text. Conditions: the sizes. hex.Bytes. Condition: none (a string of any size). -/
import Derived.Test.YtmjcoebfldmgnaaGreatMem
import Derived.Test.YtmjcoebfldmgnaaGreatProg
import Derived.Deep.RegionHeld3
import Derived.Laws.Pointers
import Derived.StillTactics
import Derived.Test.YtmjcoebfldmgnaaGreatShelf
import Derived.Lib.Builder
import Derived.Lib.UnsafeStr
import Derived.Laws.Externs
/-! Numbers as bytes, plain. No condition -/
namespace Go.Proofs.YtmjcoebfldmgnaaGreat

/-- the bytes of a number (seven bits each, the least first) -/
def num (n : Nat) : List UInt8 := if n < 128 then [UInt8.ofNat n] else UInt8.ofNat (n % 128 + 128) :: num (n / 128)
theorem num_small {n : Nat} (h : n < 128) : num n = [UInt8.ofNat n] := by rw [num, if_pos h]
theorem num_big {n : Nat} (h : ¬ n < 128) : num n = UInt8.ofNat (n % 128 + 128) :: num (n / 128) := by rw [num, if_neg h]
theorem num_len (n : Nat) : ∀ k, n < 128 ^ (k + 1) → 1 ≤ (num n).length ∧ (num n).length ≤ k + 1 := by
  intro k
  induction k generalizing n with
  | zero => intro h; rw [num_small (by simpa using h)]; simp
  | succ k ih =>
    intro h
    by_cases hn : n < 128
    · rw [num_small hn]; simp
    · rw [num_big hn]
      have := ih (n / 128) (by rw [Nat.div_lt_iff_lt_mul (by omega)]; simpa [Nat.pow_succ] using h)
      simp only [List.length_cons]; omega
end Go.Proofs.YtmjcoebfldmgnaaGreat
/-! wire.Number gives a number's bytes. Condition: the number fits -/
namespace Go.Proofs.YtmjcoebfldmgnaaGreat
open Go.RowKit
theorem elU8 : El Tryz.prog 49 5 1 1 := El.mk' (z := .int .u8 0) Tryz.underlying49 (by kernel_rfl) rfl (by omega) (by omega)

theorem or128 (m : Nat) (h : m < 128) : bits .or .u8 (m : Int) 128 = ((m + 128 : Nat) : Int) := by
  have : ∀ m : Nat, m < 128 → bits .or .u8 (m : Int) 128 = ((m + 128 : Nat) : Int) := by decide +kernel
  exact this m h

end Go.Proofs.YtmjcoebfldmgnaaGreat
/-! word.Bytes, word.Words, slices.Equal over words; the walk of WordBack. Conditions: the slices' sizes -/
namespace Go.Proofs.YtmjcoebfldmgnaaGreat
open Go.RowKit
set_option linter.unusedVariables false
set_option linter.unusedSimpArgs false
set_option maxRecDepth 20000
theorem elU32 : El Tryz.prog 130 128 1 4 := El.mk' (z := .int .u32 0) Tryz.underlying130 (by kernel_rfl) rfl (by omega) (by omega)
def wds (l : List (BitVec 32)) : List Value := l.map fun b => .int .u32 (wd b)
theorem wds_at (l : List (BitVec 32)) (k : Nat) (h : k < l.length) : (wds l)[k]? = some (.int .u32 (wd l[k])) := by simp [wds, h]
theorem wds_one (l : List (BitVec 32)) : ∀ u ∈ wds l, u.oneCell' = true := by
  intro u hu; simp only [wds, List.mem_map] at hu; obtain ⟨_, _, rfl⟩ := hu; rfl
/-- four bytes of a word, the highest first -/
def wb (x : BitVec 32) : List UInt8 := [UInt8.ofNat (x.toNat / 16777216), UInt8.ofNat (x.toNat / 65536), UInt8.ofNat (x.toNat / 256), UInt8.ofNat x.toNat]
def wbs (l : List (BitVec 32)) : List UInt8 := l.flatMap wb
theorem wbs_len (l : List (BitVec 32)) : (wbs l).length = 4 * l.length := by
  induction l with
  | nil => rfl
  | cons x l ih => simp only [wbs, List.flatMap_cons, List.length_append, List.length_cons] at *; rw [ih]; simp [wb]; omega
theorem wbs_snoc (l : List (BitVec 32)) (k : Nat) (h : k < l.length) : wbs (l.take (k + 1)) = wbs (l.take k) ++ wb l[k] := by
  unfold wbs; rw [List.take_succ_eq_append_getElem h, List.flatMap_append, List.flatMap_cons, List.flatMap_nil, List.append_nil]

theorem wBytes_ok (A : Option Addr) (n c : Nat) (l : List (BitVec 32)) (w : World) (hl : l.length = n) (hn : n ≤ 2000) (hc : n ≤ c) (hr : Rd w 1 A n (wds l)) :
    Calls Tryz.prog 165 #[.slice A n c] w fun e w' => ∃ A' c', e = .returned (.tuple #[.slice A' (wbs l).length c', .int .i64 0]) ∧ OwnB 5 w.heap.size w' A' c' (wbs l) ∧ Below w.heap.size w w' := by
  go_enter Tryz.func165, Tryz.ntmps165
  repeat' ((fail_if_success at_builtin); (fail_if_success at_make); (first | go_values | go_skip | go_guarded | go_step | go_upon | go_back))
  refine wpList_mk rfl _ _ rfl elU8 (4 * n) rfl rfl (by omega) (by omega) ?_
  intro w1 g1 hown1 hb1
  repeat' ((fail_if_success at_builtin); (fail_if_success at_make); (first | go_values | go_skip | go_guarded | go_step | go_upon | go_back))
  go_loopw [4, 16] (fun v i wr => ∃ k : Nat, i = .int .i64 k ∧ k ≤ n ∧ wr.ownsRow w.heap.size 5 1 v (wbs (l.take k)).length (bys (wbs (l.take k))) ∧ Below w.heap.size w wr) (fun _ i _ => n - (intOf i).toNat)
  case atStart => exact ⟨0, rfl, by omega, hown1, hb1⟩
  case round =>
    obtain ⟨k, rfl, hk, hown, hbel⟩ := hrel
    have hle := wbs_len (l.take k)
    rw [List.length_take] at hle
    by_cases hlt : k < n
    · obtain ⟨b, off, u, rfl, _, hu, hcell⟩ := (hr.below hbel).at_ hlt
      rw [wds_at l k (by omega)] at hu
      cases hu
      have HS := Lib.hid (wbs_snoc l k (by omega))
      have hwn := wd_nn l[k]
      have hwl := wd_lt l[k]
      generalize hx : l[k] = x at *
      have HX := Lib.hid hx; clear hx
      repeat' ((fail_if_success at_builtin); (fail_if_success at_make); (first | go_values | go_skip | go_guarded | go_step | go_upon | go_back))
      refine wpList_apN rfl (.tmp 20) (.tmp 32) rfl elU8 (by rfl) hown rfl rfl (by simp; exact ⟨rfl, rfl, rfl, rfl⟩) (by omega) hbel.size ?_
      intro v2 w2 hown2 hg2 _
      have hb2 := below_own hbel hown (Nat.le_refl _) hg2
      have hx := x.isLt
      have e1 : bys (wb x) = [.int .u8 (wd x / (16777216 : Int)), .int .u8 (wd x / (65536 : Int) % (256 : Int)), .int .u8 (wd x / (256 : Int) % (256 : Int)), .int .u8 (wd x % (256 : Int))] := by
        simp only [bys, wb, wd, List.map_cons, List.map_nil, UInt8.toNat_ofNat']
        rw [show x.toNat / 16777216 % 2 ^ 8 = x.toNat / 16777216 by omega]; rfl
      repeat' ((fail_if_success at_builtin); (fail_if_success at_make); (first | go_values | go_skip | go_guarded | go_step | go_upon | go_back))
      rw [← e1] at hown2
      go_roundw
      case rel => exact ⟨k + 1, by go_num, by omega, by rw [HS.out, bys_app, List.length_append]; exact hown2, hb2⟩
      case measure => simp [intOf]; omega
    · obtain rfl : k = n := by omega
      rw [List.take_of_length_le (by omega)] at hown
      obtain ⟨A1, c1, rfl, hc1, _⟩ := Rd.of_own' hown
      repeat' ((fail_if_success at_builtin); (fail_if_success at_make); (first | go_values | go_skip | go_guarded | go_step | go_upon | go_back))
      go_ret2
      exact ⟨A1, c1, rfl, ⟨hown, hc1⟩, hbel⟩

/-- words of bytes -/
def wOf (a b c d : UInt8) : BitVec 32 := BitVec.ofNat 32 (a.toNat * 16777216 + b.toNat * 65536 + c.toNat * 256 + d.toNat)
def wsOf : List UInt8 → List (BitVec 32)
  | a :: b :: c :: d :: r => wOf a b c d :: wsOf r
  | _ => []
theorem wsOf_len : ∀ (k : Nat) (l : List UInt8), l.length = 4 * k → (wsOf l).length = k
  | 0, l, h => by obtain rfl : l = [] := List.eq_nil_of_length_eq_zero (by omega); rfl
  | k + 1, a :: b :: c :: d :: r, h => by simp only [wsOf, List.length_cons] at *; rw [wsOf_len k r (by omega)]
  | k + 1, [], h => by simp at h
  | k + 1, [_], h => by simp at h; omega
  | k + 1, [_, _], h => by simp at h; omega
  | k + 1, [_, _, _], h => by simp at h; omega
theorem wsOf_snoc : ∀ (k : Nat) (l : List UInt8) (h : 4 * k + 3 < l.length), wsOf (l.take (4 * (k + 1))) = wsOf (l.take (4 * k)) ++ [wOf l[4 * k] l[4 * k + 1] l[4 * k + 2] l[4 * k + 3]]
  | 0, a :: b :: c :: d :: r, h => by simp [wsOf]
  | k + 1, a :: b :: c :: d :: r, h => by
    have h' : 4 * k + 3 < r.length := by simp at h; omega
    have e1 : (a :: b :: c :: d :: r).take (4 * (k + 1 + 1)) = a :: b :: c :: d :: r.take (4 * (k + 1)) := rfl
    have e2 : (a :: b :: c :: d :: r).take (4 * (k + 1)) = a :: b :: c :: d :: r.take (4 * k) := rfl
    rw [e1, e2, wsOf, wsOf, wsOf_snoc k r h']
    rfl
  | 0, [], h => by simp at h
  | 0, [_], h => by simp at h
  | 0, [_, _], h => by simp at h
  | 0, [_, _, _], h => by simp at h
  | k + 1, [], h => by simp at h
  | k + 1, [_], h => by simp at h
  | k + 1, [_, _], h => by simp at h; omega
  | k + 1, [_, _, _], h => by simp at h; omega

theorem wraps_u32 (n : Int) (h0 : 0 ≤ n) (h1 : n < 2 ^ 32) : IntKind.u32.wrap n = n := by
  rw [IntKind.wrap_u32]; simp at h1; omega
theorem wOf_bits (a b c d : UInt8) : bits BinOp.or IntKind.u32 (bits BinOp.or IntKind.u32 (bits BinOp.or IntKind.u32 (IntKind.u32.wrap (IntKind.u32.wrap (a.toNat : Int) * 16777216)) (IntKind.u32.wrap (IntKind.u32.wrap (b.toNat : Int) * 65536)))
    (IntKind.u32.wrap (IntKind.u32.wrap (c.toNat : Int) * 256))) (IntKind.u32.wrap (d.toNat : Int)) = wd (wOf a b c d) := by
  have ha := a.toNat_lt
  have hb := b.toNat_lt
  have hc := c.toNat_lt
  have hd := d.toNat_lt
  have hw : wd (wOf a b c d) = ((a.toNat * 16777216 + b.toNat * 65536 + c.toNat * 256 + d.toNat : Nat) : Int) := by
    simp only [wd, wOf, BitVec.toNat_ofNat]; omega
  rw [hw]
  clear hw
  generalize a.toNat = a at *
  generalize b.toNat = b at *
  generalize c.toNat = c at *
  generalize d.toNat = d at *
  have e1 : ∀ x : Nat, x < 256 → IntKind.u32.wrap (x : Int) = x := fun x h => by rw [IntKind.wrap_u32]; omega
  rw [e1 a ha, e1 b hb, e1 c hc, e1 d hd]
  have e2 : ∀ x y : Int, 0 ≤ x → x < 256 → 0 ≤ y → y ≤ 16777216 → IntKind.u32.wrap (x * y) = x * y := fun x y h1 h2 h3 h4 => by
    rw [IntKind.wrap_u32]
    have := Int.mul_nonneg h1 h3
    have h5 : x * y ≤ 255 * 16777216 := Int.mul_le_mul (by omega) h4 h3 (by omega)
    omega
  rw [e2 a 16777216 (by omega) (by omega) (by omega) (by omega), e2 b 65536 (by omega) (by omega) (by omega) (by omega), e2 c 256 (by omega) (by omega) (by omega) (by omega)]
  rw [bits_join .u32 32 (by decide) wraps_u32 24 ((a : Int) * 16777216) ((b : Int) * 65536) (by omega) (by omega) (by omega) (by omega) (by omega) (by omega)]
  rw [bits_join .u32 32 (by decide) wraps_u32 16 ((a : Int) * 16777216 + (b : Int) * 65536) ((c : Int) * 256) (by omega) (by omega) (by omega) (by omega) (by omega) (by omega)]
  rw [bits_join .u32 32 (by decide) wraps_u32 8 ((a : Int) * 16777216 + (b : Int) * 65536 + (c : Int) * 256) (d : Int) (by omega) (by omega) (by omega) (by omega) (by omega) (by omega)]
  omega

theorem Words_ok (A : Option Addr) (n c : Nat) (l : List UInt8) (w : World) (hl : l.length = n) (hn : n ≤ 2072) (h4 : n % 4 = 0) (hc : n ≤ c) (hr : Rd w 1 A n (bys l)) :
    Calls Tryz.prog 162 #[.slice A n c] w fun e w' => ∃ v, e = .returned (.tuple #[v, .int .i64 0]) ∧ w'.ownsRow w.heap.size 128 1 v (n / 4) (wds (wsOf l)) ∧ Below w.heap.size w w' := by
  have h4b : ((n : Int) % 4 != 0) = false := by rw [bne_eq_false_iff_eq]; omega
  obtain ⟨q, hq⟩ : ∃ q, n = 4 * q := ⟨n / 4, by omega⟩
  have HQ := Lib.hid hq
  have hq1 : q * 4 ≤ n := by omega
  have hq2 : n ≤ q * 4 := by omega
  clear hq h4
  go_enter Tryz.func162, Tryz.ntmps162
  repeat' ((fail_if_success at_builtin); (fail_if_success at_make); (first | go_values | go_skip | go_guarded | go_step | go_upon | go_back))
  refine wpList_mk rfl _ _ rfl elU32 q rfl rfl (by omega) (by omega) ?_
  intro w1 g1 hown1 hb1
  repeat' ((fail_if_success at_builtin); (fail_if_success at_make); (first | go_values | go_skip | go_guarded | go_step | go_upon | go_back))
  go_loopw [4, 5] (fun v i wr => ∃ k : Nat, i = .int .i64 ((4 * k : Nat) : Int) ∧ k ≤ q ∧ wr.ownsRow w.heap.size 128 1 v k (wds (wsOf (l.take (4 * k)))) ∧ Below w.heap.size w wr) (fun _ i _ => n - (intOf i).toNat)
  case atStart => exact ⟨0, rfl, by omega, hown1, hb1⟩
  case round =>
    obtain ⟨k, rfl, hk, hown, hbel⟩ := hrel
    by_cases hlt : k < q
    · have hsz := hbel.size
      obtain ⟨b, off, rfl, hbw, hcell0⟩ := hr.2 (by omega)
      have hcell := fun j u h => (hbel.cell (p := ⟨b, off + j, none⟩) hbw).trans (hcell0 j u h)
      clear hcell0
      have c0 := hcell (4 * k) _ (bys_at l (4 * k) (by omega))
      have c1 := hcell (4 * k + 1) _ (bys_at l (4 * k + 1) (by omega))
      have c2 := hcell (4 * k + 2) _ (bys_at l (4 * k + 2) (by omega))
      have c3 := hcell (4 * k + 3) _ (bys_at l (4 * k + 3) (by omega))
      have HS := Lib.hid (wsOf_snoc k l (by omega))
      clear hcell
      generalize l[4 * k] = b0 at *
      generalize l[4 * k + 1] = b1 at *
      generalize l[4 * k + 2] = b2 at *
      generalize l[4 * k + 3] = b3 at *
      have t0 := b0.toNat_lt
      have t1 := b1.toNat_lt
      have t2 := b2.toNat_lt
      have t3 := b3.toNat_lt
      generalize hm : 4 * k = m at *
      have HM := Lib.hid hm
      have hm1 : m + 4 ≤ n := by omega
      clear hm
      repeat' ((fail_if_success at_builtin); (fail_if_success at_make); (first | go_values | go_skip | go_guarded | go_step | go_upon | go_back))
      have hm0 : (0 : Int) ≤ (m : Int) := by omega
      have hi0 : (m : Int) < n := by omega
      have q1 : IntKind.i64.wrap ((m : Int) + 1) = (m : Int) + 1 := IntWalk.i64_in _ (by omega)
      have q2 : IntKind.i64.wrap ((m : Int) + 2) = (m : Int) + 2 := IntWalk.i64_in _ (by omega)
      have q3 : IntKind.i64.wrap ((m : Int) + 3) = (m : Int) + 3 := IntWalk.i64_in _ (by omega)
      have p1 : (0 : Int) ≤ (m : Int) + 1 := by omega
      have p2 : (0 : Int) ≤ (m : Int) + 2 := by omega
      have p3 : (0 : Int) ≤ (m : Int) + 3 := by omega
      have s1 : (m : Int) + 1 < n := by omega
      have s2 : (m : Int) + 2 < n := by omega
      have s3 : (m : Int) + 3 < n := by omega
      have u1 : ((m : Int) + 1).toNat = m + 1 := by omega
      have u2 : ((m : Int) + 2).toNat = m + 2 := by omega
      have u3 : ((m : Int) + 3).toNat = m + 3 := by omega
      go_region_held3 (fun w' => w'.cell? ⟨b, off + m, none⟩ = some (.int .u8 b0.toNat) ∧ w'.cell? ⟨b, off + (m + 1), none⟩ = some (.int .u8 b1.toNat) ∧ w'.cell? ⟨b, off + (m + 2), none⟩ = some (.int .u8 b2.toNat) ∧ w'.cell? ⟨b, off + (m + 3), none⟩ = some (.int .u8 b3.toNat))
        (first | go_keep | (go_split_ands; refine ⟨keep_cell (own_drew (hown.alloc _)) hg2 hbw (by assumption), keep_cell (own_drew (hown.alloc _)) hg2 hbw (by assumption), keep_cell (own_drew (hown.alloc _)) hg2 hbw (by assumption), keep_cell (own_drew (hown.alloc _)) hg2 hbw (by assumption)⟩))
        (first | (refine step_ap rfl (.tmp 23) (.tmp 53) rfl elU32 (by rfl) (own_drew (hown.alloc _)) (by rfl) (Rd.newN (us := [_]) (m := 1) rfl) (by simp; rfl) (by omega) (by simp; omega) ?_; intro v2 w2 hown2 hg2 _))
      rw [wOf_bits] at hown2
      have hb2 := below_own (hbel.alloc hsz (.cells #[.int .u32 (wd (wOf b0 b1 b2 b3))] 128)).drew (own_drew (hown.alloc _)) (Nat.le_refl _) (by rw [← wOf_bits]; exact hg2)
      clear hg2 q1 q2 q3 p1 p2 p3 s1 s2 s3 u1 u2 u3
      repeat' ((fail_if_success at_builtin); (fail_if_success at_make); (first | go_values | go_skip | go_guarded | go_step | go_upon | go_back))
      go_roundw
      case rel => exact ⟨k + 1, by have := HM.out; go_num, by omega, by rw [HS.out]; simpa [wds] using hown2, hb2⟩
      case measure => simp [intOf]; omega
    · obtain rfl : k = q := by omega
      rw [List.take_of_length_le (by omega)] at hown
      have hqq : n / 4 = k := by omega
      have HQQ := Lib.hid hqq; clear hqq
      generalize hm : 4 * k = m at *
      have HM := Lib.hid hm
      have hm1 : n ≤ m := by omega
      clear hm
      repeat' ((fail_if_success at_builtin); (fail_if_success at_make); (first | go_values | go_skip | go_guarded | go_step | go_upon | go_back))
      go_ret2
      exact ⟨_, rfl, by rw [HQQ.out]; exact hown, hbel⟩

theorem wOf_wb (x : BitVec 32) : wOf (UInt8.ofNat (x.toNat / 16777216)) (UInt8.ofNat (x.toNat / 65536)) (UInt8.ofNat (x.toNat / 256)) (UInt8.ofNat x.toNat) = x := by
  have hx := x.isLt
  apply BitVec.eq_of_toNat_eq
  simp only [wOf, BitVec.toNat_ofNat, UInt8.toNat_ofNat']
  omega
theorem wsOf_wbs : ∀ l : List (BitVec 32), wsOf (wbs l) = l
  | [] => rfl
  | x :: l => by
    have := wsOf_wbs l
    show wsOf (wb x ++ wbs l) = x :: l
    simp only [wb, List.cons_append, List.nil_append, wsOf, this, wOf_wb]
end Go.Proofs.YtmjcoebfldmgnaaGreat
/-! word.rotated and word.Mix. Conditions: the numbers fit -/
namespace Go.Proofs.YtmjcoebfldmgnaaGreat
open Go.RowKit

theorem rotated_ok (x : BitVec 32) (n : Nat) (w : World) (hn : n ≤ 31) : Calls Tryz.prog 194 #[.int .u32 (wd x), .int .i64 n] w fun e w' => e = .returned (.int .u32 (wd (x.rotateRight n))) ∧ ∃ k, w' = w.drewN k := by
  go_enter Tryz.func194, Tryz.ntmps194
  repeat' ((fail_if_success at_builtin); (fail_if_success at_make); (first | go_values | go_skip | go_guarded | go_step | go_upon | go_back))
  go_quiet (fail)
  repeat' ((fail_if_success at_builtin); (fail_if_success at_make); (first | go_values | go_skip | go_guarded | go_step | go_upon | go_back))
  go_ret
  refine ⟨?_, _, rfl⟩
  show Ending.returned (.int .u32 (bits BinOp.or IntKind.u32 (wd x / 2 ^ n) (wd x * 2 ^ (32 - n) % 4294967296))) = _
  rw [rot32 x n hn]

theorem rotated_at (x : BitVec 32) (n : Nat) (N : Int) (hN : N = n) (w : World) (hn : n ≤ 31) : Calls Tryz.prog 194 #[.int .u32 (wd x), .int .i64 N] w fun e w' => e = .returned (.int .u32 (wd (x.rotateRight n))) ∧ ∃ k, w' = w.drewN k := by
  subst hN; exact rotated_ok x n w hn

def mix32 (x : BitVec 32) : Nat → BitVec 32
  | 0 => x.rotateRight 2 ^^^ x.rotateRight 13 ^^^ x.rotateRight 22
  | 1 => x.rotateRight 6 ^^^ x.rotateRight 11 ^^^ x.rotateRight 25
  | 2 => x.rotateRight 7 ^^^ x.rotateRight 18 ^^^ x >>> 3
  | _ => x.rotateRight 17 ^^^ x.rotateRight 19 ^^^ x >>> 10

theorem Mix_ok (x : BitVec 32) (n : Nat) (N : Int) (hN : N = n) (w : World) (hn : n ≤ 3) : Calls Tryz.prog 185 #[.int .u32 (wd x), .int .i64 N] w fun e w' => e = .returned (.tuple #[.int .u32 (wd (mix32 x n)), .int .i64 0]) ∧ ∃ k, w' = w.drewN k := by
  match n, hn with
  | 0, _ =>
    obtain rfl : N = 0 := hN
    go_enter Tryz.func185, Tryz.ntmps185
    repeat' ((fail_if_success at_builtin); (fail_if_success at_make); (first | go_values | go_skip | go_guarded | go_step | go_upon | go_back))
    refine ((rotated_at x 2 _ rfl _ (by omega))).mono ?_; rintro e_ w_ ⟨rfl, k1, rfl⟩; dsimp only
    repeat' ((fail_if_success at_builtin); (fail_if_success at_make); (first | go_values | go_skip | go_guarded | go_step | go_upon | go_back))
    refine ((rotated_at x 13 _ rfl _ (by omega))).mono ?_; rintro e_ w_ ⟨rfl, k2, rfl⟩; dsimp only
    repeat' ((fail_if_success at_builtin); (fail_if_success at_make); (first | go_values | go_skip | go_guarded | go_step | go_upon | go_back))
    refine ((rotated_at x 22 _ rfl _ (by omega))).mono ?_; rintro e_ w_ ⟨rfl, k3, rfl⟩; dsimp only
    repeat' ((fail_if_success at_builtin); (fail_if_success at_make); (first | go_values | go_skip | go_guarded | go_step | go_upon | go_back))
    go_ret2
    refine ⟨?_, _, rfl⟩
    simp only [bits_xor32]; rfl
  | 1, _ =>
    obtain rfl : N = 1 := hN
    go_enter Tryz.func185, Tryz.ntmps185
    repeat' ((fail_if_success at_builtin); (fail_if_success at_make); (first | go_values | go_skip | go_guarded | go_step | go_upon | go_back))
    refine ((rotated_at x 6 _ rfl _ (by omega))).mono ?_; rintro e_ w_ ⟨rfl, k1, rfl⟩; dsimp only
    repeat' ((fail_if_success at_builtin); (fail_if_success at_make); (first | go_values | go_skip | go_guarded | go_step | go_upon | go_back))
    refine ((rotated_at x 11 _ rfl _ (by omega))).mono ?_; rintro e_ w_ ⟨rfl, k2, rfl⟩; dsimp only
    repeat' ((fail_if_success at_builtin); (fail_if_success at_make); (first | go_values | go_skip | go_guarded | go_step | go_upon | go_back))
    refine ((rotated_at x 25 _ rfl _ (by omega))).mono ?_; rintro e_ w_ ⟨rfl, k3, rfl⟩; dsimp only
    repeat' ((fail_if_success at_builtin); (fail_if_success at_make); (first | go_values | go_skip | go_guarded | go_step | go_upon | go_back))
    go_ret2
    refine ⟨?_, _, rfl⟩
    simp only [bits_xor32]; rfl
  | 2, _ =>
    obtain rfl : N = 2 := hN
    go_enter Tryz.func185, Tryz.ntmps185
    repeat' ((fail_if_success at_builtin); (fail_if_success at_make); (first | go_values | go_skip | go_guarded | go_step | go_upon | go_back))
    refine ((rotated_at x 7 _ rfl _ (by omega))).mono ?_; rintro e_ w_ ⟨rfl, k1, rfl⟩; dsimp only
    repeat' ((fail_if_success at_builtin); (fail_if_success at_make); (first | go_values | go_skip | go_guarded | go_step | go_upon | go_back))
    refine ((rotated_at x 18 _ rfl _ (by omega))).mono ?_; rintro e_ w_ ⟨rfl, k2, rfl⟩; dsimp only
    repeat' ((fail_if_success at_builtin); (fail_if_success at_make); (first | go_values | go_skip | go_guarded | go_step | go_upon | go_back))
    go_ret2
    refine ⟨?_, _, rfl⟩
    rw [show (wd x : Int) / (8 : Int) = wd (x >>> 3) from shr32 x 3]; simp only [bits_xor32]; rfl
  | 3, _ =>
    obtain rfl : N = 3 := hN
    go_enter Tryz.func185, Tryz.ntmps185
    repeat' ((fail_if_success at_builtin); (fail_if_success at_make); (first | go_values | go_skip | go_guarded | go_step | go_upon | go_back))
    refine ((rotated_at x 17 _ rfl _ (by omega))).mono ?_; rintro e_ w_ ⟨rfl, k1, rfl⟩; dsimp only
    repeat' ((fail_if_success at_builtin); (fail_if_success at_make); (first | go_values | go_skip | go_guarded | go_step | go_upon | go_back))
    refine ((rotated_at x 19 _ rfl _ (by omega))).mono ?_; rintro e_ w_ ⟨rfl, k2, rfl⟩; dsimp only
    repeat' ((fail_if_success at_builtin); (fail_if_success at_make); (first | go_values | go_skip | go_guarded | go_step | go_upon | go_back))
    go_ret2
    refine ⟨?_, _, rfl⟩
    rw [show (wd x : Int) / (1024 : Int) = wd (x >>> 10) from shr32 x 10]; simp only [bits_xor32]; rfl
end Go.Proofs.YtmjcoebfldmgnaaGreat
/-! strings.Builder: copyCheck and WriteByte at a builder of the call's own; hex.Text. Conditions: the sizes -/
namespace Go.Proofs.YtmjcoebfldmgnaaGreat
open Go.RowKit
set_option linter.unusedVariables false
set_option maxRecDepth 20000

theorem sizeBld : (Tryz.prog.info? 211).map (·.size) = some 2 := by kernel_rfl
theorem liesBld : liesAt Tryz.prog Tryz.prog.depth 211 (2 / Tryz.prog.cellsOf 211) 0 211 1 = true := by kernel_rfl

theorem copyCheck_used (b : Nat) (w : World) (h0 : w.cell? ⟨b, 0, none⟩ = some (.pointer (some ⟨b, 0, none⟩))) :
    Calls Tryz.prog 193 #[.pointer (some ⟨b, 0, none⟩)] w fun e w' => e = .returned (.tuple #[]) ∧ w = w' := by
  obtain ⟨j, hj, _⟩ := Option.map_eq_some_iff.1 sizeBld
  have hne := fun W => Lib.run_neq_ptr_same (P := Tryz.prog) W (tp := 209) ⟨b, 0, none⟩ Tryz.underlying209 hj
  clear hj
  go_enter Tryz.func193, Tryz.ntmps193
  go_wp2
  go_end0
  exact ⟨rfl, rfl⟩
theorem copyCheck_fresh (b : Nat) (w : World) (h0 : w.cell? ⟨b, 0, none⟩ = some (.pointer none)) (hsh : w.shape? b = some (211, 2)) (hfz : w.frozen? ⟨b, 0, none⟩ = false) :
    Calls Tryz.prog 193 #[.pointer (some ⟨b, 0, none⟩)] w fun e w' => e = .returned (.tuple #[]) ∧ w.setCell ⟨b, 0, none⟩ (.pointer (some ⟨b, 0, none⟩)) = w' := by
  obtain ⟨j, hj, hjs⟩ := Option.map_eq_some_iff.1 sizeBld
  have h1 := Lib.run_to_unsafe (P := Tryz.prog) w (src := 209) (dst := 228) ⟨b, 0, none⟩ Tryz.underlying209 Tryz.underlying228 hj (by rw [hjs]; decide) hsh (Nat.zero_lt_succ 1)
  have h2 := Lib.run_from_unsafe (P := Tryz.prog) w (src := 228) (dst := 209) ⟨b, 0, none⟩ Tryz.underlying228 Tryz.underlying209 hj hsh liesBld
  have h3 : ∀ W, (callFunc 196 #[.pointer (some ⟨b, 0, none⟩)]).run Tryz.prog W = .ok (.value (.pointer (some ⟨b, 0, none⟩))) W := fun W => by
    rw [run_callFunc_extern Tryz.func196 (by kernel_rfl) (by kernel_rfl) (by kernel_rfl) (e := Extern.AbiNoEscape.same) (by kernel_rfl), Lib.run_noEscape]
    rfl
  clear hj
  go_enter Tryz.func193, Tryz.ntmps193
  go_wp2
  go_end0
  exact ⟨rfl, rfl⟩
theorem copyCheck_ok (B b : Nat) (bs : List Value) (w : World) (h : Lib.IsBuilder 211 5 B b bs w) :
    Calls Tryz.prog 193 #[.pointer (some ⟨b, 0, none⟩)] w fun e w' => e = .returned (.tuple #[]) ∧ (Lib.BuilderAt 211 5 B b (.pointer (some ⟨b, 0, none⟩)) bs w' ∧ Below B w w') := by
  rcases h with h | h
  · refine (copyCheck_fresh b w h.cell0 h.shape h.frozen0).mono fun e w' ⟨he, hw⟩ => ⟨he, ?_⟩
    subst hw
    exact ⟨h.used _, (Below.refl _ _).setCell (p := ⟨b, 0, none⟩) h.1 _⟩
  · refine (copyCheck_used b w h.cell0).mono fun e w' ⟨he, hw⟩ => ⟨he, ?_⟩
    subst hw
    exact ⟨h, Below.refl _ _⟩

theorem WriteByte_ok (B b : Nat) (bs : List Value) (c : Int) (w : World) (h : Lib.IsBuilder 211 5 B b bs w) (hlen : bs.length + 1 ≤ 140737488355328) (hBw : B ≤ w.heap.size) :
    Calls Tryz.prog 178 #[.pointer (some ⟨b, 0, none⟩), .int .u8 c] w fun e w' => e = .returned .nilIface ∧ (Lib.BuilderAt 211 5 B b (.pointer (some ⟨b, 0, none⟩)) (bs ++ [.int .u8 c]) w' ∧ Below B w w') := by
  go_enter Tryz.func178, Tryz.ntmps178
  repeat' ((fail_if_success at_builtin); (fail_if_success at_make); (first | go_values | go_skip | go_guarded | go_step | go_upon | go_back))
  refine ((copyCheck_ok B b bs _ h)).mono ?_; rintro e_ w1 ⟨rfl, h1, hb1⟩; dsimp only
  obtain ⟨hB, v, hbk, hown, hne⟩ := h1
  have c0 : w1.cell? ⟨b, 0, none⟩ = some (.pointer (some ⟨b, 0, none⟩)) := by rw [Lib.cell_of_heap hbk]; rfl
  have c1 : w1.cell? ⟨b, 1, none⟩ = some v := by rw [Lib.cell_of_heap hbk]; rfl
  have hz := hb1.size
  repeat' ((fail_if_success at_builtin); (fail_if_success at_make); (first | go_values | go_skip | go_guarded | go_step | go_upon | go_back))
  refine wpList_apN rfl _ _ rfl elU8 (by rfl) hown rfl rfl (by simp; rfl) (by omega) (by omega) ?_
  intro v' w2 hown' hgrow _
  have hlt : b < w1.heap.size := by
    rcases Nat.lt_or_ge b w1.heap.size with h' | h'
    · exact h'
    · simp [Array.getElem?_eq_none h'] at hbk
  have hb2 : w2.heap[b]? = some (.cells #[.pointer (some ⟨b, 0, none⟩), v] 211 (0, 0)) := by
    rw [hgrow.block b hlt (fun e => hne e.symm)]
    exact hbk
  have d0 : w2.cell? ⟨b, 0, none⟩ = some (.pointer (some ⟨b, 0, none⟩)) := by rw [Lib.cell_of_heap hb2]; rfl
  have d1 : w2.cell? ⟨b, 1, none⟩ = some v := by rw [Lib.cell_of_heap hb2]; rfl
  have f1 : w2.frozen? ⟨b, 1, none⟩ = false := Lib.frozen_of_heap hb2 1
  obtain ⟨g, cap, rfl⟩ : ∃ g cap, v' = .slice (some ⟨g, 0, none⟩) (bs.length + 1) cap := by
    rcases hown'.2 with ⟨_, h0⟩ | ⟨g, cap, cur, hv, _⟩
    · omega
    · exact ⟨g, cap, hv⟩
  repeat' ((fail_if_success at_builtin); (fail_if_success at_make); (first | go_values | go_skip | go_guarded | go_step | go_upon | go_back))
  go_ret
  refine ⟨rfl, ?_, ?_⟩
  · exact Lib.BuilderAt.put (T := 211) (e := 5) hB hb2 (bs' := bs ++ [.int .u8 c]) (by simpa using hown') (by decide)
  · exact (hb1.grown hgrow (by omega) (fun k hk => (hown.lt k hk).1)).setCell (p := ⟨b, 1, none⟩) hB _

/-! ### hex.Text -/
/-- a digit -/
def dig (n : Nat) : UInt8 := if n < 10 then UInt8.ofNat (48 + n) else UInt8.ofNat (87 + n)
def hx1 (c : UInt8) : List UInt8 := [dig (c.toNat / 16), dig (c.toNat % 16)]
def hexs (l : List UInt8) : List UInt8 := l.flatMap hx1
theorem hexs_len (l : List UInt8) : (hexs l).length = 2 * l.length := by
  induction l with
  | nil => rfl
  | cons x l ih => simp only [hexs, List.flatMap_cons, List.length_append, List.length_cons] at *; rw [ih]; simp [hx1]; omega
theorem hexs_snoc (l : List UInt8) (k : Nat) (h : k < l.length) : hexs (l.take (k + 1)) = hexs (l.take k) ++ hx1 l[k] := by
  unfold hexs; rw [List.take_succ_eq_append_getElem h, List.flatMap_append, List.flatMap_cons, List.flatMap_nil, List.append_nil]

theorem digAt (m : Nat) (h : m < (⟨#[48, 49, 50, 51, 52, 53, 54, 55, 56, 57, 97, 98, 99, 100, 101, 102]⟩ : ByteArray).size) :
    ((⟨#[48, 49, 50, 51, 52, 53, 54, 55, 56, 57, 97, 98, 99, 100, 101, 102]⟩ : ByteArray)[m]'h).toNat = (dig m).toNat := by
  have key : ∀ m : Fin 16, ((⟨#[48, 49, 50, 51, 52, 53, 54, 55, 56, 57, 97, 98, 99, 100, 101, 102]⟩ : ByteArray)[m.val]'m.isLt).toNat = (dig m.val).toNat := by decide
  exact key ⟨m, h⟩

theorem Text_ok (A : Option Addr) (n c : Nat) (l : List UInt8) (w : World) (hl : l.length = n) (hn : n ≤ 70368744177664) (hc : n ≤ c) (hr : Rd w 1 A n (bys l)) :
    Calls Tryz.prog 150 #[.slice A n c] w fun e w' => e = .returned (.string ⟨(hexs l).toArray⟩) ∧ Below w.heap.size w w' := by
  go_enter Tryz.func150, Tryz.ntmps150
  repeat' ((fail_if_success at_builtin); (fail_if_success at_make); (first | go_values | go_skip | go_guarded | go_step | go_upon | go_back))
  go_loopw [5, 8] (fun u i wr => ∃ k : Nat, i = .int .i64 k ∧ k ≤ n ∧ Lib.IsBuilder 211 5 w.heap.size w.heap.size (bys (hexs (l.take k))) wr ∧ Below w.heap.size w wr) (fun _ i _ => n - (intOf i).toNat)
  case atStart => exact ⟨0, rfl, by omega, Lib.fresh_isBuilder _ _ _, (Below.refl _ _).alloc (Nat.le_refl _) _⟩
  case round =>
    obtain ⟨k, rfl, hk, hB, hbel⟩ := hrel
    have hle := hexs_len (l.take k)
    rw [List.length_take] at hle
    by_cases hlt : k < n
    · obtain ⟨b, off, u, rfl, _, hu, hcell⟩ := (hr.below hbel).at_ hlt
      rw [bys_at l k (by omega)] at hu
      cases hu
      have HS := Lib.hid (hexs_snoc l k (by omega))
      generalize l[k] = x at *
      have hx := x.toNat_lt
      repeat' ((fail_if_success at_builtin); (fail_if_success at_make); (first | go_values | go_skip | go_guarded | go_step | go_upon | go_back))
      rw [dif_pos ⟨by omega, by omega⟩]
      simp only [digAt, Result.andThen]
      repeat' ((fail_if_success at_builtin); (fail_if_success at_make); (first | go_values | go_skip | go_guarded | go_step | go_upon | go_back))
      refine ((WriteByte_ok _ _ _ _ _ hB (by rw [bys_len]; omega) hbel.size)).mono ?_; rintro e_ w1 ⟨rfl, hB1, hb1⟩; dsimp only
      have hbel1 := hbel.trans hb1
      repeat' ((fail_if_success at_builtin); (fail_if_success at_make); (first | go_values | go_skip | go_guarded | go_step | go_upon | go_back))
      rw [dif_pos ⟨by omega, by omega⟩]
      simp only [digAt, Result.andThen]
      repeat' ((fail_if_success at_builtin); (fail_if_success at_make); (first | go_values | go_skip | go_guarded | go_step | go_upon | go_back))
      refine ((WriteByte_ok _ _ _ _ _ (.inr hB1) (by simp [bys_len]; omega) hbel1.size)).mono ?_; rintro e_ w2 ⟨rfl, hB2, hb2⟩; dsimp only
      have hbel2 := hbel1.trans hb2
      repeat' ((fail_if_success at_builtin); (fail_if_success at_make); (first | go_values | go_skip | go_guarded | go_step | go_upon | go_back))
      go_roundw
      case rel => exact ⟨k + 1, by go_num, by omega, .inr (by rw [HS.out, bys_app]; simpa [hx1, bys] using hB2), hbel2⟩
      case measure => simp [intOf]; omega
    · obtain rfl : k = n := by omega
      rw [List.take_of_length_le (by omega)] at hB
      repeat' ((fail_if_success at_builtin); (fail_if_success at_make); (first | go_values | go_skip | go_guarded | go_step | go_upon | go_back))
      refine ((Tryz.Builder_String_any _ _ (hexs l) _ hB hbel.size)).mono ?_; rintro e_ w1 ⟨rfl, hb1⟩; dsimp only
      repeat' ((fail_if_success at_builtin); (fail_if_success at_make); (first | go_values | go_skip | go_guarded | go_step | go_upon | go_back))
      go_ret
      exact ⟨rfl, hbel.trans hb1⟩
end Go.Proofs.YtmjcoebfldmgnaaGreat
/-! hex.Bytes. Condition: none (a string of any size) -/
namespace Go.Proofs.YtmjcoebfldmgnaaGreat
open Go.RowKit
set_option linter.unusedVariables false
set_option maxRecDepth 20000

def digs : ByteArray := ⟨#[48, 49, 50, 51, 52, 53, 54, 55, 56, 57, 97, 98, 99, 100, 101, 102]⟩
/-- what a digit is worth; -1: it is none -/
def val (c : UInt8) : Int := Lib.indexByte [48, 49, 50, 51, 52, 53, 54, 55, 56, 57, 97, 98, 99, 100, 101, 102] c
def unhx : List UInt8 → Option (List UInt8)
  | [] => some []
  | [_] => none
  | a :: b :: r => if val a < 0 ∨ val b < 0 then none else (unhx r).map (UInt8.ofNat (16 * (val a).toNat + (val b).toNat) :: ·)
def hexB (l : List UInt8) : List UInt8 × Nat :=
  if 4000 < l.length then ([], 1) else if l.length % 2 = 1 then ([], 3) else match unhx l with | none => ([], 3) | some r => (r, 0)

theorem val_range (c : UInt8) : -1 ≤ val c ∧ val c ≤ 15 := by
  have key : ∀ n : Fin 256, -1 ≤ val (UInt8.ofNat n.val) ∧ val (UInt8.ofNat n.val) ≤ 15 := by decide +kernel
  have := key ⟨c.toNat, c.toNat_lt⟩
  rw [show UInt8.ofNat (c.toNat) = c from UInt8.ofNat_toNat] at this
  exact this

theorem IB_at (c : UInt8) (w : World) : Calls Tryz.prog 120 #[.string digs, .int .u8 (c.toNat : Int)] w fun e w' => e = .returned (.int .i64 (val c)) ∧ w' = w := by
  refine (Tryz.strings_IndexByte digs (c.toNat : Int) w).mono fun e w' ⟨he, hw⟩ => ⟨?_, hw⟩
  rw [he]
  have : ((c.toNat : Int)).toNat.toUInt8 = c := by rw [Int.toNat_natCast]; exact UInt8.ofNat_toNat
  rw [this]; rfl

theorem hBytes_ok (s : ByteArray) (w : World) (hs : s.size ≤ 140737488351232) :
    Calls Tryz.prog 142 #[.string s] w fun e w' => ∃ A c, e = .returned (.tuple #[.slice A (hexB s.data.toList).1.length c, .int .i64 (hexB s.data.toList).2]) ∧ OwnB 5 w.heap.size w' A c (hexB s.data.toList).1 ∧ Below w.heap.size w w' := by
  have hsz : s.data.toList.length = s.size := by rw [Array.length_toList]; rfl
  by_cases hbig : 4000 < s.size
  · have hfin : hexB s.data.toList = ([], 1) := by rw [hexB, if_pos (by omega)]
    have HF := Lib.hid hfin; clear hfin
    go_enter Tryz.func142, Tryz.ntmps142
    repeat' ((fail_if_success at_builtin); (fail_if_success at_make); (first | go_values | go_skip | go_guarded | go_step | go_upon | go_back))
    go_ret2
    rw [HF.out]
    exact ⟨none, 0, rfl, OwnB.nil_ _ _ _, Below.refl _ _⟩
  · by_cases hodd : s.size % 2 = 1
    · have hfin : hexB s.data.toList = ([], 3) := by rw [hexB, if_neg (by omega), if_pos (by omega)]
      have HF := Lib.hid hfin; clear hfin
      have h2 : ((s.size : Int) % 2 != 0) = true := by rw [bne_iff_ne]; omega
      clear hodd
      go_enter Tryz.func142, Tryz.ntmps142
      repeat' ((fail_if_success at_builtin); (fail_if_success at_make); (first | go_values | go_skip | go_guarded | go_step | go_upon | go_back))
      go_ret2
      rw [HF.out]
      exact ⟨none, 0, rfl, OwnB.nil_ _ _ _, Below.refl _ _⟩
    · have hfin : hexB s.data.toList = match unhx s.data.toList with | none => ([], 3) | some r => (r, 0) := by rw [hexB, if_neg (by omega), if_neg (by omega)]
      have HF := Lib.hid hfin; clear hfin
      have h2 : ((s.size : Int) % 2 != 0) = false := by rw [bne_eq_false_iff_eq]; omega
      obtain ⟨q, hq⟩ : ∃ q, s.size = 2 * q := ⟨s.size / 2, by omega⟩
      have hq1 : q * 2 ≤ s.size := by omega
      have hq2 : s.size ≤ q * 2 := by omega
      have HZ := Lib.hid hsz
      clear hodd hq hsz
      go_enter Tryz.func142, Tryz.ntmps142
      repeat' ((fail_if_success at_builtin); (fail_if_success at_make); (first | go_values | go_skip | go_guarded | go_step | go_upon | go_back))
      refine wpList_mk rfl _ _ rfl elU8 q rfl rfl (by omega) (by omega) ?_
      intro w1 g1 hown1 hb1
      repeat' ((fail_if_success at_builtin); (fail_if_success at_make); (first | go_values | go_skip | go_guarded | go_step | go_upon | go_back))
      go_loopw [4, 5, 6, 7] (fun v i x y wr => ∃ (k : Nat) (acc : List UInt8), i = .int .i64 ((2 * k : Nat) : Int) ∧ k ≤ q ∧ acc.length = k ∧ unhx s.data.toList = (unhx (s.data.toList.drop (2 * k))).map (acc ++ ·) ∧
        wr.ownsRow w.heap.size 5 1 v acc.length (bys acc) ∧ Below w.heap.size w wr) (fun _ i _ _ _ => s.size - (intOf i).toNat)
      case atStart => exact ⟨0, [], rfl, by omega, rfl, by simp, hown1, hb1⟩
      case round =>
        obtain ⟨k, acc, rfl, hk, hacc, hun, hown, hbel⟩ := hrel
        have HU := Lib.hid hun; clear hun
        have HA := Lib.hid hacc; clear hacc
        have hsw := hbel.size
        generalize hm : 2 * k = m at *
        have HM := Lib.hid hm
        by_cases hlt : k < q
        · have hm1 : m + 1 < s.size := by omega
          have hm0 : m < s.size := by omega
          have hi0 : (0 : Int) ≤ (m : Int) := by omega
          have hi1 : (m : Int) < (s.size : Int) := by omega
          have hi2 : (m : Int) + 1 < (s.size : Int) := by omega
          have hi3 : (0 : Int) ≤ (m : Int) + 1 := by omega
          have hw1 : IntKind.i64.wrap ((m : Int) + 1) = (m : Int) + 1 := IntWalk.i64_in _ (by omega)
          have hn1 : ((m : Int) + 1).toNat = m + 1 := by omega
          have hd : s.data.toList.drop m = s[m] :: s[m + 1] :: s.data.toList.drop (m + 2) := by
            have hz := HZ.out
            rw [List.drop_eq_getElem_cons (by omega), List.drop_eq_getElem_cons (i := m + 1) (by omega)]
            rfl
          have HD := Lib.hid hd
          have ra := val_range s[m]
          have rb := val_range s[m + 1]
          clear hm hd
          by_cases hbad : val s[m] < 0 ∨ val s[m + 1] < 0
          · have hfin : hexB s.data.toList = ([], 3) := by rw [HF.out, HU.out, HD.out, unhx, if_pos hbad]; rfl
            have HG := Lib.hid hfin; clear hfin
            have ha0 : val s[m] < 0 ∨ ¬ val s[m] < 0 ∧ val s[m + 1] < 0 := by omega
            clear hbad
            rcases ha0 with ha0 | ⟨ha0, ha1⟩
            all_goals
              repeat' ((fail_if_success at_builtin); (fail_if_success at_make); (first | go_values | go_skip | go_guarded | go_step | go_upon | go_back))
              go_quiet ((go_at_call 120; exact Calls.quiet_of_same (IB_at _ _)))
              repeat' ((fail_if_success at_builtin); (fail_if_success at_make); (first | go_values | go_skip | go_guarded | go_step | go_upon | go_back))
              go_ret2
              rw [HG.out]
              exact ⟨none, 0, rfl, OwnB.nil_ _ _ _, bdrewN hbel _⟩
          · have hstep : unhx s.data.toList = (unhx (s.data.toList.drop (m + 2))).map ((acc ++ [UInt8.ofNat (16 * (val s[m]).toNat + (val s[m + 1]).toNat)]) ++ ·) := by
              rw [HU.out, HD.out, unhx, if_neg hbad, Option.map_map]
              congr 1; funext x; simp
            have HG := Lib.hid hstep; clear hstep
            have hna : ¬ val s[m] < 0 := fun h => hbad (.inl h)
            have hnb : ¬ val s[m + 1] < 0 := fun h => hbad (.inr h)
            clear hbad
            have hacl := HA.out
            repeat' ((fail_if_success at_builtin); (fail_if_success at_make); (first | go_values | go_skip | go_guarded | go_step | go_upon | go_back))
            go_quiet ((go_at_call 120; exact Calls.quiet_of_same (IB_at _ _)))
            repeat' ((fail_if_success at_builtin); (fail_if_success at_make); (first | go_values | go_skip | go_guarded | go_step | go_upon | go_back))
            refine wpList_apN rfl (.tmp 40) (.tmp 46) rfl elU8 (by rfl) (own_drewN hown nq) rfl rfl (by simp; rfl) (by omega) hsw ?_
            intro v2 w2 hown2 hg2 _
            have hb2 := below_own (bdrewN hbel nq) (own_drewN hown nq) (Nat.le_refl _) hg2
            have e1 : bys (acc ++ [UInt8.ofNat (16 * (val s[m]).toNat + (val s[m + 1]).toNat)]) = bys acc ++ [.int .u8 (16 * val s[m] + val s[m + 1])] := by
              rw [bys_app]; congr 1
              simp only [bys, List.map_cons, List.map_nil, UInt8.toNat_ofNat']
              congr 2; omega
            repeat' ((fail_if_success at_builtin); (fail_if_success at_make); (first | go_values | go_skip | go_guarded | go_step | go_upon | go_back))
            rw [← e1] at hown2
            go_roundw
            case rel => exact ⟨k + 1, acc ++ [UInt8.ofNat (16 * (val s[m]).toNat + (val s[m + 1]).toNat)], by have := HM.out; go_num, by omega, by rw [List.length_append]; simp only [List.length_cons, List.length_nil]; omega, by rw [show 2 * (k + 1) = m + 2 by have := HM.out; omega]; exact HG.out, by rw [List.length_append]; exact hown2, hb2⟩
            case measure => simp [intOf]; omega
        · have hkq : k = q := by omega
          have hfin : hexB s.data.toList = (acc, 0) := by
            rw [HF.out, HU.out, List.drop_of_length_le (by have := HZ.out; omega), unhx]; simp
          have HG := Lib.hid hfin; clear hfin
          obtain ⟨A1, c1, rfl, hc1, _⟩ := Rd.of_own' hown
          have hmm : s.size ≤ m := by omega
          clear hkq hm
          repeat' ((fail_if_success at_builtin); (fail_if_success at_make); (first | go_values | go_skip | go_guarded | go_step | go_upon | go_back))
          go_ret2
          rw [HG.out]
          exact ⟨A1, c1, rfl, ⟨hown, hc1⟩, hbel⟩
end Go.Proofs.YtmjcoebfldmgnaaGreat
