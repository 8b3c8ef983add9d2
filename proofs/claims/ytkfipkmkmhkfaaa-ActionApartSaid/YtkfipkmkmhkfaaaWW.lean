/- word.Bytes, word.Words, slices.Equal over words; the walk of WordBack. Conditions: the slices' sizes. -/
import Derived.Test.YtkfipkmkmhkfaaaNumW
import Derived.Deep.RegionHeld3
import Derived.Laws.Pointers
import Derived.StillTactics
namespace Go.Proofs.Ytkfipkmkmhkfaaa
open Go.RowKit
set_option linter.unusedVariables false
set_option linter.unusedSimpArgs false
set_option maxRecDepth 20000
theorem elU32 : El Try.prog 80 78 1 4 := El.mk' (z := .int .u32 0) Try.underlying80 (by kernel_rfl) rfl (by omega) (by omega)
def wds (l : List (BitVec 32)) : List Value := l.map fun b => .int .u32 (wd b)
theorem wds_at (l : List (BitVec 32)) (k : Nat) (h : k < l.length) : (wds l)[k]? = some (.int .u32 (wd l[k])) := by simp [wds, h]
theorem wds_one (l : List (BitVec 32)) : ∀ u ∈ wds l, u.oneCell' = true := by
  intro u hu; simp only [wds, List.mem_map] at hu; obtain ⟨_, _, rfl⟩ := hu; rfl
/-- four bytes of a word, the highest first -/
def wb (x : BitVec 32) : List UInt8 := [UInt8.ofNat (x.toNat / 16777216), UInt8.ofNat (x.toNat / 65536), UInt8.ofNat (x.toNat / 256), UInt8.ofNat x.toNat]
def wbs (l : List (BitVec 32)) : List UInt8 := l.flatMap wb
theorem wbs_len (l : List (BitVec 32)) : (wbs l).length = 4 * l.length := by
  induction l with
  | nil => rfl
  | cons x l ih => simp only [wbs, List.flatMap_cons, List.length_append, List.length_cons] at *; rw [ih]; simp [wb]; omega
theorem wbs_snoc (l : List (BitVec 32)) (k : Nat) (h : k < l.length) : wbs (l.take (k + 1)) = wbs (l.take k) ++ wb l[k] := by
  unfold wbs; rw [List.take_succ_eq_append_getElem h, List.flatMap_append, List.flatMap_cons, List.flatMap_nil, List.append_nil]

theorem wBytes_ok (A : Option Addr) (n c : Nat) (l : List (BitVec 32)) (w : World) (hl : l.length = n) (hn : n ≤ 2000) (hc : n ≤ c) (hr : Rd w 1 A n (wds l)) :
    Calls Try.prog 46 #[.slice A n c] w fun e w' => ∃ A' c', e = .returned (.tuple #[.slice A' (wbs l).length c', .int .i64 0]) ∧ OwnB 5 w.heap.size w' A' c' (wbs l) ∧ Below w.heap.size w w' := by
  go_enter Try.func46, Try.ntmps46
  repeat' ((fail_if_success at_builtin); (fail_if_success at_make); (first | go_values | go_skip | go_guarded | go_step | go_upon | go_back))
  refine wpList_mk rfl _ _ rfl elU8 (4 * n) rfl rfl (by omega) (by omega) ?_
  intro w1 g1 hown1 hb1
  repeat' ((fail_if_success at_builtin); (fail_if_success at_make); (first | go_values | go_skip | go_guarded | go_step | go_upon | go_back))
  go_loopw [4, 16] (fun v i wr => ∃ k : Nat, i = .int .i64 k ∧ k ≤ n ∧ wr.ownsRow w.heap.size 5 1 v (wbs (l.take k)).length (bys (wbs (l.take k))) ∧ Below w.heap.size w wr) (fun _ i _ => n - (intOf i).toNat)
  case atStart => exact ⟨0, rfl, by omega, hown1, hb1⟩
  case round =>
    obtain ⟨k, rfl, hk, hown, hbel⟩ := hrel
    have hle := wbs_len (l.take k)
    rw [List.length_take] at hle
    by_cases hlt : k < n
    · obtain ⟨b, off, u, rfl, _, hu, hcell⟩ := (hr.below hbel).at_ hlt
      rw [wds_at l k (by omega)] at hu
      cases hu
      have HS := Lib.hid (wbs_snoc l k (by omega))
      have hwn := wd_nn l[k]
      have hwl := wd_lt l[k]
      generalize hx : l[k] = x at *
      have HX := Lib.hid hx; clear hx
      repeat' ((fail_if_success at_builtin); (fail_if_success at_make); (first | go_values | go_skip | go_guarded | go_step | go_upon | go_back))
      refine wpList_apN rfl (.tmp 20) (.tmp 32) rfl elU8 (by rfl) hown rfl rfl (by simp; exact ⟨rfl, rfl, rfl, rfl⟩) (by omega) hbel.size ?_
      intro v2 w2 hown2 hg2 _
      have hb2 := below_own hbel hown (Nat.le_refl _) hg2
      have hx := x.isLt
      have e1 : bys (wb x) = [.int .u8 (wd x / (16777216 : Int)), .int .u8 (wd x / (65536 : Int) % (256 : Int)), .int .u8 (wd x / (256 : Int) % (256 : Int)), .int .u8 (wd x % (256 : Int))] := by
        simp only [bys, wb, wd, List.map_cons, List.map_nil, UInt8.toNat_ofNat']
        rw [show x.toNat / 16777216 % 2 ^ 8 = x.toNat / 16777216 by omega]; rfl
      repeat' ((fail_if_success at_builtin); (fail_if_success at_make); (first | go_values | go_skip | go_guarded | go_step | go_upon | go_back))
      rw [← e1] at hown2
      go_roundw
      case rel => exact ⟨k + 1, by go_num, by omega, by rw [HS.out, bys_app, List.length_append]; exact hown2, hb2⟩
      case measure => simp [intOf]; omega
    · obtain rfl : k = n := by omega
      rw [List.take_of_length_le (by omega)] at hown
      obtain ⟨A1, c1, rfl, hc1, _⟩ := Rd.of_own' hown
      repeat' ((fail_if_success at_builtin); (fail_if_success at_make); (first | go_values | go_skip | go_guarded | go_step | go_upon | go_back))
      go_ret2
      exact ⟨A1, c1, rfl, ⟨hown, hc1⟩, hbel⟩

/-- words of bytes -/
def wOf (a b c d : UInt8) : BitVec 32 := BitVec.ofNat 32 (a.toNat * 16777216 + b.toNat * 65536 + c.toNat * 256 + d.toNat)
def wsOf : List UInt8 → List (BitVec 32)
  | a :: b :: c :: d :: r => wOf a b c d :: wsOf r
  | _ => []
theorem wsOf_len : ∀ (k : Nat) (l : List UInt8), l.length = 4 * k → (wsOf l).length = k
  | 0, l, h => by obtain rfl : l = [] := List.eq_nil_of_length_eq_zero (by omega); rfl
  | k + 1, a :: b :: c :: d :: r, h => by simp only [wsOf, List.length_cons] at *; rw [wsOf_len k r (by omega)]
  | k + 1, [], h => by simp at h
  | k + 1, [_], h => by simp at h; omega
  | k + 1, [_, _], h => by simp at h; omega
  | k + 1, [_, _, _], h => by simp at h; omega
theorem wsOf_snoc : ∀ (k : Nat) (l : List UInt8) (h : 4 * k + 3 < l.length), wsOf (l.take (4 * (k + 1))) = wsOf (l.take (4 * k)) ++ [wOf l[4 * k] l[4 * k + 1] l[4 * k + 2] l[4 * k + 3]]
  | 0, a :: b :: c :: d :: r, h => by simp [wsOf]
  | k + 1, a :: b :: c :: d :: r, h => by
    have h' : 4 * k + 3 < r.length := by simp at h; omega
    have e1 : (a :: b :: c :: d :: r).take (4 * (k + 1 + 1)) = a :: b :: c :: d :: r.take (4 * (k + 1)) := rfl
    have e2 : (a :: b :: c :: d :: r).take (4 * (k + 1)) = a :: b :: c :: d :: r.take (4 * k) := rfl
    rw [e1, e2, wsOf, wsOf, wsOf_snoc k r h']
    rfl
  | 0, [], h => by simp at h
  | 0, [_], h => by simp at h
  | 0, [_, _], h => by simp at h
  | 0, [_, _, _], h => by simp at h
  | k + 1, [], h => by simp at h
  | k + 1, [_], h => by simp at h
  | k + 1, [_, _], h => by simp at h; omega
  | k + 1, [_, _, _], h => by simp at h; omega

theorem wraps_u32 (n : Int) (h0 : 0 ≤ n) (h1 : n < 2 ^ 32) : IntKind.u32.wrap n = n := by
  rw [IntKind.wrap_u32]; simp at h1; omega
theorem wOf_bits (a b c d : UInt8) : bits BinOp.or IntKind.u32 (bits BinOp.or IntKind.u32 (bits BinOp.or IntKind.u32 (IntKind.u32.wrap (IntKind.u32.wrap (a.toNat : Int) * 16777216)) (IntKind.u32.wrap (IntKind.u32.wrap (b.toNat : Int) * 65536)))
    (IntKind.u32.wrap (IntKind.u32.wrap (c.toNat : Int) * 256))) (IntKind.u32.wrap (d.toNat : Int)) = wd (wOf a b c d) := by
  have ha := a.toNat_lt
  have hb := b.toNat_lt
  have hc := c.toNat_lt
  have hd := d.toNat_lt
  have hw : wd (wOf a b c d) = ((a.toNat * 16777216 + b.toNat * 65536 + c.toNat * 256 + d.toNat : Nat) : Int) := by
    simp only [wd, wOf, BitVec.toNat_ofNat]; omega
  rw [hw]
  clear hw
  generalize a.toNat = a at *
  generalize b.toNat = b at *
  generalize c.toNat = c at *
  generalize d.toNat = d at *
  have e1 : ∀ x : Nat, x < 256 → IntKind.u32.wrap (x : Int) = x := fun x h => by rw [IntKind.wrap_u32]; omega
  rw [e1 a ha, e1 b hb, e1 c hc, e1 d hd]
  have e2 : ∀ x y : Int, 0 ≤ x → x < 256 → 0 ≤ y → y ≤ 16777216 → IntKind.u32.wrap (x * y) = x * y := fun x y h1 h2 h3 h4 => by
    rw [IntKind.wrap_u32]
    have := Int.mul_nonneg h1 h3
    have h5 : x * y ≤ 255 * 16777216 := Int.mul_le_mul (by omega) h4 h3 (by omega)
    omega
  rw [e2 a 16777216 (by omega) (by omega) (by omega) (by omega), e2 b 65536 (by omega) (by omega) (by omega) (by omega), e2 c 256 (by omega) (by omega) (by omega) (by omega)]
  rw [bits_join .u32 32 (by decide) wraps_u32 24 ((a : Int) * 16777216) ((b : Int) * 65536) (by omega) (by omega) (by omega) (by omega) (by omega) (by omega)]
  rw [bits_join .u32 32 (by decide) wraps_u32 16 ((a : Int) * 16777216 + (b : Int) * 65536) ((c : Int) * 256) (by omega) (by omega) (by omega) (by omega) (by omega) (by omega)]
  rw [bits_join .u32 32 (by decide) wraps_u32 8 ((a : Int) * 16777216 + (b : Int) * 65536 + (c : Int) * 256) (d : Int) (by omega) (by omega) (by omega) (by omega) (by omega) (by omega)]
  omega

theorem Words_ok (A : Option Addr) (n c : Nat) (l : List UInt8) (w : World) (hl : l.length = n) (hn : n ≤ 2072) (h4 : n % 4 = 0) (hc : n ≤ c) (hr : Rd w 1 A n (bys l)) :
    Calls Try.prog 43 #[.slice A n c] w fun e w' => ∃ v, e = .returned (.tuple #[v, .int .i64 0]) ∧ w'.ownsRow w.heap.size 78 1 v (n / 4) (wds (wsOf l)) ∧ Below w.heap.size w w' := by
  have h4b : ((n : Int) % 4 != 0) = false := by rw [bne_eq_false_iff_eq]; omega
  obtain ⟨q, hq⟩ : ∃ q, n = 4 * q := ⟨n / 4, by omega⟩
  have HQ := Lib.hid hq
  have hq1 : q * 4 ≤ n := by omega
  have hq2 : n ≤ q * 4 := by omega
  clear hq h4
  go_enter Try.func43, Try.ntmps43
  repeat' ((fail_if_success at_builtin); (fail_if_success at_make); (first | go_values | go_skip | go_guarded | go_step | go_upon | go_back))
  refine wpList_mk rfl _ _ rfl elU32 q rfl rfl (by omega) (by omega) ?_
  intro w1 g1 hown1 hb1
  repeat' ((fail_if_success at_builtin); (fail_if_success at_make); (first | go_values | go_skip | go_guarded | go_step | go_upon | go_back))
  go_loopw [4, 5] (fun v i wr => ∃ k : Nat, i = .int .i64 ((4 * k : Nat) : Int) ∧ k ≤ q ∧ wr.ownsRow w.heap.size 78 1 v k (wds (wsOf (l.take (4 * k)))) ∧ Below w.heap.size w wr) (fun _ i _ => n - (intOf i).toNat)
  case atStart => exact ⟨0, rfl, by omega, hown1, hb1⟩
  case round =>
    obtain ⟨k, rfl, hk, hown, hbel⟩ := hrel
    by_cases hlt : k < q
    · have hsz := hbel.size
      obtain ⟨b, off, rfl, hbw, hcell0⟩ := hr.2 (by omega)
      have hcell := fun j u h => (hbel.cell (p := ⟨b, off + j, none⟩) hbw).trans (hcell0 j u h)
      clear hcell0
      have c0 := hcell (4 * k) _ (bys_at l (4 * k) (by omega))
      have c1 := hcell (4 * k + 1) _ (bys_at l (4 * k + 1) (by omega))
      have c2 := hcell (4 * k + 2) _ (bys_at l (4 * k + 2) (by omega))
      have c3 := hcell (4 * k + 3) _ (bys_at l (4 * k + 3) (by omega))
      have HS := Lib.hid (wsOf_snoc k l (by omega))
      clear hcell
      generalize l[4 * k] = b0 at *
      generalize l[4 * k + 1] = b1 at *
      generalize l[4 * k + 2] = b2 at *
      generalize l[4 * k + 3] = b3 at *
      have t0 := b0.toNat_lt
      have t1 := b1.toNat_lt
      have t2 := b2.toNat_lt
      have t3 := b3.toNat_lt
      generalize hm : 4 * k = m at *
      have HM := Lib.hid hm
      have hm1 : m + 4 ≤ n := by omega
      clear hm
      repeat' ((fail_if_success at_builtin); (fail_if_success at_make); (first | go_values | go_skip | go_guarded | go_step | go_upon | go_back))
      have hm0 : (0 : Int) ≤ (m : Int) := by omega
      have hi0 : (m : Int) < n := by omega
      have q1 : IntKind.i64.wrap ((m : Int) + 1) = (m : Int) + 1 := IntWalk.i64_in _ (by omega)
      have q2 : IntKind.i64.wrap ((m : Int) + 2) = (m : Int) + 2 := IntWalk.i64_in _ (by omega)
      have q3 : IntKind.i64.wrap ((m : Int) + 3) = (m : Int) + 3 := IntWalk.i64_in _ (by omega)
      have p1 : (0 : Int) ≤ (m : Int) + 1 := by omega
      have p2 : (0 : Int) ≤ (m : Int) + 2 := by omega
      have p3 : (0 : Int) ≤ (m : Int) + 3 := by omega
      have s1 : (m : Int) + 1 < n := by omega
      have s2 : (m : Int) + 2 < n := by omega
      have s3 : (m : Int) + 3 < n := by omega
      have u1 : ((m : Int) + 1).toNat = m + 1 := by omega
      have u2 : ((m : Int) + 2).toNat = m + 2 := by omega
      have u3 : ((m : Int) + 3).toNat = m + 3 := by omega
      go_region_held3 (fun w' => w'.cell? ⟨b, off + m, none⟩ = some (.int .u8 b0.toNat) ∧ w'.cell? ⟨b, off + (m + 1), none⟩ = some (.int .u8 b1.toNat) ∧ w'.cell? ⟨b, off + (m + 2), none⟩ = some (.int .u8 b2.toNat) ∧ w'.cell? ⟨b, off + (m + 3), none⟩ = some (.int .u8 b3.toNat))
        (first | go_keep | (go_split_ands; refine ⟨keep_cell (own_drew (hown.alloc _)) hg2 hbw (by assumption), keep_cell (own_drew (hown.alloc _)) hg2 hbw (by assumption), keep_cell (own_drew (hown.alloc _)) hg2 hbw (by assumption), keep_cell (own_drew (hown.alloc _)) hg2 hbw (by assumption)⟩))
        (first | (refine step_ap rfl (.tmp 23) (.tmp 53) rfl elU32 (by rfl) (own_drew (hown.alloc _)) (by rfl) (Rd.newN (us := [_]) (m := 1) rfl) (by simp; rfl) (by omega) (by simp; omega) ?_; intro v2 w2 hown2 hg2 _))
      rw [wOf_bits] at hown2
      have hb2 := below_own (hbel.alloc hsz (.cells #[.int .u32 (wd (wOf b0 b1 b2 b3))] 78)).drew (own_drew (hown.alloc _)) (Nat.le_refl _) (by rw [← wOf_bits]; exact hg2)
      clear hg2 q1 q2 q3 p1 p2 p3 s1 s2 s3 u1 u2 u3
      repeat' ((fail_if_success at_builtin); (fail_if_success at_make); (first | go_values | go_skip | go_guarded | go_step | go_upon | go_back))
      go_roundw
      case rel => exact ⟨k + 1, by have := HM.out; go_num, by omega, by rw [HS.out]; simpa [wds] using hown2, hb2⟩
      case measure => simp [intOf]; omega
    · obtain rfl : k = q := by omega
      rw [List.take_of_length_le (by omega)] at hown
      have hqq : n / 4 = k := by omega
      have HQQ := Lib.hid hqq; clear hqq
      generalize hm : 4 * k = m at *
      have HM := Lib.hid hm
      have hm1 : n ≤ m := by omega
      clear hm
      repeat' ((fail_if_success at_builtin); (fail_if_success at_make); (first | go_values | go_skip | go_guarded | go_step | go_upon | go_back))
      go_ret2
      exact ⟨_, rfl, by rw [HQQ.out]; exact hown, hbel⟩

theorem wOf_wb (x : BitVec 32) : wOf (UInt8.ofNat (x.toNat / 16777216)) (UInt8.ofNat (x.toNat / 65536)) (UInt8.ofNat (x.toNat / 256)) (UInt8.ofNat x.toNat) = x := by
  have hx := x.isLt
  apply BitVec.eq_of_toNat_eq
  simp only [wOf, BitVec.toNat_ofNat, UInt8.toNat_ofNat']
  omega
theorem wsOf_wbs : ∀ l : List (BitVec 32), wsOf (wbs l) = l
  | [] => rfl
  | x :: l => by
    have := wsOf_wbs l
    show wsOf (wb x ++ wbs l) = x :: l
    simp only [wb, List.cons_append, List.nil_append, wsOf, this, wOf_wb]
end Go.Proofs.Ytkfipkmkmhkfaaa
