/- The walks of HexBack and HexOrdered. Conditions: the slices' sizes. -/
import Derived.Test.YtgdfcgneafffhaaHexB
import Derived.Deep.RegionHeld3
namespace Go.Proofs.Ytgdfcgneafffhaa
open Go.RowKit
set_option linter.unusedVariables false
set_option maxRecDepth 20000

theorem val_dig : ∀ n, n < 16 → val (dig n) = n := by
  have key : ∀ n : Fin 16, val (dig n.val) = (n.val : Int) := by decide +kernel
  exact fun n h => key ⟨n, h⟩
theorem unhx_hexs : ∀ l : List UInt8, unhx (hexs l) = some l
  | [] => rfl
  | x :: l => by
    have hx := x.toNat_lt
    have h1 := val_dig (x.toNat / 16) (by omega)
    have h2 := val_dig (x.toNat % 16) (by omega)
    show unhx (dig (x.toNat / 16) :: dig (x.toNat % 16) :: hexs l) = _
    rw [unhx, h1, h2, if_neg (by omega), unhx_hexs l]
    simp only [Option.map_some, Option.some.injEq, List.cons.injEq, and_true]
    apply UInt8.toNat_inj.1
    rw [UInt8.toNat_ofNat']
    omega
theorem hexB_hexs (l : List UInt8) (h : l.length ≤ 2000) : hexB (hexs l) = (l, 0) := by
  have := hexs_len l
  rw [hexB, if_neg (by omega), if_neg (by omega), unhx_hexs]

theorem HexBack_walk (A : Option Addr) (n c : Nat) (l : List UInt8) (w : World) (hl : l.length = n) (hc : n ≤ c) (hm : c ≤ 140737488351232) (hr : Rd w 1 A n (bys l)) :
    Calls Try.prog 14 #[.slice A n c] w fun e w' => e = .returned (.bool true) ∧ Below w.heap.size w w' := by
  obtain ⟨n', hn'⟩ : ∃ n', n' = min n 1000 := ⟨_, rfl⟩
  obtain ⟨zs, hzs⟩ : ∃ zs, zs = l.take n' := ⟨_, rfl⟩
  have hzl : zs.length = n' := by rw [hzs, List.length_take]; omega
  have hr' := hr.pre (k := n') (by omega)
  rw [Nat.mul_one, bys_take, ← hzs] at hr'
  have h30 : n' ≤ 1000 := by omega
  have hnn : n' ≤ n := by omega
  have hmin : (if (n : Int) > 1000 then (1000 : Int) else n) = n' := by split <;> omega
  have hmin2 : min (n : Int) 1000 = n' := by omega
  clear hzs hr hl hn'
  have hT := Text_ok A n' c zs w hzl (by omega) (by omega) hr'
  have hhl := hexs_len zs
  rw [hzl] at hhl
  obtain ⟨s, hs⟩ : ∃ s : ByteArray, s = ⟨(hexs zs).toArray⟩ := ⟨_, rfl⟩
  have hsl : s.data.toList = hexs zs := by rw [hs]
  have hsz : s.size = 2 * n' := by rw [hs, ← hhl]; rfl
  have hB := hBytes_ok s
  rw [hsl, hexB_hexs zs (by omega)] at hB
  dsimp only at hB
  rw [← hs] at hT
  have HT := Lib.hid hT
  have HB := Lib.hid hB
  have hss : ((s.size : Int) == 2 * (n' : Int)) = true := beq_iff_eq.2 (by omega)
  have hs2 : s.size ≤ 2000 := by omega
  have HZ := Lib.hid hzl
  clear hT hB hs hsl hhl hsz hzl
  go_enter Try.func14, Try.ntmps14
  repeat' ((fail_if_success at_builtin); (fail_if_success at_make); (first | go_values | go_skip | go_guarded | go_step | go_upon | go_back))
  refine ((HT.out)).mono ?_; rintro e_ w1 ⟨rfl, hb1⟩; dsimp only
  repeat' ((fail_if_success at_builtin); (fail_if_success at_make); (first | go_values | go_skip | go_guarded | go_step | go_upon | go_back))
  refine ((HB.out _ (by omega))).mono ?_; rintro e_ w2 ⟨A2, c2, rfl, ho2, hb2⟩; dsimp only
  have hb12 := hb1.trans (hb2.mono hb1.size)
  have hq1 := run_str (P := Try.prog) (w := w2) (c := c) (src := 31) (dst := 9) Try.underlying31 Try.underlying5 Try.underlying9 HZ.out (hr'.below hb12)
  have hq2 := run_str (P := Try.prog) (w := w2) (c := c2) (src := 31) (dst := 9) Try.underlying31 Try.underlying5 Try.underlying9 rfl ho2.rd
  repeat' ((fail_if_success at_builtin); (fail_if_success at_make); (first | go_values | go_skip | go_guarded | go_step | go_upon | go_back))
  go_ret
  exact ⟨rfl, hb12⟩

theorem cmp_two (a b c d : UInt8) (x y : List UInt8) : Lib.compareBytes (a :: b :: x) (c :: d :: y) =
    if a < c then -1 else if c < a then 1 else if b < d then -1 else if d < b then 1 else Lib.compareBytes x y := by
  simp only [Lib.compareBytes]
theorem dig_lt : ∀ n m, n < 16 → m < 16 → (dig n < dig m ↔ n < m) := by
  have key : ∀ n m : Fin 16, (dig n.val < dig m.val ↔ n.val < m.val) := by decide +kernel
  exact fun n m h1 h2 => key ⟨n, h1⟩ ⟨m, h2⟩
theorem cmp_hexs : ∀ l m : List UInt8, Lib.compareBytes (hexs l) (hexs m) = Lib.compareBytes l m
  | [], [] => rfl
  | [], y :: m => rfl
  | x :: l, [] => rfl
  | x :: l, y :: m => by
    have hx := x.toNat_lt
    have hy := y.toNat_lt
    show Lib.compareBytes (dig (x.toNat / 16) :: dig (x.toNat % 16) :: hexs l) (dig (y.toNat / 16) :: dig (y.toNat % 16) :: hexs m) = _
    rw [cmp_two, cmp_hexs l m]
    simp only [dig_lt (x.toNat / 16) (y.toNat / 16) (by omega) (by omega), dig_lt (y.toNat / 16) (x.toNat / 16) (by omega) (by omega), dig_lt (x.toNat % 16) (y.toNat % 16) (by omega) (by omega),
      dig_lt (y.toNat % 16) (x.toNat % 16) (by omega) (by omega), Lib.compareBytes, UInt8.lt_iff_toNat_lt]
    split
    · rw [if_pos (by omega)]
    · split
      · rw [if_neg (by omega), if_pos (by omega)]
      · split
        · rw [if_pos (by omega)]
        · split
          · rw [if_neg (by omega), if_pos (by omega)]
          · rw [if_neg (by omega), if_neg (by omega)]

set_option maxHeartbeats 1000000 in
theorem HexOrdered_walk (A : Option Addr) (n c : Nat) (l : List UInt8) (B : Option Addr) (m d : Nat) (k : List UInt8) (w : World) (hl : l.length = n) (hc : n ≤ c) (hm : c ≤ 140737488351232) (hr : Rd w 1 A n (bys l))
    (hl' : k.length = m) (hd : m ≤ d) (hm' : d ≤ 140737488351232) (hr' : Rd w 1 B m (bys k)) (hn : n ≤ 1048576) (hn' : m ≤ 1048576) :
    Calls Try.prog 13 #[.slice A n c, .slice B m d] w fun e w' => e = .returned (.bool true) ∧ Below w.heap.size w w' := by
  have hT := Text_ok A n c l w hl (by omega) (by omega) hr
  have hU := fun w1 (hb : Below w.heap.size w w1) => Text_ok B m d k w1 hl' (by omega) (by omega) (hr'.below hb)
  have h1 : ∀ w1 : World, Calls Try.prog 26 #[.slice (some ⟨w1.heap.size, 0, none⟩) 1 1] (w1.alloc (.cells #[.int .u8 1] 5)).drew fun e w' => e = .returned (.string ⟨#[48, 49]⟩) ∧ Below w1.heap.size (w1.alloc (.cells #[.int .u8 1] 5)).drew w' := fun (w1 : World) => by
    have hrd : Rd ((w1.alloc (.cells #[.int .u8 1] 5)).drew) 1 (some ⟨w1.heap.size, 0, none⟩) 1 (bys [1]) := (Rd.newN (w := w1) (e := 5) (us := [.int .u8 1]) (m := 1) rfl)
    exact (Text_ok (some ⟨w1.heap.size, 0, none⟩) 1 1 [1] _ rfl (by omega) (by omega) hrd).mono fun e w' ⟨he, hb⟩ => ⟨he, hb.mono (by simp)⟩
  obtain ⟨s, hs⟩ : ∃ s : ByteArray, s = ⟨(hexs l).toArray⟩ := ⟨_, rfl⟩
  obtain ⟨t, ht⟩ : ∃ t : ByteArray, t = ⟨(hexs k).toArray⟩ := ⟨_, rfl⟩
  obtain ⟨u, hu⟩ : ∃ u : ByteArray, u = ⟨l.toArray⟩ := ⟨_, rfl⟩
  obtain ⟨v, hv⟩ : ∃ v : ByteArray, v = ⟨k.toArray⟩ := ⟨_, rfl⟩
  have hcmp : Lib.compareBytes s.data.toList t.data.toList = Lib.compareBytes u.data.toList v.data.toList := by
    rw [hs, ht, hu, hv]; exact cmp_hexs l k
  have hC := fun (w1 : World) => Try.strings_Compare s t w1
  have hD := fun (w1 : World) => Try.strings_Compare u v w1
  rw [hcmp] at hC
  rw [← hs] at hT
  rw [← ht] at hU
  have hq1 := fun (w1 : World) (hb : Below w.heap.size w w1) => run_str (P := Try.prog) (w := w1) (c := c) (src := 31) (dst := 9) Try.underlying31 Try.underlying5 Try.underlying9 hl (hr.below hb)
  have hq2 := fun (w1 : World) (hb : Below w.heap.size w w1) => run_str (P := Try.prog) (w := w1) (c := d) (src := 31) (dst := 9) Try.underlying31 Try.underlying5 Try.underlying9 hl' (hr'.below hb)
  rw [← hu] at hq1
  rw [← hv] at hq2
  generalize Lib.compareBytes u.data.toList v.data.toList = z at *
  have HT := Lib.hid hT
  have HU := Lib.hid hU
  have H1 := Lib.hid h1
  have HC := Lib.hid hC
  have HD := Lib.hid hD
  have Q1 := Lib.hid hq1
  have Q2 := Lib.hid hq2
  clear hT hU h1 hC hD hq1 hq2 hcmp hs ht hu hv hl hl' hr hr'
  have hzz : (z == z) = true := by simp
  go_enter Try.func13, Try.ntmps13
  repeat' ((fail_if_success at_builtin); (fail_if_success at_make); (first | go_values | go_skip | go_guarded | go_step | go_upon | go_back))
  refine ((HT.out)).mono ?_; rintro e_ w1 ⟨rfl, hb1⟩; dsimp only
  repeat' ((fail_if_success at_builtin); (fail_if_success at_make); (first | go_values | go_skip | go_guarded | go_step | go_upon | go_back))
  refine ((HU.out _ hb1)).mono ?_; rintro e_ w2 ⟨rfl, hb2⟩; dsimp only
  have hb12 := hb1.trans (hb2.mono hb1.size)
  have q1 := Q1.out w2 hb12
  have q2 := Q2.out w2 hb12
  repeat' ((fail_if_success at_builtin); (fail_if_success at_make); (first | go_values | go_skip | go_guarded | go_step | go_upon | go_back))
  go_region_held3 (fun w' => (convert 31 9 (.slice A n c)).run Try.prog w' = .ok (.string u) w' ∧ (convert 31 9 (.slice B m d)).run Try.prog w' = .ok (.string v) w')
    (first | exact ⟨Q1.out _ (by first | exact hb12.drew | exact (hb12.alloc hb12.size _).drew | exact ((hb12.alloc hb12.size _).drew).trans (hb5.mono hb12.size)), Q2.out _ (by first | exact hb12.drew | exact (hb12.alloc hb12.size _).drew | exact ((hb12.alloc hb12.size _).drew).trans (hb5.mono hb12.size))⟩)
    (first | (go_at_call 26; refine (H1.out _).mono ?_; rintro e5 w5 ⟨rfl, hb5⟩) | (go_at_call 27; refine (HC.out _).mono ?_; rintro e6 w6 ⟨rfl, rfl⟩) | (go_at_call 27; refine (HD.out _).mono ?_; rintro e6 w6 ⟨rfl, rfl⟩))
  repeat' ((fail_if_success at_builtin); (fail_if_success at_make); (first | go_values | go_skip | go_guarded | go_step | go_upon | go_back))
  go_ret
  exact ⟨rfl, ((hb12.alloc hb12.size _).drew).trans (hb5.mono hb12.size)⟩
end Go.Proofs.Ytgdfcgneafffhaa
