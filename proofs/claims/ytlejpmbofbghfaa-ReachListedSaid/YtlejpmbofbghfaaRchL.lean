/- The walk of ReachListed. Conditions: the sizes. -/
import Derived.Test.YtlejpmbofbghfaaReach
import Derived.Test.YtlejpmbofbghfaaData
namespace Go.Proofs.Ytlejpmbofbghfaa
open Go.RowKit
set_option linter.unusedVariables false
set_option linter.unusedSimpArgs false
set_option maxRecDepth 100000

theorem wpList_apZg {w : World} {ops : Array Oper} {rest : List Oper} {o : Oper} {a : Act} {Q : Exit → Act → World → Prop} (hw : Region.wanted o (yielded ops a.tmps) = true) (sl x : Operand) {u : TypeId}
    (ho : o.op = .call { callee := .builtin .append, args := #[sl, x], argTypes := #[24, u] })
    {base c : Nat} {A : Option Addr} {l k : List UInt8} {m : Nat} {xv : Value} (hs : a.eval sl = .slice A l.length c) (hown : OwnZ w base A c l) (hx : a.eval x = xv) (hsrc : Src Try.prog w u xv m k)
    (hb : l.length + m ≤ 140737488355328) (hbase : base ≤ w.heap.size)
    (h : ∀ A' c' w', OwnZ w' base A' c' (l ++ k) → Below base w w' → wpList Try.prog ops Q rest (a.put o.dst (.slice A' (l ++ k).length c')) w') :
    wpList Try.prog ops Q (o :: rest) a w :=
  wpList_step fun K hK => by
    simp only [hw, if_true]
    exact wp_apZ sl x ho hs hown hx hsrc hb hbase fun A' c' w' h1 h2 _ _ => hK _ _ (h A' c' w' h1 h2)

theorem decL_no (t : List UInt8) : (decL ([110, 111] ++ t)).1 = [] := by
  unfold decL
  split
  · rfl
  · rw [if_pos (by simp [List.isPrefixOf])]
def onep : PartP := ⟨[97], shaS [], 0⟩
theorem onep_chk : chk [onep] = 0 := by
  rw [chk, if_neg (by simp), chkGo_cons]
  have h1 : nameC onep.name = 0 := by decide +kernel
  have h2 : hexC onep.dig = 0 := hexC_sha []
  rw [h1, if_neg (by simp), if_neg (by simp), h2, if_neg (by simp), if_neg (by simp [onep])]
  rfl
theorem pcs_onep (t : ByteArray) (ht : t = ⟨(shaS []).toArray⟩) : pcs [onep] = [.string ⟨#[97]⟩, .string t, .int .i64 0] := by rw [ht]; rfl

set_option maxHeartbeats 2000000 in
theorem ReachListed_walk (A : Option Addr) (n c : Nat) (l : List RawP) (r : RawP) (w : World) (hl : l.length = n) (hc : n ≤ c) (hm : c ≤ maxLen) (hok : ∀ r ∈ l, RawOk r) (hr : Rd w 4 A n (rcs l)) (hro : RawOk r) :
    Calls Try.prog 4 #[.slice A n c, rval r] w fun e w' => e = .returned (.bool true) ∧ Below w.heap.size w w' := by
  have HLST := Lib.hid (fun w' hr' => listed_ok A n c l w' hl hc hm hok hr')
  have hx8 := lst_le l
  have hchk := chk_lst l
  have HRL := Lib.hid hr
  clear hl hok hr
  generalize lst l = x at *
  have hle := enc_le x hchk
  have HD := Lib.hid (decL_enc x hchk)
  have HCH := Lib.hid hchk
  obtain ⟨rk, ra, rb, rt⟩ := r
  have hrt := hro.t
  dsimp only [rval] at hrt ⊢
  have HRT := Lib.hid hrt
  clear hchk hro hrt
  obtain ⟨w0, hw0⟩ : ∃ w0, w0 = w.alloc (.cells #[.int .i64 rk, .int .i64 ra, .int .i64 rb, .string rt] 23) := ⟨_, rfl⟩
  have hb0 : Below w.heap.size w w0 := by rw [hw0]; exact (Below.refl _ _).alloc (Nat.le_refl _) _
  have hA0 : Arr w0 w.heap.size 23 [.int .i64 rk, .int .i64 ra, .int .i64 rb, .string rt] := by rw [hw0]; exact Arr.new w _ _
  have hr0 : Rd w0 4 A n (rcs l) := by rw [hw0]; exact HRL.out.alloc _
  have HW := Lib.hid hw0
  clear hw0 HRL
  go_enter Try.func4, Try.ntmps4
  repeat' ((fail_if_success at_builtin); (fail_if_success at_make); (first | go_values | go_skip | go_guarded | go_step | go_upon | go_back))
  rw [← HW.out]
  obtain ⟨g, hg⟩ : ∃ g, g = w.heap.size := ⟨_, rfl⟩
  rw [← hg] at hA0 ⊢
  clear hg
  refine ((HLST.out w0 hr0)).mono ?_; rintro e_ w1 ⟨v1, rfl, ho1, hb1⟩; dsimp only
  have hb01 := hb0.trans (hb1.mono hb0.size)
  have hA1 := hA0.below hb1
  obtain ⟨Ao, co, rfl, hco, hrx⟩ := Rd.of_own' ho1
  repeat' ((fail_if_success at_builtin); (fail_if_success at_make); (first | go_values | go_skip | go_guarded | go_step | go_upon | go_back))
  refine ((Manifest_ok Ao x.length co x w1 rfl (by omega) (chk_fine HCH.out) hrx)).mono ?_; rintro e_ w2 ⟨A2, c2, rfl, hz2, hb2⟩; dsimp only
  have hb02 := hb01.trans (hb2.mono hb01.size)
  have hA2 := hA1.below hb2
  have hrx2 := hrx.below hb2
  have HP := RParts_ok ByteArray.empty A2 (enc x).length c2 (enc x) 0 false w2 rfl hz2.cap.1 hz2.cap.2 hz2.rd
  rw [HD.out] at HP
  generalize enc x = E at *
  clear ho1 hrx hb1 hb2 hA0 hA1 hb0 hb01 hr0 hz2
  repeat' ((fail_if_success at_builtin); (fail_if_success at_make); (first | go_values | go_skip | go_guarded | go_step | go_upon | go_back))
  refine ((HP)).mono ?_; rintro e_ w3 ⟨v3, rfl, ho3, hb3⟩; dsimp only
  have hb03 := hb02.trans (hb3.mono hb02.size)
  have hA3 := hA2.below hb3
  have hrx3 := hrx2.below hb3
  obtain ⟨A3, c3, rfl, hc3, hr3⟩ := Rd.of_own' ho3
  dsimp only at hc3 hr3 ⊢
  have hnn : ((x.length : Int) != (x.length : Int)) = false := by simp
  clear HP ho3 hA2 hrx2 hb02 hb3
  repeat' ((fail_if_success at_builtin); (fail_if_success at_make); (first | go_values | go_skip | go_guarded | go_step | go_upon | go_back))
  go_loopg [8, 24] x.length (fun gn u i wr => ∃ k : Nat, gn = x.length - k ∧ i = .int .i64 k ∧ k ≤ x.length ∧ Below w3.heap.size w3 wr)
  case atStart => exact ⟨0, rfl, rfl, by omega, Below.refl _ _⟩
  case round =>
    obtain ⟨k, hgk, rfl, hk, hbl⟩ := hrel
    have HGK := Lib.hid hgk
    clear hgk
    by_cases hlt : k < x.length
    · have hat := fun j (hj : j < 3) => pcs_at x k j hlt hj
      obtain ⟨b, off, rfl, hbw', hcell⟩ := (hrx3.below hbl).2 (by omega)
      obtain ⟨b', off', rfl, hbw'', hcell'⟩ := (hr3.below hbl).2 (by omega)
      have c1 := hcell (k * 3 + 1) _ (hat 1 (by omega))
      have d1 := hcell' k (.string ⟨x[k].dig.toArray⟩) (by simp [dcs, hlt])
      rw [show off + (k * 3 + 1) = off + k * 3 + 1 by omega] at c1
      try dsimp only [pcell, List.getElem?_cons_zero, List.getElem?_cons_succ] at c1
      generalize (⟨x[k].dig.toArray⟩ : ByteArray) = t' at *
      have hk0 : (0 : Int) ≤ (k : Int) := by omega
      have hk1 : (k : Int) < (x.length : Int) := by omega
      have hcc : decide (k < x.length) = true := decide_eq_true hlt
      clear hat hcell hcell'
      repeat' ((fail_if_success at_builtin); (fail_if_success at_make); (first | go_values | go_skip | go_guarded | go_step | go_upon | go_back))
      go_quiet (fail)
      repeat' ((fail_if_success at_builtin); (fail_if_success at_make); (first | go_values | go_skip | go_guarded | go_step | go_upon | go_back))
      go_roundg (x.length - (k + 1))
      case measure => have := HGK.out; omega
      case rel => exact ⟨k + 1, rfl, by go_num, by omega, bdrewN hbl _⟩
    · obtain rfl : k = x.length := by omega
      have hcc : decide (x.length < x.length) = false := by simp
      have hb4 := hb03.trans (hbl.mono hb03.size)
      have hA4 := hA3.below hbl
      clear hb03 hA3
      repeat' ((fail_if_success at_builtin); (fail_if_success at_make); (first | go_values | go_skip | go_guarded | go_step | go_upon | go_back))
      refine ((Digest_ok none 0 0 [] wr rfl (Nat.le_refl _) (by omega) Rd.nil_)).mono ?_; rintro e_ w5 ⟨rfl, hb5⟩; dsimp only
      have hb05 := hb4.trans (hb5.mono hb4.size)
      have hA5 := hA4.below hb5
      obtain ⟨D, hD⟩ : ∃ D : ByteArray, D = ⟨(shaS []).toArray⟩ := ⟨_, rfl⟩
      rw [← hD]
      have hpc := pcs_onep D hD
      have hr6 : Rd (w5.alloc (.cells #[.string ⟨#[97]⟩, .string D, .int .i64 0] 40)) 3 (some ⟨w5.heap.size, 0, none⟩) 1 (pcs [onep]) := by
        rw [hpc]; exact Rd.newN [.string ⟨#[97]⟩, .string D, .int .i64 0] rfl
      have hb06 := hb05.alloc hb05.size (.cells #[.string ⟨#[97]⟩, .string D, .int .i64 0] 40)
      have hA6 := hA5.alloc (.cells #[.string ⟨#[97]⟩, .string D, .int .i64 0] 40)
      have HM := Lib.hid (Manifest_ok (some ⟨w5.heap.size, 0, none⟩) 1 1 [onep] _ rfl (by omega) (chk_fine onep_chk) hr6)
      have HD1 := Lib.hid (decL_enc [onep] onep_chk)
      clear hD hpc hb4 hA4 hb05 hA5 hr6
      repeat' ((fail_if_success at_builtin); (fail_if_success at_make); (first | go_values | go_skip | go_guarded | go_step | go_upon | go_back))
      generalize w5.alloc (.cells #[.string ⟨#[97]⟩, .string D, .int .i64 0] 40) = w6 at *
      refine ((HM.out)).mono ?_; rintro e_ w7 ⟨A7, c7, rfl, hz7, hb7⟩; dsimp only
      have hb07 := hb06.trans (hb7.mono hb06.size)
      have hA7 := hA6.below hb7
      have HP := RParts_ok ByteArray.empty A7 (enc [onep]).length c7 (enc [onep]) 0 false w7 rfl hz7.cap.1 hz7.cap.2 hz7.rd
      rw [HD1.out] at HP
      generalize enc [onep] = E1 at *
      clear HM hz7 hb06 hA6
      repeat' ((fail_if_success at_builtin); (fail_if_success at_make); (first | go_values | go_skip | go_guarded | go_step | go_upon | go_back))
      refine ((HP)).mono ?_; rintro e_ w8 ⟨v8, rfl, ho8, hb8⟩; dsimp only
      have hb08 := hb07.trans (hb8.mono hb07.size)
      have hA8 := hA7.below hb8
      obtain ⟨A8, c8, rfl, hc8, hr8⟩ := Rd.of_own' ho8
      rw [show (([onep], 0) : List PartP × Nat).1.length = 1 from rfl]
      clear HP ho8 hr8 hb07 hA7
      have hkc := fun (w : World) (C : Array Value) (n c : Nat) => Lib.run_convert_bytes_const (P := Try.prog) w 24 5 C n c Try.underlying24 Try.underlying5
      have hb09 := hb08.alloc hb08.size (.cells #[.int .u8 110, .int .u8 111] 5 (2, 3))
      have f3 := (hA8.alloc (.cells #[.int .u8 110, .int .u8 111] 5 (2, 3))).cell (k := 3) rfl
      have hz9 : OwnZ (w8.alloc (.cells #[.int .u8 110, .int .u8 111] 5 (2, 3))) w8.heap.size (some ⟨w8.heap.size, 0, none⟩) 2 [110, 111] :=
        ⟨w8.heap.size, [], (2, 3), rfl, Nat.le_refl _, World.alloc_heap_new w8 _, rfl, by simp [maxLen], .inr (Nat.le_refl _)⟩
      have hs8 := hb08.size
      repeat' ((fail_if_success at_builtin); (fail_if_success at_make); (first | go_values | go_skip | go_guarded | go_step | go_upon | go_back))
      refine wpList_apZg (by rfl) (.tmp 49) (.tmp 51) rfl (by rfl) hz9 rfl (Src.str Try.underlying9 rt) (by have := HRT.out; simp only [List.length_cons, List.length_nil]; omega) (by rw [World.size_alloc]; omega) ?_
      intro A10 c10 w10 hz10 hb10
      have hb010 := hb09.trans (hb10.mono hs8)
      have HP := RParts_ok ByteArray.empty A10 _ c10 _ 0 false w10 rfl hz10.cap.1 hz10.cap.2 hz10.rd
      rw [decL_no] at HP
      generalize [110, 111] ++ rt.data.toList = E2 at *
      clear hz10 hz9 hb10 hb09 hb08
      repeat' ((fail_if_success at_builtin); (fail_if_success at_make); (first | go_values | go_skip | go_guarded | go_step | go_upon | go_back))
      refine ((HP)).mono ?_; rintro e_ w11 ⟨v11, rfl, ho11, hb11⟩; dsimp only
      obtain ⟨A11, c11, rfl, hc11, _⟩ := Rd.of_own' ho11
      repeat' ((fail_if_success at_builtin); (fail_if_success at_make); (first | go_values | go_skip | go_guarded | go_step | go_upon | go_back))
      go_ret
      exact ⟨rfl, hb010.trans (hb11.mono hb010.size)⟩
end Go.Proofs.Ytlejpmbofbghfaa
