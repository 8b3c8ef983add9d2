/- FlightApart, walked. Conditions: the slice's size; the number is an int. -/
import Derived.Test.YtefhbgbhknobjaaFSame
import Derived.Test.YtefhbgbhknobjaaFErP
import Derived.Test.YtefhbgbhknobjaaApK
import Derived.Test.YtefhbgbhknobjaaZ
import Derived.Lib.SlBytesConst
namespace Go.Proofs.Ytefhbgbhknobjaa
open Go.RowKit Go.Maps
set_option linter.unusedVariables false
set_option linter.unusedSimpArgs false
set_option maxRecDepth 100000

set_option maxHeartbeats 8000000 in
theorem FlightApart_walk (A : Option Addr) (n c : Nat) (l : List RawP) (x : Int) (w : World) (hl : l.length = n) (hc : n ≤ c) (hm : c ≤ maxLen) (hok : ∀ r ∈ l, RawOk r) (hr : Rd w 4 A n (rcs l)) (hx0 : -9223372036854775808 ≤ x) (hx1 : x ≤ 9223372036854775807) :
    Calls Try.prog 5 #[.slice A n c, .int .i64 x] w fun e w' => e = .returned (.bool true) ∧ Below w.heap.size w w' := by
  have HJ := Lib.hid (joined_ok A n c l w hl hc hm hok hr)
  have HP := Lib.hid (fun w' => Picked_ok x 1000 1000 rfl w' hx0 hx1 (by omega) (by omega))
  have hq := pk_lt x (m := 1000) (by omega)
  generalize pk x 1000 = q at *
  have hwq : IntKind.i64.wrap (1 + (q : Int)) = 1 + (q : Int) := IntWalk.i64_in _ (by omega)
  clear hok hl hr hx0 hx1
  go_enter Try.func5, Try.ntmps5
  repeat' ((fail_if_success at_builtin); (fail_if_success at_make); (first | go_values | go_skip | go_guarded | go_step | go_upon | go_back))
  refine ((HJ.out)).mono ?_; rintro e_ w1 ⟨fs, Af, cf, b, rfl, m, D, hm41, hcf, hcm, hfl, hG, hkeys, hwb, hown, hW, hb1⟩; dsimp only
  clear HJ hown hW
  have hn6 := hG.len
  obtain ⟨L, hL⟩ : ∃ L : List UInt8, L = [97, 110, 111, 116, 104, 101, 114, 32, 102, 108, 105, 103, 104, 116] := ⟨_, rfl⟩
  have hz1 : OwnZ (w1.alloc (.cells #[.int .u8 97, .int .u8 110, .int .u8 111, .int .u8 116, .int .u8 104, .int .u8 101, .int .u8 114, .int .u8 32, .int .u8 102, .int .u8 108, .int .u8 105, .int .u8 103, .int .u8 104, .int .u8 116] 5 (14, 15))) w1.heap.size (some ⟨w1.heap.size, 0, none⟩) 14 L := by
    rw [hL]
    exact ⟨w1.heap.size, [], (14, 15), rfl, Nat.le_refl _, World.alloc_heap_new w1 _, rfl, by simp [maxLen], .inr (Nat.le_refl _)⟩
  have hL14 : L.length = 14 := by rw [hL]; rfl
  have hr1 := hz1.rd
  rw [hL14] at hr1
  have HL := Lib.hid hL
  clear hL
  have hb2 := (Below.refl w1.heap.size w1).alloc (Nat.le_refl _) (.cells #[.int .u8 97, .int .u8 110, .int .u8 111, .int .u8 116, .int .u8 104, .int .u8 101, .int .u8 114, .int .u8 32, .int .u8 102, .int .u8 108, .int .u8 105, .int .u8 103, .int .u8 104, .int .u8 116] 5 (14, 15))
  have HD := Lib.hid (Digest_ok (some ⟨w1.heap.size, 0, none⟩) 14 14 L _ hL14 (by omega) (by omega) hr1)
  have hkc := fun (w : World) (C : Array Value) (n c : Nat) => Lib.run_convert_bytes_const (P := Try.prog) w 37 5 C n c Try.underlying37 Try.underlying5
  clear hr1 hz1
  repeat' ((fail_if_success at_builtin); (fail_if_success at_make); (first | go_values | go_skip | go_guarded | go_step | go_upon | go_back))
  clear hkc
  refine ((HD.out)).mono ?_; rintro e_ w3 ⟨rfl, hb3⟩; dsimp only
  have hb13 := hb2.trans (hb3.mono hb2.size)
  have hf3 := hfl.below hb13
  have hb03 := hb1.trans (hb13.mono hb1.size)
  obtain ⟨s, hs⟩ : ∃ s : ByteArray, s = ⟨(shaS L).toArray⟩ := ⟨_, rfl⟩
  rw [← hs]
  have hap : apS = shaS L := by rw [HL.out, apS]
  have hsl : s.data.toList = apS := by rw [hs, hap]
  have hsz : s.size ≤ 140737488351232 := by rw [hs]; show (shaS _).toArray.size ≤ _; rw [List.size_toArray, shaS_len]; decide
  have hhx : hexC s.data.toList = 0 := by rw [hsl]; exact hexC_sha _
  have hfn : fnd 0 fs s.data.toList = none := by
    rw [fnd_none_iff]
    intro p hp e
    obtain ⟨j, hj, hk⟩ := hkeys p hp
    exact apS_key j hj (by rw [← hk, e, hsl])
  have HG := Lib.hid hG
  have HFL := Lib.hid hf3
  have HFN := Lib.hid hfn
  have HHX := Lib.hid hhx
  obtain ⟨nn, hnn⟩ : ∃ nn : Int, nn = 1 + (q : Int) := ⟨_, rfl⟩
  have HNN := Lib.hid hnn
  have hn1 : 1 ≤ nn := by omega
  have hn2 : nn ≤ 1000 := by omega
  have HSL := Lib.hid hsl
  clear hs hsl HD hb2 hb3 hb13 hfl hf3 hfn hhx hnn hkeys
  repeat' ((fail_if_success at_builtin); (fail_if_success at_make); (first | go_values | go_skip | go_guarded | go_step | go_upon | go_back))
  refine ((HP.out _)).mono ?_; rintro e_ _ ⟨rfl, rfl⟩; dsimp only
  by_cases h6 : fs.length < 6
  · have HJN := Lib.hid (Join_new Af cf fs s nn w3 hG HFL.out hcf hcm HHX.out hsz hn1 hn2 HFN.out h6)
    have e6 : ((fs.length : Int) == 6) = false := by rw [beq_eq_false_iff_ne]; omega
    clear hG
    repeat' ((fail_if_success at_builtin); (fail_if_success at_make); (first | go_values | go_skip | go_guarded | go_step | go_upon | go_back))
    rw [← HNN.out]
    refine ((HJN.out)).mono ?_; rintro e_ w4 ⟨v4, rfl, hx4, hb4⟩; dsimp only
    have hG4 : GoodF (fs ++ [(⟨s.data.toList, nn, []⟩ : FlP)]) := HG.out.snoc h6 HHX.out (by rw [HSL.out, hap, shaS_len]; omega) HFN.out hn1 hn2
    have hfn4 : fnd 0 (fs ++ [(⟨s.data.toList, nn, []⟩ : FlP)]) s.data.toList = some fs.length := by rw [fnd_snoc, HFN.out]; simp
    have hi4 : fs.length < (fs ++ [(⟨s.data.toList, nn, []⟩ : FlP)]).length := by simp
    have e1 : (fs ++ [(⟨s.data.toList, nn, []⟩ : FlP)]).eraseIdx fs.length = fs := by
      rw [List.eraseIdx_append_of_length_le (Nat.le_refl _)]; simp
    have e2 : (fs ++ [(⟨s.data.toList, nn, []⟩ : FlP)])[fs.length] = ⟨s.data.toList, nn, []⟩ := by simp
    have hcap := hx4.cap
    obtain ⟨A4, c4, rfl, hc4, hf4⟩ := hx4.fls
    have hcm4 := hcap _ _ _ rfl
    have HE := End_ok A4 c4 _ s fs.length w4 hG4 hf4 hc4 hcm4 hfn4 hi4
    rw [e1, e2] at HE
    have HE := Lib.hid HE
    have HF4 := Lib.hid (HFL.out.below hb4)
    have hb04 := hb03.trans (hb4.mono hb03.size)
    clear hG4 hfn4 e1 e2 hcap hx4 hf4 HJN hi4
    generalize (fs ++ [(⟨s.data.toList, nn, []⟩ : FlP)]).length = n4 at *
    repeat' ((fail_if_success at_builtin); (fail_if_success at_make); (first | go_values | go_skip | go_guarded | go_step | go_upon | go_back))
    refine ((HE.out)).mono ?_; rintro e_ w5 ⟨v5, u5, rfl, hx5, hu5, hb5⟩; dsimp only
    obtain ⟨A5, c5, rfl, hc5, hf5⟩ := hx5.fls
    obtain ⟨U, cu, rfl, huc, hru⟩ := Rd.of_own' hu5
    simp only [List.length_nil, Nat.zero_add] at hru huc ⊢
    have hb05 := hb04.trans (hb5.mono hb04.size)
    have hr2 : Rd (w5.alloc (.cells #[.int .i64 nn] 3)) 1 (some ⟨w5.heap.size, 0, none⟩) 1 (ins [nn]) := Rd.newN (w := w5) (e := 3) (size := 1) (m := 1) (ins [nn]) rfl
    have hba := (Below.refl w5.heap.size w5).alloc (Nat.le_refl _) (.cells #[.int .i64 nn] 3)
    have HQ : Calls Try.prog 8 #[.slice U 1 cu, .slice (some ⟨w5.heap.size, 0, none⟩) 1 1] (w5.alloc (.cells #[.int .i64 nn] 3)) fun e w' => e = .returned (.bool true) ∧ ∃ q, w' = (w5.alloc (.cells #[.int .i64 nn] 3)).drewN q :=
      EqI_same U (some ⟨w5.heap.size, 0, none⟩) cu 1 [nn] _ (by simp) (hru.below hba) hr2
    have HQ := Lib.hid HQ
    have HF5 := Lib.hid (hf5.below hba)
    have HF4' := Lib.hid ((HF4.out.below hb5).below hba)
    clear hru hr2 hx5 hu5 hf5
    repeat' ((fail_if_success at_builtin); (fail_if_success at_make); (first | go_values | go_skip | go_guarded | go_step | go_upon | go_back))
    refine ((HP.out _)).mono ?_; rintro e_ _ ⟨rfl, rfl⟩; dsimp only
    repeat' ((fail_if_success at_builtin); (fail_if_success at_make); (first | go_values | go_skip | go_guarded | go_step | go_upon | go_back))
    rw [← HNN.out]
    refine ((HQ.out)).mono ?_; rintro e_ w6 ⟨rfl, ⟨q6, hq6⟩⟩; dsimp only
    have hb6 : Below w5.heap.size w5 w6 := by rw [hq6]; exact below_drewN hba q6
    have hb66 : Below (w5.alloc (.cells #[.int .i64 nn] 3)).heap.size (w5.alloc (.cells #[.int .i64 nn] 3)) w6 := by rw [hq6]; exact below_drewN (Below.refl _ _) q6
    have HS := SameLoft_flights Af A5 cf c5 fs w6 (by omega) (fun p hp => by have := (HG.out.all p hp).2.1; omega) (HF4'.out.below hb66) (HF5.out.below hb66)
    unfold loftF at HS
    have HS := Lib.hid HS
    clear hq6 hb66
    repeat' ((fail_if_success at_builtin); (fail_if_success at_make); (first | go_values | go_skip | go_guarded | go_step | go_upon | go_back))
    refine ((HS.out)).mono ?_; rintro e_ w7 ⟨rfl, hb7⟩; dsimp only
    repeat' ((fail_if_success at_builtin); (fail_if_success at_make); (first | go_values | go_skip | go_guarded | go_step | go_upon | go_back))
    go_ret
    have h1 := hb05.trans (hb6.mono hb05.size)
    exact ⟨rfl, h1.trans (hb7.mono h1.size)⟩
  · have h6' : fs.length = 6 := by omega
    have HJN := Lib.hid (Join_full Af cf fs s nn w3 hG HFL.out hcf hcm HHX.out hsz hn1 hn2 HFN.out h6')
    have e6 : ((fs.length : Int) == 6) = true := by rw [beq_iff_eq]; omega
    clear hG h6'
    repeat' ((fail_if_success at_builtin); (fail_if_success at_make); (first | go_values | go_skip | go_guarded | go_step | go_upon | go_back))
    rw [← HNN.out]
    refine ((HJN.out)).mono ?_; rintro e_ w4 ⟨rfl, hb4⟩; dsimp only
    repeat' ((fail_if_success at_builtin); (fail_if_success at_make); (first | go_values | go_skip | go_guarded | go_step | go_upon | go_back))
    go_ret
    exact ⟨rfl, hb03.trans (hb4.mono hb03.size)⟩
end Go.Proofs.Ytefhbgbhknobjaa
