/- IndexBack walked. Conditions: the slice's size. -/
import Derived.Test.YtooohfckhepcmaaIxD
import Derived.Test.YtooohfckhepcmaaSmE
namespace Go.Proofs.Ytooohfckhepcmaa
open Go.RowKit
set_option linter.unusedVariables false
set_option linter.unusedSimpArgs false
set_option maxRecDepth 100000

/-- 'new and never else' -/
def nvS : List UInt8 := shaS [110, 101, 119, 32, 97, 110, 100, 32, 110, 101, 118, 101, 114, 32, 101, 108, 115, 101]
theorem nvS_key : ∀ k, k < 7 → keyS k ≠ nvS := by
  have key : ∀ k : Fin 7, keyS k.val ≠ nvS := by decide +kernel
  exact fun k h => key ⟨k, h⟩
theorem sto_keys (l : List RawP) : ∀ x ∈ (sto l).ents, ∃ j, j < 7 ∧ x.key = keyS j := fun x hx => by
  have pe : ((sto l).ents).Perm (stAcc l).ents := srt_perm _ _
  exact ((acc_ok l).eone x (pe.mem_iff.1 hx)).1
theorem sto_len7 (l : List RawP) : (sto l).ents.length ≤ 7 := by
  have pe : ((sto l).ents).Perm (stAcc l).ents := srt_perm _ _
  have hk := keys_seven (acc_ok l).end_ fun k hk => by
    obtain ⟨x, hx, rfl⟩ := List.mem_map.1 hk
    exact ((acc_ok l).eone x hx).1
  rw [List.length_map] at hk
  rw [pe.length_eq]; exact hk
theorem erase_perm {α : Type} {m : List α} {i : Nat} (hi : i < m.length) : (m[i] :: m.eraseIdx i).Perm m := by
  have h := (List.perm_middle (a := m[i]) (l₁ := m.take i) (l₂ := m.drop (i + 1))).symm
  rw [← List.drop_eq_getElem_cons hi, List.take_append_drop] at h
  rw [List.eraseIdx_eq_take_drop_succ]
  exact h
/-- what was put in is taken out again -/
theorem srt_back {l : List EntP} {x : EntP} (hr : RisesBy (·.key) l) (hn : ∀ y ∈ l, y.key ≠ x.key) : ∃ i, ∃ h : i < (srt (·.key) (x :: l)).length, (srt (·.key) (x :: l))[i] = x ∧ (srt (·.key) (x :: l)).eraseIdx i = l := by
  have hp := srt_perm (fun e : EntP => e.key) (x :: l)
  have hf : l.findIdx? (fun y => y.key == x.key) = none := by
    rw [List.findIdx?_eq_none_iff]
    intro y hy; simp [hn y hy]
  have hs := srt_ok (f := fun e : EntP => e.key) hr hf
  obtain ⟨i, hi, he⟩ := List.mem_iff_getElem.1 (hp.mem_iff.2 (List.mem_cons_self (a := x) (l := l)))
  refine ⟨i, hi, he, ?_⟩
  have h1 := (erase_perm hi).trans hp
  rw [he] at h1
  exact RisesBy.perm (hs.sublist (List.eraseIdx_sublist _ _)) hr h1.cons_inv
set_option maxHeartbeats 8000000 in
theorem IndexBack_walk (A : Option Addr) (n c : Nat) (l : List RawP) (w : World) (hl : l.length = n) (hc : n ≤ c) (hm : c ≤ maxLen) (hok : ∀ r ∈ l, RawOk r) (hr : Rd w 4 A n (rcs l)) :
    Calls Try.prog 14 #[.slice A n c] w fun e w' => e = .returned (.bool true) ∧ Below w.heap.size w w' := by
  have HS := Lib.hid (Store_ok A n c l w hl hc hm hok hr)
  have hge := (sto_good l).e
  have hlen := sto_len7 l
  have HGE := Lib.hid hge
  have hno : ∀ y ∈ (sto l).ents, y.key ≠ nvS := fun y hy e => by
    obtain ⟨j, hj, hk⟩ := sto_keys l y hy
    exact nvS_key j hj (by rw [← hk, e])
  have hbk := srt_back (x := ⟨nvS, [], 0, 0⟩) hge.ris hno
  have hpe : putE (sto l).ents ⟨nvS, [], 0, 0⟩ = srt (·.key) (⟨nvS, [], 0, 0⟩ :: (sto l).ents) := by
    unfold putE
    rw [show (sto l).ents.findIdx? (fun y => y.key == (⟨nvS, [], 0, 0⟩ : EntP).key) = none from by
      rw [List.findIdx?_eq_none_iff]; intro y hy; simp [hno y hy]]
  have hgx : GoodE1 ⟨nvS, [], 0, 0⟩ := ⟨hexC_sha _, rfl, by show 0 ≤ 5; omega, by show 0 ≤ 1099511627776; omega⟩
  have HGP := Lib.hid (putE_good hge hgx (by omega))
  have HGX := Lib.hid hgx
  have hlp : (putE (sto l).ents ⟨nvS, [], 0, 0⟩).length = (sto l).ents.length + 1 := by rw [hpe, (srt_perm _ _).length_eq]; rfl
  rw [← hpe] at hbk
  obtain ⟨i, hi, hix, hie⟩ := hbk
  have HPL := Lib.hid (show ∀ y ∈ (sto l).ents, y.parts.length ≤ 1000000 from fun y hy => by have := (chk_zero (hge.one y hy).2.1).1; omega)
  clear hok hl hr hge hno hpe hgx
  generalize (sto l).blobs = bl at *
  generalize (sto l).ents = el at *
  generalize (sto l).room = rm at *
  generalize (sto l).clock = ck at *
  have HIX := Lib.hid hix
  have HIE := Lib.hid hie
  have HLP := Lib.hid hlp
  clear hix hie hlp
  obtain ⟨L, hL⟩ : ∃ L : List UInt8, L = [110, 101, 119, 32, 97, 110, 100, 32, 110, 101, 118, 101, 114, 32, 101, 108, 115, 101] := ⟨_, rfl⟩
  have HNV := Lib.hid (show shaS L = nvS by rw [hL, nvS])
  have hL18 : L.length = 18 := by rw [hL]; rfl
  have HL := Lib.hid hL
  clear hL
  generalize hnv : nvS = K at *
  clear hnv
  have hkc := fun (w : World) (C : Array Value) (n c : Nat) => Lib.run_convert_bytes_const (P := Try.prog) w 25 5 C n c Try.underlying25 Try.underlying5
  go_enter Try.func14, Try.ntmps14
  repeat' ((fail_if_success at_builtin); (fail_if_success at_make); (first | go_values | go_skip | go_guarded | go_step | go_upon | go_back))
  refine ((HS.out)).mono ?_; rintro e_ w1 ⟨v1, v2, rfl, hb, he, hb1⟩; dsimp only
  obtain ⟨Ab, cb, rfl, _, _, _⟩ := hb.rows
  obtain ⟨Ae, ce, rfl, hce1, hce2, hRe⟩ := he.rows
  have hfl := fld_ents Ab Ae bl.length el.length cb ce (rm : Int) (ck : Int) w1
  clear hb he
  have hz1 : OwnZ (w1.alloc (.cells #[.int .u8 110, .int .u8 101, .int .u8 119, .int .u8 32, .int .u8 97, .int .u8 110, .int .u8 100, .int .u8 32, .int .u8 110, .int .u8 101, .int .u8 118, .int .u8 101, .int .u8 114, .int .u8 32, .int .u8 101, .int .u8 108, .int .u8 115, .int .u8 101] 5 (18, 19))) w1.heap.size (some ⟨w1.heap.size, 0, none⟩) 18 L := by
    rw [HL.out]
    exact ⟨w1.heap.size, [], (18, 19), rfl, Nat.le_refl _, World.alloc_heap_new w1 _, rfl, by simp [maxLen], .inr (Nat.le_refl _)⟩
  have hr1 := hz1.rd
  rw [hL18] at hr1
  have hb2 := (Below.refl w1.heap.size w1).alloc (Nat.le_refl _) (.cells #[.int .u8 110, .int .u8 101, .int .u8 119, .int .u8 32, .int .u8 97, .int .u8 110, .int .u8 100, .int .u8 32, .int .u8 110, .int .u8 101, .int .u8 118, .int .u8 101, .int .u8 114, .int .u8 32, .int .u8 101, .int .u8 108, .int .u8 115, .int .u8 101] 5 (18, 19))
  have HD := Digest_ok (some ⟨w1.heap.size, 0, none⟩) 18 18 L _ hL18 (by omega) (by omega) hr1
  rw [HNV.out] at HD
  have HD := Lib.hid HD
  have hR2 := hRe.below hb2
  have hb12 := hb1.trans (hb2.mono hb1.size)
  clear hr1 hz1 hRe hb1 hb2
  repeat' ((fail_if_success at_builtin); (fail_if_success at_make); (first | go_values | go_skip | go_guarded | go_step | go_upon | go_back))
  clear hkc hfl
  refine ((HD.out)).mono ?_; rintro e_ w3 ⟨rfl, hb3⟩; dsimp only
  have hb13 := hb12.trans (hb3.mono hb12.size)
  have hR3 := hR2.below hb3
  have HPT := Lib.hid (PutE_ok Ae ce el ⟨K, [], 0, 0⟩ none 0 w3 HGE.out HGX.out (by omega) hR3 (Sl.nil_ _ _))
  clear hR2 hb3 hb12
  repeat' ((fail_if_success at_builtin); (fail_if_success at_make); (first | go_values | go_skip | go_guarded | go_step | go_upon | go_back))
  refine ((HPT.out)).mono ?_; rintro e_ w4 ⟨v4, rfl, hx4, hb4⟩; dsimp only
  have hb14 := hb13.trans (hb4.mono hb13.size)
  obtain ⟨A4, c4, rfl, h41, h42, hR4⟩ := hx4.rwo.rows
  have hRe4 := hR3.below hb4
  have HDR := Lib.hid (DropE_ok A4 c4 _ K i w4 HGP.out hi (by rw [HIX.out]) (by rw [HIX.out]) hR4)
  clear hx4 hb4 hb13 hR3
  repeat' ((fail_if_success at_builtin); (fail_if_success at_make); (first | go_values | go_skip | go_guarded | go_step | go_upon | go_back))
  refine ((HDR.out)).mono ?_; rintro e_ w5 ⟨g, rfl, hx5, hb5⟩; dsimp only
  have hb15 := hb14.trans (hb5.mono hb14.size)
  have hRe5 := hRe4.below hb5
  rw [HIE.out] at hx5 ⊢
  rw [HLP.out]
  obtain ⟨A5, c5, e5, h51, h52, hR5⟩ := hx5.rwo.rows
  cases e5
  have HIX2 := Lib.hid (indexed_ok w5)
  clear hx5 hb5 hb14 hRe4
  repeat' ((fail_if_success at_builtin); (fail_if_success at_make); (first | go_values | go_skip | go_guarded | go_step | go_upon | go_back))
  refine ((HIX2.out)).mono ?_; rintro e_ w6 ⟨rfl, hb6⟩; dsimp only
  have hb16 := hb15.trans (hb6.mono hb15.size)
  have hRe6 := hRe5.below hb6
  have hR6 := hR5.below hb6
  have HSM := Lib.hid (SameStE_ok Ae (some ⟨g, 0, none⟩) ce (el.length + 1) el w6 (by omega) (fun y hy => HPL.out y hy) hRe6 hR6)
  have e1 : ((el.length : Int) + 1 == (el.length : Int) + 1) = true := by simp
  have e2 : (((el.length + 1 : Nat) : Int) == (el.length : Int) + 1) = true := by rw [beq_iff_eq]; omega
  clear hRe5 hR5 hRe6 hR6 hb6 hb15
  repeat' ((fail_if_success at_builtin); (fail_if_success at_make); (first | go_values | go_skip | go_guarded | go_step | go_upon | go_back))
  refine ((HSM.out)).mono ?_; rintro e_ w7 ⟨rfl, hb7⟩; dsimp only
  have hb17 := hb16.trans (hb7.mono hb16.size)
  repeat' ((fail_if_success at_builtin); (fail_if_success at_make); (first | go_values | go_skip | go_guarded | go_step | go_upon | go_back))
  go_ret
  exact ⟨rfl, hb17⟩
end Go.Proofs.Ytooohfckhepcmaa
