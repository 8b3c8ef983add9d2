/- The walk of ManifestTorn. Conditions: the sizes. -/
import Derived.Test.YtlejpmbofbghfaaDecP
namespace Go.Proofs.Ytlejpmbofbghfaa
open Go.RowKit
set_option linter.unusedVariables false
set_option linter.unusedSimpArgs false
set_option maxRecDepth 100000

theorem own_exb5 {w : World} {base : Nat} {e : TypeId} {v : Value} {n : Nat} {xs : List Value} (h : w.ownsRow base e 1 v n xs) (h0 : 0 < n) :
    ∃ g cap cs, v = .slice (some ⟨g, 0, none⟩) n cap ∧ base ≤ g ∧ Arr w g e cs ∧ n ≤ cap ∧ cap ≤ maxLen ∧ cs.length = cap ∧ cs.take n = xs := by
  rcases h.2 with ⟨_, hz⟩ | ⟨g, cap, cur, rfl, hb, hg, hn, hm, hs, ht⟩
  · omega
  · exact ⟨g, cap, cur.toList, rfl, hb, by simpa [Arr] using hg, hn, hm, by simpa using hs, by simpa using ht⟩

set_option maxHeartbeats 1000000 in
theorem ManifestTorn_walk (A : Option Addr) (n c : Nat) (l : List RawP) (m : Int) (y : UInt8) (w : World) (hl : l.length = n) (hc : n ≤ c) (hm : c ≤ maxLen) (hok : ∀ r ∈ l, RawOk r) (hr : Rd w 4 A n (rcs l)) (hm0 : -9223372036854775808 ≤ m) (hm1 : m ≤ 9223372036854775807) :
    Calls Try.prog 5 #[.slice A n c, .int .i64 m, .int .u8 (y.toNat : Int)] w fun e w' => e = .returned (.bool true) ∧ Below w.heap.size w w' := by
  have HLST := Lib.hid (listed_ok A n c l w hl hc hm hok hr)
  have hx8 := lst_le l
  have hchk := chk_lst l
  clear hl hok hr
  generalize lst l = x at *
  have hle := enc_le x hchk
  obtain ⟨k, hk⟩ : ∃ k, k = pk m (enc x).length := ⟨_, rfl⟩
  have hkl : k < (enc x).length := by rw [hk]; exact pk_lt m (by omega)
  have HP := Lib.hid (fun w' => Picked_ok m (enc x).length ((enc x).length : Int) rfl w' hm0 hm1 (by omega) (by omega))
  rw [← hk] at HP
  obtain ⟨e1, he1⟩ : ∃ e1, (decL ((enc x).take k)).2 = e1 := ⟨_, rfl⟩
  have he0 := decL_torn x k hchk hkl
  rw [he1] at he0
  have hmore := decL_more x [y] hchk (by simp)
  rw [if_pos (by simp)] at hmore
  have HE1 := Lib.hid he1
  have HMO := Lib.hid hmore
  have HCH := Lib.hid hchk
  clear hk he1 hmore hchk
  go_enter Try.func5, Try.ntmps5
  repeat' ((fail_if_success at_builtin); (fail_if_success at_make); (first | go_values | go_skip | go_guarded | go_step | go_upon | go_back))
  refine ((HLST.out)).mono ?_; rintro e_ w1 ⟨v1, rfl, ho1, hb1⟩; dsimp only
  obtain ⟨Ao, co, rfl, hco, hro⟩ := Rd.of_own' ho1
  repeat' ((fail_if_success at_builtin); (fail_if_success at_make); (first | go_values | go_skip | go_guarded | go_step | go_upon | go_back))
  refine ((Encode_ok Ao x.length co x w1 rfl hco hro HCH.out)).mono ?_; rintro e_ w2 ⟨A2, c2, rfl, ho2, hb2⟩; dsimp only
  have hb12 := hb1.trans (hb2.mono hb1.size)
  have hr2 := ho2.rd
  have hcap2 := ho2.cap
  have hcm2 : c2 ≤ maxLen := by
    rcases ho2.own.2 with ⟨h1, h2⟩ | ⟨_, cap, _, h1, _, _, _, h2, _⟩
    · omega
    · injection h1 with _ _ h3; subst h3; exact h2
  have hc63 : (c2 : Int) ≤ 9223372036854775807 := by unfold maxLen at hcm2; omega
  have HL0 := Lib.hid (rfl : enc x = enc x)
  generalize hE : enc x = E at *
  have i4 : decide ((E.length : Int) < 4) = false := decide_eq_false (by omega)
  have i4' : decide (E.length < 4) = false := decide_eq_false (by omega)
  have ik0 : (0 : Int) ≤ (k : Int) := by omega
  have ikc : (k : Int) ≤ (c2 : Int) := by omega
  have hrk := hr2.pre (k := k) (by omega)
  rw [Nat.mul_one, bys_take] at hrk
  have htl : (E.take k).length = k := by rw [List.length_take]; omega
  clear ho2 hb2 ho1 hro hE HL0
  repeat' ((fail_if_success at_builtin); (fail_if_success at_make); (first | go_values | go_skip | go_guarded | go_step | go_upon | go_back))
  refine ((HP.out _)).mono ?_; rintro e_ _ ⟨rfl, rfl⟩; dsimp only
  repeat' ((fail_if_success at_builtin); (fail_if_success at_make); (first | go_values | go_skip | go_guarded | go_step | go_upon | go_back))
  have HD1 := Decode_ok A2 k c2 (E.take k) w2 htl (by omega) hcm2 hrk
  rw [HE1.out] at HD1
  have ie1 : ((e1 : Int) != 0) = true := by rw [bne_iff_ne]; omega
  have HIE := Lib.hid ie1
  clear he0 ie1 HE1 hrk htl
  refine ((HD1)).mono ?_; rintro e_ w3 ⟨v3, rfl, _, hb3⟩; dsimp only
  have hb13 := hb12.trans (hb3.mono hb12.size)
  have hr3 := hr2.below hb3
  have hE63 : E.length ≤ 140737488353280 := by omega
  clear HD1 hr2 hb12
  repeat' ((fail_if_success at_builtin); (fail_if_success at_make); (first | go_values | go_skip | go_guarded | go_step | go_upon | go_back))
  refine ((SClone_ok A2 E.length c2 E w3 rfl hcap2 hE63 hr3)).mono ?_; rintro e_ w4 ⟨v4, rfl, ho4, hb4⟩; dsimp only
  have hb14 := hb13.trans (hb4.mono hb13.size)
  have hs3 := hb13.size
  clear hb13 hr3
  repeat' ((fail_if_success at_builtin); (fail_if_success at_make); (first | go_values | go_skip | go_guarded | go_step | go_upon | go_back))
  refine wpList_apN rfl (.tmp 38) (.tmp 40) rfl elU8 (by rfl) ho4 (us := bys [y]) (m := 1) (by rfl) rfl (bys_one _) (by omega) hb4.size ?_
  intro v5 w5 ho5 hg5 _
  have hb15 := below_own hb14 ho4 hs3 hg5
  rw [← bys_app] at ho5
  obtain ⟨g5, cap5, cs5, rfl, _, _, hcap5, hcm5, _, _⟩ := own_exb5 ho5 (by omega)
  have hr5 := Rd.of_own ho5
  have HD2 := Decode_ok (some ⟨g5, 0, none⟩) (E.length + 1) cap5 (E ++ [y]) w5 (by rw [List.length_append]; rfl) hcap5 hcm5 hr5
  rw [HMO.out] at HD2
  clear HMO ho5 hg5 ho4 hb14 hr5
  generalize E ++ [y] = Ey at *
  repeat' ((fail_if_success at_builtin); (fail_if_success at_make); (first | go_values | go_skip | go_guarded | go_step | go_upon | go_back))
  have hie := HIE.out
  refine ((HD2)).mono ?_; rintro e_ w6 ⟨v6, rfl, _, hb6⟩; dsimp only
  rw [show ((3 : Nat) : Int) = 3 from rfl]
  repeat' ((fail_if_success at_builtin); (fail_if_success at_make); (first | go_values | go_skip | go_guarded | go_step | go_upon | go_back))
  go_ret
  exact ⟨rfl, hb15.trans (hb6.mono hb15.size)⟩
end Go.Proofs.Ytlejpmbofbghfaa
