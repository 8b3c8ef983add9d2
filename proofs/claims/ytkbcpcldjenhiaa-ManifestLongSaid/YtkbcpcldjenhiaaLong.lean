/- The walk of ManifestLong. Conditions: the sizes. -/
import Derived.Test.YtkbcpcldjenhiaaMPl
namespace Go.Proofs.Ytkbcpcldjenhiaa
open Go.RowKit
set_option linter.unusedVariables false
set_option linter.unusedSimpArgs false
set_option maxRecDepth 100000

theorem Rd.cut3 {w : World} {g n cap k : Nat} {x : List PartP} (h : Rd w 3 (some ⟨g, 0, none⟩) n (pcs x)) (hk : k ≤ n) (hc : n ≤ cap) :
    Rd w 3 (if cap = k then some ⟨g, 0, none⟩ else some ⟨g, k * 3, none⟩) (n - k) (pcs (x.drop k)) := by
  have h1 := h.cut (k := k) (cap := cap) hk hc
  rw [pcs_drop] at h1
  simp only [Option.map_some] at h1
  rw [show ((⟨g, 0, none⟩ : Addr).add (k * 3)) = ⟨g, k * 3, none⟩ by unfold Addr.add; split <;> simp_all] at h1
  exact h1
theorem str_cut {w : World} {A : Option Addr} {c : Nat} {l : List UInt8} {base : Nat} (ho : OwnB 5 base w A c l) (h4 : 4 ≤ l.length) : ∃ g, A = some ⟨g, 0, none⟩ ∧ base ≤ g ∧ l.length ≤ c ∧ c ≤ maxLen ∧ ∀ w', Below w.heap.size w w' →
    (convert 22 9 (.slice (if c = 4 then some ⟨g, 0, none⟩ else some ⟨g, 4, none⟩) (l.length - 4) (c - 4))).run Try.prog w' = .ok (.string ⟨(l.drop 4).toArray⟩) w' := by
  rcases ho.own.2 with ⟨hv, hz⟩ | ⟨g, cap, cur, hv, hgb, hgc, hncap, hcm, _⟩
  · omega
  · injection hv with e1 e2 e3
    subst e1 e3
    refine ⟨g, rfl, hgb, hncap, hcm, fun w' hb => ?_⟩
    have h1 := (ho.rd.below hb).cutAt (k := 4) (c := c) h4 hncap
    rw [bys_drop, Nat.zero_add] at h1
    exact run_str (P := Try.prog) (c := c - 4) (src := 22) (dst := 9) Try.underlying22 Try.underlying5 Try.underlying9 (by rw [List.length_drop]) h1

theorem ManifestLong_walk (A : Option Addr) (n c : Nat) (l : List RawP) (m : Int) (w : World) (hl : l.length = n) (hc : n ≤ c) (hm : c ≤ maxLen) (hok : ∀ r ∈ l, RawOk r) (hr : Rd w 4 A n (rcs l)) (hm0 : -9223372036854775808 ≤ m) (hm1 : m ≤ 9223372036854775807) :
    Calls Try.prog 7 #[.slice A n c, .int .i64 m] w fun e w' => e = .returned (.bool true) ∧ Below w.heap.size w w' := by
  have HLST := Lib.hid (listed_ok A n c l w hl hc hm hok hr)
  have hx8 := lst_le l
  have hchk := chk_lst l
  clear hl hok hr
  generalize lst l = x at *
  obtain ⟨k, hk⟩ : ∃ k, k = pk m (x.length + 1) := ⟨_, rfl⟩
  have hkx : k ≤ x.length := by rw [hk]; have := pk_lt m (m := x.length + 1) (by omega); omega
  have HP := Lib.hid (fun w' => Picked_ok m (x.length + 1) ((x.length : Int) + 1) (by omega) w' hm0 hm1 (by omega) (by omega))
  rw [← hk] at HP
  have hct := chk_take hchk k
  have hcd := chk_drop hchk k
  have hla := enc_length (x.take k) (by rw [List.length_take]; omega)
  have hlb := enc_length (x.drop k) (by rw [List.length_drop]; omega)
  have hlc := enc_length x hx8
  have hda := enc_drop4 (x.take k) (by rw [List.length_take]; omega)
  have hdb := enc_drop4 (x.drop k) (by rw [List.length_drop]; omega)
  have hdc := enc_drop4 x hx8
  rw [flat_split x k, ← hda, ← hdb] at hdc
  have hlen : (enc x).length + 4 = (enc (x.take k)).length + (enc (x.drop k)).length := by
    have := congrArg List.length (flat_split x k); rw [List.length_append] at this; omega
  have hbc := flat_len x (chk_zero hchk).2
  have hbt := flat_len (x.take k) (chk_zero hct).2
  have hbd := flat_len (x.drop k) (chk_zero hcd).2
  rw [List.length_take] at hbt
  rw [List.length_drop] at hbd
  have ha4 : 4 ≤ (enc (x.take k)).length := by omega
  have hb4' : 4 ≤ (enc (x.drop k)).length := by omega
  have hc4' : 4 ≤ (enc x).length := by omega
  have hsm : (enc x).length ≤ 1000 := by omega
  have hsa : (enc (x.take k)).length ≤ 1000 := by omega
  have hsb : (enc (x.drop k)).length ≤ 1000 := by omega
  have hxal : (x.take k).length = k := by rw [List.length_take]; omega
  have hxbl : (x.drop k).length = x.length - k := by rw [List.length_drop]
  generalize hxa' : x.take k = xa at *
  generalize hxb' : x.drop k = xb at *
  have hxa := hxa'.symm
  have hxb := hxb'.symm
  clear hxa' hxb'
  have HXA := Lib.hid hxa
  have HXB := Lib.hid hxb
  have HXAL := Lib.hid hxal
  have HXBL := Lib.hid hxbl
  clear hxa hxb hxal hxbl
  have HX := Lib.hid (And.intro hchk (And.intro hct hcd))
  have HY := Lib.hid (And.intro hdc hlen)
  have HK := Lib.hid hk
  clear hchk hct hcd hdc hlen hda hdb hk hla hlb hlc hbc hbt hbd
  go_enter Try.func7, Try.ntmps7
  repeat' ((fail_if_success at_builtin); (fail_if_success at_make); (first | go_values | go_skip | go_guarded | go_step | go_upon | go_back))
  refine ((HLST.out)).mono ?_; rintro e_ w1 ⟨v1, rfl, ho1, hb1⟩; dsimp only
  rcases ho1.2 with ⟨rfl, hz⟩ | ⟨g, cap, cur, rfl, hgb, hgc, hncap, hcm, _⟩
  · have hk0 : k = 0 := by omega
    have hz0 : x.length = 0 := hz
    subst hk0
    have hpa : pcs xa = [] := by have : xa = [] := List.eq_nil_of_length_eq_zero HXAL.out; rw [this]; rfl
    have hpb : pcs xb = [] := by have : xb = [] := List.eq_nil_of_length_eq_zero (by rw [HXBL.out]; omega); rw [this]; rfl
    have hpx : pcs x = [] := by have : x = [] := List.eq_nil_of_length_eq_zero hz; rw [this]; rfl
    have HPA := Lib.hid hpa
    have HPB := Lib.hid hpb
    have HPX := Lib.hid hpx
    have HZ0 := Lib.hid hz0
    have HP0 := HP.out
    rw [hz0] at HP0
    have HPP := Lib.hid HP0
    clear hpa hpb hpx hz0 hz HP0 HP
    repeat' ((fail_if_success at_builtin); (fail_if_success at_make); (first | go_values | go_skip | go_guarded | go_step | go_upon | go_back))
    refine ((HPP.out _)).mono ?_; rintro e_ _ ⟨rfl, rfl⟩; dsimp only
    repeat' ((fail_if_success at_builtin); (fail_if_success at_make); (first | go_values | go_skip | go_guarded | go_step | go_upon | go_back))
    refine ((Encode_ok none 0 0 xa _ HXAL.out (by omega) (by rw [HPA.out]; exact Rd.nil_) HX.out.2.1)).mono ?_; rintro e_ w2 ⟨A2, c2, rfl, ho2, hb2⟩; dsimp only
    have hb12 := hb1.trans (hb2.mono hb1.size)
    repeat' ((fail_if_success at_builtin); (fail_if_success at_make); (first | go_values | go_skip | go_guarded | go_step | go_upon | go_back))
    refine ((Encode_ok none 0 0 xb _ (by rw [HXBL.out, HZ0.out]) (by omega) (by rw [HPB.out]; exact Rd.nil_) HX.out.2.2)).mono ?_; rintro e_ w3 ⟨A3, c3, rfl, ho3, hb3⟩; dsimp only
    have hb13 := hb12.trans (hb3.mono hb12.size)
    have hr3 : True := trivial
    repeat' ((fail_if_success at_builtin); (fail_if_success at_make); (first | go_values | go_skip | go_guarded | go_step | go_upon | go_back))
    refine ((Encode_ok none 0 0 x _ HZ0.out (by omega) (by rw [HPX.out]; exact Rd.nil_) HX.out.1)).mono ?_; rintro e_ w4 ⟨A4, c4, rfl, ho4, hb4⟩; dsimp only
    have hb14 := hb13.trans (hb4.mono hb13.size)
    obtain ⟨g2, rfl, _, hc2, hm2, hs2⟩ := str_cut ho2 (by omega)
    obtain ⟨g3, rfl, _, hc3, hm3, hs3⟩ := str_cut ho3 (by omega)
    obtain ⟨g4, rfl, _, hc4, hm4, hs4⟩ := str_cut ho4 (by omega)
    have hbb := (Below.refl w4.heap.size w4)
    have h2 := fun nq => hs2 (w4.drewN nq) (bdrewN (hb3.trans (hb4.mono hb3.size)) nq)
    have h3 := fun nq => hs3 (w4.drewN nq) (bdrewN hb4 nq)
    have h4 := fun nq => hs4 (w4.drewN nq) (bdrewN hbb nq)
    have hlen := HY.out.2
    rw [HY.out.1] at h4
    clear hs2 hs3 hs4 ho2 ho3 ho4 hr3 hb2 hb3 hb4 hbb
    have hsla : ((enc xa).drop 4).length ≤ 1000 := by rw [List.length_drop]; omega
    have hslb : ((enc xb).drop 4).length ≤ 1000 := by rw [List.length_drop]; omega
    have hadd := fun w' => run_string_add_lists (P := Try.prog) (w := w') ((enc xa).drop 4) ((enc xb).drop 4) (by omega) (by omega)
    generalize (enc xa).drop 4 = sa at *
    generalize (enc xb).drop 4 = sb at *
    generalize (enc xa).length = la at *
    generalize (enc xb).length = lb at *
    generalize (enc x).length = lc at *
    have hge : decide (4 ≤ (la : Int)) = true := by simp; omega
    have heq : ((lc : Int) == (la : Int) + (lb : Int) - 4) = true := by rw [beq_iff_eq]; omega
    have k2 : (4 : Int) ≤ (la : Int) := by omega
    have k3 : (4 : Int) ≤ (lb : Int) := by omega
    have k4 : (4 : Int) ≤ (lc : Int) := by omega
    have l2 : (la : Int) ≤ (c2 : Int) := by omega
    have l3 : (lb : Int) ≤ (c3 : Int) := by omega
    have l4 : (lc : Int) ≤ (c4 : Int) := by omega
    have i2 : (4 : Int) ≤ (c2 : Int) := by omega
    have i3 : (4 : Int) ≤ (c3 : Int) := by omega
    have i4 : (4 : Int) ≤ (c4 : Int) := by omega
    have j2 : (c2 : Int) ≤ 9223372036854775807 := by unfold maxLen at hm2; omega
    have j3 : (c3 : Int) ≤ 9223372036854775807 := by unfold maxLen at hm3; omega
    have j4 : (c4 : Int) ≤ 9223372036854775807 := by unfold maxLen at hm4; omega
    have w1' : IntKind.i64.wrap ((la : Int) + (lb : Int)) = (la : Int) + (lb : Int) := IntWalk.i64_in _ (by omega)
    have w2' : IntKind.i64.wrap ((la : Int) + (lb : Int) - 4) = (la : Int) + (lb : Int) - 4 := IntWalk.i64_in _ (by omega)
    clear hlen
    repeat' ((fail_if_success at_builtin); (fail_if_success at_make); (first | go_values | go_skip | go_guarded | go_step | go_upon | go_back))
    go_quiet (fail)
    repeat' ((fail_if_success at_builtin); (fail_if_success at_make); (first | go_values | go_skip | go_guarded | go_step | go_upon | go_back))
    go_ret
    exact ⟨rfl, bdrewN hb14 _⟩
  · have hr1 := Rd.of_own ho1
    have hcmi : (cap : Int) ≤ 9223372036854775807 := by unfold maxLen at hcm; omega
    have hki : (k : Int) ≤ (cap : Int) := by omega
    have hki2 : (k : Int) ≤ (x.length : Int) := by omega
    have hki0 : (0 : Int) ≤ (k : Int) := by omega
    clear hgc ho1 hcm
    repeat' ((fail_if_success at_builtin); (fail_if_success at_make); (first | go_values | go_skip | go_guarded | go_step | go_upon | go_back))
    refine ((HP.out _)).mono ?_; rintro e_ _ ⟨rfl, rfl⟩; dsimp only
    repeat' ((fail_if_success at_builtin); (fail_if_success at_make); (first | go_values | go_skip | go_guarded | go_step | go_upon | go_back))
    have hrt := hr1.pre hkx
    rw [pcs_take, ← HXA.out] at hrt
    refine ((Encode_ok _ k cap xa _ HXAL.out (by omega) hrt HX.out.2.1)).mono ?_; rintro e_ w2 ⟨A2, c2, rfl, ho2, hb2⟩; dsimp only
    have hb12 := hb1.trans (hb2.mono hb1.size)
    have hr2 := hr1.below hb2
    clear hrt hr1 hb1
    repeat' ((fail_if_success at_builtin); (fail_if_success at_make); (first | go_values | go_skip | go_guarded | go_step | go_upon | go_back))
    refine ((Encode_ok _ (x.length - k) (cap - k) xb _ HXBL.out (by omega) (by rw [HXB.out]; exact hr2.cut3 hkx hncap) HX.out.2.2)).mono ?_; rintro e_ w3 ⟨A3, c3, rfl, ho3, hb3⟩; dsimp only
    have hb13 := hb12.trans (hb3.mono hb12.size)
    have hr3 := hr2.below hb3
    clear hr2 hb12
    repeat' ((fail_if_success at_builtin); (fail_if_success at_make); (first | go_values | go_skip | go_guarded | go_step | go_upon | go_back))
    refine ((Encode_ok _ x.length cap x _ rfl hncap hr3 HX.out.1)).mono ?_; rintro e_ w4 ⟨A4, c4, rfl, ho4, hb4⟩; dsimp only
    have hb14 := hb13.trans (hb4.mono hb13.size)
    obtain ⟨g2, rfl, _, hc2, hm2, hs2⟩ := str_cut ho2 (by omega)
    obtain ⟨g3, rfl, _, hc3, hm3, hs3⟩ := str_cut ho3 (by omega)
    obtain ⟨g4, rfl, _, hc4, hm4, hs4⟩ := str_cut ho4 (by omega)
    have hbb := (Below.refl w4.heap.size w4)
    have h2 := fun nq => hs2 (w4.drewN nq) (bdrewN (hb3.trans (hb4.mono hb3.size)) nq)
    have h3 := fun nq => hs3 (w4.drewN nq) (bdrewN hb4 nq)
    have h4 := fun nq => hs4 (w4.drewN nq) (bdrewN hbb nq)
    have hlen := HY.out.2
    rw [HY.out.1] at h4
    clear hs2 hs3 hs4 ho2 ho3 ho4 hr3 hb2 hb3 hb4 hbb
    have hsla : ((enc xa).drop 4).length ≤ 1000 := by rw [List.length_drop]; omega
    have hslb : ((enc xb).drop 4).length ≤ 1000 := by rw [List.length_drop]; omega
    have hadd := fun w' => run_string_add_lists (P := Try.prog) (w := w') ((enc xa).drop 4) ((enc xb).drop 4) (by omega) (by omega)
    generalize (enc xa).drop 4 = sa at *
    generalize (enc xb).drop 4 = sb at *
    generalize (enc xa).length = la at *
    generalize (enc xb).length = lb at *
    generalize (enc x).length = lc at *
    have hge : decide (4 ≤ (la : Int)) = true := by simp; omega
    have heq : ((lc : Int) == (la : Int) + (lb : Int) - 4) = true := by rw [beq_iff_eq]; omega
    have k2 : (4 : Int) ≤ (la : Int) := by omega
    have k3 : (4 : Int) ≤ (lb : Int) := by omega
    have k4 : (4 : Int) ≤ (lc : Int) := by omega
    have l2 : (la : Int) ≤ (c2 : Int) := by omega
    have l3 : (lb : Int) ≤ (c3 : Int) := by omega
    have l4 : (lc : Int) ≤ (c4 : Int) := by omega
    have i2 : (4 : Int) ≤ (c2 : Int) := by omega
    have i3 : (4 : Int) ≤ (c3 : Int) := by omega
    have i4 : (4 : Int) ≤ (c4 : Int) := by omega
    have j2 : (c2 : Int) ≤ 9223372036854775807 := by unfold maxLen at hm2; omega
    have j3 : (c3 : Int) ≤ 9223372036854775807 := by unfold maxLen at hm3; omega
    have j4 : (c4 : Int) ≤ 9223372036854775807 := by unfold maxLen at hm4; omega
    have w1' : IntKind.i64.wrap ((la : Int) + (lb : Int)) = (la : Int) + (lb : Int) := IntWalk.i64_in _ (by omega)
    have w2' : IntKind.i64.wrap ((la : Int) + (lb : Int) - 4) = (la : Int) + (lb : Int) - 4 := IntWalk.i64_in _ (by omega)
    clear hlen
    repeat' ((fail_if_success at_builtin); (fail_if_success at_make); (first | go_values | go_skip | go_guarded | go_step | go_upon | go_back))
    go_quiet (fail)
    repeat' ((fail_if_success at_builtin); (fail_if_success at_make); (first | go_values | go_skip | go_guarded | go_step | go_upon | go_back))
    go_ret
    exact ⟨rfl, bdrewN hb14 _⟩
end Go.Proofs.Ytkbcpcldjenhiaa
