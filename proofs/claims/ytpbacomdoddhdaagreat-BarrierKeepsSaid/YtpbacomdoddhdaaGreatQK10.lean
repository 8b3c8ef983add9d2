/- Lemmas of the proof. Conditions: as stated. -/
import Derived.Test.YtpbacomdoddhdaaGreatQK07
import Derived.Lib.AppendStr
set_option linter.unusedVariables false
set_option linter.unusedSimpArgs false
set_option maxRecDepth 20000
namespace Go.Proofs.YtpbacomdoddhdaaGreat
open Go.RowKit
theorem OwnB.lower {e : TypeId} {base b' : Nat} {w : World} {A : Option Addr} {c : Nat} {l : List UInt8} (h : OwnB e base w A c l) (hb : b' ≤ base) : OwnB e b' w A c l := ⟨zb h.own hb, h.cap⟩
def txt (l : List UInt8) : List UInt8 := num l.length ++ l
theorem V3 (l : List UInt8) (h : l.length ≤ 2000) : l.length + 1 ≤ (txt l).length ∧ (txt l).length ≤ l.length + 2 := by
 have := Y0 l.length 1 (by omega)
 simp only [txt, List.length_append]; omega
def xh (b : List UInt8) : List UInt8 × List UInt8 × Nat :=
 match zl b with
 | (n, rest, e) => if e ≠ 0 then ([], [], e) else if 2000 < n then ([], [], 1) else if rest.length < n then ([], [], 8) else (rest.take n, rest.drop n, 0)
theorem Z6 {A : Option Addr} {n c : Nat} {l : List UInt8} {w : World} {t rest : List UInt8} {er : Nat} (E : Int) (hE : er = E) (hrd : xh l = (t, rest, er)) (hl : l.length = n) (hc : n ≤ c) (hm : n ≤ 140737488353280) (hr : Rd w 1 A n (bys l)) :
  Calls Tryz.prog 222 #[.slice A n c] w fun e w' => ∃ A' c', e = .returned (.tuple #[.string ⟨t.toArray⟩, .slice A' rest.length c', .int .i64 E]) ∧
   OwnB 5 w.heap.size w' A' c' rest ∧ Below w.heap.size w w' := by
 subst hE
 obtain ⟨m, rs, en, hn⟩ : ∃ m rs en, zl l = (m, rs, en) := ⟨_, _, _, rfl⟩
 rw [xh, hn] at hrd
 dsimp only at hrd
 by_cases h0 : en = 0
 ·subst h0
  rw [if_neg (by omega)] at hrd
  have hinv := yu hn
  have hrl : rs.length ≤ n := by rw [← hl, hinv.2]; simp
  have hmb := hinv.1
  have HR := Lib.hid (kf 0 rfl hn hl hc hm hr)
  clear hn hinv
  by_cases h1 : 2000 < m
  ·rw [if_pos h1] at hrd
   cases hrd
   go_enter Tryz.func222, Tryz.ntmps222
   repeat' (fail_if_success (first|at_builtin|at_make));first|go_values|go_skip|go_guarded|go_step|go_upon|go_back
   refine ((HR.out)).mono ?_; rintro e_ w1 ⟨A1, c1, rfl, ho1, hb1⟩; dsimp only
   repeat' (fail_if_success (first|at_builtin|at_make));first|go_values|go_skip|go_guarded|go_step|go_upon|go_back
   go_ret3
   exact ⟨none, 0, rfl, OwnB.nil_ _ _ _, hb1⟩
  ·rw [if_neg h1] at hrd
   by_cases h2 : rs.length < m
   ·rw [if_pos h2] at hrd
    cases hrd
    go_enter Tryz.func222, Tryz.ntmps222
    repeat' (fail_if_success (first|at_builtin|at_make));first|go_values|go_skip|go_guarded|go_step|go_upon|go_back
    refine ((HR.out)).mono ?_; rintro e_ w1 ⟨A1, c1, rfl, ho1, hb1⟩; dsimp only
    repeat' (fail_if_success (first|at_builtin|at_make));first|go_values|go_skip|go_guarded|go_step|go_upon|go_back
    go_ret3
    exact ⟨none, 0, rfl, OwnB.nil_ _ _ _, hb1⟩
   ·rw [if_neg h2] at hrd
    simp only [Prod.mk.injEq] at hrd
    obtain ⟨h11, h12, h13⟩ := hrd; subst h11 h12 h13
    have hm0 : (0 : Int) ≤ (m : Int) := by omega
    have hm1 : (m : Int) ≤ (rs.length : Int) := by omega
    have hle : m ≤ rs.length := by omega
    go_enter Tryz.func222, Tryz.ntmps222
    repeat' (fail_if_success (first|at_builtin|at_make));first|go_values|go_skip|go_guarded|go_step|go_upon|go_back
    refine ((HR.out)).mono ?_; rintro e_ w1 ⟨A1, c1, rfl, ho1, hb1⟩; dsimp only
    have hc1 := ho1.cap
    have hlt : (rs.take m).length = m := by rw [List.length_take]; omega
    have hQ := fun (w2 : World) (hb : Below w1.heap.size w1 w2) => by
     have h := (ho1.rd.below hb).pre (k := m) hle
     rw [Nat.mul_one, Zp] at h
     exact jE (P := Tryz.prog) (c := c1) (src := 43) (dst := 9) Tryz.underlying43 Tryz.underlying5 Tryz.underlying9 hlt h
    have Q := Lib.hid hQ
    clear hQ hlt
    have HB := Lib.hid (Below.refl w1.heap.size w1).drew
    have hld : (rs.drop m).length = rs.length - m := by rw [List.length_drop]
    have HL := Lib.hid hld; clear hld
    rcases ho1.own.2 with ⟨hv, hz⟩ | ⟨g, _, _, hv, _⟩
    ·injection hv with hv1 hv2 hv3; subst hv1 hv3
     have hm2 : rs.length = 0 := by omega
     have hm3 : m = 0 := by omega
     subst hm3
     obtain rfl := List.length_eq_zero_iff.1 hm2
     clear hv2 hz hm2
     repeat' (fail_if_success (first|at_builtin|at_make));first|go_values|go_skip|go_guarded|go_step|go_upon|go_back
     go_region_held3 (fun w' => (convert 43 9 (.slice none 0 0)).run Tryz.prog w' = .ok (.string ⟨#[]⟩) w')
      (first | exact Q.out _ (by first | exact HB.out | exact HB.out.trans (hb5.mono HB.out.size)))
      (first | (go_at_call 157; refine (kJ none 0 0 [] _ rfl (Nat.le_refl _) (by omega) Rd.nil_).mono ?_; rintro e5 w5 ⟨v5, rfl, ho5, hb5⟩))
     repeat' (fail_if_success (first|at_builtin|at_make));first|go_values|go_skip|go_guarded|go_step|go_upon|go_back
     go_ret3
     obtain ⟨A6, c6, rfl, ho6⟩ := OwnB.of (l := []) rfl ho5
     exact ⟨A6, c6, rfl, ho6.lower (Nat.le_trans hb1.size HB.out.size), hb1.trans ((HB.out.trans (hb5.mono HB.out.size)).mono hb1.size)⟩
    ·injection hv with hv1 hv2 hv3; subst hv1; clear hv2 hv3
     have hr5 := ho1.rd.cutAt (c := c1) hle hc1
     rw [yp, Nat.zero_add] at hr5
     have hm4 : (m : Int) ≤ (c1 : Int) := by omega
     have HC := Lib.hid (kJ _ _ (c1 - m) _ w1.drew HL.out (by omega) (by omega) (hr5.below HB.out)); clear hr5
     repeat' (fail_if_success (first|at_builtin|at_make));first|go_values|go_skip|go_guarded|go_step|go_upon|go_back
     go_region_held3 (fun w' => (convert 43 9 (.slice (some ⟨g, 0, none⟩) m c1)).run Tryz.prog w' = .ok (.string ⟨(rs.take m).toArray⟩) w')
      (first | exact Q.out _ (by first | exact HB.out | exact HB.out.trans (hb5.mono HB.out.size)))
      (first | (go_at_call 157; refine (HC.out).mono ?_; rintro e5 w5 ⟨v5, rfl, ho5, hb5⟩; dsimp only))
     dsimp only [Exit.then]
     repeat' (fail_if_success (first|at_builtin|at_make));first|go_values|go_skip|go_guarded|go_step|go_upon|go_back
     go_ret3
     obtain ⟨A6, c6, rfl, ho6⟩ := OwnB.of HL.out ho5
     exact ⟨A6, c6, by simp, ho6.lower (Nat.le_trans hb1.size HB.out.size), hb1.trans ((HB.out.trans (hb5.mono HB.out.size)).mono hb1.size)⟩
 ·rw [if_pos (by omega)] at hrd
  simp only [Prod.mk.injEq] at hrd
  obtain ⟨h11, h12, h13⟩ := hrd; subst h11 h12 h13
  have HR := Lib.hid (kf _ rfl hn hl hc hm hr)
  have he1 : ((en : Int) != 0) = true := by rw [bne_iff_ne]; omega
  clear hn
  go_enter Tryz.func222, Tryz.ntmps222
  repeat' (fail_if_success (first|at_builtin|at_make));first|go_values|go_skip|go_guarded|go_step|go_upon|go_back
  refine ((HR.out)).mono ?_; rintro e_ w1 ⟨A1, c1, rfl, ho1, hb1⟩; dsimp only
  repeat' (fail_if_success (first|at_builtin|at_make));first|go_values|go_skip|go_guarded|go_step|go_upon|go_back
  go_ret3
  exact ⟨none, 0, rfl, OwnB.nil_ _ _ _, hb1⟩
theorem ZD : ∀ n, n < 16 → val (dig n) = n := by
 have key : ∀ n : Fin 16, val (dig n.val) = (n.val : Int) := by decide +kernel
 exact fun n h => key ⟨n, h⟩
theorem yI : ∀ l : List UInt8, yb (qU l) = some l
 | [] => rfl
 | x :: l => by
  have hx := x.toNat_lt
  have h1 := ZD (x.toNat / 16) (by omega)
  have h2 := ZD (x.toNat % 16) (by omega)
  show yb (dig (x.toNat / 16) :: dig (x.toNat % 16) :: qU l) = _
  rw [yb, if_neg (by omega), yI l, h1, h2]
  simp only [Option.map_some, Option.some.injEq, List.cons.injEq, and_true, Int.toNat_natCast]
  rw [Nat.div_add_mod]; exact UInt8.ofNat_toNat
theorem Qs (l : List UInt8) (h : l.length ≤ 2000) : kC (qU l) = (l, 0) := by
 have := k6 l
 rw [kC, if_neg (by omega), if_neg (by omega), yI]
theorem Yc (l : List UInt8) : hexC (qU l) = if l.length = 32 then 0 else 1 := by
 have := k6 l
 unfold hexC
 by_cases h : l.length = 32
 ·rw [if_neg (by omega), Qs l (by omega), if_pos h]
 ·rw [if_pos (by omega), if_neg h]
theorem zv (l : List UInt8) : hexC (shaS l) = 0 := by
 have := jt l
 rw [shaS, Yc, if_pos (by rw [uN, this])]
end Go.Proofs.YtpbacomdoddhdaaGreat
