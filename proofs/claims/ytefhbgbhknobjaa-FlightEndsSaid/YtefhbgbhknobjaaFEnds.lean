/- FlightEnds, walked. Conditions: the slice's size. -/
import Derived.Test.YtefhbgbhknobjaaFOne
import Derived.Test.YtefhbgbhknobjaaFErP
import Derived.Maps.RangeWalk
namespace Go.Proofs.Ytefhbgbhknobjaa
open Go.RowKit Go.Maps
set_option linter.unusedVariables false
set_option linter.unusedSimpArgs false
set_option maxRecDepth 100000

theorem Rd.iter {w w' : World} {r size n : Nat} {A : Option Addr} {xs : List Value} (h : Rd w size A n xs) (hg : w.grownBy w' (some r)) (hi : ∀ off, w.cell? ⟨r, off, none⟩ = none) : Rd w' size A n xs :=
  ⟨h.1, fun hn => by
    obtain ⟨b, off, rfl, hb, hc⟩ := h.2 hn
    refine ⟨b, off, rfl, Nat.lt_of_lt_of_le hb hg.size, fun j u hu => ?_⟩
    have h1 := hc j u hu
    have hne : b ≠ r := by rintro rfl; rw [hi] at h1; cases h1
    rw [← h1]
    exact World.cell?_of_block (hg.block b hb (fun e => hne (by injection e)))⟩
theorem Fls.iter {w w' : World} {r : Nat} {A : Option Addr} {fs : List FlP} (h : Fls w A fs) (hg : w.grownBy w' (some r)) (hi : ∀ off, w.cell? ⟨r, off, none⟩ = none) : Fls w' A fs := by
  obtain ⟨As, h1, h2, h3⟩ := h
  exact ⟨As, h1, h2.iter hg hi, fun k p a hp ha => ⟨(h3 k p a hp ha).1.iter hg hi, (h3 k p a hp ha).2⟩⟩

set_option maxHeartbeats 8000000 in
theorem FlightEnds_walk (A : Option Addr) (n c : Nat) (l : List RawP) (w : World) (hl : l.length = n) (hc : n ≤ c) (hm : c ≤ maxLen) (hok : ∀ r ∈ l, RawOk r) (hr : Rd w 4 A n (rcs l)) :
    Calls Try.prog 4 #[.slice A n c] w fun e w' => e = .returned (.bool true) ∧ Below w.heap.size w w' := by
  have HJ := Lib.hid (joined_ok A n c l w hl hc hm hok hr)
  clear hok hl hr
  go_enter Try.func4, Try.ntmps4
  repeat' ((fail_if_success at_builtin); (fail_if_success at_make); (first | go_values | go_skip | go_guarded | go_step | go_upon | go_back))
  refine ((HJ.out)).mono ?_; rintro e_ w1 ⟨fs, Af, cf, b, rfl, m, D, hm41, hcf, hcm, hfl, hG, hkeys, hwb, hown, hW, hb1⟩; dsimp only
  have hn6 := hG.len
  have hbw1 : b < w1.heap.size := groups_lt hown
  have hom : w1.ownsMap Try.prog 9 (rowElem w1 (b + 1) 3 .i64) b m D := by
    obtain ⟨es, clock, e1, e2, e3, e4, _⟩ := hown
    exact ⟨es, clock, e1, e2, e3, e4⟩
  obtain ⟨w0, hrun0, hrg0, hg0, hs0⟩ := hom.range keyed Try.underlying24
  have hb0 : Below w1.heap.size w1 w0 := ⟨hg0.os, hg0.tape, hg0.output, hg0.size, fun k hk => hg0.block k hk (by simp)⟩
  have HG := Lib.hid hG
  have HW := Lib.hid hW
  have HKS := Lib.hid hkeys
  have HFL := Lib.hid hfl
  have HOW := Lib.hid hown
  have hl0 : ∀ k, Maps.has D (.string k) = (fnd 0 fs k).isSome := hW.has
  have HLE := Lib.hid hl0
  have hz0 := hW.size
  rw [hz0] at hrg0
  clear hG hW hkeys hfl hown HJ hom hl0 hz0
  repeat' ((fail_if_success at_builtin); (fail_if_success at_make); (first | go_values | go_skip | go_guarded | go_step | go_upon | go_back))
  go_loopg [3, 6] fs.length (fun gn f nv wr => ∃ (cur : List FlP) (A : Option Addr) (c : Nat) (left : Lit → Bool), f = .slice A cur.length c ∧ nv = .int .i64 (cur.length : Int) ∧ cur.length ≤ c ∧ c ≤ maxLen ∧ Fls wr A cur ∧ GoodF cur ∧ wr.ranges Try.prog 9 (rowElem w1 (b + 1) 3 .i64) b w1.heap.size m D left gn ∧ (∀ k, left (.string k) = (fnd 0 cur k).isSome) ∧ (∀ k, (fnd 0 cur k).isSome = true → grp cur k = grp fs k) ∧ Below w1.heap.size w1 wr)
  case atStart => exact ⟨fs, Af, cf, _, rfl, rfl, hcf, hcm, HFL.out.below hb0, HG.out, hrg0, HLE.out, fun _ _ => rfl, hb0⟩
  case round =>
    clear hrg0 hrun0
    obtain ⟨cur, Ac, cc, left, rfl, rfl, hcc, hccm, hfl, hG, hrg, hleft, hgrp, hbel⟩ := hrel
    have hn6c := hG.len
    rcases hrg.next keyed 0 with ⟨h0, hlf, hrun⟩ | ⟨key, v, kl, y, w2, cnt2, hkey, hlk, hR, hat, hrun, hrg2, hlt, hg2, hsz, hen⟩
    · have hcn : cur = [] := by
        cases cur with
        | nil => rfl
        | cons p r =>
          have h1 := hleft p.key
          rw [hlf, fnd, if_pos rfl] at h1
          cases h1
      subst hcn
      clear hrg
      repeat' ((fail_if_success at_builtin); (fail_if_success at_make); (first | go_values | go_skip | go_guarded | go_step | go_upon | go_back))
      go_ret
      exact ⟨rfl, hb1.trans (hbel.mono hb1.size)⟩
    · obtain ⟨s, rfl, rfl, hss⟩ := WideMaps.string_of_keyOf Try.underlying9 hkey
      obtain ⟨zs, hoi, rfl⟩ := rowElem_inv hR
      have hb2 : Below w1.heap.size wr w2 := (Below.refl w1.heap.size wr).grown hg2 hbel.size (fun k hk => by cases hk; exact Nat.le_refl _)
      have hbel2 := hbel.trans hb2
      have hfl2 : Fls w2 Ac cur := hfl.iter hg2 (fun off => by
        obtain ⟨_, _, _, _, _, _, _, _, _, h5, _⟩ := hrg
        simp [World.cell?, h5])
      rw [hleft] at hlk
      cases hfn : fnd 0 cur s.data.toList with
      | none => rw [hfn] at hlk; cases hlk
      | some i =>
        obtain ⟨hi, hki⟩ := fnd_key0 hfn
        have hzs : zs = cur[i].lead :: cur[i].wait := by
          have h1 := hat .nil
          rw [HW.out.at_, ← hgrp _ hlk, grp_some hfn hi] at h1
          exact grp_of hoi h1
        have hzl : cur[i].wait.length + 1 = zs.length := by rw [hzs]; rfl
        have HE := Lib.hid (End_ok Ac cc cur s i w2 hG hfl2 hcc hccm hfn hi)
        rw [← hzs, hzl] at HE
        have hwt := hG.few i hi
        have hzsl : zs.length ≤ 6 := by omega
        have hGE := hG.erase i
        have hne := fnd_erase_same hG.nodup hi
        rw [hki] at hne
        have HLF := Lib.hid (show ∀ k, (left (.string k) && !(Lit.string k).sameKey (.string s.data.toList)) = (fnd 0 (cur.eraseIdx i) k).isSome from fun k => by
          by_cases hk : k = s.data.toList
          · subst hk
            rw [hne, WideAt.sameKey_self (strKey _)]; simp
          · rw [fnd_erase_other hi (by rw [hki]; exact hk), ← hleft]
            cases e : (Lit.string k).sameKey (.string s.data.toList) with
            | false => simp
            | true => exact absurd (by injection (WideAt.sameKey_eq e)) hk)
        have HGR := Lib.hid (show ∀ k, (fnd 0 (cur.eraseIdx i) k).isSome = true → grp (cur.eraseIdx i) k = grp fs k from fun k hk => by
          rw [grp_erase hG.nodup hk]
          refine hgrp k ?_
          by_cases hk2 : k = s.data.toList
          · subst hk2; rw [hne] at hk; cases hk
          · rw [← fnd_erase_other hi (by rw [hki]; exact hk2)]; exact hk)
        have hel : cur.length = (cur.eraseIdx i).length + 1 := by rw [List.length_eraseIdx_of_lt hi]; omega
        have hov := own_below hoi.1 hbel2
        generalize cur.eraseIdx i = ce at *
        clear hgrp hleft hlk hfn hki hzl hwt hzs hat hR hfl hrg hg2 hkey hG hi hfl2
        obtain ⟨V, cv, rfl, hvc, hrv⟩ := Rd.of_own' hov
        obtain ⟨q, hq⟩ : ∃ q, q = ce.length := ⟨_, rfl⟩
        have hGEl := hGE.len
        rw [hel] at HE hcc ⊢
        have hwq : IntKind.i64.wrap (((ce.length + 1 : Nat) : Int) - 1) = (ce.length : Int) := by rw [IntWalk.i64_in _ (by omega)]; omega
        have hwq2 : IntKind.i64.wrap ((ce.length : Int) + 1 - 1) = (ce.length : Int) := by rw [IntWalk.i64_in _ (by omega)]; omega
        have HBB := Lib.hid hbel2
        have HOI := Lib.hid hrv
        clear hov hoi hbel hel
        repeat' ((fail_if_success at_builtin); (fail_if_success at_make); (first | go_values | go_skip | go_guarded | go_step | go_upon | go_back))
        refine ((HE.out)).mono ?_; rintro e_ w3 ⟨x3, u3, rfl, hx3, hu3, hb3⟩; dsimp only
        have hcap := hx3.cap
        obtain ⟨A3, c3, rfl, hc3, hf3⟩ := hx3.fls
        have hcm3 := hcap _ _ _ rfl
        obtain ⟨U, cu, rfl, huc, hru⟩ := Rd.of_own' hu3
        have HN := Lib.hid (End_none A3 c3 ce s w3 hGE hf3 hc3 hcm3 hne)
        clear hx3 hu3 hcap
        repeat' ((fail_if_success at_builtin); (fail_if_success at_make); (first | go_values | go_skip | go_guarded | go_step | go_upon | go_back))
        refine ((HN.out)).mono ?_; rintro e_ w4 ⟨rfl, hb4⟩; dsimp only
        have heq := EqI_same U V cu cv zs w4 (by omega) (hru.below hb4) ((HOI.out.below hb3).below hb4)
        have HEQ := Lib.hid heq
        clear heq
        repeat' ((fail_if_success at_builtin); (fail_if_success at_make); (first | go_values | go_skip | go_guarded | go_step | go_upon | go_back))
        refine ((HEQ.out)).mono ?_; rintro e_ w5 ⟨rfl, ⟨q5, hq5⟩⟩; dsimp only
        have hb5 : Below w4.heap.size w4 w5 := by rw [hq5]; exact below_drewN (Below.refl _ _) q5
        have hb34 := hb3.trans (hb4.mono hb3.size)
        have hb35 := hb34.trans (hb5.mono hb34.size)
        have hrg5 := hrg2.kept (row := none) ⟨hb35.os, hb35.tape, hb35.output, hb35.size, fun k hk _ => hb35.block k hk⟩ (by simp) (by simp)
        have hf5 := (hf3.below hb4).below hb5
        have hb25 := HBB.out.trans (hb35.mono HBB.out.size)
        clear hq5 hb3 hb4 hb5 hb34 hb35 hrg2 hf3 HEQ HE HN
        repeat' ((fail_if_success at_builtin); (fail_if_success at_make); (first | go_values | go_skip | go_guarded | go_step | go_upon | go_back))
        go_roundg cnt2
        case measure => omega
        case rel => exact ⟨ce, A3, c3, _, rfl, rfl, hc3, hcm3, hf5, hGE, hrg5, HLF.out, HGR.out, hb25⟩
end Go.Proofs.Ytefhbgbhknobjaa
