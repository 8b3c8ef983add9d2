/- FlightOne, walked. Conditions: the slice's size. -/
import Derived.Test.YtefhbgbhknobjaaJnd
import Derived.Test.YtefhbgbhknobjaaJnL
import Derived.Deep.QuietTactic
import Derived.BigQuiet
namespace Go.Proofs.Ytefhbgbhknobjaa
open Go.RowKit Go.Maps
set_option linter.unusedVariables false
set_option linter.unusedSimpArgs false
set_option maxRecDepth 100000

theorem fnd_of : ∀ (fs : List FlP) (i k : Nat) (hk : k < fs.length), fnd i (fs.take k) fs[k].key = none → fnd i fs fs[k].key = some (i + k)
  | f :: fs, i, 0, hk, _ => by
    rw [fnd, if_pos (by simp)]; rfl
  | f :: fs, i, k + 1, hk, h => by
    rw [List.take_succ_cons, fnd] at h
    simp only [List.getElem_cons_succ] at h ⊢
    split at h
    · cases h
    · rename_i hne
      rw [fnd, if_neg hne, fnd_of fs (i + 1) k (by simpa using hk) h, show i + 1 + k = i + (k + 1) by omega]
theorem EqI_same (A B : Option Addr) (c d : Nat) (l : List Int) (w : World) (hn : l.length ≤ 9223372036854775807) (h1 : Rd w 1 A l.length (ins l)) (h2 : Rd w 1 B l.length (ins l)) :
    Calls Try.prog 8 #[.slice A l.length c, .slice B l.length d] w fun e w' => e = .returned (.bool true) ∧ ∃ q, w' = w.drewN q := by
  rcases Nat.eq_zero_or_pos l.length with h0 | h0
  · rw [h0]
    refine (Try.slices_Equal_int_empty A B c 0 d w (by omega)).mono ?_
    rintro e w' ⟨rfl, rfl⟩
    exact ⟨by simp, 0, rfl⟩
  · obtain ⟨b1, o1, rfl, _, hc1⟩ := h1.2 (by omega)
    obtain ⟨b2, o2, rfl, _, hc2⟩ := h2.2 (by omega)
    have hg : ∀ j, j < l.length → (ins l)[j]? = some (.int .i64 (l.getD j 0)) := fun j hj => by
      rw [ins, List.getElem?_map, List.getElem?_eq_getElem hj, List.getD_eq_getElem?_getD, List.getElem?_eq_getElem hj]; rfl
    refine (Try.slices_Equal_int b1 o1 l.length c b2 o2 l.length d l l w (Nat.le_refl _) (Nat.le_refl _) hn hn (fun j hj => hc1 j _ (hg j hj)) (fun j hj => hc2 j _ (hg j hj))).mono ?_
    rintro e w' ⟨rfl, h⟩
    exact ⟨by simp, h⟩

set_option maxHeartbeats 8000000 in
theorem FlightOne_walk (A : Option Addr) (n c : Nat) (l : List RawP) (w : World) (hl : l.length = n) (hc : n ≤ c) (hm : c ≤ maxLen) (hok : ∀ r ∈ l, RawOk r) (hr : Rd w 4 A n (rcs l)) :
    Calls Try.prog 3 #[.slice A n c] w fun e w' => e = .returned (.bool true) ∧ Below w.heap.size w w' := by
  have HJ := Lib.hid (joined_ok A n c l w hl hc hm hok hr)
  clear hok hl hr
  go_enter Try.func3, Try.ntmps3
  repeat' ((fail_if_success at_builtin); (fail_if_success at_make); (first | go_values | go_skip | go_guarded | go_step | go_upon | go_back))
  refine ((HJ.out)).mono ?_; rintro e_ w1 ⟨fs, Af, cf, b, rfl, m, D, hm41, hcf, hcm, hfl, hG, hkeys, hwb, hown, hW, hb1⟩; dsimp only
  have HCK := Lib.hid (FCheck_ok Af cf fs w1 hG hfl hcf hcm)
  have hn6 := hG.len
  have HG := Lib.hid hG
  have HW := Lib.hid hW
  have HKS := Lib.hid hkeys
  have HFL := Lib.hid hfl
  have HOW := Lib.hid hown
  clear hG hW hkeys hfl hown HJ
  repeat' ((fail_if_success at_builtin); (fail_if_success at_make); (first | go_values | go_skip | go_guarded | go_step | go_upon | go_back))
  refine ((HCK.out)).mono ?_; rintro e_ w2 ⟨rfl, hb2⟩; dsimp only
  have hown2 := groups_below HOW.out hb2
  have hlen : ∀ ty, (Builtin.len_ #[24] ty #[.map (some b)]).run Try.prog w2 = .ok (.int .i64 (fs.length : Int)) w2 := fun ty => by
    obtain ⟨es, clock, e1, e2, e3, e4, _⟩ := hown2
    have hom : w2.ownsMap Try.prog 9 (rowElem w2 (b + 1) 3 .i64) b m D := ⟨es, clock, e1, e2, e3, e4⟩
    rw [hom.len Try.underlying24 ty, HW.out.size]
  have hfl2 := HFL.out.below hb2
  have hb12 := hb1.trans (hb2.mono hb1.size)
  have HOW2 := Lib.hid hown2
  clear hown2
  repeat' ((fail_if_success at_builtin); (fail_if_success at_make); (first | go_values | go_skip | go_guarded | go_step | go_upon | go_back))
  have hcm63 : (cf : Int) ≤ 9223372036854775807 := by unfold maxLen at hcm; omega
  go_loopg [30] fs.length (fun gn i wr => ∃ j : Nat, gn = fs.length - j ∧ i = .int .i64 j ∧ j ≤ fs.length ∧ Below w2.heap.size w2 wr)
  case atStart => exact ⟨0, rfl, rfl, by omega, Below.refl _ _⟩
  case round =>
    obtain ⟨j, hgk, rfl, hj, hbl⟩ := hrel
    have HGK := Lib.hid hgk
    clear hgk
    by_cases hlt : j < fs.length
    · have hcc : decide (j < fs.length) = true := decide_eq_true hlt
      have hfl := hfl2.below hbl
      obtain ⟨g, off, B, cb, rfl, hbb, c0, c1, c2, hrw, hwc, hcbm⟩ := hfl.at_ j hlt
      have hown := groups_below HOW2.out hbl
      obtain ⟨hk, hk1⟩ := HG.out.key j hlt
      have hfw := HG.out.few j hlt
      obtain ⟨j7, hj7, hkj⟩ := HKS.out fs[j] (List.getElem_mem hlt)
      have hfn : fnd 0 fs fs[j].key = some j := by
        have := fnd_of fs 0 j hlt (HG.out.one j hlt)
        rwa [Nat.zero_add] at this
      have hat := HW.out.at_ fs[j].key
      rw [grp_some hfn hlt] at hat
      have hk64 : fs[j].key.length = 64 := by rw [hkj, keyS, shaS_len]
      have hko := hkey_ok fs[j].key hk64
      obtain ⟨V, zs, hrun, hat2, hoi, hzl⟩ := groups_look Try.underlying9 keyed Try.underlying24 zeroI hown (by unfold maxLen; omega) hko
      have hzs := grp_of hoi (hat.symm.trans hat2)
      obtain ⟨gv, cv, cs, rfl, hgb, hA, hnc, hcm5, hcl, hct⟩ := own_ex hoi.1 (by rw [hzs]; simp)
      have hrv := Rd.of_own hoi.1
      have hzl2 : zs.length = fs[j].wait.length + 1 := by rw [hzs]; rfl
      obtain ⟨s, hs⟩ : ∃ s : ByteArray, s = ⟨fs[j].key.toArray⟩ := ⟨_, rfl⟩
      rw [← hs] at c0 hrun
      generalize fs[j].lead = ld at *
      generalize fs[j].wait = wt at *
      have hv0 : wr.cell? ⟨gv, 0, none⟩ = some (.int .i64 ld) := by
        refine hA.cell (k := 0) ?_
        have h0 : (cs.take (zs.length * 1))[0]? = some (.int .i64 ld) := by rw [hct, hzs]; rfl
        rw [List.getElem?_take] at h0
        split at h0
        · exact h0
        · cases h0
      have hrest : Rd wr 1 (if cv = 1 then some ⟨gv, 0, none⟩ else some ⟨gv, 1, none⟩) wt.length (ins wt) := by
        have h1 := hrv.cutAt (k := 1) (c := cv) (by omega) (by omega)
        rw [hzs] at h1
        simpa [ins] using h1
      have hwl : wt.length ≤ 9223372036854775807 := by omega
      have hap := Arr.new wr 31 [.string s, .int .i64 ld, .slice B wt.length cb]
      have hba := (Below.refl wr.heap.size wr).alloc (Nat.le_refl _) (.cells #[.string s, .int .i64 ld, .slice B wt.length cb] 31)
      have hbla := hbl.alloc hbl.size (.cells #[.string s, .int .i64 ld, .slice B wt.length cb] 31)
      have hbb2 : b < wr.heap.size := groups_lt hown
      have HJ0 := Lib.hid (And.intro (show (0 : Int) ≤ (j : Int) by omega) (And.intro (show (j : Int) < (fs.length : Int) by omega) (show (j : Int) ≤ (cf : Int) by omega)))
      obtain ⟨hj0, hj1, hj2⟩ := HJ0.out
      clear HJ0
      have hP : Arr (wr.alloc (.cells #[.string s, .int .i64 ld, .slice B wt.length cb] 31)) wr.heap.size 31 [.string s, .int .i64 ld, .slice B wt.length cb] := hap
      have hl1 : ∀ q, (Instr.lookup 24 (.map (some b)) (.string s) false).run Try.prog ((wr.alloc (.cells #[.string s, .int .i64 ld, .slice B wt.length cb] 31)).drewN q) = .ok (.slice (some ⟨gv, 0, none⟩) (wt.length + 1) cv) ((wr.alloc (.cells #[.string s, .int .i64 ld, .slice B wt.length cb] 31)).drewN q) := fun q => by
        rw [← hzl2]
        exact hrun _ (Below.heap_alloc _ _ _ hbb2)
      have hv1 : (wr.alloc (.cells #[.string s, .int .i64 ld, .slice B wt.length cb] 31)).cell? ⟨gv, 0, none⟩ = some (.int .i64 ld) := by
        rw [hba.cell (p := ⟨gv, 0, none⟩) hA.lt]; exact hv0
      have HEQ := Lib.hid (fun q => EqI_same B (if cv = 1 then some ⟨gv, 0, none⟩ else some ⟨gv, 1, none⟩) cb (cv - 1) wt ((wr.alloc (.cells #[.string s, .int .i64 ld, .slice B wt.length cb] 31)).drewN q) hwl (hrw.below (below_drewN hba q)) (hrest.below (below_drewN hba q)))
      clear hap hrun hat hat2 hoi hzl hzs hA hcl hct hrv hs hrest hrw hown hfl hfn hko hba hv0
      have f0 := hP.cell (k := 0) rfl
      have f1 := hP.cell (k := 1) rfl
      have f2 := hP.cell (k := 2) rfl
      repeat' ((fail_if_success at_builtin); (fail_if_success at_make); (first | go_values | go_skip | go_guarded | go_step | go_upon | go_back))
      clear c0 c1 c2 hP
      generalize wr.alloc (.cells #[.string s, .int .i64 ld, .slice B wt.length cb] 31) = wa at *
      generalize wr.heap.size = gp at *
      have i0 : (0 : Int) < ((wt.length + 1 : Nat) : Int) := by omega
      have i1 : (1 : Int) ≤ ((wt.length + 1 : Nat) : Int) := by omega
      have i2 : ((wt.length + 1 : Nat) : Int) ≤ (cv : Int) := by omega
      have i3 : (0 : Int) ≤ (1 : Int) := by omega
      go_quiet ((go_at_call 8; refine Calls.quiet_of (HEQ.out _)))
      dsimp only [Exit.then]
      have hbn := below_drewN hbla nq
      repeat' ((fail_if_success at_builtin); (fail_if_success at_make); (first | go_values | go_skip | go_guarded | go_step | go_upon | go_back))
      go_roundg (fs.length - (j + 1))
      case measure => have := HGK.out; omega
      case rel => exact ⟨j + 1, rfl, by go_num, by omega, hbn⟩
    · obtain rfl : j = fs.length := by omega
      have hcc : decide (fs.length < fs.length) = false := by simp
      repeat' ((fail_if_success at_builtin); (fail_if_success at_make); (first | go_values | go_skip | go_guarded | go_step | go_upon | go_back))
      go_ret
      exact ⟨rfl, hb12.trans (hbl.mono hb12.size)⟩
end Go.Proofs.Ytefhbgbhknobjaa
