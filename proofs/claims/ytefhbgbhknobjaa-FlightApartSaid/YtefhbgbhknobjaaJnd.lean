/- joined. Conditions: the slice's size. -/
import Derived.Test.YtefhbgbhknobjaaJnP
import Derived.Test.YtefhbgbhknobjaaHexP
namespace Go.Proofs.Ytefhbgbhknobjaa
open Go.RowKit Go.Maps
set_option linter.unusedVariables false
set_option linter.unusedSimpArgs false
set_option maxRecDepth 100000

theorem wfI {n : Int} (h1 : -9223372036854775808 ≤ n) (h2 : n ≤ 9223372036854775807) : (Lit.int .i64 n).wf = true := by
  simp only [Lit.wf, IntKind.min, IntKind.max, IntKind.signed, IntKind.bits, Bool.and_eq_true, decide_eq_true_eq, if_true]
  omega
theorem zeroI (w : World) : (zeroValue 29).run Try.prog w = .ok (.slice none 0 0) w := by kernel_rfl
theorem hkey_ok (l : List UInt8) (h : l.length = 64) : keyOf Try.prog 9 (.string ⟨l.toArray⟩) = some (.string l) := by
  have h1 := WideMaps.keyOf_string_mk (P := Try.prog) (k := 9) Try.underlying9 (s := ⟨l.toArray⟩) (by show l.toArray.size ≤ _; rw [List.size_toArray, h]; decide)
  simpa using h1
theorem keyed : Keyed Try.prog 9 := Keyed.of_law (WideMaps.string_law Try.underlying9)
theorem FlsO.cap {w : World} {base : Nat} {v : Value} {fs : List FlP} (h : FlsO w base v fs) : ∀ A n c, v = .slice A n c → c ≤ maxLen := by
  rintro A n c rfl
  obtain ⟨As, h1, h2, h3, h4⟩ := h
  rcases h2.2 with ⟨h1, h2⟩ | ⟨_, cap, _, h1, _, _, h2, h3, _⟩
  · injection h1 with _ _ h3; subst h3; simp [maxLen]
  · injection h1 with _ _ h4; subst h4; exact h3
/-- what joined hands back -/
def Joined (w w' : World) (fs : List FlP) (A : Option Addr) (c b : Nat) : Prop :=
  ∃ m D, m ≤ 41 ∧ fs.length ≤ c ∧ c ≤ maxLen ∧ Fls w' A fs ∧ GoodF fs ∧ (∀ p ∈ fs, ∃ j, j < 7 ∧ p.key = keyS j) ∧ w.heap.size ≤ b ∧ w'.ownsGroups Try.prog 9 (b + 1) 3 .i64 b m D ∧ WhoD fs D ∧ Below w.heap.size w w'

set_option maxHeartbeats 8000000 in
theorem joined_ok (A : Option Addr) (n c : Nat) (l : List RawP) (w : World) (hl : l.length = n) (hc : n ≤ c) (hm : c ≤ maxLen) (hok : ∀ r ∈ l, RawOk r) (hr : Rd w 4 A n (rcs l)) :
    Calls Try.prog 6 #[.slice A n c] w fun e w' => ∃ fs A c b, e = .returned (.tuple #[.slice A fs.length c, .map (some b), .bool true]) ∧ Joined w w' fs A c b := by
  have hn63 : n ≤ 9223372036854775807 := by unfold maxLen at hm; omega
  have HOK := Lib.hid hok
  have HL := Lib.hid hl
  have hmm := @run_makeMap Try.prog
  clear hok hl hm
  go_enter Try.func6, Try.ntmps6
  repeat' ((fail_if_success at_builtin); (fail_if_success at_make); (first | go_values | go_skip | go_guarded | go_step | go_upon | go_back))
  have hm0 := World.ownsGroups_made (H := Unit) w Try.prog 9 3 .i64
  have hb0 := (Below.refl w.heap.size w).alloc (Nat.le_refl _) (.map #[] 0)
  go_loopg [5, 20] n (fun gn f i wr => ∃ (k m : Nat) (fs : List FlP) (A : Option Addr) (c : Nat) (D : DataW Unit), gn = n - k ∧ i = .int .i64 k ∧ k ≤ n ∧ k ≤ 41 ∧ m ≤ k ∧ f = .slice A fs.length c ∧ fs.length ≤ c ∧ c ≤ maxLen ∧ Fls wr A fs ∧ GoodF fs ∧ (∀ p ∈ fs, ∃ j, j < 7 ∧ p.key = keyS j) ∧ wr.ownsGroups Try.prog 9 (w.heap.size + 1) 3 .i64 w.heap.size m D ∧ WhoD fs D ∧ Below w.heap.size w wr)
  case atStart => exact ⟨0, 0, [], none, 0, _, rfl, rfl, by omega, by omega, Nat.le_refl _, rfl, Nat.le_refl _, by simp [maxLen], ⟨[], rfl, ⟨rfl, fun h => by simp at h⟩, fun k p a hp _ => by cases hp⟩, GoodF.nil_, (fun p hp => by cases hp), hm0, WhoD.nil_, hb0⟩
  case round =>
    clear hm0 hb0
    obtain ⟨k, m, fs, Af, cf, D, hgk, rfl, hk, hk41, hmk, rfl, hcf, hcm, hfl, hG, hkeys, hown, hW, hbel⟩ := hrel
    have HGK := Lib.hid hgk
    clear hgk
    by_cases hlt : k < n
    · have hlb : decide (k < n) = true := decide_eq_true hlt
      have hk0 : (0 : Int) ≤ (k : Int) := by omega
      have hk1 : (k : Int) < (n : Int) := by omega
      have hkl : k < l.length := by have := HL.out; omega
      obtain ⟨b, off, rfl, hbw, hcell⟩ := (hr.below hbel).2 (by omega)
      have hat := fun j (hj : j < 4) => rcs_at l k j hkl hj
      have hrok := HOK.out l[k] (List.getElem_mem hkl)
      generalize l[k] = r at *
      have c0 := hcell (k * 4 + 0) _ (hat 0 (by omega))
      have c1 := hcell (k * 4 + 1) _ (hat 1 (by omega))
      have c2 := hcell (k * 4 + 2) _ (hat 2 (by omega))
      have c3 := hcell (k * 4 + 3) _ (hat 3 (by omega))
      obtain ⟨rk, ra, rb, rt⟩ := r
      have HR := Lib.hid hrok
      clear hat hcell hrok hkl
      rw [Nat.add_zero] at c0
      rw [show off + (k * 4 + 1) = off + k * 4 + 1 by omega] at c1
      rw [show off + (k * 4 + 2) = off + k * 4 + 2 by omega] at c2
      rw [show off + (k * 4 + 3) = off + k * 4 + 3 by omega] at c3
      by_cases h40 : k ≤ 40
      · have h40b : decide ((40 : Int) < (k : Int)) = false := decide_eq_false (by omega)
        have h40i : decide ((k : Int) > 40) = false := decide_eq_false (by omega)
        repeat' ((fail_if_success at_builtin); (fail_if_success at_make); (first | go_values | go_skip | go_guarded | go_step | go_upon | go_back))
        have hA1 : Arr (wr.alloc (.cells #[.int .i64 rk, .int .i64 ra, .int .i64 rb, .string rt] 53)) wr.heap.size 53 [.int .i64 rk, .int .i64 ra, .int .i64 rb, .string rt] := Arr.new wr _ _
        have hba := (Below.refl wr.heap.size wr).alloc (Nat.le_refl _) (.cells #[.int .i64 rk, .int .i64 ra, .int .i64 rb, .string rt] 53)
        generalize (wr.alloc (.cells #[.int .i64 rk, .int .i64 ra, .int .i64 rb, .string rt] 53)) = wa at *
        have HMK := Lib.hid (show ∀ W : World, Below wa.heap.size wa W → W.cell? ⟨wr.heap.size, 1, none⟩ = some (.int .i64 ra) ∧ W.cell? ⟨wr.heap.size, 2, none⟩ = some (.int .i64 rb) from fun W h => ⟨(hA1.below h).cell (k := 1) rfl, (hA1.below h).cell (k := 2) rfl⟩)
        have HBA := Lib.hid hba
        have HFL := Lib.hid (And.intro hfl (And.intro hG (And.intro hkeys (And.intro hown hW))))
        have HKY := Lib.hid (fun w' => Key_ok ra w' HR.out.a0 HR.out.a1)
        have HPK := Lib.hid (fun w' => Picked_ok rb 12 12 rfl w' HR.out.b0 HR.out.b1 (by omega) (by omega))
        have hj7 := pk_lt ra (m := 7) (by omega)
        have hp12 := pk_lt rb (m := 12) (by omega)
        generalize pk ra 7 = j at *
        generalize pk rb 12 = q at *
        have hwq : IntKind.i64.wrap (1 + (q : Int)) = 1 + (q : Int) := IntWalk.i64_in _ (by omega)
        have HBEL := Lib.hid hbel
        generalize hgr : wr.heap.size = gr at *
        have HGR := Lib.hid hgr
        clear hgr hA1 hba hfl hG hkeys hown hW c0 c1 c2 c3 hbw hr hbel
        --HELD
        refine wp_region_held_drew (S := (fun w' => w'.cell? ⟨gr, 1, none⟩ = some (.int .i64 ra) ∧ w'.cell? ⟨gr, 2, none⟩ = some (.int .i64 rb))) (by kernel_rfl) ?_ (fun hHeld => ?_)
        · exact HMK.out _ (Below.refl _ wa).drew
        have hB := (Below.refl wa.heap.size wa).drew
        generalize wa.drew = wn0 at *
        refine wpAnyH_take (i := 0) (oi := _) (v := ?_) rfl (by kernel_rfl) (by kernel_rfl) (by kernel_rfl) (fun _ _ _ h => h) (Or.inl ⟨by rfl, ?_⟩) (by assumption) ?_
        rotate_left
        · (intro w hSw; (try dsimp only at hSw); go_simp; try (with_reducible rfl))
        try simp only [List.getElem_toArray, List.getElem_cons_zero, List.getElem_cons_succ, Act.put, List.setIfInBounds_toArray, List.set_cons_zero, List.set_cons_succ]
        refine wpAnyH_take (i := 1) (oi := _) (v := ?_) rfl (by kernel_rfl) (by kernel_rfl) (by kernel_rfl) (fun _ _ _ h => h) (Or.inl ⟨by rfl, ?_⟩) (by assumption) ?_
        rotate_left
        · (intro w hSw; (try dsimp only at hSw); go_simp; try (with_reducible rfl))
        try simp only [List.getElem_toArray, List.getElem_cons_zero, List.getElem_cons_succ, Act.put, List.setIfInBounds_toArray, List.set_cons_zero, List.set_cons_succ]
        refine wpAnyH_take (i := 3) (oi := _) (v := ?_) rfl (by kernel_rfl) (by kernel_rfl) (by kernel_rfl) (fun _ _ _ h => h) (Or.inl ⟨by rfl, ?_⟩) (by assumption) ?_
        rotate_left
        · (intro w hSw; (try dsimp only at hSw); go_simp; try (with_reducible rfl))
        try simp only [List.getElem_toArray, List.getElem_cons_zero, List.getElem_cons_succ, Act.put, List.setIfInBounds_toArray, List.set_cons_zero, List.set_cons_succ]
        refine wpAnyH_take (i := 4) (oi := _) (v := ?_) rfl (by kernel_rfl) (by kernel_rfl) (by kernel_rfl) (fun _ _ _ h => h) (Or.inl ⟨by rfl, ?_⟩) (by assumption) ?_
        rotate_left
        · (intro w hSw; (try dsimp only at hSw); go_simp; try (with_reducible rfl))
        try simp only [List.getElem_toArray, List.getElem_cons_zero, List.getElem_cons_succ, Act.put, List.setIfInBounds_toArray, List.set_cons_zero, List.set_cons_succ]
        refine wpAnyH_ready (rs := [2]) (by kernel_rfl) (by simp) ?_
        refine AllReadyH.cons (o := _) rfl (fun K hK => ?_) ?_
        ·
          have hky := HKY.out wn0
          go_simp
          refine (hky).mono ?_
          rintro e5 w5 ⟨rfl, hb5⟩
          dsimp only
          refine outG hK ?_ (Below wn0.heap.size wn0) (fun W => True) ?_ ?_ (fun wn1 hHeld hst hnew => ?_)
          · (exact HMK.out _ (hB.trans (hb5.mono hB.size)))
          · (exact hb5)
          · (trivial)
          have hB := hB.trans (hst.mono hB.size)
          clear hst
          clear hK K
          try simp only [List.getElem_toArray, List.getElem_cons_zero, List.getElem_cons_succ, Act.put, List.setIfInBounds_toArray, List.set_cons_zero, List.set_cons_succ]
          refine wpAnyH_ready (rs := [5]) (by kernel_rfl) (by simp) ?_
          refine AllReadyH.cons (o := _) rfl (fun K hK => ?_) ?_
          ·
            have hpk := HPK.out wn1
            go_simp
            refine (hpk).mono ?_
            rintro e5 w5 ⟨rfl, hb5⟩
            subst hb5
            have hb5 := Below.refl wn1.heap.size wn1
            dsimp only
            refine outG hK ?_ (Below wn1.heap.size wn1) (fun W => True) ?_ ?_ (fun wn2 hHeld hst hnew => ?_)
            · (exact HMK.out _ (hB.trans (hb5.mono hB.size)))
            · (exact hb5)
            · (trivial)
            have hB := hB.trans (hst.mono hB.size)
            clear hst
            clear hK K
            try simp only [List.getElem_toArray, List.getElem_cons_zero, List.getElem_cons_succ, Act.put, List.setIfInBounds_toArray, List.set_cons_zero, List.set_cons_succ]
            refine wpAnyH_take (i := 6) (oi := _) (v := ?_) rfl (by kernel_rfl) (by kernel_rfl) (by kernel_rfl) (fun _ _ _ h => h) (Or.inl ⟨by rfl, ?_⟩) (by assumption) ?_
            rotate_left
            · (intro w hSw; (try dsimp only at hSw); go_simp; try (with_reducible rfl))
            try simp only [List.getElem_toArray, List.getElem_cons_zero, List.getElem_cons_succ, Act.put, List.setIfInBounds_toArray, List.set_cons_zero, List.set_cons_succ]
            refine wpAnyH_take (i := 7) (oi := _) (v := ?_) rfl (by kernel_rfl) (by kernel_rfl) (by kernel_rfl) (fun _ _ _ h => h) (Or.inl ⟨by rfl, ?_⟩) (by assumption) ?_
            rotate_left
            · (intro w hSw; (try dsimp only at hSw); go_simp; try (with_reducible rfl))
            try simp only [List.getElem_toArray, List.getElem_cons_zero, List.getElem_cons_succ, Act.put, List.setIfInBounds_toArray, List.set_cons_zero, List.set_cons_succ]
            refine wpAnyH_take (i := 8) (oi := _) (v := ?_) rfl (by kernel_rfl) (by kernel_rfl) (by kernel_rfl) (fun _ _ _ h => h) (Or.inl ⟨by rfl, ?_⟩) (by assumption) ?_
            rotate_left
            · (intro w hSw; (try dsimp only at hSw); go_simp; try (with_reducible rfl))
            try simp only [List.getElem_toArray, List.getElem_cons_zero, List.getElem_cons_succ, Act.put, List.setIfInBounds_toArray, List.set_cons_zero, List.set_cons_succ]
            refine wpAnyH_done (by kernel_rfl) ?_ _
            clear hHeld
            dsimp only [Exit.then]
            generalize wn2 = wz at *
            have hba' := HBA.out
            rw [← HGR.out] at hba'
            have hbz := hba'.trans (hB.mono hba'.size)
            clear hB hba'
            obtain ⟨hfl, hG, hkeys, hown, hW⟩ := HFL.out
            have hfz := hfl.below hbz
            obtain ⟨s, hs⟩ : ∃ s : ByteArray, s = ⟨(keyS j).toArray⟩ := ⟨_, rfl⟩
            have hsl : s.data.toList = keyS j := by rw [hs]
            have hk64 : (keyS j).length = 64 := by rw [keyS, shaS_len]
            have hss : s.size ≤ 140737488351232 := by rw [hs]; show (keyS j).toArray.size ≤ _; rw [List.size_toArray, hk64]; decide
            have hhx : hexC s.data.toList = 0 := by rw [hsl]; exact hexC_sha _
            have hko := hkey_ok (keyS j) hk64
            rw [← hs] at hko ⊢
            have hgz := groups_below hown hbz
            have hbelz := HBEL.out.trans (hbz.mono HBEL.out.size)
            obtain ⟨nn, hnn⟩ : ∃ nn : Int, nn = 1 + (q : Int) := ⟨_, rfl⟩
            rw [← hnn]
            have hn1 : 1 ≤ nn := by omega
            have hn2 : nn ≤ 1000 := by omega
            have h66 := hG.len
            have HS := Lib.hid hs
            have HSL := Lib.hid hsl
            have HHX := Lib.hid hhx
            have HKO := Lib.hid hko
            have hwhas := hW.at_ (keyS j)
            have HAT := Lib.hid hwhas
            clear hs hsl hhx hko hnn hwq hfl hwhas HPK HKY HMK
            have hblt : w.heap.size < wz.heap.size := by
              obtain ⟨es, clock, hb, _⟩ := hgz
              exact (Array.getElem?_eq_some_iff.1 hb).1
            have HFZ := Lib.hid hfz
            have HG := Lib.hid hG
            have HKS := Lib.hid hkeys
            have HWD := Lib.hid hW
            cases hfn : fnd 0 fs (keyS j) with
            | none =>
              have hgr0 := grp_none hfn
              have hfs : fnd 0 fs s.data.toList = none := by rw [HSL.out]; exact hfn
              by_cases h6 : fs.length < 6
              · have HJ := Lib.hid (Join_new Af cf fs s nn wz hG hfz hcf hcm HHX.out hss hn1 hn2 hfs h6)
                have HW2 := Lib.hid (hW.new (n := nn) hfn)
                have HG2 := Lib.hid (show GoodF (fs ++ [(⟨keyS j, nn, []⟩ : FlP)]) from hG.snoc (n := nn) h6 (hexC_sha _ : hexC (keyS j) = 0) (by show (keyS j).length ≤ 1000; rw [hk64]; omega) hfn hn1 hn2)
                have HK2 := Lib.hid (show ∀ p ∈ fs ++ [(⟨keyS j, nn, []⟩ : FlP)], ∃ j, j < 7 ∧ p.key = keyS j from fun p hp => by
                  rcases List.mem_append.1 hp with h | h
                  · exact hkeys p h
                  · have := List.mem_singleton.1 h; subst this; exact ⟨j, hj7, rfl⟩)
                clear hG hkeys hown hW hfn hfz
                repeat' ((fail_if_success at_builtin); (fail_if_success at_make); (first | go_values | go_skip | go_guarded | go_step | go_upon | go_back))
                refine ((HJ.out)).mono ?_; rintro e_ wj ⟨vj, rfl, hfo, hbj⟩; dsimp only
                rw [HSL.out] at hfo
                obtain ⟨v, zs, hrun, hat2, hoi, hzl, hback, hvlt⟩ := groups_at hgz hbj keyed Try.underlying24 (zeroI _) (by unfold maxLen; omega) HKO.out
                have hzs := grp_of hoi (HAT.out.symm.trans hat2)
                clear hat2
                rw [hgr0] at hzs
                subst hzs
                obtain ⟨Av, cv, rfl, _, _⟩ := Rd.of_own' hoi.1
                generalize hfs2 : fs ++ [(⟨keyS j, nn, []⟩ : FlP)] = fs2 at *
                generalize hzs2 : ([] : List Int) ++ [nn] = zs2 at *
                rw [show [nn] = zs2 from hzs2] at HW2
                have HZS := Lib.hid hzs2
                simp only [List.length_nil] at hrun
                have hcj := hfo.cap
                obtain ⟨Aj, cj, rfl, _, _⟩ := hfo.fls
                have hcj2 := hcj _ _ _ rfl
                have HOI := Lib.hid hoi
                have HZL0 := Lib.hid hzl
                have HBK := Lib.hid hback
                have HVL := Lib.hid hvlt
                have HFO := Lib.hid hfo
                clear hoi hback hvlt hfo hcj hgz
                repeat' ((fail_if_success at_builtin); (fail_if_success at_make); (first | go_values | go_skip | go_guarded | go_step | go_upon | go_back))
                refine wpList_apN rfl (.tmp 92) (.tmp 94) rfl elInt (by rfl) HOI.out.1 (us := [.int .i64 nn]) (m := 1) (by rfl) rfl (by intro u hu; simp only [List.mem_singleton] at hu; subst hu; rfl) (by omega) (by have := hbj.size; omega) ?_
                intro v7 w7 ho7 hg7 hv7
                have hoi7 := HOI.out.appended ho7 (wfI (by omega) (by omega))
                rw [HZS.out] at hoi7
                obtain ⟨w2, hrun2, hown2, hgrow2⟩ := HBK.out w7 v7 zs2 hg7 hoi7 (by rw [← HZS.out, List.length_append]; have := HZL0.out; simp only [List.length_cons, List.length_nil] at *; omega) hv7
                have hrow : rowDatum (H := Unit) .i64 v7 zs2 = grpD zs2 := by
                  rw [hoi7.datum_pos (by rw [← HZS.out]; simp)]
                  rw [← HZS.out]
                  rfl
                rw [hrow] at hown2
                have hbel2 := Below.groups (hbelz.trans (hbj.mono hbelz.size)) HOI.out hg7 hgrow2 (by have := hbj.size; omega) (Nat.le_succ _) (Nat.le_refl _)
                have hfo2 := (HFO.out.low hg7 (fun g hg => (HVL.out g hg).2)).low hgrow2 (fun g hg => by cases hg; exact hblt)
                obtain ⟨A2, c2, e2, hlc2, hfls2⟩ := hfo2.fls
                injection e2 with e3 _ e4
                subst e3 e4
                repeat' ((fail_if_success at_builtin); (fail_if_success at_make); (first | go_values | go_skip | go_guarded | go_step | go_upon | go_back))
                go_roundg (n - (k + 1))
                case measure => have := HGK.out; omega
                case rel => exact ⟨k + 1, m + 1, fs2, _, _, _, rfl, by go_num, by omega, by omega, by omega, rfl, hlc2, hcj2, hfls2, HG2.out, HK2.out, hown2, HW2.out, hbel2⟩
              · have h6' : fs.length = 6 := by have := hG.len; omega
                have e6 : ((fs.length : Int) == 6) = true := by rw [beq_iff_eq]; omega
                have HJ := Lib.hid (Join_full Af cf fs s nn wz hG hfz hcf hcm HHX.out hss hn1 hn2 hfs h6')
                clear hG hkeys hown hW hfn hfz h6'
                repeat' ((fail_if_success at_builtin); (fail_if_success at_make); (first | go_values | go_skip | go_guarded | go_step | go_upon | go_back))
                refine ((HJ.out)).mono ?_; rintro e_ wj ⟨rfl, hbj⟩; dsimp only
                obtain ⟨v, zs, hrun, hat2, hoi, hzl, hback, hvlt⟩ := groups_at hgz hbj keyed Try.underlying24 (zeroI _) (by unfold maxLen; omega) HKO.out
                have hzs := grp_of hoi (HAT.out.symm.trans hat2)
                clear hat2
                rw [hgr0] at hzs
                subst hzs
                obtain ⟨Av, cv, rfl, _, _⟩ := Rd.of_own' hoi.1
                simp only [List.length_nil] at hrun
                have HGZ := Lib.hid hgz
                clear hoi hback hvlt hgz
                repeat' ((fail_if_success at_builtin); (fail_if_success at_make); (first | go_values | go_skip | go_guarded | go_step | go_upon | go_back))
                go_roundg (n - (k + 1))
                case measure => have := HGK.out; omega
                case rel => exact ⟨k + 1, m, fs, Af, cf, D, rfl, by go_num, by omega, by omega, by omega, rfl, hcf, hcm, HFZ.out.below hbj, HG.out, HKS.out, groups_below HGZ.out hbj, HWD.out, hbelz.trans (hbj.mono hbelz.size)⟩
            | some i =>
              obtain ⟨hi, hki⟩ := fnd_key0 hfn
              have hgr1 := grp_some hfn hi
              have hfs : fnd 0 fs s.data.toList = some i := by rw [HSL.out]; exact hfn
              have hfew := hG.few i hi
              cases hin : (fs[i].lead :: fs[i].wait).contains nn with
              | true =>
                have HJ := Lib.hid (Join_in Af cf fs s nn i wz hG hfz hcf hcm HHX.out hss hn1 hn2 hfs hi hin)
                have HIN := Lib.hid hin
                have HGR1 := Lib.hid hgr1
                clear hG hkeys hown hW hfn hfz hin hgr1
                repeat' ((fail_if_success at_builtin); (fail_if_success at_make); (first | go_values | go_skip | go_guarded | go_step | go_upon | go_back))
                refine ((HJ.out)).mono ?_; rintro e_ wj ⟨rfl, hbj⟩; dsimp only
                obtain ⟨v, zs, hrun, hat2, hoi, hzl, hback, hvlt⟩ := groups_at hgz hbj keyed Try.underlying24 (zeroI _) (by unfold maxLen; omega) HKO.out
                have hzs := grp_of hoi (HAT.out.symm.trans hat2)
                clear hat2
                rw [HGR1.out] at hzs
                obtain ⟨Av, cv, rfl, _, hrv⟩ := Rd.of_own' hoi.1
                have hcon := Contains_ok Av cv zs nn wj (by have := hzl; omega) hrv
                have HZL := Lib.hid (show zs.contains nn = true by rw [hzs]; exact HIN.out)
                have HGZ := Lib.hid hgz
                clear hoi hback hvlt hgz hzs hrv
                repeat' ((fail_if_success at_builtin); (fail_if_success at_make); (first | go_values | go_skip | go_guarded | go_step | go_upon | go_back))
                refine ((hcon)).mono ?_; rintro e_ wc ⟨rfl, hwc⟩; dsimp only
                subst hwc
                rw [HZL.out]
                repeat' ((fail_if_success at_builtin); (fail_if_success at_make); (first | go_values | go_skip | go_guarded | go_step | go_upon | go_back))
                go_roundg (n - (k + 1))
                case measure => have := HGK.out; omega
                case rel => exact ⟨k + 1, m, fs, Af, cf, D, rfl, by go_num, by omega, by omega, by omega, rfl, hcf, hcm, HFZ.out.below hbj, HG.out, HKS.out, groups_below HGZ.out hbj, HWD.out, hbelz.trans (hbj.mono hbelz.size)⟩
              | false =>
                have HGR1 := Lib.hid hgr1
                by_cases h5 : fs[i].wait.length < 5
                · have HJ := Lib.hid (Join_more Af cf fs s nn i wz hG hfz hcf hcm HHX.out hss hn1 hn2 hfs hi hin h5)
                  have HW2 := Lib.hid (hW.more (p := ⟨fs[i].key, fs[i].lead, fs[i].wait ++ [nn]⟩) hfn hi rfl)
                  have HG2 := Lib.hid (hG.set hi hn1 hn2 hin h5)
                  have HK2 := Lib.hid (show ∀ p ∈ fs.set i ⟨fs[i].key, fs[i].lead, fs[i].wait ++ [nn]⟩, ∃ j, j < 7 ∧ p.key = keyS j from fun p hp => by
                    rcases List.mem_or_eq_of_mem_set hp with h | h
                    · exact hkeys p h
                    · subst h; obtain ⟨j', g1, g2⟩ := hkeys _ (List.getElem_mem hi); exact ⟨j', g1, g2⟩)
                  have HLN := Lib.hid (show (fs.set i ⟨fs[i].key, fs[i].lead, fs[i].wait ++ [nn]⟩).length ≤ 6 by rw [List.length_set]; exact h66)
                  clear hG hkeys hown hW hfn hfz hin hgr1
                  repeat' ((fail_if_success at_builtin); (fail_if_success at_make); (first | go_values | go_skip | go_guarded | go_step | go_upon | go_back))
                  refine ((HJ.out)).mono ?_; rintro e_ wj ⟨vj, rfl, hfo, hbj⟩; dsimp only
                  obtain ⟨v, zs, hrun, hat2, hoi, hzl, hback, hvlt⟩ := groups_at hgz hbj keyed Try.underlying24 (zeroI _) (by unfold maxLen; omega) HKO.out
                  have hzs := grp_of hoi (HAT.out.symm.trans hat2)
                  clear hat2
                  rw [HGR1.out] at hzs
                  obtain ⟨Av, cv, rfl, _, _⟩ := Rd.of_own' hoi.1
                  generalize hfs2 : fs.set i ⟨fs[i].key, fs[i].lead, fs[i].wait ++ [nn]⟩ = fs2 at *
                  have hzs2 : zs ++ [nn] = fs[i].lead :: (fs[i].wait ++ [nn]) := by rw [hzs]; rfl
                  generalize fs[i].lead :: (fs[i].wait ++ [nn]) = zs2 at *
                  have HZS := Lib.hid hzs2
                  have hzpos : zs.length = fs[i].wait.length + 1 := by rw [hzs]; rfl
                  have hz0 : ((zs.length : Int) == 0) = false := by rw [beq_eq_false_iff_ne]; omega
                  clear hzs hzs2 hzpos
                  have hcj := hfo.cap
                  obtain ⟨Aj, cj, rfl, _, _⟩ := hfo.fls
                  have hcj2 := hcj _ _ _ rfl
                  have HOI := Lib.hid hoi
                  have HZL0 := Lib.hid hzl
                  have HBK := Lib.hid hback
                  have HVL := Lib.hid hvlt
                  have HFO := Lib.hid hfo
                  clear hoi hback hvlt hfo hcj hgz
                  repeat' ((fail_if_success at_builtin); (fail_if_success at_make); (first | go_values | go_skip | go_guarded | go_step | go_upon | go_back))
                  refine wpList_apN rfl (.tmp 92) (.tmp 94) rfl elInt (by rfl) HOI.out.1 (us := [.int .i64 nn]) (m := 1) (by rfl) rfl (by intro u hu; simp only [List.mem_singleton] at hu; subst hu; rfl) (by omega) (by have := hbj.size; omega) ?_
                  intro v7 w7 ho7 hg7 hv7
                  have hoi7 := HOI.out.appended ho7 (wfI (by omega) (by omega))
                  rw [HZS.out] at hoi7
                  obtain ⟨w2, hrun2, hown2, hgrow2⟩ := HBK.out w7 v7 zs2 hg7 hoi7 (by rw [← HZS.out, List.length_append]; have := HZL0.out; simp only [List.length_cons, List.length_nil] at *; omega) hv7
                  have hrow : rowDatum (H := Unit) .i64 v7 zs2 = grpD zs2 := by
                    rw [hoi7.datum_pos (by rw [← HZS.out]; simp)]
                    rw [← HZS.out]
                    cases zs <;> rfl
                  rw [hrow] at hown2
                  have hbel2 := Below.groups (hbelz.trans (hbj.mono hbelz.size)) HOI.out hg7 hgrow2 (by have := hbj.size; omega) (Nat.le_succ _) (Nat.le_refl _)
                  have hfo2 := (HFO.out.low hg7 (fun g hg => (HVL.out g hg).2)).low hgrow2 (fun g hg => by cases hg; exact hblt)
                  obtain ⟨A2, c2, e2, hlc2, hfls2⟩ := hfo2.fls
                  injection e2 with e3 _ e4
                  subst e3 e4
                  repeat' ((fail_if_success at_builtin); (fail_if_success at_make); (first | go_values | go_skip | go_guarded | go_step | go_upon | go_back))
                  go_roundg (n - (k + 1))
                  case measure => have := HGK.out; omega
                  case rel => exact ⟨k + 1, m + 1, fs2, _, _, _, rfl, by go_num, by omega, by omega, by omega, rfl, hlc2, hcj2, hfls2, HG2.out, HK2.out, hown2, HW2.out, hbel2⟩
                · have h5' : fs[i].wait.length = 5 := by omega
                  have HJ := Lib.hid (Join_many Af cf fs s nn i wz hG hfz hcf hcm HHX.out hss hn1 hn2 hfs hi hin h5')
                  clear hG hkeys hown hW hfn hfz hin hgr1
                  repeat' ((fail_if_success at_builtin); (fail_if_success at_make); (first | go_values | go_skip | go_guarded | go_step | go_upon | go_back))
                  refine ((HJ.out)).mono ?_; rintro e_ wj ⟨rfl, hbj⟩; dsimp only
                  obtain ⟨v, zs, hrun, hat2, hoi, hzl, hback, hvlt⟩ := groups_at hgz hbj keyed Try.underlying24 (zeroI _) (by unfold maxLen; omega) HKO.out
                  have hzs := grp_of hoi (HAT.out.symm.trans hat2)
                  clear hat2
                  rw [HGR1.out] at hzs
                  have hz6 : zs.length = 6 := by rw [hzs, List.length_cons, h5']
                  obtain ⟨Av, cv, rfl, _, _⟩ := Rd.of_own' hoi.1
                  rw [hz6] at hrun
                  have HGZ := Lib.hid hgz
                  clear hoi hback hvlt hgz hzs
                  repeat' ((fail_if_success at_builtin); (fail_if_success at_make); (first | go_values | go_skip | go_guarded | go_step | go_upon | go_back))
                  go_roundg (n - (k + 1))
                  case measure => have := HGK.out; omega
                  case rel => exact ⟨k + 1, m, fs, Af, cf, D, rfl, by go_num, by omega, by omega, by omega, rfl, hcf, hcm, HFZ.out.below hbj, HG.out, HKS.out, groups_below HGZ.out hbj, HWD.out, hbelz.trans (hbj.mono hbelz.size)⟩
          exact AllReadyH.nil
        exact AllReadyH.nil
        --HELDEND
      · have h40b : decide ((40 : Int) < (k : Int)) = true := decide_eq_true (by omega)
        clear HR
        have hbz := (Below.refl wr.heap.size wr).alloc (Nat.le_refl _) (.cells #[.int .i64 rk, .int .i64 ra, .int .i64 rb, .string rt] 53)
        have HK0 := Lib.hid (fun w' => Key_ok 0 w' (by omega) (by omega))
        have HJ0 := Lib.hid (fun w' => Join_new none 0 [] ⟨(keyS (pk 0 7)).toArray⟩ 4 w' GoodF.nil_ ⟨[], rfl, ⟨rfl, fun h => by simp at h⟩, fun k p a hp _ => by cases hp⟩ (Nat.le_refl _) (by simp [maxLen]) (hexC_sha _) (by show (keyS (pk 0 7)).toArray.size ≤ _; rw [List.size_toArray, keyS, shaS_len]; decide) (by omega) (by omega) rfl (by simp))
        generalize (⟨(keyS (pk 0 7)).toArray⟩ : ByteArray) = s0 at *
        have RES := Lib.hid (show ∀ w', Below wr.heap.size wr w' → Joined w w' fs Af cf w.heap.size from fun w' hb => ⟨m, D, by omega, hcf, hcm, hfl.below hb, hG, hkeys, Nat.le_refl _, groups_below hown hb, hW, hbel.trans (hb.mono hbel.size)⟩)
        clear hfl hG hkeys hown hW
        repeat' ((fail_if_success at_builtin); (fail_if_success at_make); (first | go_values | go_skip | go_guarded | go_step | go_upon | go_back))
        refine ((HK0.out _)).mono ?_; rintro e_ wk ⟨rfl, hbk⟩; dsimp only
        repeat' ((fail_if_success at_builtin); (fail_if_success at_make); (first | go_values | go_skip | go_guarded | go_step | go_upon | go_back))
        refine ((HJ0.out wk)).mono ?_; rintro e_ wj ⟨vj, rfl, hfo, hbj⟩; dsimp only
        obtain ⟨Aj, cj, rfl, _, _⟩ := hfo.fls
        simp only [List.nil_append, List.length_cons, List.length_nil, Nat.zero_add]
        clear hfo
        repeat' ((fail_if_success at_builtin); (fail_if_success at_make); (first | go_values | go_skip | go_guarded | go_step | go_upon | go_back))
        go_ret3
        exact ⟨fs, Af, cf, w.heap.size, rfl, RES.out _ (hbz.trans ((hbk.trans (hbj.mono hbk.size)).mono hbz.size))⟩
    · have hlb : decide (k < n) = false := decide_eq_false hlt
      have hbz := Below.refl wr.heap.size wr
      have HK0 := Lib.hid (fun w' => Key_ok 0 w' (by omega) (by omega))
      have HJ0 := Lib.hid (fun w' => Join_new none 0 [] ⟨(keyS (pk 0 7)).toArray⟩ 4 w' GoodF.nil_ ⟨[], rfl, ⟨rfl, fun h => by simp at h⟩, fun k p a hp _ => by cases hp⟩ (Nat.le_refl _) (by simp [maxLen]) (hexC_sha _) (by show (keyS (pk 0 7)).toArray.size ≤ _; rw [List.size_toArray, keyS, shaS_len]; decide) (by omega) (by omega) rfl (by simp))
      generalize (⟨(keyS (pk 0 7)).toArray⟩ : ByteArray) = s0 at *
      have RES := Lib.hid (show ∀ w', Below wr.heap.size wr w' → Joined w w' fs Af cf w.heap.size from fun w' hb => ⟨m, D, by omega, hcf, hcm, hfl.below hb, hG, hkeys, Nat.le_refl _, groups_below hown hb, hW, hbel.trans (hb.mono hbel.size)⟩)
      clear hfl hG hkeys hown hW
      repeat' ((fail_if_success at_builtin); (fail_if_success at_make); (first | go_values | go_skip | go_guarded | go_step | go_upon | go_back))
      refine ((HK0.out _)).mono ?_; rintro e_ wk ⟨rfl, hbk⟩; dsimp only
      repeat' ((fail_if_success at_builtin); (fail_if_success at_make); (first | go_values | go_skip | go_guarded | go_step | go_upon | go_back))
      refine ((HJ0.out wk)).mono ?_; rintro e_ wj ⟨vj, rfl, hfo, hbj⟩; dsimp only
      obtain ⟨Aj, cj, rfl, _, _⟩ := hfo.fls
      simp only [List.nil_append, List.length_cons, List.length_nil, Nat.zero_add]
      clear hfo
      repeat' ((fail_if_success at_builtin); (fail_if_success at_make); (first | go_values | go_skip | go_guarded | go_step | go_upon | go_back))
      go_ret3
      exact ⟨fs, Af, cf, w.heap.size, rfl, RES.out _ (hbz.trans ((hbk.trans (hbj.mono hbk.size)).mono hbz.size))⟩
end Go.Proofs.Ytefhbgbhknobjaa
