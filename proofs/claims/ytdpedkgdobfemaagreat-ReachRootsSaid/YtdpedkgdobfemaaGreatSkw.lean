/- seek and From of reach. Conditions: the sizes. -/
import Derived.Test.YtdpedkgdobfemaaGreatItr
namespace Go.Proofs.YtdpedkgdobfemaaGreat
open Go.RowKit Go.Maps
set_option linter.unusedVariables false
set_option linter.unusedSimpArgs false
set_option maxRecDepth 100000

theorem kids_at {bl : List BlobP} {d : List UInt8} {i : Nat} (h : bl.findIdx? (fun b => b.dig == d) = some i) (hi : i < bl.length) : kids bl d = (decL bl[i].data).1.map (·.dig) := by
  unfold kids
  rw [h]
  dsimp only
  rw [List.getElem?_eq_getElem hi]
theorem dcs_strs (x : List PartP) : dcs x = strs (x.map (·.dig)) := by simp [dcs, strs]
theorem strs_at (L : List (List UInt8)) (k : Nat) (h : k < L.length) : (strs L)[k]? = some (.string ⟨L[k].toArray⟩) := by
  rw [strs, List.getElem?_map, List.getElem?_eq_getElem h]; rfl
set_option maxHeartbeats 4000000 in
theorem Seek_ok (gs b c : Nat) (A : Option Addr) (bl : List BlobP) (w0 : World) (hg : w0.heap.size ≤ gs) (hbs : w0.heap.size ≤ b) (hne : gs ≠ b) (hl : bl.length ≤ 1000) (hcap : bl.length ≤ c) (hcm : c ≤ maxLen) (hdig : ∀ x ∈ bl, x.dig.length ≤ 1000) (hrd : Rw BlobS w0 A bl) :
    ∀ (m : Nat) (M : List (List UInt8)) (d : List UInt8) (w : World), unmet bl M < m → M.length + unmet bl M ≤ bl.length → Below w0.heap.size w0 w → Arr w gs 84 [.slice A bl.length c, .map (some b)] → SetM w b M →
      Calls Tryz.prog 44 #[.pointer (some ⟨gs, 0, none⟩), .string ⟨d.toArray⟩] w fun e w' => e = .returned (.tuple #[]) ∧ ∃ M', SeekR bl M [d] M' ∧ SetM w' b M' ∧ w.grownBy w' (some b) := by
  intro m
  induction m with
  | zero => intro M d w h; exact absurd h (by omega)
  | succ m ih =>
    intro M d w hun hlen hb0 hbox hset
    have HF := FindB_ok A c bl d w (by omega) (hrd.below hb0)
    have a0 := hbox.cell (k := 0) rfl
    have HB0 := Lib.hid hb0
    have hs0 := hb0.size
    cases hf : bl.findIdx? (fun x => x.dig == d) with
    | none =>
      rw [hf] at HF
      have HFF := Lib.hid HF
      have HR := Lib.hid (SeekR.none_ (bl := bl) (M := M) (d := d) (by rw [inB_idx, hf]; simp))
      have HST := Lib.hid hset
      have HIH := Lib.hid ih
      clear HF hf hset ih
      go_enter Tryz.func44, Tryz.ntmps44
      repeat' ((fail_if_success at_builtin); (fail_if_success at_make); (first | go_values | go_skip | go_guarded | go_step | go_upon | go_back))
      refine ((HFF.out)).mono ?_; rintro e_ w2 ⟨rfl, hb2⟩; dsimp only
      unfold fndR
      dsimp only
      repeat' ((fail_if_success at_builtin); (fail_if_success at_make); (first | go_values | go_skip | go_guarded | go_step | go_upon | go_back))
      ((try simp only [Exit.inBlock, Exit.then]); first | (refine bodyPost_ret (results_none rfl _ _ _) rfl ?_) | (refine bodyPost_end (results_none rfl _ _ _) rfl ?_))
      exact ⟨rfl, M, HR.out, HST.out.below hb2, grown_of hb2 _⟩
    | some i =>
      rw [hf] at HF
      have HFF := Lib.hid HF
      have hi : i < bl.length := (List.findIdx?_eq_some_iff_getElem.1 hf).1
      have hdi : bl[i].dig = d := by simpa using (List.findIdx?_eq_some_iff_getElem.1 hf).2.1
      have hin : InB bl d := ⟨bl[i], List.getElem_mem hi, hdi⟩
      have hdl : d.length ≤ maxLen := by have := hdig _ (List.getElem_mem hi); rw [hdi] at this; unfold maxLen; omega
      have HKD := Lib.hid (kids_at hf hi)
      have HDL := Lib.hid hdl
      have HIN := Lib.hid hin
      have hi0 : (0 : Int) ≤ (i : Int) := by omega
      have hi1 : (i : Int) < (bl.length : Int) := by omega
      have HIH := Lib.hid ih
      have HI := Lib.hid hi
      clear HF hf hdi hin hdl ih
      by_cases hm : d ∈ M
      · have HR := Lib.hid (SeekR.met (bl := bl) hm)
        have hlk := fun (w2 : World) (h : SetM w2 b M) => h.look d HDL.out
        rw [decide_eq_true hm] at hlk
        have HLK := Lib.hid hlk
        have HST := Lib.hid hset
        clear hm hlk hset
        go_enter Tryz.func44, Tryz.ntmps44
        repeat' ((fail_if_success at_builtin); (fail_if_success at_make); (first | go_values | go_skip | go_guarded | go_step | go_upon | go_back))
        refine ((HFF.out)).mono ?_; rintro e_ w2 ⟨rfl, hb2⟩; dsimp only
        unfold fndR
        dsimp only
        have hset2 := HST.out.below hb2
        have hrun := HLK.out w2 hset2
        have a1 := (hbox.below hb2).cell (k := 1) rfl
        repeat' ((fail_if_success at_builtin); (fail_if_success at_make); (first | go_values | go_skip | go_guarded | go_step | go_upon | go_back))
        ((try simp only [Exit.inBlock, Exit.then]); first | (refine bodyPost_ret (results_none rfl _ _ _) rfl ?_) | (refine bodyPost_end (results_none rfl _ _ _) rfl ?_))
        exact ⟨rfl, M, HR.out, hset2, grown_of hb2 _⟩
      · have HMU := Lib.hid (unmet_lt HIN.out hm)
        have hlk := fun (w2 : World) (h : SetM w2 b M) => h.look d HDL.out
        rw [decide_eq_false hm] at hlk
        have HLK := Lib.hid hlk
        have HST := Lib.hid hset
        have HNM := Lib.hid hm
        have hMn : M.length < maxLen := by unfold maxLen; omega
        clear hm hlk hset
        go_enter Tryz.func44, Tryz.ntmps44
        repeat' ((fail_if_success at_builtin); (fail_if_success at_make); (first | go_values | go_skip | go_guarded | go_step | go_upon | go_back))
        refine ((HFF.out)).mono ?_; rintro e_ w2 ⟨rfl, hb2⟩; dsimp only
        unfold fndR
        dsimp only
        have hset2 := HST.out.below hb2
        have hrun := HLK.out w2 hset2
        have hbox2 := hbox.below hb2
        have a1 := hbox2.cell (k := 1) rfl
        obtain ⟨w3, hput, hset3, hg3⟩ := hset2.put d HDL.out hMn
        have hbox3 := hbox2.grown hg3 (fun e => hne (by injection e with e; exact e.symm))
        have a2 := hbox3.cell (k := 0) rfl
        have hb03 := (hb0.trans (hb2.mono hs0)).grown hg3 (by have := hb2.size; omega) (fun k hk => by cases hk; exact hbs)
        obtain ⟨bq, oq, B, cq, hA, hbq, d0, d1, d2, d3, hs⟩ := (hrd.below hb03).blob_at i hi
        have HPT := Lib.hid (RParts_ok ⟨bl[i].dig.toArray⟩ B bl[i].data.length cq bl[i].data (bl[i].pins : Int) bl[i].mark w3 rfl hs.cap hs.max hs.rd)
        have hx8 := decL_len bl[i].data
        have hG03 := (grown_of hb2 (row := some b)).trans hg3
        subst hA
        have HHS := Lib.hid hrd
        clear hs hset2 hg3 hbox hbox2 a0 hrd
        obtain ⟨ks, hks⟩ : ∃ ks, kids bl d = ks := ⟨_, rfl⟩
        obtain ⟨xs, hxs⟩ : ∃ xs, (decL bl[i].data).1 = xs := ⟨_, rfl⟩
        have hkx : xs.map (·.dig) = ks := by rw [← hks, ← hxs]; exact HKD.out.symm
        have hkl : xs.length = ks.length := by rw [← hkx, List.length_map]
        rw [hxs, dcs_strs, hkx, hkl] at HPT
        rw [hxs, hkl] at hx8
        have HKS := Lib.hid hks
        clear hks hkx hkl hxs HKD
        repeat' ((fail_if_success at_builtin); (fail_if_success at_make); (first | go_values | go_skip | go_guarded | go_step | go_upon | go_back))
        refine ((HPT.out)).mono ?_; rintro e_ w4 ⟨v4, rfl, ho4, hb4⟩; dsimp only
        have hset4 := hset3.below hb4
        have hbox4 := hbox3.below hb4
        have hb04 := hb03.trans (hb4.mono hb03.size)
        have hG04 := hG03.trans (grown_of hb4 (row := some b))
        obtain ⟨A4, c4, rfl, hc4, hr4⟩ := Rd.of_own' ho4
        have hA4 : ∀ bb off, A4 = some ⟨bb, off, none⟩ → 0 < ks.length → bb ≠ b := fun bb off e h0 => by
          have h5 := (ho4.lt bb (by rw [e]; rfl)).1
          have := hset3.lt
          omega
        have hks8 : (ks.length : Int) ≤ 9223372036854775807 := by omega
        clear ho4 hset3 hbox3 hb03 hb4 hG03 d0 d1 d2 d3 a1 a2 hrun hput
        repeat' ((fail_if_success at_builtin); (fail_if_success at_make); (first | go_values | go_skip | go_guarded | go_step | go_upon | go_back))
        go_loopg [41] ks.length (fun gn i wr => ∃ (j : Nat) (M' : List (List UInt8)), gn = ks.length - j ∧ i = .int .i64 j ∧ j ≤ ks.length ∧ SeekR bl (M ++ [d]) (ks.take j) M' ∧ SetM wr b M' ∧ w4.grownBy wr (some b))
        case atStart => exact ⟨0, M ++ [d], rfl, rfl, by omega, by rw [List.take_zero]; exact SeekR.nil _ _, hset4, World.grownBy.refl _ _⟩
        case round =>
          obtain ⟨j, M', hgj, rfl, hj, hR, hsetr, hgr⟩ := hrel
          have HGJ := Lib.hid hgj
          have HRR := Lib.hid hR
          clear hgj hR
          by_cases hlt : j < ks.length
          rotate_left
          · obtain rfl : j = ks.length := by omega
            have hlb : decide (ks.length < ks.length) = false := by simp
            have hfin := HRR.out
            rw [List.take_length] at hfin
            rw [← HKS.out] at hfin
            have HFN := Lib.hid (SeekR.into HIN.out HNM.out hfin)
            clear hfin
            repeat' ((fail_if_success at_builtin); (fail_if_success at_make); (first | go_values | go_skip | go_guarded | go_step | go_upon | go_back))
            ((try simp only [Exit.inBlock, Exit.then]); first | (refine bodyPost_ret (results_none rfl _ _ _) rfl ?_) | (refine bodyPost_end (results_none rfl _ _ _) rfl ?_))
            exact ⟨rfl, M', HFN.out, hsetr, hG04.trans hgr⟩
          have hlb : decide (j < ks.length) = true := decide_eq_true hlt
          have hj0 : (0 : Int) ≤ (j : Int) := by omega
          have hj1 : (j : Int) < (ks.length : Int) := by omega
          obtain ⟨bb, off, hAb, _, hcell⟩ := (hr4.far hgr hA4).2 (by omega)
          subst hAb
          have e0 := hcell j _ (strs_at ks j hlt)
          have hboxr := hbox4.grown hgr (fun e => hne (by injection e with e; exact e.symm))
          have hb0r := hb04.grown hgr hb04.size (fun k hk => by cases hk; exact hbs)
          have hun1 := unmet_mono (bl := bl) HRR.out.sub
          have hln1 := HRR.out.len
          rw [List.length_append] at hln1
          simp only [List.length_cons, List.length_nil] at hln1
          have hmu := HMU.out
          have HCL := Lib.hid (HIH.out M' ks[j] wr (by omega) (by omega) hb0r hboxr hsetr)
          have HTK := Lib.hid (show ks.take (j + 1) = ks.take j ++ [ks[j]] from List.take_succ_eq_append_getElem hlt)
          generalize ks[j] = kd at *
          clear hcell hun1 hln1 hmu hb0r hboxr
          repeat' ((fail_if_success at_builtin); (fail_if_success at_make); (first | go_values | go_skip | go_guarded | go_step | go_upon | go_back))
          refine ((HCL.out)).mono ?_; rintro e_ w6 ⟨rfl, M2, hR2, hset6, hg6⟩; dsimp only
          have HR2 := Lib.hid hR2
          clear hR2 e0
          repeat' ((fail_if_success at_builtin); (fail_if_success at_make); (first | go_values | go_skip | go_guarded | go_step | go_upon | go_back))
          go_roundg (ks.length - (j + 1))
          case measure => have := HGJ.out; omega
          case rel => exact ⟨j + 1, M2, rfl, by go_num, by omega, by rw [HTK.out]; exact HRR.out.snoc HR2.out, hset6, hgr.trans hg6⟩
end Go.Proofs.YtdpedkgdobfemaaGreat
