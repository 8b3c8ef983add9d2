/- The walk of ManifestBack. Conditions: the sizes. -/
import Derived.Test.YtlejpmbofbghfaaMan
import Derived.Test.YtlejpmbofbghfaaEqP
namespace Go.Proofs.Ytlejpmbofbghfaa
open Go.RowKit
set_option linter.unusedVariables false
set_option linter.unusedSimpArgs false
set_option maxRecDepth 100000

set_option maxHeartbeats 2000000 in
theorem ManifestBack_walk (A : Option Addr) (n c : Nat) (l : List RawP) (w : World) (hl : l.length = n) (hc : n ≤ c) (hm : c ≤ maxLen) (hok : ∀ r ∈ l, RawOk r) (hr : Rd w 4 A n (rcs l)) :
    Calls Try.prog 6 #[.slice A n c] w fun e w' => e = .returned (.bool true) ∧ Below w.heap.size w w' := by
  have HLST := Lib.hid (listed_ok A n c l w hl hc hm hok hr)
  have hx8 := lst_le l
  have hchk := chk_lst l
  clear hl hok hr
  generalize lst l = x at *
  have hle := enc_le x hchk
  have HD := Lib.hid (decL_enc x hchk)
  have HCH := Lib.hid hchk
  clear hchk
  go_enter Try.func6, Try.ntmps6
  repeat' ((fail_if_success at_builtin); (fail_if_success at_make); (first | go_values | go_skip | go_guarded | go_step | go_upon | go_back))
  refine ((HLST.out)).mono ?_; rintro e_ w1 ⟨v1, rfl, ho1, hb1⟩; dsimp only
  obtain ⟨Ao, co, rfl, hco, hro⟩ := Rd.of_own' ho1
  repeat' ((fail_if_success at_builtin); (fail_if_success at_make); (first | go_values | go_skip | go_guarded | go_step | go_upon | go_back))
  refine ((Encode_ok Ao x.length co x w1 rfl hco hro HCH.out)).mono ?_; rintro e_ w2 ⟨A2, c2, rfl, ho2, hb2⟩; dsimp only
  have hb12 := hb1.trans (hb2.mono hb1.size)
  have hr2 := ho2.rd
  have hcap2 := ho2.cap
  have hcm2 : c2 ≤ maxLen := by
    rcases ho2.own.2 with ⟨h1, h2⟩ | ⟨_, cap, _, h1, _, _, _, h2, _⟩
    · omega
    · injection h1 with _ _ h3; subst h3; exact h2
  have hro2 := hro.below hb2
  have HDC := Decode_ok A2 (enc x).length c2 (enc x) w2 rfl hcap2 hcm2 hr2
  rw [HD.out] at HDC
  have HMAN := Lib.hid (fun w' hr' => Manifest_ok Ao x.length co x w' rfl (by omega) (chk_fine HCH.out) hr')
  generalize enc x = E at *
  clear ho2 ho1 hro hb1 hb2
  repeat' ((fail_if_success at_builtin); (fail_if_success at_make); (first | go_values | go_skip | go_guarded | go_step | go_upon | go_back))
  refine ((HDC)).mono ?_; rintro e_ w3 ⟨v3, rfl, ho3, hb3⟩; dsimp only
  have hb13 := hb12.trans (hb3.mono hb12.size)
  have hro3 := hro2.below hb3
  have hr3 := hr2.below hb3
  obtain ⟨A3, c3, rfl, hc3, hr33⟩ := Rd.of_own' ho3
  dsimp only at hr33 hc3 ⊢
  rw [show ((0 : Nat) : Int) = 0 from rfl]
  clear HDC ho3 hb12 hro2 hr2
  have Q := Lib.hid (fun (w2 : World) (hb : Below w3.heap.size w3 w2) => run_str (P := Try.prog) (c := c2) (src := 24) (dst := 9) Try.underlying24 Try.underlying5 Try.underlying9 (n := E.length) (l := E) rfl (hr3.below hb))
  have Q2 := Lib.hid (fun (w2 : World) (A : Option Addr) (c : Nat) (h : Rd w2 1 A E.length (bys E)) => run_str (P := Try.prog) (c := c) (src := 24) (dst := 9) Try.underlying24 Try.underlying5 Try.underlying9 (n := E.length) (l := E) rfl h)
  have HEQ := Lib.hid (fun w' (hb : Below w3.heap.size w3 w') => EqualP_same Ao A3 x.length co c3 x w' rfl (by omega) (hro3.below hb) (hr33.below hb))
  have HRO := Lib.hid (fun w' (hb : Below w3.heap.size w3 w') => hro3.below hb)
  generalize (⟨E.toArray⟩ : ByteArray) = S at *
  clear hro3 hr33 hr3
  repeat' ((fail_if_success at_builtin); (fail_if_success at_make); (first | go_values | go_skip | go_guarded | go_step | go_upon | go_back))
  --HELD
  refine wp_region_held_drew (S := (fun w' => (convert 24 9 (.slice A2 E.length c2)).run Try.prog w' = .ok (.string S) w')) (by kernel_rfl) ?_ (fun hHeld => ?_)
  · exact Q.out _ (Below.refl _ w3).drew
  have hB := (Below.refl w3.heap.size w3).drew
  generalize w3.drew = wn0 at *
  refine wpAnyH_take (i := 0) (oi := _) (v := ?_) rfl (by kernel_rfl) (by kernel_rfl) (by kernel_rfl) (fun _ _ _ h => h) (Or.inl ⟨by rfl, ?_⟩) (by assumption) ?_
  rotate_left
  · (intro w hSw; (try dsimp only at hSw); go_simp; try (with_reducible rfl))
  try simp only [List.getElem_toArray, List.getElem_cons_zero, List.getElem_cons_succ, Act.put, List.setIfInBounds_toArray, List.set_cons_zero, List.set_cons_succ]
  refine wpAnyH_take (i := 1) (oi := _) (v := ?_) rfl (by kernel_rfl) (by kernel_rfl) (by kernel_rfl) (fun _ _ _ h => h) (Or.inl ⟨by rfl, ?_⟩) (by assumption) ?_
  rotate_left
  · (intro w hSw; (try dsimp only at hSw); go_simp; try (with_reducible rfl))
  try simp only [List.getElem_toArray, List.getElem_cons_zero, List.getElem_cons_succ, Act.put, List.setIfInBounds_toArray, List.set_cons_zero, List.set_cons_succ]
  refine wpAnyH_take (i := 2) (oi := _) (v := ?_) rfl (by kernel_rfl) (by kernel_rfl) (by kernel_rfl) (fun _ _ _ h => h) (Or.inl ⟨by rfl, ?_⟩) (by assumption) ?_
  rotate_left
  · (intro w hSw; (try dsimp only at hSw); go_simp; try (with_reducible rfl))
  try simp only [List.getElem_toArray, List.getElem_cons_zero, List.getElem_cons_succ, Act.put, List.setIfInBounds_toArray, List.set_cons_zero, List.set_cons_succ]
  refine wpAnyH_take (i := 3) (oi := _) (v := ?_) rfl (by kernel_rfl) (by kernel_rfl) (by kernel_rfl) (fun _ _ _ h => h) (Or.inl ⟨by rfl, ?_⟩) (by assumption) ?_
  rotate_left
  · (intro w hSw; (try dsimp only at hSw); go_simp; try (with_reducible rfl))
  try simp only [List.getElem_toArray, List.getElem_cons_zero, List.getElem_cons_succ, Act.put, List.setIfInBounds_toArray, List.set_cons_zero, List.set_cons_succ]
  refine wpAnyH_take (i := 4) (oi := _) (v := ?_) rfl (by kernel_rfl) (by kernel_rfl) (by kernel_rfl) (fun _ _ _ h => h) (Or.inl ⟨by rfl, ?_⟩) (by assumption) ?_
  rotate_left
  · (intro w hSw; (try dsimp only at hSw); go_simp; try (with_reducible rfl))
  try simp only [List.getElem_toArray, List.getElem_cons_zero, List.getElem_cons_succ, Act.put, List.setIfInBounds_toArray, List.set_cons_zero, List.set_cons_succ]
  refine wpAnyH_take (i := 5) (oi := _) (v := ?_) rfl (by kernel_rfl) (by kernel_rfl) (by kernel_rfl) (fun _ _ _ h => h) (Or.inl ⟨by rfl, ?_⟩) (by assumption) ?_
  rotate_left
  · (intro w hSw; (try dsimp only at hSw); go_simp; try (with_reducible rfl))
  try simp only [List.getElem_toArray, List.getElem_cons_zero, List.getElem_cons_succ, Act.put, List.setIfInBounds_toArray, List.set_cons_zero, List.set_cons_succ]
  refine wpAnyH_take (i := 6) (oi := _) (v := ?_) rfl (by kernel_rfl) (by kernel_rfl) (by kernel_rfl) (fun _ _ _ h => h) (Or.inl ⟨by rfl, ?_⟩) (by assumption) ?_
  rotate_left
  · (intro w hSw; (try dsimp only at hSw); go_simp; try (with_reducible rfl))
  try simp only [List.getElem_toArray, List.getElem_cons_zero, List.getElem_cons_succ, Act.put, List.setIfInBounds_toArray, List.set_cons_zero, List.set_cons_succ]
  refine wpAnyH_take (i := 7) (oi := _) (v := ?_) rfl (by kernel_rfl) (by kernel_rfl) (by kernel_rfl) (fun _ _ _ h => h) (Or.inl ⟨by rfl, ?_⟩) (by assumption) ?_
  rotate_left
  · (intro w hSw; (try dsimp only at hSw); go_simp; try (with_reducible rfl))
  try simp only [List.getElem_toArray, List.getElem_cons_zero, List.getElem_cons_succ, Act.put, List.setIfInBounds_toArray, List.set_cons_zero, List.set_cons_succ]
  refine wpAnyH_take (i := 8) (oi := _) (v := ?_) rfl (by kernel_rfl) (by kernel_rfl) (by kernel_rfl) (fun _ _ _ h => h) (Or.inl ⟨by rfl, ?_⟩) (by assumption) ?_
  rotate_left
  · (intro w hSw; (try dsimp only at hSw); go_simp; try (with_reducible rfl))
  try simp only [List.getElem_toArray, List.getElem_cons_zero, List.getElem_cons_succ, Act.put, List.setIfInBounds_toArray, List.set_cons_zero, List.set_cons_succ]
  refine wpAnyH_ready (rs := [9]) (by kernel_rfl) (by simp) ?_
  refine AllReadyH.cons (o := _) rfl (fun K hK => ?_) ?_
  ·
    go_simp
    refine (HEQ.out wn0 hB).mono ?_
    rintro e4 w4 ⟨rfl, hb4⟩
    dsimp only
    refine outG hK ?_ (Below wn0.heap.size wn0) (fun W => True) ?_ ?_ (fun wn1 hHeld hst hnew => ?_)
    · ((try dsimp only); first | exact Q.out _ hB | exact Q.out _ (hB.trans (hb4.mono hB.size)) | exact Q.out _ (hB.trans (hb5.mono hB.size)))
    · (first | exact hb4 | exact hb5 | exact Below.refl _ _)
    · (trivial)
    have hB := hB.trans (hst.mono hB.size)
    clear hst
    clear hK K
    try simp only [List.getElem_toArray, List.getElem_cons_zero, List.getElem_cons_succ, Act.put, List.setIfInBounds_toArray, List.set_cons_zero, List.set_cons_succ]
    refine wpAnyH_take (i := 10) (oi := _) (v := ?_) rfl (by kernel_rfl) (by kernel_rfl) (by kernel_rfl) (fun _ _ _ h => h) (Or.inl ⟨by rfl, ?_⟩) (by assumption) ?_
    rotate_left
    · (intro w hSw; (try dsimp only at hSw); go_simp; try (with_reducible rfl))
    try simp only [List.getElem_toArray, List.getElem_cons_zero, List.getElem_cons_succ, Act.put, List.setIfInBounds_toArray, List.set_cons_zero, List.set_cons_succ]
    refine wpAnyH_take (i := 11) (oi := _) (v := ?_) rfl (by kernel_rfl) (by kernel_rfl) (by kernel_rfl) (fun _ _ _ h => h) (Or.inl ⟨by rfl, ?_⟩) (by assumption) ?_
    rotate_left
    · (intro w hSw; (try dsimp only at hSw); go_simp; try (with_reducible rfl))
    try simp only [List.getElem_toArray, List.getElem_cons_zero, List.getElem_cons_succ, Act.put, List.setIfInBounds_toArray, List.set_cons_zero, List.set_cons_succ]
    refine wpAnyH_take (i := 12) (oi := _) (v := ?_) rfl (by kernel_rfl) (by kernel_rfl) (by kernel_rfl) (fun _ _ _ h => h) (Or.inl ⟨by rfl, ?_⟩) (by assumption) ?_
    rotate_left
    · (intro w hSw; (try dsimp only at hSw); go_simp; try (with_reducible rfl))
    try simp only [List.getElem_toArray, List.getElem_cons_zero, List.getElem_cons_succ, Act.put, List.setIfInBounds_toArray, List.set_cons_zero, List.set_cons_succ]
    refine wpAnyH_take (i := 13) (oi := _) (v := ?_) rfl (by kernel_rfl) (by kernel_rfl) (by kernel_rfl) (fun _ _ _ h => h) (Or.inl ⟨by rfl, ?_⟩) (by assumption) ?_
    rotate_left
    · (intro w hSw; (try dsimp only at hSw); go_simp; try (with_reducible rfl))
    try simp only [List.getElem_toArray, List.getElem_cons_zero, List.getElem_cons_succ, Act.put, List.setIfInBounds_toArray, List.set_cons_zero, List.set_cons_succ]
    refine wpAnyH_take (i := 14) (oi := _) (v := ?_) rfl (by kernel_rfl) (by kernel_rfl) (by kernel_rfl) (fun _ _ _ h => h) (Or.inl ⟨by rfl, ?_⟩) (by assumption) ?_
    rotate_left
    · (intro w hSw; (try dsimp only at hSw); go_simp; try (with_reducible rfl))
    try simp only [List.getElem_toArray, List.getElem_cons_zero, List.getElem_cons_succ, Act.put, List.setIfInBounds_toArray, List.set_cons_zero, List.set_cons_succ]
    refine wpAnyH_ready (rs := [15]) (by kernel_rfl) (by simp) ?_
    refine AllReadyH.cons (o := _) rfl (fun K hK => ?_) ?_
    ·
      go_simp
      refine (HMAN.out wn1 (HRO.out _ hB)).mono ?_
      rintro e5 w5 ⟨A5, c5, rfl, hz5, hb5⟩
      dsimp only
      refine outG hK ?_ (Below wn1.heap.size wn1) (fun W => Rd W 1 A5 E.length (bys E)) ?_ ?_ (fun wn2 hHeld hst hnew => ?_)
      · ((try dsimp only); first | exact Q.out _ hB | exact Q.out _ (hB.trans (hb4.mono hB.size)) | exact Q.out _ (hB.trans (hb5.mono hB.size)))
      · (first | exact hb4 | exact hb5 | exact Below.refl _ _)
      · (exact hz5.rd)
      have hB := hB.trans (hst.mono hB.size)
      have h15 := hnew
      clear hst
      clear hK K
      try simp only [List.getElem_toArray, List.getElem_cons_zero, List.getElem_cons_succ, Act.put, List.setIfInBounds_toArray, List.set_cons_zero, List.set_cons_succ]
      refine wpAnyH_ready (rs := [16]) (by kernel_rfl) (by simp) ?_
      refine AllReadyH.cons (o := _) rfl (fun K hK => ?_) ?_
      ·
        have q16 := Q2.out wn2 A5 c5 h15
        go_simp
        clear q16
        refine outG hK ?_ (Below wn2.heap.size wn2) (fun W => True) ?_ ?_ (fun wn3 hHeld hst hnew => ?_)
        · ((try dsimp only); first | exact Q.out _ hB | exact Q.out _ (hB.trans (hb4.mono hB.size)) | exact Q.out _ (hB.trans (hb5.mono hB.size)))
        · (first | exact hb4 | exact hb5 | exact Below.refl _ _)
        · (trivial)
        have hB := hB.trans (hst.mono hB.size)
        clear hst
        clear hK K
        try simp only [List.getElem_toArray, List.getElem_cons_zero, List.getElem_cons_succ, Act.put, List.setIfInBounds_toArray, List.set_cons_zero, List.set_cons_succ]
        refine wpAnyH_take (i := 17) (oi := _) (v := ?_) rfl (by kernel_rfl) (by kernel_rfl) (by kernel_rfl) (fun _ _ _ h => h) (Or.inl ⟨by rfl, ?_⟩) (by assumption) ?_
        rotate_left
        · (intro w hSw; (try dsimp only at hSw); go_simp; try (with_reducible rfl))
        try simp only [List.getElem_toArray, List.getElem_cons_zero, List.getElem_cons_succ, Act.put, List.setIfInBounds_toArray, List.set_cons_zero, List.set_cons_succ]
        refine wpAnyH_take (i := 18) (oi := _) (v := ?_) rfl (by kernel_rfl) (by kernel_rfl) (by kernel_rfl) (fun _ _ _ h => h) (Or.inl ⟨by rfl, ?_⟩) (by assumption) ?_
        rotate_left
        · (intro w hSw; (try dsimp only at hSw); go_simp; try (with_reducible rfl))
        try simp only [List.getElem_toArray, List.getElem_cons_zero, List.getElem_cons_succ, Act.put, List.setIfInBounds_toArray, List.set_cons_zero, List.set_cons_succ]
        refine wpAnyH_take (i := 19) (oi := _) (v := ?_) rfl (by kernel_rfl) (by kernel_rfl) (by kernel_rfl) (fun _ _ _ h => h) (Or.inl ⟨by rfl, ?_⟩) (by assumption) ?_
        rotate_left
        · (intro w hSw; (try dsimp only at hSw); go_simp; try (with_reducible rfl))
        try simp only [List.getElem_toArray, List.getElem_cons_zero, List.getElem_cons_succ, Act.put, List.setIfInBounds_toArray, List.set_cons_zero, List.set_cons_succ]
        refine wpAnyH_done (by kernel_rfl) ?_ _
        clear hHeld
        dsimp only [Exit.then]
        repeat' ((fail_if_success at_builtin); (fail_if_success at_make); (first | go_values | go_skip | go_guarded | go_step | go_upon | go_back))
        go_ret
        exact ⟨rfl, hb13.trans (hB.mono hb13.size)⟩
      exact AllReadyH.nil
    exact AllReadyH.nil
  exact AllReadyH.nil
  --HELDEND
end Go.Proofs.Ytlejpmbofbghfaa
