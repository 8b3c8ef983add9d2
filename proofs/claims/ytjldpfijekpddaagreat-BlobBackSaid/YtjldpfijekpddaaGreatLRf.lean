/- StoreRefuses walked. Conditions: the slice's size. -/
import Derived.Test.YtjldpfijekpddaaGreatKpt
import Derived.Test.YtjldpfijekpddaaGreatSWr
import Derived.Test.YtjldpfijekpddaaGreatRawV
namespace Go.Proofs.YtjldpfijekpddaaGreat
open Go.RowKit
set_option linter.unusedVariables false
set_option linter.unusedSimpArgs false
set_option maxRecDepth 100000

theorem Has_tells (gk : Nat) (d : List UInt8) (l : List BlobP) (w : World) (hk : w.cell? ⟨gk, 0, none⟩ = some (.string ⟨d.toArray⟩)) (hg : gk < w.heap.size) : TellsB w l 48 (.pointer (some ⟨gk, 0, none⟩)) (fun b => b.dig == d) := by
  refine ⟨fun _ _ => by kernel_rfl, fun b B cb W hb hbel hs => ?_⟩
  have hg1 : gk < W.heap.size := Nat.lt_of_lt_of_le hg hbel.size
  have hk0 : W.cell? ⟨gk, 0, none⟩ = some (.string ⟨d.toArray⟩) := (hbel.cell (p := ⟨gk, 0, none⟩) hg).trans hk
  generalize hs1 : (⟨b.dig.toArray⟩ : ByteArray) = s
  generalize hs2 : (⟨d.toArray⟩ : ByteArray) = t at hk0
  have hst : (b.dig == d) = (s.toList == t.toList) := by
    rw [← hs1, ← hs2, ByteArray.toList_eq, ByteArray.toList_eq]
  dsimp only
  rw [hst]
  have hb1 := (Below.refl W.heap.size W).alloc (Nat.le_refl _) (.cells #[.string s, .slice B b.data.length cb, .int .i64 (b.pins : Int), (.bool b.mark)] 43)
  have hk1 : (W.alloc (.cells #[.string s, .slice B b.data.length cb, .int .i64 (b.pins : Int), (.bool b.mark)] 43)).cell? ⟨gk, 0, none⟩ = some (.string t) := (World.cell?_alloc_lt W _ ⟨gk, 0, none⟩ hg1).trans hk0
  clear hst hs1 hs2
  go_enter Tryz.func48, Tryz.ntmps48
  repeat' ((fail_if_success at_builtin); (fail_if_success at_make); (first | go_values | go_skip | go_guarded | go_step | go_upon | go_back))
  go_ret
  exact ⟨rfl, hb1⟩
theorem Has_ok (A : Option Addr) (c : Nat) (l : List BlobP) (d : List UInt8) (w : World) (hl : l.length ≤ 1000000) (hA : Rw BlobS w A l) :
    Calls Tryz.prog 13 #[.slice A l.length c, .string ⟨d.toArray⟩] w fun e w' => e = .returned (.bool (l.any (fun x => x.dig == d))) ∧ Below w.heap.size w w' := by
  obtain ⟨s, hs⟩ : ∃ s : ByteArray, s = ⟨d.toArray⟩ := ⟨_, rfl⟩
  rw [← hs]
  have hb1 := (Below.refl w.heap.size w).alloc (Nat.le_refl _) (.cells #[.string s] 9)
  have hA1' : Arr (w.alloc (.cells #[.string s] 9)) w.heap.size 9 [.string s] := Arr.new w 9 [.string s]
  have hk := hA1'.cell (k := 0) rfl
  have HI := Lib.hid (CntB_ok A c l _ (.pointer (some ⟨w.heap.size, 0, none⟩)) (fun x => x.dig == d) (w.alloc (.cells #[.string s] 9)) hl (hA.below hb1) (Has_tells w.heap.size d l _ (by rw [hk, hs]) hA1'.lt))
  clear hs hA hA1' hk
  generalize l.any (fun x => x.dig == d) = R at *
  go_enter Tryz.func13, Tryz.ntmps13
  repeat' ((fail_if_success at_builtin); (fail_if_success at_make); (first | go_values | go_skip | go_guarded | go_step | go_upon | go_back))
  refine ((HI.out)).mono ?_; rintro e_ w2 ⟨rfl, hb2⟩; dsimp only
  have hb12 := hb1.trans (hb2.mono hb1.size)
  repeat' ((fail_if_success at_builtin); (fail_if_success at_make); (first | go_values | go_skip | go_guarded | go_step | go_upon | go_back))
  go_ret
  exact ⟨rfl, hb12⟩
theorem share_ {P Q : Prop} (h : Hid P → Q) (p : P) : Q := h (Lib.hid p)
set_option maxHeartbeats 4000000 in
theorem StoreRefuses_walk (A : Option Addr) (n c : Nat) (l : List RawP) (r : RawP) (w : World) (hl : l.length = n) (hc : n ≤ c) (hm : c ≤ maxLen) (hok : ∀ r ∈ l, RawOk r) (hr : Rd w 4 A n (rcs l)) (hro : RawOk r) :
    Calls Tryz.prog 6 #[.slice A n c, rval r] w fun e w' => e = .returned (.bool true) ∧ Below w.heap.size w w' := by
  have hsg := sto_good l
  obtain ⟨rk, ra, rb, rt⟩ := r
  unfold rval
  have HRO := Lib.hid hro
  obtain ⟨w0, hw0⟩ : ∃ w0, w0 = w.alloc (.cells #[.int .i64 rk, .int .i64 ra, .int .i64 rb, .string rt] 24) := ⟨_, rfl⟩
  have hb0 : Below w.heap.size w w0 := by rw [hw0]; exact (Below.refl _ _).alloc (Nat.le_refl _) _
  obtain ⟨gr, hgr⟩ : ∃ g, g = w.heap.size := ⟨_, rfl⟩
  have hRb : Arr w0 gr 24 [.int .i64 rk, .int .i64 ra, .int .i64 rb, .string rt] := by rw [hw0, hgr]; exact Arr.new w 24 _
  have HS := Lib.hid (Store_ok A n c l w0 hl hc hm hok (hr.below hb0))
  rw [← hgr] at hb0 ⊢
  have hgl : gr < w0.heap.size := hRb.lt
  clear hok hl hr hro
  generalize hs : sto l = s at *
  have HSG := Lib.hid hsg
  have hlb : s.blobs.length ≤ 24 := hsg.b.len
  clear hs hsg
  go_enter Tryz.func6, Tryz.ntmps6
  repeat' ((fail_if_success at_builtin); (fail_if_success at_make); (first | go_values | go_skip | go_guarded | go_step | go_upon | go_back))
  rw [← hw0, ← hgr]
  clear hw0 hgr
  refine ((HS.out)).mono ?_; rintro e_ w1 ⟨v1, v2, rfl, hb, he, hb1⟩; dsimp only
  obtain ⟨As, cs, rfl, hc1, hc2, hRs⟩ := hb.rows
  obtain ⟨Bs, ds, rfl, hd1, hd2, hEs⟩ := he.rows
  have hrd1 : RdSt w1 As cs Bs ds s := ⟨hRs, hEs, hc1, hc2, hd1, hd2⟩
  have hb01 := hb0.trans (hb1.mono (by omega))
  have hRb1 := hRb.below hb1
  have hba := (Below.refl w1.heap.size w1).alloc (Nat.le_refl _) (.cells #[.slice As s.blobs.length cs, .slice Bs s.ents.length ds, .int .i64 (s.room : Int), .int .i64 (s.clock : Int)] 28)
  have hX' : Arr (w1.alloc (.cells #[.slice As s.blobs.length cs, .slice Bs s.ents.length ds, .int .i64 (s.room : Int), .int .i64 (s.clock : Int)] 28)) w1.heap.size 28 [.slice As s.blobs.length cs, .slice Bs s.ents.length ds, .int .i64 (s.room : Int), .int .i64 (s.clock : Int)] := Arr.new w1 28 _
  have hrd2 := hrd1.below hba
  have hRb2 := hRb1.below hba
  have hb02 := hb01.trans (hba.mono (by have := hb1.size; omega))
  clear hb he hRs hEs hba hrd1 hRb hRb1 hb0 hb1 hb01 hc1 hc2 hd1 hd2
  repeat' ((fail_if_success at_builtin); (fail_if_success at_make); (fail_if_success (with_reducible refine at_store_ 9 ?_)); (fail_if_success (with_reducible refine at_load_ 9 ?_)); (fail_if_success (with_reducible refine at_copy_ ?_)); (first | go_values | go_skip | go_guarded | go_step | go_upon | go_back))
  generalize w1.alloc (.cells #[.slice As s.blobs.length cs, .slice Bs s.ents.length ds, .int .i64 (s.room : Int), .int .i64 (s.clock : Int)] 28) = w2 at *
  generalize w1.heap.size = gs at *
  have hx3 := hRb2.cell (k := 3) rfl
  have hrz : rt.size ≤ 140737488351232 := HRO.out.t
  have hrl : rt.data.toList.length ≤ 140737488351232 := by rw [Array.length_toList]; exact hrz
  obtain ⟨w3, qz, hz, hb3⟩ := conv_Z rt w2 (by simp only [maxLen]; omega)
  generalize rt.data.toList = T at *
  generalize grownCap w2 rt.size 0 5 = cz at *
  have hgr2 : gr < w2.heap.size := hRb2.lt
  repeat' ((fail_if_success at_builtin); (fail_if_success at_make); (first | go_values | go_skip | go_guarded | go_step | go_upon | go_back))
  clear hx3 qz
  refine wpList_apZ rfl (.tmp 17) (.const (.string ⟨#[108, 111, 115, 116]⟩)) rfl (by rfl) hz rfl (Src.str Tryz.underlying9 _) (by show _ + 4 ≤ _; omega) hb3.size ?_
  intro A4 c4 w4 hz4 hb4
  have hc4 := hb3.trans hb4
  have hql : (T ++ (⟨#[108, 111, 115, 116]⟩ : ByteArray).data.toList).length ≤ 140737488351236 := by rw [List.length_append]; show _ + 4 ≤ _; omega
  generalize (T ++ (⟨#[108, 111, 115, 116]⟩ : ByteArray).data.toList) = Q at *
  have HDG := Digest_okB A4 Q.length c4 Q w4 rfl hz4.cap.1 (by omega) hz4.rd
  have HLX := Lib.hid (hexC_sha Q)
  generalize shaS Q = L at *
  obtain ⟨sL, hsL⟩ : ∃ x : ByteArray, x = ⟨L.toArray⟩ := ⟨_, rfl⟩
  rw [← hsL] at HDG
  have HDG := Lib.hid HDG
  have HSL := Lib.hid hsL
  clear hz hb3 hb4 hsL
  repeat' ((fail_if_success at_builtin); (fail_if_success at_make); (first | go_values | go_skip | go_guarded | go_step | go_upon | go_back))
  clear hql
  refine ((HDG.out)).mono ?_; rintro e_ w5 ⟨rfl, hb5⟩; dsimp only
  have hc5 := hc4.trans (hb5.mono hc4.size)
  have hrd5 := hrd2.below hc5
  have hX5 := hX'.below hc5
  have z0 := hX5.cell (k := 0) rfl
  have HHS := Has_ok As cs s.blobs L w5 (by omega) hrd5.b
  rw [← HSL.out] at HHS
  clear hz4 hc4 hb5
  cases hany : s.blobs.any (fun x => x.dig == L) with
  | true =>
    rw [hany] at HHS
    have HHS := Lib.hid HHS
    repeat' ((fail_if_success at_builtin); (fail_if_success at_make); (first | go_values | go_skip | go_guarded | go_step | go_upon | go_back))
    clear z0
    refine ((HHS.out)).mono ?_; rintro e_ w6 ⟨rfl, hb6⟩; dsimp only
    have hc6 := hc5.trans (hb6.mono hc5.size)
    have hb06 := hb02.trans (hc6.mono (Nat.le_of_lt hgr2))
    have HKP := Lib.hid (kept_ok w6)
    have hg6 : gr ≤ w6.heap.size := by have := hc6.size; omega
    clear hrd2 hRb2 hX' hrd5 hX5 hc5 hb6 hc6 hany
    repeat' ((fail_if_success at_builtin); (fail_if_success at_make); (first | go_values | go_skip | go_guarded | go_step | go_upon | go_back))
    refine ((HKP.out)).mono ?_; rintro e_ w7 ⟨rfl, hb7⟩; dsimp only
    have hb07 := hb06.trans (hb7.mono hg6)
    repeat' ((fail_if_success at_builtin); (fail_if_success at_make); (first | go_values | go_skip | go_guarded | go_step | go_upon | go_back))
    go_ret
    exact ⟨rfl, hb07⟩
  | false =>
    rw [hany] at HHS
    have HHS := Lib.hid HHS
    have HNO := Lib.hid (show ∀ b ∈ s.blobs, b.dig ≠ L from fun b hb e => by
      have := List.any_eq_false.1 hany b hb
      simp [e] at this)
    clear hany
    repeat' ((fail_if_success at_builtin); (fail_if_success at_make); (first | go_values | go_skip | go_guarded | go_step | go_upon | go_back))
    clear z0
    refine ((HHS.out)).mono ?_; rintro e_ w7 ⟨rfl, hb7⟩; dsimp only
    have hc7 := hc5.trans (hb7.mono hc5.size)
    have hrd7 := hrd2.below hc7
    have hX7 := hX'.below hc7
    have hRb7 := hRb2.below hc7
    have hb07 := hb02.trans (hc7.mono (Nat.le_of_lt hgr2))
    have hgr7 : gr < w7.heap.size := hRb7.lt
    have HSB := Lib.hid (show ∀ W, Below w7.heap.size w7 W → (W.cell? ⟨gs, 0, none⟩ = some (.slice As s.blobs.length cs) ∧ W.cell? ⟨gs, 1, none⟩ = some (.slice Bs s.ents.length ds) ∧ W.cell? ⟨gs, 2, none⟩ = some (.int .i64 (s.room : Int)) ∧ W.cell? ⟨gs, 3, none⟩ = some (.int .i64 (s.clock : Int))) ∧ W.cell? ⟨gr, 1, none⟩ = some (.int .i64 ra) from fun W h =>
      ⟨⟨(hX7.below h).cell (k := 0) rfl, (hX7.below h).cell (k := 1) rfl, (hX7.below h).cell (k := 2) rfl, (hX7.below h).cell (k := 3) rfl⟩, (hRb7.below h).cell (k := 1) rfl⟩)
    obtain ⟨sk, hsk⟩ : ∃ x : ByteArray, x = ⟨(keyS (pk ra 7)).toArray⟩ := ⟨_, rfl⟩
    have HKY := Lib.hid (show ∀ W, Calls Tryz.prog 26 #[.int .i64 ra] W fun e w' => e = .returned (.string sk) ∧ Below W.heap.size W w' from fun W => by
      rw [hsk]; exact Key_ok ra W HRO.out.a0 HRO.out.a1)
    have hpz : chk [⟨[97], L, 0⟩] = 0 := by
      rw [chk, if_neg (by show ¬ 1 > 8; omega), chkGo_step (show nameC [97] = 0 by decide) (fun m hm => by cases hm) HLX.out (by show 0 ≤ 300; omega)]
      rfl
    have hhv : haveC s.blobs [⟨[97], L, 0⟩] = 5 := by
      rw [haveC, show s.blobs.findIdx? (fun b => b.dig == L) = none by
        rw [List.findIdx?_eq_none_iff]; intro x hx; simp [HNO.out x hx]]
    have HPR := Lib.hid (show ∀ W (PA : Option Addr), Below w7.heap.size w7 W → Sl W 3 PA 1 1 (pcs [⟨[97], L, 0⟩]) → Calls Tryz.prog 25 #[.agg #[.slice As s.blobs.length cs, .slice Bs s.ents.length ds, .int .i64 (s.room : Int), .int .i64 (s.clock : Int)], .string sk, .slice PA 1 1] W fun e w' => e = .returned (.tuple #[.agg #[.slice none 0 0, .slice none 0 0, .int .i64 0, .int .i64 0], .int .i64 5]) ∧ Below W.heap.size W w' from fun W PA h hs => by
      rw [hsk]
      exact PutS_refuse As cs Bs ds s (keyS (pk ra 7)) [⟨[97], L, 0⟩] PA 1 5 W HSG.out (hrd7.below h) (hexC_sha _) hpz hhv (by omega) hs)
    have HX7 := Lib.hid hX7
    have HRD := Lib.hid hrd7
    have HB7 := Lib.hid hb07
    clear hrd2 hRb2 hX' hrd5 hX5 hc5 hb7 hc7 hrd7 hX7 hRb7 hb07 hb02 hpz hhv hsk
    repeat' ((fail_if_success at_builtin); (fail_if_success at_make); (first | go_values | go_skip | go_guarded | go_step | go_upon | go_back))
    apply share_
    intro REST
    --HELD1
    refine wp_region_held_drew (S := (fun w' => (w'.cell? ⟨gs, 0, none⟩ = some (.slice As s.blobs.length cs) ∧ w'.cell? ⟨gs, 1, none⟩ = some (.slice Bs s.ents.length ds) ∧ w'.cell? ⟨gs, 2, none⟩ = some (.int .i64 (s.room : Int)) ∧ w'.cell? ⟨gs, 3, none⟩ = some (.int .i64 (s.clock : Int))) ∧ w'.cell? ⟨gr, 1, none⟩ = some (.int .i64 ra))) (by kernel_rfl) ?_ (fun hHeld => ?_)
    · exact HSB.out _ (Below.refl _ w7).drew
    have hB := (Below.refl w7.heap.size w7).drew
    generalize w7.drew = wn0 at *
    refine wpAnyH_take (i := 0) (oi := _) (v := ?_) rfl (by kernel_rfl) (by kernel_rfl) (by kernel_rfl) (fun _ _ _ h => h) (Or.inl ⟨by rfl, ?_⟩) (by assumption) ?_
    rotate_left
    · (intro w hSw; (try dsimp only at hSw); go_simp; try (with_reducible rfl))
    try simp only [List.getElem_toArray, List.getElem_cons_zero, List.getElem_cons_succ, Act.put, List.setIfInBounds_toArray, List.set_cons_zero, List.set_cons_succ]
    refine wpAnyH_take (i := 1) (oi := _) (v := ?_) rfl (by kernel_rfl) (by kernel_rfl) (by kernel_rfl) (fun _ _ _ h => h) (Or.inl ⟨by rfl, ?_⟩) (by assumption) ?_
    rotate_left
    · (intro w hSw; (try dsimp only at hSw); go_simp; try (with_reducible rfl))
    try simp only [List.getElem_toArray, List.getElem_cons_zero, List.getElem_cons_succ, Act.put, List.setIfInBounds_toArray, List.set_cons_zero, List.set_cons_succ]
    refine wpAnyH_take (i := 2) (oi := _) (v := ?_) rfl (by kernel_rfl) (by kernel_rfl) (by kernel_rfl) (fun _ _ _ h => h) (Or.inl ⟨by rfl, ?_⟩) (by assumption) ?_
    rotate_left
    · (intro w hSw; (try dsimp only at hSw); go_simp; try (with_reducible rfl))
    try simp only [List.getElem_toArray, List.getElem_cons_zero, List.getElem_cons_succ, Act.put, List.setIfInBounds_toArray, List.set_cons_zero, List.set_cons_succ]
    refine wpAnyH_take (i := 4) (oi := _) (v := ?_) rfl (by kernel_rfl) (by kernel_rfl) (by kernel_rfl) (fun _ _ _ h => h) (Or.inl ⟨by rfl, ?_⟩) (by assumption) ?_
    rotate_left
    · (intro w hSw; (try dsimp only at hSw); go_simp; try (with_reducible rfl))
    try simp only [List.getElem_toArray, List.getElem_cons_zero, List.getElem_cons_succ, Act.put, List.setIfInBounds_toArray, List.set_cons_zero, List.set_cons_succ]
    refine wpAnyH_take (i := 5) (oi := _) (v := ?_) rfl (by kernel_rfl) (by kernel_rfl) (by kernel_rfl) (fun _ _ _ h => h) (Or.inl ⟨by rfl, ?_⟩) (by assumption) ?_
    rotate_left
    · (intro w hSw; (try dsimp only at hSw); go_simp; try (with_reducible rfl))
    try simp only [List.getElem_toArray, List.getElem_cons_zero, List.getElem_cons_succ, Act.put, List.setIfInBounds_toArray, List.set_cons_zero, List.set_cons_succ]
    refine wpAnyH_ready (rs := [3, 6, 11]) (by kernel_rfl) (by simp) ?_
    refine AllReadyH.cons (o := _) rfl (fun K hK => ?_) ?_
    ·
      go_simp
      refine (HKY.out wn0).mono ?_
      rintro e5 w5 ⟨rfl, hb5⟩
      dsimp only
      refine outG hK ?_ (Below wn0.heap.size wn0) (fun W => True) ?_ ?_ (fun wn1 hHeld hst hnew => ?_)
      · (exact HSB.out _ (hB.trans (Below.mono (show Below wn0.heap.size wn0 _ from by (first | exact (Below.refl _ _).alloc (Nat.le_refl _) _ | exact hb5 | exact Below.refl _ _)) hB.size)))
      · (first | exact (Below.refl _ _).alloc (Nat.le_refl _) _ | exact hb5 | exact Below.refl _ _)
      · (trivial)
      have hB := hB.trans (hst.mono hB.size)
      clear hst
      clear hK K
      try simp only [List.getElem_toArray, List.getElem_cons_zero, List.getElem_cons_succ, Act.put, List.setIfInBounds_toArray, List.set_cons_zero, List.set_cons_succ]
      refine wpAnyH_ready (rs := [6, 11]) (by kernel_rfl) (by simp) ?_
      refine AllReadyH.cons (o := _) rfl (fun K hK => ?_) ?_
      ·
        go_simp
        refine outG hK ?_ (Below wn1.heap.size wn1) (fun W => Sl W 3 (some ⟨wn1.heap.size, 0, none⟩) 1 1 (pcs [⟨[97], L, 0⟩])) ?_ ?_ (fun wn2 hHeld hst hnew => ?_)
        · (exact HSB.out _ (hB.trans (Below.mono (show Below wn1.heap.size wn1 _ from by (first | exact (Below.refl _ _).alloc (Nat.le_refl _) _ | exact hb5 | exact Below.refl _ _)) hB.size)))
        · (first | exact (Below.refl _ _).alloc (Nat.le_refl _) _ | exact hb5 | exact Below.refl _ _)
        · (exact ⟨by rw [HSL.out]; exact Rd.newN (pcs [⟨[97], L, 0⟩]) rfl, Nat.le_refl _, by simp [maxLen], fun a ha => by cases ha; simp⟩)
        have hB := hB.trans (hst.mono hB.size)
        have h6 := hnew
        obtain ⟨g6, hg6⟩ : ∃ g, g = wn1.heap.size := ⟨_, rfl⟩
        rw [← hg6] at h6 ⊢
        clear hg6
        clear hst
        clear hK K
        try simp only [List.getElem_toArray, List.getElem_cons_zero, List.getElem_cons_succ, Act.put, List.setIfInBounds_toArray, List.set_cons_zero, List.set_cons_succ]
        refine wpAnyH_ready (rs := [7, 11]) (by kernel_rfl) (by simp) ?_
        refine AllReadyH.cons (o := _) rfl (fun K hK => ?_) ?_
        ·
          go_simp
          refine (HPR.out wn2 _ hB h6).mono ?_
          rintro e5 w5 ⟨rfl, hb5⟩
          dsimp only
          refine outG hK ?_ (Below wn2.heap.size wn2) (fun W => True) ?_ ?_ (fun wn3 hHeld hst hnew => ?_)
          · (exact HSB.out _ (hB.trans (Below.mono (show Below wn2.heap.size wn2 _ from by (first | exact (Below.refl _ _).alloc (Nat.le_refl _) _ | exact hb5 | exact Below.refl _ _)) hB.size)))
          · (first | exact (Below.refl _ _).alloc (Nat.le_refl _) _ | exact hb5 | exact Below.refl _ _)
          · (trivial)
          have hB := hB.trans (hst.mono hB.size)
          clear hst
          clear hK K
          try simp only [List.getElem_toArray, List.getElem_cons_zero, List.getElem_cons_succ, Act.put, List.setIfInBounds_toArray, List.set_cons_zero, List.set_cons_succ]
          refine wpAnyH_take (i := 8) (oi := _) (v := ?_) rfl (by kernel_rfl) (by kernel_rfl) (by kernel_rfl) (fun _ _ _ h => h) (Or.inl ⟨by rfl, ?_⟩) (by assumption) ?_
          rotate_left
          · (intro w hSw; (try dsimp only at hSw); go_simp; try (with_reducible rfl))
          try simp only [List.getElem_toArray, List.getElem_cons_zero, List.getElem_cons_succ, Act.put, List.setIfInBounds_toArray, List.set_cons_zero, List.set_cons_succ]
          refine wpAnyH_take (i := 9) (oi := _) (v := ?_) rfl (by kernel_rfl) (by kernel_rfl) (by kernel_rfl) (fun _ _ _ h => h) (Or.inl ⟨by rfl, ?_⟩) (by assumption) ?_
          rotate_left
          · (intro w hSw; (try dsimp only at hSw); go_simp; try (with_reducible rfl))
          try simp only [List.getElem_toArray, List.getElem_cons_zero, List.getElem_cons_succ, Act.put, List.setIfInBounds_toArray, List.set_cons_zero, List.set_cons_succ]
          refine wpAnyH_take (i := 10) (oi := _) (v := ?_) rfl (by kernel_rfl) (by kernel_rfl) (by kernel_rfl) (fun _ _ _ h => h) (Or.inl ⟨by rfl, ?_⟩) (by assumption) ?_
          rotate_left
          · (intro w hSw; (try dsimp only at hSw); go_simp; try (with_reducible rfl))
          try simp only [List.getElem_toArray, List.getElem_cons_zero, List.getElem_cons_succ, Act.put, List.setIfInBounds_toArray, List.set_cons_zero, List.set_cons_succ]
          refine wpAnyH_ready (rs := [11]) (by kernel_rfl) (by simp) ?_
          refine AllReadyH.cons (o := _) rfl (fun K hK => ?_) ?_
          ·
            go_simp
            refine outG hK ?_ (Below wn3.heap.size wn3) (fun W => Arr W wn3.heap.size 28 [.slice none 0 0, .slice none 0 0, .int .i64 0, .int .i64 0] ∧ w7.heap.size ≤ wn3.heap.size) ?_ ?_ (fun wn4 hHeld hst hnew => ?_)
            · (exact HSB.out _ (hB.trans (Below.mono (show Below wn3.heap.size wn3 _ from by (first | exact (Below.refl _ _).alloc (Nat.le_refl _) _ | exact hb5 | exact Below.refl _ _)) hB.size)))
            · (first | exact (Below.refl _ _).alloc (Nat.le_refl _) _ | exact hb5 | exact Below.refl _ _)
            · (exact ⟨Arr.new _ _ _, hB.size⟩)
            have hB := hB.trans (hst.mono hB.size)
            obtain ⟨h8, hl8⟩ := hnew
            obtain ⟨g8, hg8⟩ : ∃ g, g = wn3.heap.size := ⟨_, rfl⟩
            rw [← hg8] at h8 hl8 ⊢
            clear hg8
            clear hst
            clear hK K
            try simp only [List.getElem_toArray, List.getElem_cons_zero, List.getElem_cons_succ, Act.put, List.setIfInBounds_toArray, List.set_cons_zero, List.set_cons_succ]
            refine wpAnyH_ready (rs := [12]) (by kernel_rfl) (by simp) ?_
            refine AllReadyH.cons (o := _) rfl (fun K hK => ?_) ?_
            ·
              have z0 := h8.cell (k := 0) rfl
              have z1 := h8.cell (k := 1) rfl
              have z2 := h8.cell (k := 2) rfl
              have z3 := h8.cell (k := 3) rfl
              have f0 := h8.frozen 0
              have f1 := h8.frozen 1
              have f2 := h8.frozen 2
              have f3 := h8.frozen 3
              go_simp
              clear z0 z1 z2 z3 f0 f1 f2 f3
              refine outG hK ?_ (fun W => Arr W g8 28 [.slice none 0 0, .slice none 0 0, .int .i64 0, .int .i64 0]) (fun W => Below w7.heap.size w7 W) ?_ ?_ (fun wn5 hHeld hF hG => ?_)
              · exact HSB.out _ ((((hB.setCell (p := ⟨g8, 0, none⟩) hl8 _).setCell (p := ⟨g8, 1, none⟩) hl8 _).setCell (p := ⟨g8, 2, none⟩) hl8 _).setCell (p := ⟨g8, 3, none⟩) hl8 _)
              · exact h8.all4 _ _ _ _
              · exact ((((hB.setCell (p := ⟨g8, 0, none⟩) hl8 _).setCell (p := ⟨g8, 1, none⟩) hl8 _).setCell (p := ⟨g8, 2, none⟩) hl8 _).setCell (p := ⟨g8, 3, none⟩) hl8 _)
              clear hB h8
              clear hK K
              try simp only [List.getElem_toArray, List.getElem_cons_zero, List.getElem_cons_succ, Act.put, List.setIfInBounds_toArray, List.set_cons_zero, List.set_cons_succ]
              refine wpAnyH_take (i := 13) (oi := _) (v := ?_) rfl (by kernel_rfl) (by kernel_rfl) (by kernel_rfl) (fun _ _ _ h => h) (Or.inl ⟨by rfl, ?_⟩) (by assumption) ?_
              rotate_left
              · (intro w hSw; (try dsimp only at hSw); go_simp; try (with_reducible rfl))
              try simp only [List.getElem_toArray, List.getElem_cons_zero, List.getElem_cons_succ, Act.put, List.setIfInBounds_toArray, List.set_cons_zero, List.set_cons_succ]
              refine wpAnyH_done (by kernel_rfl) ?_ _
              dsimp only [Exit.then]
              clear hHeld
              have hall := And.intro hG hF
              generalize wn5 = wz at hall ⊢
              generalize g8 = gz at hall ⊢
              generalize g6 = g7
              revert wz gz g7
              exact REST.out
            exact AllReadyH.nil
          exact AllReadyH.nil
        refine AllReadyH.cons (o := _) rfl (fun K hK => ?_) ?_
        ·
          go_simp
          refine outG hK ?_ (Below wn2.heap.size wn2) (fun W => Arr W wn2.heap.size 28 [.slice none 0 0, .slice none 0 0, .int .i64 0, .int .i64 0] ∧ w7.heap.size ≤ wn2.heap.size) ?_ ?_ (fun wn6 hHeld hst hnew => ?_)
          · (exact HSB.out _ (hB.trans (Below.mono (show Below wn2.heap.size wn2 _ from by (first | exact (Below.refl _ _).alloc (Nat.le_refl _) _ | exact hb5 | exact Below.refl _ _)) hB.size)))
          · (first | exact (Below.refl _ _).alloc (Nat.le_refl _) _ | exact hb5 | exact Below.refl _ _)
          · (exact ⟨Arr.new _ _ _, hB.size⟩)
          have hB := hB.trans (hst.mono hB.size)
          have h6 := h6.below hst
          obtain ⟨h8, hl8⟩ := hnew
          obtain ⟨g8, hg8⟩ : ∃ g, g = wn2.heap.size := ⟨_, rfl⟩
          rw [← hg8] at h8 hl8 ⊢
          clear hg8
          clear hst
          clear hK K
          try simp only [List.getElem_toArray, List.getElem_cons_zero, List.getElem_cons_succ, Act.put, List.setIfInBounds_toArray, List.set_cons_zero, List.set_cons_succ]
          refine wpAnyH_ready (rs := [7]) (by kernel_rfl) (by simp) ?_
          refine AllReadyH.cons (o := _) rfl (fun K hK => ?_) ?_
          ·
            go_simp
            refine (HPR.out wn6 _ hB h6).mono ?_
            rintro e5 w5 ⟨rfl, hb5⟩
            dsimp only
            refine outG hK ?_ (Below wn6.heap.size wn6) (fun W => True) ?_ ?_ (fun wn7 hHeld hst hnew => ?_)
            · (exact HSB.out _ (hB.trans (Below.mono (show Below wn6.heap.size wn6 _ from by (first | exact (Below.refl _ _).alloc (Nat.le_refl _) _ | exact hb5 | exact Below.refl _ _)) hB.size)))
            · (first | exact (Below.refl _ _).alloc (Nat.le_refl _) _ | exact hb5 | exact Below.refl _ _)
            · (trivial)
            have hB := hB.trans (hst.mono hB.size)
            have h8 := h8.below hst
            clear hst
            clear hK K
            try simp only [List.getElem_toArray, List.getElem_cons_zero, List.getElem_cons_succ, Act.put, List.setIfInBounds_toArray, List.set_cons_zero, List.set_cons_succ]
            refine wpAnyH_take (i := 8) (oi := _) (v := ?_) rfl (by kernel_rfl) (by kernel_rfl) (by kernel_rfl) (fun _ _ _ h => h) (Or.inl ⟨by rfl, ?_⟩) (by assumption) ?_
            rotate_left
            · (intro w hSw; (try dsimp only at hSw); go_simp; try (with_reducible rfl))
            try simp only [List.getElem_toArray, List.getElem_cons_zero, List.getElem_cons_succ, Act.put, List.setIfInBounds_toArray, List.set_cons_zero, List.set_cons_succ]
            refine wpAnyH_take (i := 9) (oi := _) (v := ?_) rfl (by kernel_rfl) (by kernel_rfl) (by kernel_rfl) (fun _ _ _ h => h) (Or.inl ⟨by rfl, ?_⟩) (by assumption) ?_
            rotate_left
            · (intro w hSw; (try dsimp only at hSw); go_simp; try (with_reducible rfl))
            try simp only [List.getElem_toArray, List.getElem_cons_zero, List.getElem_cons_succ, Act.put, List.setIfInBounds_toArray, List.set_cons_zero, List.set_cons_succ]
            refine wpAnyH_take (i := 10) (oi := _) (v := ?_) rfl (by kernel_rfl) (by kernel_rfl) (by kernel_rfl) (fun _ _ _ h => h) (Or.inl ⟨by rfl, ?_⟩) (by assumption) ?_
            rotate_left
            · (intro w hSw; (try dsimp only at hSw); go_simp; try (with_reducible rfl))
            try simp only [List.getElem_toArray, List.getElem_cons_zero, List.getElem_cons_succ, Act.put, List.setIfInBounds_toArray, List.set_cons_zero, List.set_cons_succ]
            refine wpAnyH_ready (rs := [12]) (by kernel_rfl) (by simp) ?_
            refine AllReadyH.cons (o := _) rfl (fun K hK => ?_) ?_
            ·
              have z0 := h8.cell (k := 0) rfl
              have z1 := h8.cell (k := 1) rfl
              have z2 := h8.cell (k := 2) rfl
              have z3 := h8.cell (k := 3) rfl
              have f0 := h8.frozen 0
              have f1 := h8.frozen 1
              have f2 := h8.frozen 2
              have f3 := h8.frozen 3
              go_simp
              clear z0 z1 z2 z3 f0 f1 f2 f3
              refine outG hK ?_ (fun W => Arr W g8 28 [.slice none 0 0, .slice none 0 0, .int .i64 0, .int .i64 0]) (fun W => Below w7.heap.size w7 W) ?_ ?_ (fun wn8 hHeld hF hG => ?_)
              · exact HSB.out _ ((((hB.setCell (p := ⟨g8, 0, none⟩) hl8 _).setCell (p := ⟨g8, 1, none⟩) hl8 _).setCell (p := ⟨g8, 2, none⟩) hl8 _).setCell (p := ⟨g8, 3, none⟩) hl8 _)
              · exact h8.all4 _ _ _ _
              · exact ((((hB.setCell (p := ⟨g8, 0, none⟩) hl8 _).setCell (p := ⟨g8, 1, none⟩) hl8 _).setCell (p := ⟨g8, 2, none⟩) hl8 _).setCell (p := ⟨g8, 3, none⟩) hl8 _)
              clear hB h8
              clear hK K
              try simp only [List.getElem_toArray, List.getElem_cons_zero, List.getElem_cons_succ, Act.put, List.setIfInBounds_toArray, List.set_cons_zero, List.set_cons_succ]
              refine wpAnyH_take (i := 13) (oi := _) (v := ?_) rfl (by kernel_rfl) (by kernel_rfl) (by kernel_rfl) (fun _ _ _ h => h) (Or.inl ⟨by rfl, ?_⟩) (by assumption) ?_
              rotate_left
              · (intro w hSw; (try dsimp only at hSw); go_simp; try (with_reducible rfl))
              try simp only [List.getElem_toArray, List.getElem_cons_zero, List.getElem_cons_succ, Act.put, List.setIfInBounds_toArray, List.set_cons_zero, List.set_cons_succ]
              refine wpAnyH_done (by kernel_rfl) ?_ _
              dsimp only [Exit.then]
              clear hHeld
              have hall := And.intro hG hF
              generalize wn8 = wz at hall ⊢
              generalize g8 = gz at hall ⊢
              generalize g6 = g7
              revert wz gz g7
              exact REST.out
            exact AllReadyH.nil
          exact AllReadyH.nil
        exact AllReadyH.nil
      refine AllReadyH.cons (o := _) rfl (fun K hK => ?_) ?_
      ·
        go_simp
        refine outG hK ?_ (Below wn1.heap.size wn1) (fun W => Arr W wn1.heap.size 28 [.slice none 0 0, .slice none 0 0, .int .i64 0, .int .i64 0] ∧ w7.heap.size ≤ wn1.heap.size) ?_ ?_ (fun wn9 hHeld hst hnew => ?_)
        · (exact HSB.out _ (hB.trans (Below.mono (show Below wn1.heap.size wn1 _ from by (first | exact (Below.refl _ _).alloc (Nat.le_refl _) _ | exact hb5 | exact Below.refl _ _)) hB.size)))
        · (first | exact (Below.refl _ _).alloc (Nat.le_refl _) _ | exact hb5 | exact Below.refl _ _)
        · (exact ⟨Arr.new _ _ _, hB.size⟩)
        have hB := hB.trans (hst.mono hB.size)
        obtain ⟨h8, hl8⟩ := hnew
        obtain ⟨g8, hg8⟩ : ∃ g, g = wn1.heap.size := ⟨_, rfl⟩
        rw [← hg8] at h8 hl8 ⊢
        clear hg8
        clear hst
        clear hK K
        try simp only [List.getElem_toArray, List.getElem_cons_zero, List.getElem_cons_succ, Act.put, List.setIfInBounds_toArray, List.set_cons_zero, List.set_cons_succ]
        refine wpAnyH_ready (rs := [6]) (by kernel_rfl) (by simp) ?_
        refine AllReadyH.cons (o := _) rfl (fun K hK => ?_) ?_
        ·
          go_simp
          refine outG hK ?_ (Below wn9.heap.size wn9) (fun W => Sl W 3 (some ⟨wn9.heap.size, 0, none⟩) 1 1 (pcs [⟨[97], L, 0⟩])) ?_ ?_ (fun wn10 hHeld hst hnew => ?_)
          · (exact HSB.out _ (hB.trans (Below.mono (show Below wn9.heap.size wn9 _ from by (first | exact (Below.refl _ _).alloc (Nat.le_refl _) _ | exact hb5 | exact Below.refl _ _)) hB.size)))
          · (first | exact (Below.refl _ _).alloc (Nat.le_refl _) _ | exact hb5 | exact Below.refl _ _)
          · (exact ⟨by rw [HSL.out]; exact Rd.newN (pcs [⟨[97], L, 0⟩]) rfl, Nat.le_refl _, by simp [maxLen], fun a ha => by cases ha; simp⟩)
          have hB := hB.trans (hst.mono hB.size)
          have h8 := h8.below hst
          have h6 := hnew
          obtain ⟨g6, hg6⟩ : ∃ g, g = wn9.heap.size := ⟨_, rfl⟩
          rw [← hg6] at h6 ⊢
          clear hg6
          clear hst
          clear hK K
          try simp only [List.getElem_toArray, List.getElem_cons_zero, List.getElem_cons_succ, Act.put, List.setIfInBounds_toArray, List.set_cons_zero, List.set_cons_succ]
          refine wpAnyH_ready (rs := [7]) (by kernel_rfl) (by simp) ?_
          refine AllReadyH.cons (o := _) rfl (fun K hK => ?_) ?_
          ·
            go_simp
            refine (HPR.out wn10 _ hB h6).mono ?_
            rintro e5 w5 ⟨rfl, hb5⟩
            dsimp only
            refine outG hK ?_ (Below wn10.heap.size wn10) (fun W => True) ?_ ?_ (fun wn11 hHeld hst hnew => ?_)
            · (exact HSB.out _ (hB.trans (Below.mono (show Below wn10.heap.size wn10 _ from by (first | exact (Below.refl _ _).alloc (Nat.le_refl _) _ | exact hb5 | exact Below.refl _ _)) hB.size)))
            · (first | exact (Below.refl _ _).alloc (Nat.le_refl _) _ | exact hb5 | exact Below.refl _ _)
            · (trivial)
            have hB := hB.trans (hst.mono hB.size)
            have h8 := h8.below hst
            clear hst
            clear hK K
            try simp only [List.getElem_toArray, List.getElem_cons_zero, List.getElem_cons_succ, Act.put, List.setIfInBounds_toArray, List.set_cons_zero, List.set_cons_succ]
            refine wpAnyH_take (i := 8) (oi := _) (v := ?_) rfl (by kernel_rfl) (by kernel_rfl) (by kernel_rfl) (fun _ _ _ h => h) (Or.inl ⟨by rfl, ?_⟩) (by assumption) ?_
            rotate_left
            · (intro w hSw; (try dsimp only at hSw); go_simp; try (with_reducible rfl))
            try simp only [List.getElem_toArray, List.getElem_cons_zero, List.getElem_cons_succ, Act.put, List.setIfInBounds_toArray, List.set_cons_zero, List.set_cons_succ]
            refine wpAnyH_take (i := 9) (oi := _) (v := ?_) rfl (by kernel_rfl) (by kernel_rfl) (by kernel_rfl) (fun _ _ _ h => h) (Or.inl ⟨by rfl, ?_⟩) (by assumption) ?_
            rotate_left
            · (intro w hSw; (try dsimp only at hSw); go_simp; try (with_reducible rfl))
            try simp only [List.getElem_toArray, List.getElem_cons_zero, List.getElem_cons_succ, Act.put, List.setIfInBounds_toArray, List.set_cons_zero, List.set_cons_succ]
            refine wpAnyH_take (i := 10) (oi := _) (v := ?_) rfl (by kernel_rfl) (by kernel_rfl) (by kernel_rfl) (fun _ _ _ h => h) (Or.inl ⟨by rfl, ?_⟩) (by assumption) ?_
            rotate_left
            · (intro w hSw; (try dsimp only at hSw); go_simp; try (with_reducible rfl))
            try simp only [List.getElem_toArray, List.getElem_cons_zero, List.getElem_cons_succ, Act.put, List.setIfInBounds_toArray, List.set_cons_zero, List.set_cons_succ]
            refine wpAnyH_ready (rs := [12]) (by kernel_rfl) (by simp) ?_
            refine AllReadyH.cons (o := _) rfl (fun K hK => ?_) ?_
            ·
              have z0 := h8.cell (k := 0) rfl
              have z1 := h8.cell (k := 1) rfl
              have z2 := h8.cell (k := 2) rfl
              have z3 := h8.cell (k := 3) rfl
              have f0 := h8.frozen 0
              have f1 := h8.frozen 1
              have f2 := h8.frozen 2
              have f3 := h8.frozen 3
              go_simp
              clear z0 z1 z2 z3 f0 f1 f2 f3
              refine outG hK ?_ (fun W => Arr W g8 28 [.slice none 0 0, .slice none 0 0, .int .i64 0, .int .i64 0]) (fun W => Below w7.heap.size w7 W) ?_ ?_ (fun wn12 hHeld hF hG => ?_)
              · exact HSB.out _ ((((hB.setCell (p := ⟨g8, 0, none⟩) hl8 _).setCell (p := ⟨g8, 1, none⟩) hl8 _).setCell (p := ⟨g8, 2, none⟩) hl8 _).setCell (p := ⟨g8, 3, none⟩) hl8 _)
              · exact h8.all4 _ _ _ _
              · exact ((((hB.setCell (p := ⟨g8, 0, none⟩) hl8 _).setCell (p := ⟨g8, 1, none⟩) hl8 _).setCell (p := ⟨g8, 2, none⟩) hl8 _).setCell (p := ⟨g8, 3, none⟩) hl8 _)
              clear hB h8
              clear hK K
              try simp only [List.getElem_toArray, List.getElem_cons_zero, List.getElem_cons_succ, Act.put, List.setIfInBounds_toArray, List.set_cons_zero, List.set_cons_succ]
              refine wpAnyH_take (i := 13) (oi := _) (v := ?_) rfl (by kernel_rfl) (by kernel_rfl) (by kernel_rfl) (fun _ _ _ h => h) (Or.inl ⟨by rfl, ?_⟩) (by assumption) ?_
              rotate_left
              · (intro w hSw; (try dsimp only at hSw); go_simp; try (with_reducible rfl))
              try simp only [List.getElem_toArray, List.getElem_cons_zero, List.getElem_cons_succ, Act.put, List.setIfInBounds_toArray, List.set_cons_zero, List.set_cons_succ]
              refine wpAnyH_done (by kernel_rfl) ?_ _
              dsimp only [Exit.then]
              clear hHeld
              have hall := And.intro hG hF
              generalize wn12 = wz at hall ⊢
              generalize g8 = gz at hall ⊢
              generalize g6 = g7
              revert wz gz g7
              exact REST.out
            exact AllReadyH.nil
          exact AllReadyH.nil
        exact AllReadyH.nil
      exact AllReadyH.nil
    refine AllReadyH.cons (o := _) rfl (fun K hK => ?_) ?_
    ·
      go_simp
      refine outG hK ?_ (Below wn0.heap.size wn0) (fun W => Sl W 3 (some ⟨wn0.heap.size, 0, none⟩) 1 1 (pcs [⟨[97], L, 0⟩])) ?_ ?_ (fun wn13 hHeld hst hnew => ?_)
      · (exact HSB.out _ (hB.trans (Below.mono (show Below wn0.heap.size wn0 _ from by (first | exact (Below.refl _ _).alloc (Nat.le_refl _) _ | exact hb5 | exact Below.refl _ _)) hB.size)))
      · (first | exact (Below.refl _ _).alloc (Nat.le_refl _) _ | exact hb5 | exact Below.refl _ _)
      · (exact ⟨by rw [HSL.out]; exact Rd.newN (pcs [⟨[97], L, 0⟩]) rfl, Nat.le_refl _, by simp [maxLen], fun a ha => by cases ha; simp⟩)
      have hB := hB.trans (hst.mono hB.size)
      have h6 := hnew
      obtain ⟨g6, hg6⟩ : ∃ g, g = wn0.heap.size := ⟨_, rfl⟩
      rw [← hg6] at h6 ⊢
      clear hg6
      clear hst
      clear hK K
      try simp only [List.getElem_toArray, List.getElem_cons_zero, List.getElem_cons_succ, Act.put, List.setIfInBounds_toArray, List.set_cons_zero, List.set_cons_succ]
      refine wpAnyH_ready (rs := [3, 11]) (by kernel_rfl) (by simp) ?_
      refine AllReadyH.cons (o := _) rfl (fun K hK => ?_) ?_
      ·
        go_simp
        refine (HKY.out wn13).mono ?_
        rintro e5 w5 ⟨rfl, hb5⟩
        dsimp only
        refine outG hK ?_ (Below wn13.heap.size wn13) (fun W => True) ?_ ?_ (fun wn14 hHeld hst hnew => ?_)
        · (exact HSB.out _ (hB.trans (Below.mono (show Below wn13.heap.size wn13 _ from by (first | exact (Below.refl _ _).alloc (Nat.le_refl _) _ | exact hb5 | exact Below.refl _ _)) hB.size)))
        · (first | exact (Below.refl _ _).alloc (Nat.le_refl _) _ | exact hb5 | exact Below.refl _ _)
        · (trivial)
        have hB := hB.trans (hst.mono hB.size)
        have h6 := h6.below hst
        clear hst
        clear hK K
        try simp only [List.getElem_toArray, List.getElem_cons_zero, List.getElem_cons_succ, Act.put, List.setIfInBounds_toArray, List.set_cons_zero, List.set_cons_succ]
        refine wpAnyH_ready (rs := [7, 11]) (by kernel_rfl) (by simp) ?_
        refine AllReadyH.cons (o := _) rfl (fun K hK => ?_) ?_
        ·
          go_simp
          refine (HPR.out wn14 _ hB h6).mono ?_
          rintro e5 w5 ⟨rfl, hb5⟩
          dsimp only
          refine outG hK ?_ (Below wn14.heap.size wn14) (fun W => True) ?_ ?_ (fun wn15 hHeld hst hnew => ?_)
          · (exact HSB.out _ (hB.trans (Below.mono (show Below wn14.heap.size wn14 _ from by (first | exact (Below.refl _ _).alloc (Nat.le_refl _) _ | exact hb5 | exact Below.refl _ _)) hB.size)))
          · (first | exact (Below.refl _ _).alloc (Nat.le_refl _) _ | exact hb5 | exact Below.refl _ _)
          · (trivial)
          have hB := hB.trans (hst.mono hB.size)
          clear hst
          clear hK K
          try simp only [List.getElem_toArray, List.getElem_cons_zero, List.getElem_cons_succ, Act.put, List.setIfInBounds_toArray, List.set_cons_zero, List.set_cons_succ]
          refine wpAnyH_take (i := 8) (oi := _) (v := ?_) rfl (by kernel_rfl) (by kernel_rfl) (by kernel_rfl) (fun _ _ _ h => h) (Or.inl ⟨by rfl, ?_⟩) (by assumption) ?_
          rotate_left
          · (intro w hSw; (try dsimp only at hSw); go_simp; try (with_reducible rfl))
          try simp only [List.getElem_toArray, List.getElem_cons_zero, List.getElem_cons_succ, Act.put, List.setIfInBounds_toArray, List.set_cons_zero, List.set_cons_succ]
          refine wpAnyH_take (i := 9) (oi := _) (v := ?_) rfl (by kernel_rfl) (by kernel_rfl) (by kernel_rfl) (fun _ _ _ h => h) (Or.inl ⟨by rfl, ?_⟩) (by assumption) ?_
          rotate_left
          · (intro w hSw; (try dsimp only at hSw); go_simp; try (with_reducible rfl))
          try simp only [List.getElem_toArray, List.getElem_cons_zero, List.getElem_cons_succ, Act.put, List.setIfInBounds_toArray, List.set_cons_zero, List.set_cons_succ]
          refine wpAnyH_take (i := 10) (oi := _) (v := ?_) rfl (by kernel_rfl) (by kernel_rfl) (by kernel_rfl) (fun _ _ _ h => h) (Or.inl ⟨by rfl, ?_⟩) (by assumption) ?_
          rotate_left
          · (intro w hSw; (try dsimp only at hSw); go_simp; try (with_reducible rfl))
          try simp only [List.getElem_toArray, List.getElem_cons_zero, List.getElem_cons_succ, Act.put, List.setIfInBounds_toArray, List.set_cons_zero, List.set_cons_succ]
          refine wpAnyH_ready (rs := [11]) (by kernel_rfl) (by simp) ?_
          refine AllReadyH.cons (o := _) rfl (fun K hK => ?_) ?_
          ·
            go_simp
            refine outG hK ?_ (Below wn15.heap.size wn15) (fun W => Arr W wn15.heap.size 28 [.slice none 0 0, .slice none 0 0, .int .i64 0, .int .i64 0] ∧ w7.heap.size ≤ wn15.heap.size) ?_ ?_ (fun wn16 hHeld hst hnew => ?_)
            · (exact HSB.out _ (hB.trans (Below.mono (show Below wn15.heap.size wn15 _ from by (first | exact (Below.refl _ _).alloc (Nat.le_refl _) _ | exact hb5 | exact Below.refl _ _)) hB.size)))
            · (first | exact (Below.refl _ _).alloc (Nat.le_refl _) _ | exact hb5 | exact Below.refl _ _)
            · (exact ⟨Arr.new _ _ _, hB.size⟩)
            have hB := hB.trans (hst.mono hB.size)
            obtain ⟨h8, hl8⟩ := hnew
            obtain ⟨g8, hg8⟩ : ∃ g, g = wn15.heap.size := ⟨_, rfl⟩
            rw [← hg8] at h8 hl8 ⊢
            clear hg8
            clear hst
            clear hK K
            try simp only [List.getElem_toArray, List.getElem_cons_zero, List.getElem_cons_succ, Act.put, List.setIfInBounds_toArray, List.set_cons_zero, List.set_cons_succ]
            refine wpAnyH_ready (rs := [12]) (by kernel_rfl) (by simp) ?_
            refine AllReadyH.cons (o := _) rfl (fun K hK => ?_) ?_
            ·
              have z0 := h8.cell (k := 0) rfl
              have z1 := h8.cell (k := 1) rfl
              have z2 := h8.cell (k := 2) rfl
              have z3 := h8.cell (k := 3) rfl
              have f0 := h8.frozen 0
              have f1 := h8.frozen 1
              have f2 := h8.frozen 2
              have f3 := h8.frozen 3
              go_simp
              clear z0 z1 z2 z3 f0 f1 f2 f3
              refine outG hK ?_ (fun W => Arr W g8 28 [.slice none 0 0, .slice none 0 0, .int .i64 0, .int .i64 0]) (fun W => Below w7.heap.size w7 W) ?_ ?_ (fun wn17 hHeld hF hG => ?_)
              · exact HSB.out _ ((((hB.setCell (p := ⟨g8, 0, none⟩) hl8 _).setCell (p := ⟨g8, 1, none⟩) hl8 _).setCell (p := ⟨g8, 2, none⟩) hl8 _).setCell (p := ⟨g8, 3, none⟩) hl8 _)
              · exact h8.all4 _ _ _ _
              · exact ((((hB.setCell (p := ⟨g8, 0, none⟩) hl8 _).setCell (p := ⟨g8, 1, none⟩) hl8 _).setCell (p := ⟨g8, 2, none⟩) hl8 _).setCell (p := ⟨g8, 3, none⟩) hl8 _)
              clear hB h8
              clear hK K
              try simp only [List.getElem_toArray, List.getElem_cons_zero, List.getElem_cons_succ, Act.put, List.setIfInBounds_toArray, List.set_cons_zero, List.set_cons_succ]
              refine wpAnyH_take (i := 13) (oi := _) (v := ?_) rfl (by kernel_rfl) (by kernel_rfl) (by kernel_rfl) (fun _ _ _ h => h) (Or.inl ⟨by rfl, ?_⟩) (by assumption) ?_
              rotate_left
              · (intro w hSw; (try dsimp only at hSw); go_simp; try (with_reducible rfl))
              try simp only [List.getElem_toArray, List.getElem_cons_zero, List.getElem_cons_succ, Act.put, List.setIfInBounds_toArray, List.set_cons_zero, List.set_cons_succ]
              refine wpAnyH_done (by kernel_rfl) ?_ _
              dsimp only [Exit.then]
              clear hHeld
              have hall := And.intro hG hF
              generalize wn17 = wz at hall ⊢
              generalize g8 = gz at hall ⊢
              generalize g6 = g7
              revert wz gz g7
              exact REST.out
            exact AllReadyH.nil
          exact AllReadyH.nil
        refine AllReadyH.cons (o := _) rfl (fun K hK => ?_) ?_
        ·
          go_simp
          refine outG hK ?_ (Below wn14.heap.size wn14) (fun W => Arr W wn14.heap.size 28 [.slice none 0 0, .slice none 0 0, .int .i64 0, .int .i64 0] ∧ w7.heap.size ≤ wn14.heap.size) ?_ ?_ (fun wn18 hHeld hst hnew => ?_)
          · (exact HSB.out _ (hB.trans (Below.mono (show Below wn14.heap.size wn14 _ from by (first | exact (Below.refl _ _).alloc (Nat.le_refl _) _ | exact hb5 | exact Below.refl _ _)) hB.size)))
          · (first | exact (Below.refl _ _).alloc (Nat.le_refl _) _ | exact hb5 | exact Below.refl _ _)
          · (exact ⟨Arr.new _ _ _, hB.size⟩)
          have hB := hB.trans (hst.mono hB.size)
          have h6 := h6.below hst
          obtain ⟨h8, hl8⟩ := hnew
          obtain ⟨g8, hg8⟩ : ∃ g, g = wn14.heap.size := ⟨_, rfl⟩
          rw [← hg8] at h8 hl8 ⊢
          clear hg8
          clear hst
          clear hK K
          try simp only [List.getElem_toArray, List.getElem_cons_zero, List.getElem_cons_succ, Act.put, List.setIfInBounds_toArray, List.set_cons_zero, List.set_cons_succ]
          refine wpAnyH_ready (rs := [7]) (by kernel_rfl) (by simp) ?_
          refine AllReadyH.cons (o := _) rfl (fun K hK => ?_) ?_
          ·
            go_simp
            refine (HPR.out wn18 _ hB h6).mono ?_
            rintro e5 w5 ⟨rfl, hb5⟩
            dsimp only
            refine outG hK ?_ (Below wn18.heap.size wn18) (fun W => True) ?_ ?_ (fun wn19 hHeld hst hnew => ?_)
            · (exact HSB.out _ (hB.trans (Below.mono (show Below wn18.heap.size wn18 _ from by (first | exact (Below.refl _ _).alloc (Nat.le_refl _) _ | exact hb5 | exact Below.refl _ _)) hB.size)))
            · (first | exact (Below.refl _ _).alloc (Nat.le_refl _) _ | exact hb5 | exact Below.refl _ _)
            · (trivial)
            have hB := hB.trans (hst.mono hB.size)
            have h8 := h8.below hst
            clear hst
            clear hK K
            try simp only [List.getElem_toArray, List.getElem_cons_zero, List.getElem_cons_succ, Act.put, List.setIfInBounds_toArray, List.set_cons_zero, List.set_cons_succ]
            refine wpAnyH_take (i := 8) (oi := _) (v := ?_) rfl (by kernel_rfl) (by kernel_rfl) (by kernel_rfl) (fun _ _ _ h => h) (Or.inl ⟨by rfl, ?_⟩) (by assumption) ?_
            rotate_left
            · (intro w hSw; (try dsimp only at hSw); go_simp; try (with_reducible rfl))
            try simp only [List.getElem_toArray, List.getElem_cons_zero, List.getElem_cons_succ, Act.put, List.setIfInBounds_toArray, List.set_cons_zero, List.set_cons_succ]
            refine wpAnyH_take (i := 9) (oi := _) (v := ?_) rfl (by kernel_rfl) (by kernel_rfl) (by kernel_rfl) (fun _ _ _ h => h) (Or.inl ⟨by rfl, ?_⟩) (by assumption) ?_
            rotate_left
            · (intro w hSw; (try dsimp only at hSw); go_simp; try (with_reducible rfl))
            try simp only [List.getElem_toArray, List.getElem_cons_zero, List.getElem_cons_succ, Act.put, List.setIfInBounds_toArray, List.set_cons_zero, List.set_cons_succ]
            refine wpAnyH_take (i := 10) (oi := _) (v := ?_) rfl (by kernel_rfl) (by kernel_rfl) (by kernel_rfl) (fun _ _ _ h => h) (Or.inl ⟨by rfl, ?_⟩) (by assumption) ?_
            rotate_left
            · (intro w hSw; (try dsimp only at hSw); go_simp; try (with_reducible rfl))
            try simp only [List.getElem_toArray, List.getElem_cons_zero, List.getElem_cons_succ, Act.put, List.setIfInBounds_toArray, List.set_cons_zero, List.set_cons_succ]
            refine wpAnyH_ready (rs := [12]) (by kernel_rfl) (by simp) ?_
            refine AllReadyH.cons (o := _) rfl (fun K hK => ?_) ?_
            ·
              have z0 := h8.cell (k := 0) rfl
              have z1 := h8.cell (k := 1) rfl
              have z2 := h8.cell (k := 2) rfl
              have z3 := h8.cell (k := 3) rfl
              have f0 := h8.frozen 0
              have f1 := h8.frozen 1
              have f2 := h8.frozen 2
              have f3 := h8.frozen 3
              go_simp
              clear z0 z1 z2 z3 f0 f1 f2 f3
              refine outG hK ?_ (fun W => Arr W g8 28 [.slice none 0 0, .slice none 0 0, .int .i64 0, .int .i64 0]) (fun W => Below w7.heap.size w7 W) ?_ ?_ (fun wn20 hHeld hF hG => ?_)
              · exact HSB.out _ ((((hB.setCell (p := ⟨g8, 0, none⟩) hl8 _).setCell (p := ⟨g8, 1, none⟩) hl8 _).setCell (p := ⟨g8, 2, none⟩) hl8 _).setCell (p := ⟨g8, 3, none⟩) hl8 _)
              · exact h8.all4 _ _ _ _
              · exact ((((hB.setCell (p := ⟨g8, 0, none⟩) hl8 _).setCell (p := ⟨g8, 1, none⟩) hl8 _).setCell (p := ⟨g8, 2, none⟩) hl8 _).setCell (p := ⟨g8, 3, none⟩) hl8 _)
              clear hB h8
              clear hK K
              try simp only [List.getElem_toArray, List.getElem_cons_zero, List.getElem_cons_succ, Act.put, List.setIfInBounds_toArray, List.set_cons_zero, List.set_cons_succ]
              refine wpAnyH_take (i := 13) (oi := _) (v := ?_) rfl (by kernel_rfl) (by kernel_rfl) (by kernel_rfl) (fun _ _ _ h => h) (Or.inl ⟨by rfl, ?_⟩) (by assumption) ?_
              rotate_left
              · (intro w hSw; (try dsimp only at hSw); go_simp; try (with_reducible rfl))
              try simp only [List.getElem_toArray, List.getElem_cons_zero, List.getElem_cons_succ, Act.put, List.setIfInBounds_toArray, List.set_cons_zero, List.set_cons_succ]
              refine wpAnyH_done (by kernel_rfl) ?_ _
              dsimp only [Exit.then]
              clear hHeld
              have hall := And.intro hG hF
              generalize wn20 = wz at hall ⊢
              generalize g8 = gz at hall ⊢
              generalize g6 = g7
              revert wz gz g7
              exact REST.out
            exact AllReadyH.nil
          exact AllReadyH.nil
        exact AllReadyH.nil
      refine AllReadyH.cons (o := _) rfl (fun K hK => ?_) ?_
      ·
        go_simp
        refine outG hK ?_ (Below wn13.heap.size wn13) (fun W => Arr W wn13.heap.size 28 [.slice none 0 0, .slice none 0 0, .int .i64 0, .int .i64 0] ∧ w7.heap.size ≤ wn13.heap.size) ?_ ?_ (fun wn21 hHeld hst hnew => ?_)
        · (exact HSB.out _ (hB.trans (Below.mono (show Below wn13.heap.size wn13 _ from by (first | exact (Below.refl _ _).alloc (Nat.le_refl _) _ | exact hb5 | exact Below.refl _ _)) hB.size)))
        · (first | exact (Below.refl _ _).alloc (Nat.le_refl _) _ | exact hb5 | exact Below.refl _ _)
        · (exact ⟨Arr.new _ _ _, hB.size⟩)
        have hB := hB.trans (hst.mono hB.size)
        have h6 := h6.below hst
        obtain ⟨h8, hl8⟩ := hnew
        obtain ⟨g8, hg8⟩ : ∃ g, g = wn13.heap.size := ⟨_, rfl⟩
        rw [← hg8] at h8 hl8 ⊢
        clear hg8
        clear hst
        clear hK K
        try simp only [List.getElem_toArray, List.getElem_cons_zero, List.getElem_cons_succ, Act.put, List.setIfInBounds_toArray, List.set_cons_zero, List.set_cons_succ]
        refine wpAnyH_ready (rs := [3]) (by kernel_rfl) (by simp) ?_
        refine AllReadyH.cons (o := _) rfl (fun K hK => ?_) ?_
        ·
          go_simp
          refine (HKY.out wn21).mono ?_
          rintro e5 w5 ⟨rfl, hb5⟩
          dsimp only
          refine outG hK ?_ (Below wn21.heap.size wn21) (fun W => True) ?_ ?_ (fun wn22 hHeld hst hnew => ?_)
          · (exact HSB.out _ (hB.trans (Below.mono (show Below wn21.heap.size wn21 _ from by (first | exact (Below.refl _ _).alloc (Nat.le_refl _) _ | exact hb5 | exact Below.refl _ _)) hB.size)))
          · (first | exact (Below.refl _ _).alloc (Nat.le_refl _) _ | exact hb5 | exact Below.refl _ _)
          · (trivial)
          have hB := hB.trans (hst.mono hB.size)
          have h6 := h6.below hst
          have h8 := h8.below hst
          clear hst
          clear hK K
          try simp only [List.getElem_toArray, List.getElem_cons_zero, List.getElem_cons_succ, Act.put, List.setIfInBounds_toArray, List.set_cons_zero, List.set_cons_succ]
          refine wpAnyH_ready (rs := [7]) (by kernel_rfl) (by simp) ?_
          refine AllReadyH.cons (o := _) rfl (fun K hK => ?_) ?_
          ·
            go_simp
            refine (HPR.out wn22 _ hB h6).mono ?_
            rintro e5 w5 ⟨rfl, hb5⟩
            dsimp only
            refine outG hK ?_ (Below wn22.heap.size wn22) (fun W => True) ?_ ?_ (fun wn23 hHeld hst hnew => ?_)
            · (exact HSB.out _ (hB.trans (Below.mono (show Below wn22.heap.size wn22 _ from by (first | exact (Below.refl _ _).alloc (Nat.le_refl _) _ | exact hb5 | exact Below.refl _ _)) hB.size)))
            · (first | exact (Below.refl _ _).alloc (Nat.le_refl _) _ | exact hb5 | exact Below.refl _ _)
            · (trivial)
            have hB := hB.trans (hst.mono hB.size)
            have h8 := h8.below hst
            clear hst
            clear hK K
            try simp only [List.getElem_toArray, List.getElem_cons_zero, List.getElem_cons_succ, Act.put, List.setIfInBounds_toArray, List.set_cons_zero, List.set_cons_succ]
            refine wpAnyH_take (i := 8) (oi := _) (v := ?_) rfl (by kernel_rfl) (by kernel_rfl) (by kernel_rfl) (fun _ _ _ h => h) (Or.inl ⟨by rfl, ?_⟩) (by assumption) ?_
            rotate_left
            · (intro w hSw; (try dsimp only at hSw); go_simp; try (with_reducible rfl))
            try simp only [List.getElem_toArray, List.getElem_cons_zero, List.getElem_cons_succ, Act.put, List.setIfInBounds_toArray, List.set_cons_zero, List.set_cons_succ]
            refine wpAnyH_take (i := 9) (oi := _) (v := ?_) rfl (by kernel_rfl) (by kernel_rfl) (by kernel_rfl) (fun _ _ _ h => h) (Or.inl ⟨by rfl, ?_⟩) (by assumption) ?_
            rotate_left
            · (intro w hSw; (try dsimp only at hSw); go_simp; try (with_reducible rfl))
            try simp only [List.getElem_toArray, List.getElem_cons_zero, List.getElem_cons_succ, Act.put, List.setIfInBounds_toArray, List.set_cons_zero, List.set_cons_succ]
            refine wpAnyH_take (i := 10) (oi := _) (v := ?_) rfl (by kernel_rfl) (by kernel_rfl) (by kernel_rfl) (fun _ _ _ h => h) (Or.inl ⟨by rfl, ?_⟩) (by assumption) ?_
            rotate_left
            · (intro w hSw; (try dsimp only at hSw); go_simp; try (with_reducible rfl))
            try simp only [List.getElem_toArray, List.getElem_cons_zero, List.getElem_cons_succ, Act.put, List.setIfInBounds_toArray, List.set_cons_zero, List.set_cons_succ]
            refine wpAnyH_ready (rs := [12]) (by kernel_rfl) (by simp) ?_
            refine AllReadyH.cons (o := _) rfl (fun K hK => ?_) ?_
            ·
              have z0 := h8.cell (k := 0) rfl
              have z1 := h8.cell (k := 1) rfl
              have z2 := h8.cell (k := 2) rfl
              have z3 := h8.cell (k := 3) rfl
              have f0 := h8.frozen 0
              have f1 := h8.frozen 1
              have f2 := h8.frozen 2
              have f3 := h8.frozen 3
              go_simp
              clear z0 z1 z2 z3 f0 f1 f2 f3
              refine outG hK ?_ (fun W => Arr W g8 28 [.slice none 0 0, .slice none 0 0, .int .i64 0, .int .i64 0]) (fun W => Below w7.heap.size w7 W) ?_ ?_ (fun wn24 hHeld hF hG => ?_)
              · exact HSB.out _ ((((hB.setCell (p := ⟨g8, 0, none⟩) hl8 _).setCell (p := ⟨g8, 1, none⟩) hl8 _).setCell (p := ⟨g8, 2, none⟩) hl8 _).setCell (p := ⟨g8, 3, none⟩) hl8 _)
              · exact h8.all4 _ _ _ _
              · exact ((((hB.setCell (p := ⟨g8, 0, none⟩) hl8 _).setCell (p := ⟨g8, 1, none⟩) hl8 _).setCell (p := ⟨g8, 2, none⟩) hl8 _).setCell (p := ⟨g8, 3, none⟩) hl8 _)
              clear hB h8
              clear hK K
              try simp only [List.getElem_toArray, List.getElem_cons_zero, List.getElem_cons_succ, Act.put, List.setIfInBounds_toArray, List.set_cons_zero, List.set_cons_succ]
              refine wpAnyH_take (i := 13) (oi := _) (v := ?_) rfl (by kernel_rfl) (by kernel_rfl) (by kernel_rfl) (fun _ _ _ h => h) (Or.inl ⟨by rfl, ?_⟩) (by assumption) ?_
              rotate_left
              · (intro w hSw; (try dsimp only at hSw); go_simp; try (with_reducible rfl))
              try simp only [List.getElem_toArray, List.getElem_cons_zero, List.getElem_cons_succ, Act.put, List.setIfInBounds_toArray, List.set_cons_zero, List.set_cons_succ]
              refine wpAnyH_done (by kernel_rfl) ?_ _
              dsimp only [Exit.then]
              clear hHeld
              have hall := And.intro hG hF
              generalize wn24 = wz at hall ⊢
              generalize g8 = gz at hall ⊢
              generalize g6 = g7
              revert wz gz g7
              exact REST.out
            exact AllReadyH.nil
          exact AllReadyH.nil
        exact AllReadyH.nil
      exact AllReadyH.nil
    refine AllReadyH.cons (o := _) rfl (fun K hK => ?_) ?_
    ·
      go_simp
      refine outG hK ?_ (Below wn0.heap.size wn0) (fun W => Arr W wn0.heap.size 28 [.slice none 0 0, .slice none 0 0, .int .i64 0, .int .i64 0] ∧ w7.heap.size ≤ wn0.heap.size) ?_ ?_ (fun wn25 hHeld hst hnew => ?_)
      · (exact HSB.out _ (hB.trans (Below.mono (show Below wn0.heap.size wn0 _ from by (first | exact (Below.refl _ _).alloc (Nat.le_refl _) _ | exact hb5 | exact Below.refl _ _)) hB.size)))
      · (first | exact (Below.refl _ _).alloc (Nat.le_refl _) _ | exact hb5 | exact Below.refl _ _)
      · (exact ⟨Arr.new _ _ _, hB.size⟩)
      have hB := hB.trans (hst.mono hB.size)
      obtain ⟨h8, hl8⟩ := hnew
      obtain ⟨g8, hg8⟩ : ∃ g, g = wn0.heap.size := ⟨_, rfl⟩
      rw [← hg8] at h8 hl8 ⊢
      clear hg8
      clear hst
      clear hK K
      try simp only [List.getElem_toArray, List.getElem_cons_zero, List.getElem_cons_succ, Act.put, List.setIfInBounds_toArray, List.set_cons_zero, List.set_cons_succ]
      refine wpAnyH_ready (rs := [3, 6]) (by kernel_rfl) (by simp) ?_
      refine AllReadyH.cons (o := _) rfl (fun K hK => ?_) ?_
      ·
        go_simp
        refine (HKY.out wn25).mono ?_
        rintro e5 w5 ⟨rfl, hb5⟩
        dsimp only
        refine outG hK ?_ (Below wn25.heap.size wn25) (fun W => True) ?_ ?_ (fun wn26 hHeld hst hnew => ?_)
        · (exact HSB.out _ (hB.trans (Below.mono (show Below wn25.heap.size wn25 _ from by (first | exact (Below.refl _ _).alloc (Nat.le_refl _) _ | exact hb5 | exact Below.refl _ _)) hB.size)))
        · (first | exact (Below.refl _ _).alloc (Nat.le_refl _) _ | exact hb5 | exact Below.refl _ _)
        · (trivial)
        have hB := hB.trans (hst.mono hB.size)
        have h8 := h8.below hst
        clear hst
        clear hK K
        try simp only [List.getElem_toArray, List.getElem_cons_zero, List.getElem_cons_succ, Act.put, List.setIfInBounds_toArray, List.set_cons_zero, List.set_cons_succ]
        refine wpAnyH_ready (rs := [6]) (by kernel_rfl) (by simp) ?_
        refine AllReadyH.cons (o := _) rfl (fun K hK => ?_) ?_
        ·
          go_simp
          refine outG hK ?_ (Below wn26.heap.size wn26) (fun W => Sl W 3 (some ⟨wn26.heap.size, 0, none⟩) 1 1 (pcs [⟨[97], L, 0⟩])) ?_ ?_ (fun wn27 hHeld hst hnew => ?_)
          · (exact HSB.out _ (hB.trans (Below.mono (show Below wn26.heap.size wn26 _ from by (first | exact (Below.refl _ _).alloc (Nat.le_refl _) _ | exact hb5 | exact Below.refl _ _)) hB.size)))
          · (first | exact (Below.refl _ _).alloc (Nat.le_refl _) _ | exact hb5 | exact Below.refl _ _)
          · (exact ⟨by rw [HSL.out]; exact Rd.newN (pcs [⟨[97], L, 0⟩]) rfl, Nat.le_refl _, by simp [maxLen], fun a ha => by cases ha; simp⟩)
          have hB := hB.trans (hst.mono hB.size)
          have h8 := h8.below hst
          have h6 := hnew
          obtain ⟨g6, hg6⟩ : ∃ g, g = wn26.heap.size := ⟨_, rfl⟩
          rw [← hg6] at h6 ⊢
          clear hg6
          clear hst
          clear hK K
          try simp only [List.getElem_toArray, List.getElem_cons_zero, List.getElem_cons_succ, Act.put, List.setIfInBounds_toArray, List.set_cons_zero, List.set_cons_succ]
          refine wpAnyH_ready (rs := [7]) (by kernel_rfl) (by simp) ?_
          refine AllReadyH.cons (o := _) rfl (fun K hK => ?_) ?_
          ·
            go_simp
            refine (HPR.out wn27 _ hB h6).mono ?_
            rintro e5 w5 ⟨rfl, hb5⟩
            dsimp only
            refine outG hK ?_ (Below wn27.heap.size wn27) (fun W => True) ?_ ?_ (fun wn28 hHeld hst hnew => ?_)
            · (exact HSB.out _ (hB.trans (Below.mono (show Below wn27.heap.size wn27 _ from by (first | exact (Below.refl _ _).alloc (Nat.le_refl _) _ | exact hb5 | exact Below.refl _ _)) hB.size)))
            · (first | exact (Below.refl _ _).alloc (Nat.le_refl _) _ | exact hb5 | exact Below.refl _ _)
            · (trivial)
            have hB := hB.trans (hst.mono hB.size)
            have h8 := h8.below hst
            clear hst
            clear hK K
            try simp only [List.getElem_toArray, List.getElem_cons_zero, List.getElem_cons_succ, Act.put, List.setIfInBounds_toArray, List.set_cons_zero, List.set_cons_succ]
            refine wpAnyH_take (i := 8) (oi := _) (v := ?_) rfl (by kernel_rfl) (by kernel_rfl) (by kernel_rfl) (fun _ _ _ h => h) (Or.inl ⟨by rfl, ?_⟩) (by assumption) ?_
            rotate_left
            · (intro w hSw; (try dsimp only at hSw); go_simp; try (with_reducible rfl))
            try simp only [List.getElem_toArray, List.getElem_cons_zero, List.getElem_cons_succ, Act.put, List.setIfInBounds_toArray, List.set_cons_zero, List.set_cons_succ]
            refine wpAnyH_take (i := 9) (oi := _) (v := ?_) rfl (by kernel_rfl) (by kernel_rfl) (by kernel_rfl) (fun _ _ _ h => h) (Or.inl ⟨by rfl, ?_⟩) (by assumption) ?_
            rotate_left
            · (intro w hSw; (try dsimp only at hSw); go_simp; try (with_reducible rfl))
            try simp only [List.getElem_toArray, List.getElem_cons_zero, List.getElem_cons_succ, Act.put, List.setIfInBounds_toArray, List.set_cons_zero, List.set_cons_succ]
            refine wpAnyH_take (i := 10) (oi := _) (v := ?_) rfl (by kernel_rfl) (by kernel_rfl) (by kernel_rfl) (fun _ _ _ h => h) (Or.inl ⟨by rfl, ?_⟩) (by assumption) ?_
            rotate_left
            · (intro w hSw; (try dsimp only at hSw); go_simp; try (with_reducible rfl))
            try simp only [List.getElem_toArray, List.getElem_cons_zero, List.getElem_cons_succ, Act.put, List.setIfInBounds_toArray, List.set_cons_zero, List.set_cons_succ]
            refine wpAnyH_ready (rs := [12]) (by kernel_rfl) (by simp) ?_
            refine AllReadyH.cons (o := _) rfl (fun K hK => ?_) ?_
            ·
              have z0 := h8.cell (k := 0) rfl
              have z1 := h8.cell (k := 1) rfl
              have z2 := h8.cell (k := 2) rfl
              have z3 := h8.cell (k := 3) rfl
              have f0 := h8.frozen 0
              have f1 := h8.frozen 1
              have f2 := h8.frozen 2
              have f3 := h8.frozen 3
              go_simp
              clear z0 z1 z2 z3 f0 f1 f2 f3
              refine outG hK ?_ (fun W => Arr W g8 28 [.slice none 0 0, .slice none 0 0, .int .i64 0, .int .i64 0]) (fun W => Below w7.heap.size w7 W) ?_ ?_ (fun wn29 hHeld hF hG => ?_)
              · exact HSB.out _ ((((hB.setCell (p := ⟨g8, 0, none⟩) hl8 _).setCell (p := ⟨g8, 1, none⟩) hl8 _).setCell (p := ⟨g8, 2, none⟩) hl8 _).setCell (p := ⟨g8, 3, none⟩) hl8 _)
              · exact h8.all4 _ _ _ _
              · exact ((((hB.setCell (p := ⟨g8, 0, none⟩) hl8 _).setCell (p := ⟨g8, 1, none⟩) hl8 _).setCell (p := ⟨g8, 2, none⟩) hl8 _).setCell (p := ⟨g8, 3, none⟩) hl8 _)
              clear hB h8
              clear hK K
              try simp only [List.getElem_toArray, List.getElem_cons_zero, List.getElem_cons_succ, Act.put, List.setIfInBounds_toArray, List.set_cons_zero, List.set_cons_succ]
              refine wpAnyH_take (i := 13) (oi := _) (v := ?_) rfl (by kernel_rfl) (by kernel_rfl) (by kernel_rfl) (fun _ _ _ h => h) (Or.inl ⟨by rfl, ?_⟩) (by assumption) ?_
              rotate_left
              · (intro w hSw; (try dsimp only at hSw); go_simp; try (with_reducible rfl))
              try simp only [List.getElem_toArray, List.getElem_cons_zero, List.getElem_cons_succ, Act.put, List.setIfInBounds_toArray, List.set_cons_zero, List.set_cons_succ]
              refine wpAnyH_done (by kernel_rfl) ?_ _
              dsimp only [Exit.then]
              clear hHeld
              have hall := And.intro hG hF
              generalize wn29 = wz at hall ⊢
              generalize g8 = gz at hall ⊢
              generalize g6 = g7
              revert wz gz g7
              exact REST.out
            exact AllReadyH.nil
          exact AllReadyH.nil
        exact AllReadyH.nil
      refine AllReadyH.cons (o := _) rfl (fun K hK => ?_) ?_
      ·
        go_simp
        refine outG hK ?_ (Below wn25.heap.size wn25) (fun W => Sl W 3 (some ⟨wn25.heap.size, 0, none⟩) 1 1 (pcs [⟨[97], L, 0⟩])) ?_ ?_ (fun wn30 hHeld hst hnew => ?_)
        · (exact HSB.out _ (hB.trans (Below.mono (show Below wn25.heap.size wn25 _ from by (first | exact (Below.refl _ _).alloc (Nat.le_refl _) _ | exact hb5 | exact Below.refl _ _)) hB.size)))
        · (first | exact (Below.refl _ _).alloc (Nat.le_refl _) _ | exact hb5 | exact Below.refl _ _)
        · (exact ⟨by rw [HSL.out]; exact Rd.newN (pcs [⟨[97], L, 0⟩]) rfl, Nat.le_refl _, by simp [maxLen], fun a ha => by cases ha; simp⟩)
        have hB := hB.trans (hst.mono hB.size)
        have h8 := h8.below hst
        have h6 := hnew
        obtain ⟨g6, hg6⟩ : ∃ g, g = wn25.heap.size := ⟨_, rfl⟩
        rw [← hg6] at h6 ⊢
        clear hg6
        clear hst
        clear hK K
        try simp only [List.getElem_toArray, List.getElem_cons_zero, List.getElem_cons_succ, Act.put, List.setIfInBounds_toArray, List.set_cons_zero, List.set_cons_succ]
        refine wpAnyH_ready (rs := [3]) (by kernel_rfl) (by simp) ?_
        refine AllReadyH.cons (o := _) rfl (fun K hK => ?_) ?_
        ·
          go_simp
          refine (HKY.out wn30).mono ?_
          rintro e5 w5 ⟨rfl, hb5⟩
          dsimp only
          refine outG hK ?_ (Below wn30.heap.size wn30) (fun W => True) ?_ ?_ (fun wn31 hHeld hst hnew => ?_)
          · (exact HSB.out _ (hB.trans (Below.mono (show Below wn30.heap.size wn30 _ from by (first | exact (Below.refl _ _).alloc (Nat.le_refl _) _ | exact hb5 | exact Below.refl _ _)) hB.size)))
          · (first | exact (Below.refl _ _).alloc (Nat.le_refl _) _ | exact hb5 | exact Below.refl _ _)
          · (trivial)
          have hB := hB.trans (hst.mono hB.size)
          have h6 := h6.below hst
          have h8 := h8.below hst
          clear hst
          clear hK K
          try simp only [List.getElem_toArray, List.getElem_cons_zero, List.getElem_cons_succ, Act.put, List.setIfInBounds_toArray, List.set_cons_zero, List.set_cons_succ]
          refine wpAnyH_ready (rs := [7]) (by kernel_rfl) (by simp) ?_
          refine AllReadyH.cons (o := _) rfl (fun K hK => ?_) ?_
          ·
            go_simp
            refine (HPR.out wn31 _ hB h6).mono ?_
            rintro e5 w5 ⟨rfl, hb5⟩
            dsimp only
            refine outG hK ?_ (Below wn31.heap.size wn31) (fun W => True) ?_ ?_ (fun wn32 hHeld hst hnew => ?_)
            · (exact HSB.out _ (hB.trans (Below.mono (show Below wn31.heap.size wn31 _ from by (first | exact (Below.refl _ _).alloc (Nat.le_refl _) _ | exact hb5 | exact Below.refl _ _)) hB.size)))
            · (first | exact (Below.refl _ _).alloc (Nat.le_refl _) _ | exact hb5 | exact Below.refl _ _)
            · (trivial)
            have hB := hB.trans (hst.mono hB.size)
            have h8 := h8.below hst
            clear hst
            clear hK K
            try simp only [List.getElem_toArray, List.getElem_cons_zero, List.getElem_cons_succ, Act.put, List.setIfInBounds_toArray, List.set_cons_zero, List.set_cons_succ]
            refine wpAnyH_take (i := 8) (oi := _) (v := ?_) rfl (by kernel_rfl) (by kernel_rfl) (by kernel_rfl) (fun _ _ _ h => h) (Or.inl ⟨by rfl, ?_⟩) (by assumption) ?_
            rotate_left
            · (intro w hSw; (try dsimp only at hSw); go_simp; try (with_reducible rfl))
            try simp only [List.getElem_toArray, List.getElem_cons_zero, List.getElem_cons_succ, Act.put, List.setIfInBounds_toArray, List.set_cons_zero, List.set_cons_succ]
            refine wpAnyH_take (i := 9) (oi := _) (v := ?_) rfl (by kernel_rfl) (by kernel_rfl) (by kernel_rfl) (fun _ _ _ h => h) (Or.inl ⟨by rfl, ?_⟩) (by assumption) ?_
            rotate_left
            · (intro w hSw; (try dsimp only at hSw); go_simp; try (with_reducible rfl))
            try simp only [List.getElem_toArray, List.getElem_cons_zero, List.getElem_cons_succ, Act.put, List.setIfInBounds_toArray, List.set_cons_zero, List.set_cons_succ]
            refine wpAnyH_take (i := 10) (oi := _) (v := ?_) rfl (by kernel_rfl) (by kernel_rfl) (by kernel_rfl) (fun _ _ _ h => h) (Or.inl ⟨by rfl, ?_⟩) (by assumption) ?_
            rotate_left
            · (intro w hSw; (try dsimp only at hSw); go_simp; try (with_reducible rfl))
            try simp only [List.getElem_toArray, List.getElem_cons_zero, List.getElem_cons_succ, Act.put, List.setIfInBounds_toArray, List.set_cons_zero, List.set_cons_succ]
            refine wpAnyH_ready (rs := [12]) (by kernel_rfl) (by simp) ?_
            refine AllReadyH.cons (o := _) rfl (fun K hK => ?_) ?_
            ·
              have z0 := h8.cell (k := 0) rfl
              have z1 := h8.cell (k := 1) rfl
              have z2 := h8.cell (k := 2) rfl
              have z3 := h8.cell (k := 3) rfl
              have f0 := h8.frozen 0
              have f1 := h8.frozen 1
              have f2 := h8.frozen 2
              have f3 := h8.frozen 3
              go_simp
              clear z0 z1 z2 z3 f0 f1 f2 f3
              refine outG hK ?_ (fun W => Arr W g8 28 [.slice none 0 0, .slice none 0 0, .int .i64 0, .int .i64 0]) (fun W => Below w7.heap.size w7 W) ?_ ?_ (fun wn33 hHeld hF hG => ?_)
              · exact HSB.out _ ((((hB.setCell (p := ⟨g8, 0, none⟩) hl8 _).setCell (p := ⟨g8, 1, none⟩) hl8 _).setCell (p := ⟨g8, 2, none⟩) hl8 _).setCell (p := ⟨g8, 3, none⟩) hl8 _)
              · exact h8.all4 _ _ _ _
              · exact ((((hB.setCell (p := ⟨g8, 0, none⟩) hl8 _).setCell (p := ⟨g8, 1, none⟩) hl8 _).setCell (p := ⟨g8, 2, none⟩) hl8 _).setCell (p := ⟨g8, 3, none⟩) hl8 _)
              clear hB h8
              clear hK K
              try simp only [List.getElem_toArray, List.getElem_cons_zero, List.getElem_cons_succ, Act.put, List.setIfInBounds_toArray, List.set_cons_zero, List.set_cons_succ]
              refine wpAnyH_take (i := 13) (oi := _) (v := ?_) rfl (by kernel_rfl) (by kernel_rfl) (by kernel_rfl) (fun _ _ _ h => h) (Or.inl ⟨by rfl, ?_⟩) (by assumption) ?_
              rotate_left
              · (intro w hSw; (try dsimp only at hSw); go_simp; try (with_reducible rfl))
              try simp only [List.getElem_toArray, List.getElem_cons_zero, List.getElem_cons_succ, Act.put, List.setIfInBounds_toArray, List.set_cons_zero, List.set_cons_succ]
              refine wpAnyH_done (by kernel_rfl) ?_ _
              dsimp only [Exit.then]
              clear hHeld
              have hall := And.intro hG hF
              generalize wn33 = wz at hall ⊢
              generalize g8 = gz at hall ⊢
              generalize g6 = g7
              revert wz gz g7
              exact REST.out
            exact AllReadyH.nil
          exact AllReadyH.nil
        exact AllReadyH.nil
      exact AllReadyH.nil
    exact AllReadyH.nil
    --HELDEND1
    intro w8 gz ⟨hBz, hXz⟩ g7
    have hXs := HX7.out.below hBz
    have hrd8 := HRD.out.below hBz
    have hb08 := HB7.out.trans (hBz.mono (by omega))
    have hgz : Arr w8 gz 28 [.slice none 0 0, .slice none 0 0, .int .i64 0, .int .i64 0] := hXz
    have z0 := hXs.cell (k := 0) rfl
    have z1 := hXs.cell (k := 1) rfl
    have z2 := hXs.cell (k := 2) rfl
    have z3 := hXs.cell (k := 3) rfl
    have HGB := GetBlob_none As cs Bs ds s L w8 HSG.out hrd8 HNO.out
    rw [← HSL.out] at HGB
    have HGB := Lib.hid HGB
    have hs8 : gr ≤ w8.heap.size := by have := hBz.size; omega
    clear hBz hXz
    repeat' ((fail_if_success at_builtin); (fail_if_success at_make); (first | go_values | go_skip | go_guarded | go_step | go_upon | go_back))
    clear z0 z1 z2 z3
    refine ((HGB.out)).mono ?_; rintro e_ w9 ⟨rfl, hb9⟩; dsimp only
    have hXs9 := hXs.below hb9
    have hrd9 := hrd8.below hb9
    have hgz9 := hgz.below hb9
    have hb09 := hb08.trans (hb9.mono hs8)
    have hs9 : gr ≤ w9.heap.size := Nat.le_trans hs8 hb9.size
    have z0 := hXs9.cell (k := 0) rfl
    have z1 := hXs9.cell (k := 1) rfl
    have z2 := hXs9.cell (k := 2) rfl
    have z3 := hXs9.cell (k := 3) rfl
    have HHN := HoldB_none As cs Bs ds s L true w9 HSG.out hrd9 HNO.out
    rw [← HSL.out] at HHN
    have HHN := Lib.hid HHN
    clear hXs hrd8 hgz hb08 hb9
    repeat' ((fail_if_success at_builtin); (fail_if_success at_make); (first | go_values | go_skip | go_guarded | go_step | go_upon | go_back))
    clear z0 z1 z2 z3
    refine ((HHN.out)).mono ?_; rintro e_ w10 ⟨rfl, hb10⟩; dsimp only
    have hgz10 := hgz9.below hb10
    have hb010 := hb09.trans (hb10.mono hs9)
    have hba := (Below.refl w10.heap.size w10).alloc (Nat.le_refl _) (.cells #[.slice none 0 0, .slice none 0 0, .int .i64 0, .int .i64 0] 28)
    have hs10 : gr ≤ w10.heap.size := Nat.le_trans hs9 hb10.size
    have HKP := Lib.hid (kept_ok (w10.alloc (.cells #[.slice none 0 0, .slice none 0 0, .int .i64 0, .int .i64 0] 28)))
    have hgz11 := hgz10.below hba
    have hb011 := hb010.trans (hba.mono hs10)
    clear hXs9 hrd9 hgz9 hgz10 hb09 hb10 hb010
    have hs11 : gr ≤ (w10.alloc (.cells #[.slice none 0 0, .slice none 0 0, .int .i64 0, .int .i64 0] 28)).heap.size := Nat.le_trans hs10 hba.size
    clear hba
    repeat' ((fail_if_success at_builtin); (fail_if_success at_make); (first | go_values | go_skip | go_guarded | go_step | go_upon | go_back))
    generalize w10.alloc (.cells #[.slice none 0 0, .slice none 0 0, .int .i64 0, .int .i64 0] 28) = w11 at *
    refine ((HKP.out)).mono ?_; rintro e_ w12 ⟨rfl, hb12⟩; dsimp only
    have hgz12 := hgz11.below hb12
    have hb012 := hb011.trans (hb12.mono hs11)
    have z0 := hgz12.cell (k := 0) rfl
    repeat' ((fail_if_success at_builtin); (fail_if_success at_make); (first | go_values | go_skip | go_guarded | go_step | go_upon | go_back))
    go_ret
    exact ⟨rfl, hb012⟩
end Go.Proofs.YtjldpfijekpddaaGreat
