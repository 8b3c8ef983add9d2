/- The walk of MarkComes. Conditions: the sizes. -/
import Derived.Test.YtmjcoebfldmgnaaGreatLMa
namespace Go.Proofs.YtmjcoebfldmgnaaGreat
open Go.RowKit Go.Maps
set_option linter.unusedVariables false
set_option linter.unusedSimpArgs false
set_option maxRecDepth 100000

theorem encP_low {p : PartP} (h : nameC p.name = 0 ∧ hexC p.dig = 0 ∧ p.size ≤ 300) : 34 ≤ (encP p).length := by
  have h1 := encP_len h
  have h2 : (hexB p.dig).1.length = 32 := (hexC_zero h.2.1).2
  unfold encP
  rw [List.length_append, List.length_append, h2]
  omega
theorem flat_low (l : List PartP) (h : ∀ p ∈ l, nameC p.name = 0 ∧ hexC p.dig = 0 ∧ p.size ≤ 300) : 34 * l.length ≤ (l.flatMap encP).length := by
  induction l with
  | nil => simp
  | cons p l ih =>
    have h1 := encP_low (h p (by simp))
    have h2 := ih (fun q hq => h q (by simp [hq]))
    rw [List.flatMap_cons, List.length_append, List.length_cons]; omega
theorem dec_few (b : List UInt8) (h : b.length ≤ 148) : (decL b).1.length ≤ 4 := by
  rcases dec_chk b with h1 | ⟨h1, h2⟩
  · rw [h1]; simp
  · have hz := chk_zero h2
    have h3 := enc_length _ hz.1
    have h4 := flat_low _ hz.2
    rw [h1] at h3
    omega
theorem sto_few (l : List RawP) : KidsLe 4 (sto l).blobs := fun b hb => dec_few b.data (sto_bone l b hb).1
theorem sto_lens (l : List RawP) : (sto l).blobs.length ≤ 12 ∧ (sto l).ents.length ≤ 12 ∧ ∀ x ∈ (sto l).ents, x.parts.length ≤ 3 := by
  have h := acc_take l 12
  have pb : ((sto l).blobs).Perm (stAcc l).blobs := srt_perm _ _
  have pe : ((sto l).ents).Perm (stAcc l).ents := srt_perm _ _
  exact ⟨by rw [pb.length_eq]; exact h.blen, by rw [pe.length_eq]; exact h.elen, fun x hx => (h.eone x (pe.mem_iff.1 hx)).2.2.1⟩
theorem rtsE_len3 (es : List EntP) (h : ∀ x ∈ es, x.parts.length ≤ 3) : (rtsE es).length ≤ 3 * es.length := by
  induction es with
  | nil => simp [rtsE]
  | cons x es ih =>
    have h1 := h x (by simp)
    have h2 := ih (fun y hy => h y (by simp [hy]))
    unfold rtsE at h2 ⊢
    rw [List.flatMap_cons, List.length_append, List.length_map, List.length_cons]; omega
theorem beg_steps (l : List RawP) : 4 * unm (begS (sto l)).blobs + (begC (sto l)).grey.length ≤ 96 := by
  obtain ⟨h1, h2, h3⟩ := sto_lens l
  have h4 := unm_le (begS (sto l)).blobs
  rw [begS_blen] at h4
  have h5 : (begC (sto l)).grey.length ≤ (rts (sto l)).length := uni_len _
  have h6 := rtsE_len3 _ h3
  have h7 := rtsB_len (sto l).blobs
  have h8 : (rts (sto l)).length = (rtsE (sto l).ents).length + (rtsB (sto l).blobs).length := List.length_append
  omega
/-- one step more of marking -/
theorem mStep_all {s : StoP} {c : ColP} (hg : GoodS s) (hc : GoodC s c) (ho : OnlyC s c) (hk : KidsLe 4 s.blobs) (hp : c.phase = 1) {j : Nat} (hj : 4 * unm s.blobs + c.grey.length + j ≤ 99) :
    GoodS (mStep s c).1 ∧ GoodC (mStep s c).1 (mStep s c).2 ∧ OnlyC (mStep s c).1 (mStep s c).2 ∧ KidsLe 4 (mStep s c).1.blobs ∧ ((mStep s c).2.phase = 1 ∨ (mStep s c).2.phase = 2) ∧ ((mStep s c).2.phase = 1 → 4 * unm (mStep s c).1.blobs + (mStep s c).2.grey.length + (j + 1) ≤ 99) := by
  refine ⟨mStep_good c hg, mStep_goodC hg hp hc, mStep_only hg ho, hk.eqM (mStep_eqM s c).1, ?_, fun h => ?_⟩
  · rcases mStep_ph s c with h | h
    · exact .inl h
    · rw [h]; exact .inr rfl
  · have := mStep_less hk h; omega
/-- at the end just what is come to is marked -/
theorem marked_iff {s : StoP} {c : ColP} (hg : GoodS s) (hc : GoodC s c) (ho : OnlyC s c) (hp : c.phase = 2) {b : BlobP} (hb : b ∈ s.blobs) : b.mark = true ↔ Rch s.blobs (rts s) b.dig := by
  refine ⟨fun h => ho.mb b hb h, fun h => ?_⟩
  obtain ⟨b', hb', hm, e⟩ := mem_mkd.1 (hc.sw hp _ h)
  have := hg.b.ris.inj hb' hb e
  subst this; exact hm
set_option maxHeartbeats 16000000 in
theorem MarkComes_walk (A : Option Addr) (n c : Nat) (l : List RawP) (w : World) (hl : l.length = n) (hc : n ≤ c) (hm : c ≤ maxLen) (hok : ∀ r ∈ l, RawOk r) (hr : Rd w 4 A n (rcs l)) :
    Calls Tryz.prog 9 #[.slice A n c] w fun e w' => e = .returned (.bool true) ∧ Below w.heap.size w w' := by
  have HBS := Lib.hid (beg_steps l)
  have HKD := Lib.hid (sto_few l)
  have HS := Lib.hid (Store_ok A n c l w hl hc hm hok hr)
  have HGS := Lib.hid (sto_good l)
  clear hok hl hr hc hm
  generalize sto l = s at *
  have hbl := HGS.out.b.len
  have hel := HGS.out.e.len
  go_enter Tryz.func9, Tryz.ntmps9
  repeat' ((fail_if_success at_builtin); (fail_if_success at_make); (first | go_values | go_skip | go_guarded | go_step | go_upon | go_back))
  refine ((HS.out)).mono ?_; rintro e_ w1 ⟨v1, v2, rfl, hb, he, hb1⟩; dsimp only
  obtain ⟨Ab, cb, rfl, hcb1, hcb2, hRb⟩ := hb.rows
  obtain ⟨Ae, ce, rfl, hce1, hce2, hRe⟩ := he.rows
  have HB1 := Lib.hid (show Calls Tryz.prog 32 #[.agg #[.slice Ab s.blobs.length cb, .slice Ae s.ents.length ce, .int .i64 (s.room : Int), .int .i64 (s.clock : Int)]] w1 fun e w' => ∃ v1 v2 v3, e = .returned (.tuple #[stV v1 v2 (begS s), coV v3 (begC s), .int .i64 0]) ∧ OwSt w' w1.heap.size v1 v2 (begS s) (fun b => b < w1.heap.size) ∧ w'.ownsRow w1.heap.size 9 1 v3 (begC s).grey.length (strs (begC s).grey) ∧ Below w1.heap.size w1 w' from Begin_ok Ab cb Ae ce s w1 HGS.out ⟨hRb, hRe, hcb1, hcb2, hce1, hce2⟩)
  have H1 := Lib.hid (beg_good HGS.out)
  have H2 := Lib.hid (beg_goodC HGS.out)
  have H3 := Lib.hid (beg_only HGS.out)
  have H4 := Lib.hid (HKD.out.eqM (eqM_unmk s.blobs) : KidsLe 4 (begS s).blobs)
  have H5 : (begC s).phase = 1 := rfl
  have H6 := Lib.hid H5
  clear hb he hRb hRe H5
  generalize begS s = t0 at *
  generalize begC s = c0 at *
  repeat' ((fail_if_success at_builtin); (fail_if_success at_make); (first | go_values | go_skip | go_guarded | go_step | go_upon | go_back))
  refine ((HB1.out)).mono ?_; rintro e_ w2 ⟨v1, v2, v3, rfl, ho2, hl2, hb2⟩; dsimp only
  obtain ⟨X2, c2, Y2, d2, e1, e2, hr2⟩ := ho2.rows
  obtain ⟨A3, n3, e3, hc3⟩ := RdC.of_own (c := c0) hl2
  subst e1 e2 e3
  have hb12 := hb1.trans (hb2.mono hb1.size)
  obtain ⟨W3, hW3, hA3, hC3, hb3⟩ := two_new2 w2 26 60 [.slice X2 t0.blobs.length c2, .slice Y2 t0.ents.length d2, .int .i64 (t0.room : Int), .int .i64 (t0.clock : Int)] [.int .i64 (c0.phase : Int), .slice A3 c0.grey.length n3, .string ⟨c0.at_.toArray⟩]
  have hr3 := hr2.below hb3
  have hc4 := hc3.below hb3
  have hb13 := hb12.trans (hb3.mono hb12.size)
  have hs2 : w.heap.size ≤ w2.heap.size := hb12.size
  have HMK := Lib.hid (marks_ok W3)
  clear ho2 hl2 hr2 hc3 hb2 hb1 hb12 hb3 HB1
  repeat' ((fail_if_success at_builtin); (fail_if_success at_make); (first | go_values | go_skip | go_guarded | go_step | go_upon | go_back))
  rw [← hW3]
  clear hW3
  generalize w2.heap.size = g3 at *
  refine ((HMK.out)).mono ?_; rintro e_ w4 ⟨rfl, hb4⟩; dsimp only
  have hA4 := hA3.below hb4
  have hC4 := hC3.below hb4
  have hr4 := hr3.below hb4
  have hc4 := hc4.below hb4
  have hb14 := hb13.trans (hb4.mono hb13.size)
  clear hA3 hC3 hr3 hb4 hb13 HMK
  repeat' ((fail_if_success at_builtin); (fail_if_success at_make); (first | go_values | go_skip | go_guarded | go_step | go_upon | go_back))
  go_loopg [25] 100 (fun gn i wr => ∃ (j : Nat) (t : StoP) (cc : ColP) (X : Option Addr) (cX : Nat) (Y : Option Addr) (dY : Nat) (Ag : Option Addr) (ng : Nat), gn = 100 - j ∧ i = .int .i64 (j : Int) ∧ j ≤ 100 ∧ Arr wr g3 26 [.slice X t.blobs.length cX, .slice Y t.ents.length dY, .int .i64 (t.room : Int), .int .i64 (t.clock : Int)] ∧ Arr wr (g3 + 1) 60 [.int .i64 (cc.phase : Int), .slice Ag cc.grey.length ng, .string ⟨cc.at_.toArray⟩] ∧ RdSt wr X cX Y dY t ∧ RdC wr Ag ng cc ∧ GoodS t ∧ GoodC t cc ∧ OnlyC t cc ∧ KidsLe 4 t.blobs ∧ (cc.phase = 1 ∨ cc.phase = 2) ∧ (cc.phase = 1 → 4 * unm t.blobs + cc.grey.length + j ≤ 99) ∧ Below w.heap.size w wr)
  case atStart => exact ⟨0, t0, c0, X2, c2, Y2, d2, A3, n3, rfl, rfl, by omega, hA4, hC4, hr4, hc4, H1.out, H2.out, H3.out, H4.out, .inl H6.out, fun _ => by have := HBS.out; omega, hb14⟩
  case round =>
    obtain ⟨j, t, cc, X, cX, Y, dY, Ag, ng, hgj, rfl, hj, hA, hC, hrd, hrc, hg, hgc, ho, hk, hph, hst, hbk⟩ := hrel
    have HGJ := Lib.hid hgj
    have HG := Lib.hid hg
    have HGC := Lib.hid hgc
    have HO := Lib.hid ho
    have HK := Lib.hid hk
    have HST := Lib.hid hst
    have htb := hg.b.len
    have hte := hg.e.len
    clear hgj hA4 hC4 hr4 hc4 hb14 H1 H2 H3 H4 H6 hg hgc ho hk hst
    rcases hph with hp | hp
    · have HP := Lib.hid hp
      have hj99 : j < 100 := by have := HST.out hp; omega
      have hlb : decide ((j : Int) < 100) = true := decide_eq_true (by omega)
      have hlc : decide (j < 100) = true := decide_eq_true hj99
      have g1 : ((cc.phase : Int) != 1) = false := by rw [hp]; rfl
      have x0 := hA.cell (k := 0) rfl
      have x1 := hA.cell (k := 1) rfl
      have x2 := hA.cell (k := 2) rfl
      have x3 := hA.cell (k := 3) rfl
      have y0 := hC.cell (k := 0) rfl
      have y1 := hC.cell (k := 1) rfl
      have y2 := hC.cell (k := 2) rfl
      have HMS := Lib.hid (MStep_ok X cX Y dY t Ag ng cc wr HG.out hrd hp (HGC.out.a0 (by omega)) (by have := HST.out hp; omega) hrc)
      have HHA := Lib.hid hA
      have HHC := Lib.hid hC
      have HHB := Lib.hid hbk
      clear hp hrd hrc hA hC hbk
      repeat' ((fail_if_success at_builtin); (fail_if_success at_make); (first | go_values | go_skip | go_guarded | go_step | go_upon | go_back))
      clear x0 x1 x2 x3 y0 y1 y2
      refine ((HMS.out)).mono ?_; rintro e_ w5 ⟨v5, v6, v7, rfl, ho5, hl5, hb5⟩; dsimp only
      obtain ⟨m1, m2, m3, m4, m5, m6⟩ := mStep_all HG.out HGC.out HO.out HK.out HP.out (HST.out HP.out)
      have hrm : (mStep t cc).1.room = t.room := (congrArg StoP.room (mStep_eqM t cc).2).trans rfl
      have hck : (mStep t cc).1.clock = t.clock := (congrArg StoP.clock (mStep_eqM t cc).2).trans rfl
      generalize (mStep t cc).1 = t' at *
      generalize (mStep t cc).2 = cc' at *
      obtain ⟨X5, c5, Y5, d5, e1, e2, _⟩ := ho5.rows
      obtain ⟨A7, n7, e3, _, _⟩ := Rd.of_own' hl5
      subst e1 e2 e3
      have hs5 := hb5.size
      have hg3 := HHC.out.lt
      obtain ⟨W6, hW6, h6, h7, hb6⟩ := two_new2 w5 26 60 [.slice X5 t'.blobs.length c5, .slice Y5 t'.ents.length d5, .int .i64 (t.room : Int), .int .i64 (t.clock : Int)] [.int .i64 (cc'.phase : Int), .slice A7 cc'.grey.length n7, .string ⟨cc'.at_.toArray⟩]
      have hA6 := (HHA.out.below hb5).below hb6
      have hC6 := (HHC.out.below hb5).below hb6
      have ho6 := ho5.below hb6
      have hl6 := own_below hl5 hb6
      have hb16 := HHB.out.trans ((hb5.trans (hb6.mono hs5)).mono HHB.out.size)
      have HF1 := Lib.hid (put7_g (g := g3) (h := g3 + 1) (u0 := .slice X5 t'.blobs.length c5) (u1 := .slice Y5 t'.ents.length d5) (u2 := .int .i64 (t.room : Int)) (u3 := .int .i64 (t.clock : Int)) (x0 := .int .i64 (cc'.phase : Int)) (x1 := .slice A7 cc'.grey.length n7) (x2 := .string ⟨cc'.at_.toArray⟩) hA6 (by omega))
      have HF2 := Lib.hid (put7_h (g := g3) (h := g3 + 1) (u0 := .slice X5 t'.blobs.length c5) (u1 := .slice Y5 t'.ents.length d5) (u2 := .int .i64 (t.room : Int)) (u3 := .int .i64 (t.clock : Int)) (x0 := .int .i64 (cc'.phase : Int)) (x1 := .slice A7 cc'.grey.length n7) (x2 := .string ⟨cc'.at_.toArray⟩) hC6 (by omega))
      have HF3 := Lib.hid (put7_ow (g := g3) (h := g3 + 1) (u0 := .slice X5 t'.blobs.length c5) (u1 := .slice Y5 t'.ents.length d5) (u2 := .int .i64 (t.room : Int)) (u3 := .int .i64 (t.clock : Int)) (x0 := .int .i64 (cc'.phase : Int)) (x1 := .slice A7 cc'.grey.length n7) (x2 := .string ⟨cc'.at_.toArray⟩) ho6 (by omega) (by omega) (ho6.nb hA6 (by decide) (by decide)).1 (ho6.nb hA6 (by decide) (by decide)).2 (ho6.nb hC6 (by decide) (by decide)).1 (ho6.nb hC6 (by decide) (by decide)).2)
      have HF4 := Lib.hid (put7_row (g := g3) (h := g3 + 1) (u0 := .slice X5 t'.blobs.length c5) (u1 := .slice Y5 t'.ents.length d5) (u2 := .int .i64 (t.room : Int)) (u3 := .int .i64 (t.clock : Int)) (x0 := .int .i64 (cc'.phase : Int)) (x1 := .slice A7 cc'.grey.length n7) (x2 := .string ⟨cc'.at_.toArray⟩) hl6 (own_ne hl6 hA6 (by decide)) (own_ne hl6 hC6 (by decide)))
      have HF5 := Lib.hid (put7_below (g := g3) (h := g3 + 1) (u0 := .slice X5 t'.blobs.length c5) (u1 := .slice Y5 t'.ents.length d5) (u2 := .int .i64 (t.room : Int)) (u3 := .int .i64 (t.clock : Int)) (x0 := .int .i64 (cc'.phase : Int)) (x1 := .slice A7 cc'.grey.length n7) (x2 := .string ⟨cc'.at_.toArray⟩) hb16 (by omega) (by omega))
      have f0 := hA6.frozen 0
      have f1 := hA6.frozen 1
      have f2 := hA6.frozen 2
      have f3 := hA6.frozen 3
      have y0 := hA6.cell (k := 0) rfl
      have y1 := hA6.cell (k := 1) rfl
      have y2 := hA6.cell (k := 2) rfl
      have y3 := hA6.cell (k := 3) rfl
      have e0 := hC6.frozen 0
      have e1 := hC6.frozen 1
      have e2 := hC6.frozen 2
      have x0 := hC6.cell (k := 0) rfl
      have x1 := hC6.cell (k := 1) rfl
      have x2 := hC6.cell (k := 2) rfl
      obtain ⟨g6, hg6⟩ : ∃ g, g = w5.heap.size := ⟨_, rfl⟩
      rw [← hg6] at h6 h7
      have s0 := h6.cell (k := 0) rfl
      have s1 := h6.cell (k := 1) rfl
      have s2 := h6.cell (k := 2) rfl
      have s3 := h6.cell (k := 3) rfl
      have t0' := h7.cell (k := 0) rfl
      have t1 := h7.cell (k := 1) rfl
      have t2 := h7.cell (k := 2) rfl
      have n1 : ¬ (g6 = g3) := by omega
      have n2 : ¬ (g6 + 1 = g3) := by omega
      have n3 : ¬ (g6 = g3 + 1) := by omega
      have HG6 := Lib.hid hg6
      have HW6 := Lib.hid hW6
      have HM := Lib.hid (And.intro m1 (And.intro m2 (And.intro m3 (And.intro m4 (And.intro m5 m6)))))
      have HRM := Lib.hid hrm
      have HCKK := Lib.hid hck
      clear hA6 hC6 ho6 hl6 hb16 h6 h7 ho5 hl5 hb5 hb6 m1 m2 m3 m4 m5 m6 hrm hck hW6 hg6 HMS HHA HHC HHB
      repeat' ((fail_if_success (with_reducible refine at_reg_ 10 ?_)); (fail_if_success (with_reducible refine at_sreg_ 10 ?_)); (fail_if_success (with_reducible refine at_ssreg_ 10 ?_)); (fail_if_success at_builtin); (fail_if_success at_make); (first | go_values | go_skip | go_guarded | go_step | go_upon | go_back))
      rw [← HG6.out, ← HW6.out]
      clear HW6 HG6
      go_region
      all_goals (try dsimp only [Exit.then])
      clear f0 f1 f2 f3 y0 y1 y2 y3 e0 e1 e2 x0 x1 x2 s0 s1 s2 s3 t0' t1 t2
      have HRZ := Lib.hid (show RdSt _ X5 c5 Y5 d5 t' from by
        obtain ⟨_, _, _, _, e1, e2, h⟩ := HF3.out.drewX.rows
        cases e1; cases e2; exact h)
      have HCZ := Lib.hid (show RdC _ A7 n7 cc' from by
        obtain ⟨_, _, e1, h⟩ := RdC.of_own (c := cc') (own_below HF4.out (Below.refl _ _).drew)
        cases e1; exact h)
      dsimp only [Exit.inBlock, Exit.then]
      repeat' ((fail_if_success at_builtin); (fail_if_success at_make); (first | go_values | go_skip | go_guarded | go_step | go_upon | go_back))
      go_roundg (100 - (j + 1))
      case measure => have := HGJ.out; omega
      case rel =>
        obtain ⟨m1, m2, m3, m4, m5, m6⟩ := HM.out
        exact ⟨j + 1, t', cc', X5, c5, Y5, d5, A7, n7, rfl, by go_num, by omega, by rw [HRM.out, HCKK.out]; exact Arr.drew HF1.out, Arr.drew HF2.out, HRZ.out, HCZ.out, m1, m2, m3, m4, m5, m6, HF5.out.drew⟩
    · have HP := Lib.hid hp
      have g1 : ((cc.phase : Int) != 1) = true := by rw [hp]; rfl
      have g2 : ((cc.phase : Int) == 2) = true := by rw [hp]; rfl
      have HRC := Lib.hid hC
      have HRA := Lib.hid hA
      have HRD := Lib.hid hrd
      have HAL := Lib.hid (All_ok X Y cX dY t (t.room : Int) (t.clock : Int) wr HG.out.rts hrd)
      have x0 := hA.cell (k := 0) rfl
      have x1 := hA.cell (k := 1) rfl
      have x2 := hA.cell (k := 2) rfl
      have x3 := hA.cell (k := 3) rfl
      have y0 := hC.cell (k := 0) rfl
      clear hp hrd hrc hA hC
      by_cases hj99 : j < 100
      · have hlb : decide ((j : Int) < 100) = true := decide_eq_true (by omega)
        have hlc : decide (j < 100) = true := decide_eq_true hj99
        repeat' ((fail_if_success at_builtin); (fail_if_success at_make); (first | go_values | go_skip | go_guarded | go_step | go_upon | go_back))
        clear x0 x1 x2 x3 y0
        refine ((HAL.out)).mono ?_; rintro e_ w5 ⟨v5, L, rfl, hL, hLl, ho5, hb5⟩; dsimp only
        obtain ⟨A5, c5, rfl, _, hr5⟩ := Rd.of_own' ho5
        have hb15 := hbk.trans (hb5.mono hbk.size)
        have HL := Lib.hid hL
        have HR5 := Lib.hid hr5
        have HA5 := Lib.hid (HRA.out.below hb5)
        have HC5 := Lib.hid (HRC.out.below hb5)
        have HD5 := Lib.hid (HRD.out.below hb5)
        have x0 := HA5.out.cell (k := 0) rfl
        have hb63 : (t.blobs.length : Int) ≤ 9223372036854775807 := by omega
        have hL24 : L.length ≤ 1000 := by omega
        clear hL hr5 ho5 hb5 hbk HAL
        repeat' ((fail_if_success at_builtin); (fail_if_success at_make); (first | go_values | go_skip | go_guarded | go_step | go_upon | go_back))
        clear x0
        go_loopg [47] t.blobs.length (fun gn i wr => ∃ k : Nat, gn = t.blobs.length - k ∧ i = .int .i64 k ∧ k ≤ t.blobs.length ∧ Below w5.heap.size w5 wr)
        case atStart => exact ⟨0, rfl, rfl, by omega, Below.refl _ _⟩
        case round =>
          obtain ⟨k, hgk, rfl, hk, hbj⟩ := hrel
          have HGK := Lib.hid hgk
          clear hgk
          by_cases hlt : k < t.blobs.length
          rotate_left
          · obtain rfl : k = t.blobs.length := by omega
            have hlb : decide (t.blobs.length < t.blobs.length) = false := by simp
            have y0 := (HC5.out.below hbj).cell (k := 0) rfl
            repeat' ((fail_if_success at_builtin); (fail_if_success at_make); (first | go_values | go_skip | go_guarded | go_step | go_upon | go_back))
            go_ret
            exact ⟨by simp, hb15.trans (hbj.mono hb15.size)⟩
          have hlb2 : decide (k < t.blobs.length) = true := decide_eq_true hlt
          have hk0 : (0 : Int) ≤ (k : Int) := by omega
          have hk1 : (k : Int) < (t.blobs.length : Int) := by omega
          obtain ⟨bq, oq, Bq, cq, eq, hbq, d0, d1, d2, d3, hsl⟩ := (HD5.out.b.below hbj).blob_at k hlt
          subst eq
          have HKL := Lib.hid hlt
          have hmk := marked_iff HG.out HGC.out HO.out HP.out (List.getElem_mem hlt)
          have hmm : t.blobs[k].mark = decide (t.blobs[k].dig ∈ L) := by
            by_cases h : t.blobs[k].dig ∈ L
            · rw [decide_eq_true h]; exact hmk.2 ((HL.out.mem _).1 h)
            · rw [decide_eq_false h]
              cases hm : t.blobs[k].mark with
              | false => rfl
              | true => exact absurd ((HL.out.mem _).2 (hmk.1 hm)) h
          generalize t.blobs[k] = q at *
          rw [hmm] at d3
          have hbox : Arr (wr.alloc (.cells #[.string ⟨q.dig.toArray⟩, .slice Bq q.data.length cq, .int .i64 (q.pins : Int), .bool (decide (q.dig ∈ L))] 51)) wr.heap.size 51 [.string ⟨q.dig.toArray⟩, .slice Bq q.data.length cq, .int .i64 (q.pins : Int), .bool (decide (q.dig ∈ L))] := Arr.new wr 51 _
          have hbA := hbj.alloc hbj.size (.cells #[.string ⟨q.dig.toArray⟩, .slice Bq q.data.length cq, .int .i64 (q.pins : Int), .bool (decide (q.dig ∈ L))] 51)
          have HCT := Lib.hid (fun z => Has_str A5 c5 L q.dig ((wr.alloc (.cells #[.string ⟨q.dig.toArray⟩, .slice Bq q.data.length cq, .int .i64 (q.pins : Int), .bool (decide (q.dig ∈ L))] 51)).drewN z) (by omega) (HR5.out.below (bdrewN hbA z)))
          generalize decide (q.dig ∈ L) = dd at *
          repeat' ((fail_if_success at_builtin); (fail_if_success at_make); (first | go_values | go_skip | go_guarded | go_step | go_upon | go_back))
          clear d0 d1 d2 d3
          generalize hgq : wr.heap.size = gq at *
          generalize (wr.alloc (.cells #[.string ⟨q.dig.toArray⟩, .slice Bq q.data.length cq, .int .i64 (q.pins : Int), .bool dd] 51)) = wA at *
          have p0 := hbox.cell (k := 0) rfl
          have p3 := hbox.cell (k := 3) rfl
          clear hbox hgq hmk hmm hsl hbq hbj
          go_quiet ((go_at_call 25; exact Calls.quiet_of_same (HCT.out _)))
          dsimp only [Exit.then]
          have hbn := bdrewN hbA nq
          have e1 : (dd != dd) = false := by cases dd <;> rfl
          clear p0 p3 hbA HCT
          repeat' ((fail_if_success at_builtin); (fail_if_success at_make); (first | go_values | go_skip | go_guarded | go_step | go_upon | go_back))
          go_roundg (t.blobs.length - (k + 1))
          case measure => have := HGK.out; have := HKL.out; omega
          case rel => exact ⟨k + 1, rfl, by go_num, by have := HKL.out; omega, hbn⟩
      · obtain rfl : j = 100 := by omega
        have hlb : decide ((100 : Int) < 100) = false := by decide
        repeat' ((fail_if_success at_builtin); (fail_if_success at_make); (first | go_values | go_skip | go_guarded | go_step | go_upon | go_back))
        clear x0 x1 x2 x3 y0
        refine ((HAL.out)).mono ?_; rintro e_ w5 ⟨v5, L, rfl, hL, hLl, ho5, hb5⟩; dsimp only
        obtain ⟨A5, c5, rfl, _, hr5⟩ := Rd.of_own' ho5
        have hb15 := hbk.trans (hb5.mono hbk.size)
        have HL := Lib.hid hL
        have HR5 := Lib.hid hr5
        have HA5 := Lib.hid (HRA.out.below hb5)
        have HC5 := Lib.hid (HRC.out.below hb5)
        have HD5 := Lib.hid (HRD.out.below hb5)
        have x0 := HA5.out.cell (k := 0) rfl
        have hb63 : (t.blobs.length : Int) ≤ 9223372036854775807 := by omega
        have hL24 : L.length ≤ 1000 := by omega
        clear hL hr5 ho5 hb5 hbk HAL
        repeat' ((fail_if_success at_builtin); (fail_if_success at_make); (first | go_values | go_skip | go_guarded | go_step | go_upon | go_back))
        clear x0
        go_loopg [47] t.blobs.length (fun gn i wr => ∃ k : Nat, gn = t.blobs.length - k ∧ i = .int .i64 k ∧ k ≤ t.blobs.length ∧ Below w5.heap.size w5 wr)
        case atStart => exact ⟨0, rfl, rfl, by omega, Below.refl _ _⟩
        case round =>
          obtain ⟨k, hgk, rfl, hk, hbj⟩ := hrel
          have HGK := Lib.hid hgk
          clear hgk
          by_cases hlt : k < t.blobs.length
          rotate_left
          · obtain rfl : k = t.blobs.length := by omega
            have hlb : decide (t.blobs.length < t.blobs.length) = false := by simp
            have y0 := (HC5.out.below hbj).cell (k := 0) rfl
            repeat' ((fail_if_success at_builtin); (fail_if_success at_make); (first | go_values | go_skip | go_guarded | go_step | go_upon | go_back))
            go_ret
            exact ⟨by simp, hb15.trans (hbj.mono hb15.size)⟩
          have hlb2 : decide (k < t.blobs.length) = true := decide_eq_true hlt
          have hk0 : (0 : Int) ≤ (k : Int) := by omega
          have hk1 : (k : Int) < (t.blobs.length : Int) := by omega
          obtain ⟨bq, oq, Bq, cq, eq, hbq, d0, d1, d2, d3, hsl⟩ := (HD5.out.b.below hbj).blob_at k hlt
          subst eq
          have HKL := Lib.hid hlt
          have hmk := marked_iff HG.out HGC.out HO.out HP.out (List.getElem_mem hlt)
          have hmm : t.blobs[k].mark = decide (t.blobs[k].dig ∈ L) := by
            by_cases h : t.blobs[k].dig ∈ L
            · rw [decide_eq_true h]; exact hmk.2 ((HL.out.mem _).1 h)
            · rw [decide_eq_false h]
              cases hm : t.blobs[k].mark with
              | false => rfl
              | true => exact absurd ((HL.out.mem _).2 (hmk.1 hm)) h
          generalize t.blobs[k] = q at *
          rw [hmm] at d3
          have hbox : Arr (wr.alloc (.cells #[.string ⟨q.dig.toArray⟩, .slice Bq q.data.length cq, .int .i64 (q.pins : Int), .bool (decide (q.dig ∈ L))] 51)) wr.heap.size 51 [.string ⟨q.dig.toArray⟩, .slice Bq q.data.length cq, .int .i64 (q.pins : Int), .bool (decide (q.dig ∈ L))] := Arr.new wr 51 _
          have hbA := hbj.alloc hbj.size (.cells #[.string ⟨q.dig.toArray⟩, .slice Bq q.data.length cq, .int .i64 (q.pins : Int), .bool (decide (q.dig ∈ L))] 51)
          have HCT := Lib.hid (fun z => Has_str A5 c5 L q.dig ((wr.alloc (.cells #[.string ⟨q.dig.toArray⟩, .slice Bq q.data.length cq, .int .i64 (q.pins : Int), .bool (decide (q.dig ∈ L))] 51)).drewN z) (by omega) (HR5.out.below (bdrewN hbA z)))
          generalize decide (q.dig ∈ L) = dd at *
          repeat' ((fail_if_success at_builtin); (fail_if_success at_make); (first | go_values | go_skip | go_guarded | go_step | go_upon | go_back))
          clear d0 d1 d2 d3
          generalize hgq : wr.heap.size = gq at *
          generalize (wr.alloc (.cells #[.string ⟨q.dig.toArray⟩, .slice Bq q.data.length cq, .int .i64 (q.pins : Int), .bool dd] 51)) = wA at *
          have p0 := hbox.cell (k := 0) rfl
          have p3 := hbox.cell (k := 3) rfl
          clear hbox hgq hmk hmm hsl hbq hbj
          go_quiet ((go_at_call 25; exact Calls.quiet_of_same (HCT.out _)))
          dsimp only [Exit.then]
          have hbn := bdrewN hbA nq
          have e1 : (dd != dd) = false := by cases dd <;> rfl
          clear p0 p3 hbA HCT
          repeat' ((fail_if_success at_builtin); (fail_if_success at_make); (first | go_values | go_skip | go_guarded | go_step | go_upon | go_back))
          go_roundg (t.blobs.length - (k + 1))
          case measure => have := HGK.out; have := HKL.out; omega
          case rel => exact ⟨k + 1, rfl, by go_num, by have := HKL.out; omega, hbn⟩
end Go.Proofs.YtmjcoebfldmgnaaGreat
