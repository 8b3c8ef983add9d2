/- Lemmas, as stated. -/
import Derived.Test.YtcjndgldjhmbgaaGreatQE10
import Derived.Test.YtcjndgldjhmbgaaGreatQE35
set_option linter.unusedVariables false
set_option linter.unusedSimpArgs false
set_option maxRecDepth 100000
set_option maxHeartbeats 8000000
open Go.Proofs.Tryz
open Go.Proofs.Tryz renaming prog->zZZ
open Go.Value renaming slice->aw,int->ax,string->az
open Go.IntKind renaming i64->ay
namespace Go.Proofs.YtcjndgldjhmbgaaGreat
open Go.RowKit Go.Maps
section

set_option maxHeartbeats 3200000 in
theorem Uh (x : RepP) (hp : x.parts.length ≤ 1000) (A : Option Addr) (c : Nat) (A' : Option Addr) (c' : Nat) (B : Option Addr) (d : Nat) (E : Option Addr) (p : Nat) (E' : Option Addr) (p' : Nat) (F : Option Addr) (q : Nat) (w : World) (h1 : Sl w 1 A x.data.length c (bys x.data)) (h2 : Sl w 3 A' x.parts.length c' (pcs x.parts)) (h3 : Sl w 1 B x.who.length d (ins x.who)) (k1 : Sl w 1 E x.data.length p (bys x.data)) (k2 : Sl w 3 E' x.parts.length p' (pcs x.parts)) (k3 : Sl w 1 F x.who.length q (ins x.who)) :
    Calls Tryz.prog 18 #[.agg #[.int .i64 (x.err : Int), .string ⟨x.dig.toArray⟩, .slice A x.data.length c, .slice A' x.parts.length c', .int .i64 (x.n : Int), .slice B x.who.length d], .agg #[.int .i64 (x.err : Int), .string ⟨x.dig.toArray⟩, .slice E x.data.length p, .slice E' x.parts.length p', .int .i64 (x.n : Int), .slice F x.who.length q]] w fun e w' => e = .returned (.bool true) ∧ Below w.heap.size w w' := by
  obtain ⟨W, hW, hA, hB, hb⟩ := zT w 48 [.int .i64 (x.err : Int), .string ⟨x.dig.toArray⟩, .slice A x.data.length c, .slice A' x.parts.length c', .int .i64 (x.n : Int), .slice B x.who.length d] [.int .i64 (x.err : Int), .string ⟨x.dig.toArray⟩, .slice E x.data.length p, .slice E' x.parts.length p', .int .i64 (x.n : Int), .slice F x.who.length q]
  have HP := Lib.hid (fun w' (h : Below w.heap.size w w') => vP A' E' x.parts.length c' p' x.parts w' rfl (by omega) (h2.below h).rd (k2.below h).rd)
  have HI := Lib.hid (fun w' (h : Below w.heap.size w w') => QR B F d q x.who w' (by have := h3.cap; have := h3.max; unfold maxLen at this; omega) (h3.below h).rd (k3.below h).rd)
  obtain ⟨u, hu⟩ : ∃ s : ByteArray, s = ⟨x.data.toArray⟩ := ⟨_, rfl⟩
  have hc1 : (convert 44 9 (.slice A x.data.length c)).run Tryz.prog W = .ok (.string u) W := by
    rw [hu]; exact yB Tryz.underlying44 Tryz.underlying5 Tryz.underlying9 rfl (h1.below hb).rd
  have hc2 : (convert 44 9 (.slice E x.data.length p)).run Tryz.prog W = .ok (.string u) W := by
    rw [hu]; exact yB Tryz.underlying44 Tryz.underlying5 Tryz.underlying9 rfl (k1.below hb).rd
  have HA := Lib.hid hA
  have HB := Lib.hid hB
  have HBB := Lib.hid hb
  have hee : ((x.err : Int) == (x.err : Int)) = true := by rw [beq_iff_eq]
  have hnn : ((x.n : Int) == (x.n : Int)) = true := by rw [beq_iff_eq]
  have a0 := hA.cell (k := 0) rfl
  have b0 := hB.cell (k := 0) rfl
  have a1 := hA.cell (k := 1) rfl
  have b1 := hB.cell (k := 1) rfl
  have a2 := hA.cell (k := 2) rfl
  have b2 := hB.cell (k := 2) rfl
  have a3 := hA.cell (k := 3) rfl
  have b3 := hB.cell (k := 3) rfl
  rw [hW] at a0 b0 a1 b1 a2 b2 a3 b3 hc1 hc2
  have HW := Lib.hid hW
  clear hu h1 h2 h3 k1 k2 k3 hA hB hb hW
  generalize (⟨x.dig.toArray⟩ : ByteArray) = s at *
  go_enter Tryz.func18, Tryz.ntmps18
  repeat' ((fail_if_success at_builtin); (fail_if_success at_make); (first | go_values | go_skip | go_guarded | go_step | go_upon | go_back))
  rw [← HW.out] at a0 b0 a1 b1 a2 b2 a3 b3 hc1 hc2 ⊢
  clear a0 b0 a1 b1 a2 b2 a3 b3 hc1 hc2 HW
  refine (((HP.out W HBB.out))).mono ?_; rintro e_ w1 ⟨rfl, hb1⟩; dsimp only
  have hA1 := HA.out.below hb1
  have hB1 := HB.out.below hb1
  have a4 := hA1.cell (k := 4) rfl
  have b4 := hB1.cell (k := 4) rfl
  have a5 := hA1.cell (k := 5) rfl
  have b5 := hB1.cell (k := 5) rfl
  have hb01 := HBB.out.trans (hb1.mono HBB.out.size)
  have HC := Lib.hid hb01
  have HI2 := Lib.hid (HI.out w1 hb01)
  clear hA1 hB1 hb1 hb01
  repeat' ((fail_if_success at_builtin); (fail_if_success at_make); (first | go_values | go_skip | go_guarded | go_step | go_upon | go_back))
  refine ((HI2.out)).mono ?_; rintro e_ w2 ⟨rfl, ⟨q1, hq1⟩⟩; dsimp only
  have hb2 : Below w1.heap.size w1 w2 := by rw [hq1]; exact below_drewN (Below.refl _ _) q1
  clear hq1
  repeat' ((fail_if_success at_builtin); (fail_if_success at_make); (first | go_values | go_skip | go_guarded | go_step | go_upon | go_back))
  go_ret
  exact ⟨rfl, HC.out.trans (hb2.mono HC.out.size)⟩

set_option maxHeartbeats 4000000 in
theorem VV (A B : Option Addr) (n c d : Nat) (rs : List RepP) (w : World) (hl : rs.length = n) (hn : n ≤ 1000000) (hp : ∀ r ∈ rs, r.parts.length ≤ 1000) (h1 : Rw YV w A rs) (h2 : Rw YV w B rs) :
    Calls Tryz.prog 17 #[.slice A n c, .slice B n d, .func (.func 18) #[] #[]] w fun e w' => e = .returned (.bool true) ∧ Below w.heap.size w w' := by
  have hnn : ((n : Int) != (n : Int)) = false := by simp
  have HL := Lib.hid hl
  have HP := Lib.hid hp
  clear hl hp
  go_enter Tryz.func17, Tryz.ntmps17
  repeat' ((fail_if_success at_builtin); (fail_if_success at_make); (first | go_values | go_skip | go_guarded | go_step | go_upon | go_back))
  go_loopg [17] n (fun gn i wr => ∃ j : Nat, gn = n - j ∧ i = .int .i64 j ∧ j ≤ n ∧ Below w.heap.size w wr)
  case atStart => exact ⟨0, rfl, rfl, by omega, Below.refl _ _⟩
  case round =>
    obtain ⟨j, hgk, rfl, hj, hbl⟩ := hrel
    have HGK := Lib.hid hgk
    clear hgk
    by_cases hlt : j < n
    · have hcc : decide (j < n) = true := decide_eq_true hlt
      have hjl : j < rs.length := by have := HL.out; omega
      obtain ⟨ba, oa, BA, ca, BA', ca', DA, da, rfl, hba, c0, c1, c2, c3, c4, c5, s1, s2, s3⟩ := (h1.below hbl).rep_at j hjl
      obtain ⟨bb, ob, BB, cb, BB', cb', DB, db, rfl, hbb, d0, d1, d2, d3, d4, d5, t1, t2, t3⟩ := (h2.below hbl).rep_at j hjl
      have hj0 : (0 : Int) ≤ (j : Int) := by omega
      have hj1 : (j : Int) < (n : Int) := by omega
      have hpj := HP.out _ (List.getElem_mem hjl)
      generalize rs[j] = x at *
      obtain ⟨W, hW, hA, hB, hb⟩ := zT wr 48 [.int .i64 (x.err : Int), .string ⟨x.dig.toArray⟩, .slice BA x.data.length ca, .slice BA' x.parts.length ca', .int .i64 (x.n : Int), .slice DA x.who.length da] [.int .i64 (x.err : Int), .string ⟨x.dig.toArray⟩, .slice BB x.data.length cb, .slice BB' x.parts.length cb', .int .i64 (x.n : Int), .slice DB x.who.length db]
      have HE := Lib.hid (Uh x hpj BA ca BA' ca' DA da BB cb BB' cb' DB db W (s1.below hb) (s2.below hb) (s3.below hb) (t1.below hb) (t2.below hb) (t3.below hb))
      have a0 := hA.cell (k := 0) rfl
      have a1 := hA.cell (k := 1) rfl
      have a2 := hA.cell (k := 2) rfl
      have a3 := hA.cell (k := 3) rfl
      have a4 := hA.cell (k := 4) rfl
      have a5 := hA.cell (k := 5) rfl
      have b0 := hB.cell (k := 0) rfl
      have b1 := hB.cell (k := 1) rfl
      have b2 := hB.cell (k := 2) rfl
      have b3 := hB.cell (k := 3) rfl
      have b4 := hB.cell (k := 4) rfl
      have b5 := hB.cell (k := 5) rfl
      have hba := (Below.refl wr.heap.size wr).alloc (Nat.le_refl _) (.cells #[.int .i64 (x.err : Int), .string ⟨x.dig.toArray⟩, .slice BA x.data.length ca, .slice BA' x.parts.length ca', .int .i64 (x.n : Int), .slice DA x.who.length da] 48)
      have e0 := (hba.cell (p := ⟨bb, ob + j * 6, none⟩) hbb).trans d0
      have e1 := (hba.cell (p := ⟨bb, ob + j * 6 + 1, none⟩) hbb).trans d1
      have e2 := (hba.cell (p := ⟨bb, ob + j * 6 + 2, none⟩) hbb).trans d2
      have e3 := (hba.cell (p := ⟨bb, ob + j * 6 + 3, none⟩) hbb).trans d3
      have e4 := (hba.cell (p := ⟨bb, ob + j * 6 + 4, none⟩) hbb).trans d4
      have e5 := (hba.cell (p := ⟨bb, ob + j * 6 + 5, none⟩) hbb).trans d5
      rw [hW] at a0 a1 a2 a3 a4 a5 b0 b1 b2 b3 b4 b5
      have HW := Lib.hid hW
      clear hW hA hB d0 d1 d2 d3 d4 d5 s1 s2 s3 t1 t2 t3 hba
      repeat' ((fail_if_success at_builtin); (fail_if_success at_make); (first | go_values | go_skip | go_guarded | go_step | go_upon | go_back))
      rw [← HW.out] at a0 a1 a2 a3 a4 a5 b0 b1 b2 b3 b4 b5 ⊢
      clear HW a0 a1 a2 a3 a4 a5 b0 b1 b2 b3 b4 b5 c0 c1 c2 c3 c4 c5 e0 e1 e2 e3 e4 e5
      refine ((HE.out)).mono ?_; rintro e_ w5 ⟨rfl, hb5⟩; dsimp only
      have hb05 := hbl.trans ((hb.trans (hb5.mono hb.size)).mono hbl.size)
      repeat' ((fail_if_success at_builtin); (fail_if_success at_make); (first | go_values | go_skip | go_guarded | go_step | go_upon | go_back))
      go_roundg (n - (j + 1))
      case measure => have := HGK.out; omega
      case rel => exact ⟨j + 1, rfl, by go_num, by omega, hb05⟩
    · obtain rfl : j = n := by omega
      have hcc : decide (j < j) = false := by simp
      repeat' ((fail_if_success at_builtin); (fail_if_success at_make); (first | go_values | go_skip | go_guarded | go_step | go_upon | go_back))
      go_ret
      exact ⟨rfl, hbl⟩


theorem Vl (l : LoP) (os : List OrdP) (k : Nat) (hk : k ≤ os.length) : (qP l os).2.take k = (qP l (os.take k)).2 := by
  conv => lhs; rw [← List.take_append_drop k os]
  rw [vL]
  have h := yK l (os.take k)
  rw [List.length_take, Nat.min_eq_left hk] at h
  exact List.take_left' h
theorem gt_parts {s : StoP} (h : GoodS s) (k : List UInt8) : (gtP s k).2.1.length ≤ 8 := by
  unfold gtP
  cases hat : atE s k with
  | none => exact Nat.zero_le _
  | some ix =>
    obtain ⟨i, x⟩ := ix
    obtain ⟨hi, rfl, _⟩ := vC hat
    exact (zk (h.e.one _ (List.getElem_mem hi)).2.1).1
theorem ask_parts {l : LoP} (h : GoodS l.st) (k : List UInt8) (n : Int) : (Zc l k n).2.1.length ≤ 8 := by
  unfold Zc
  cases hf : l.st.aF.findIdx? (fun x => x.key == k) with
  | none => dsimp only; split <;> exact Nat.zero_le _
  | some i =>
    obtain ⟨hi, _⟩ := jV hf
    simp only [List.getElem?_eq_getElem hi]
    exact (zk (h.e.one _ (List.getElem_mem hi)).2.1).1
theorem stp_parts {l : LoP} (h : GoodS l.st) (o : OrdP) : (qR l o).2.parts.length ≤ 8 := by
  unfold qR
  split
  · unfold blobD; split
    · exact Nat.zero_le _
    · split <;> exact Nat.zero_le _
  · split
    · unfold entD; split
      · exact Nat.zero_le _
      · split
        · exact gt_parts h _
        · exact Nat.zero_le _
    · split
      · unfold roomD; split
        · exact Nat.zero_le _
        · split
          · split <;> exact Nat.zero_le _
          · split <;> exact Nat.zero_le _
      · unfold fliD; split
        · exact ask_parts h _ _
        · split <;> exact Nat.zero_le _
theorem run_parts : ∀ (m : Nat) (l : LoP) (os : List OrdP), LInv m l → m + os.length ≤ 79 → (∀ o ∈ os, GoodD o) → ∀ r ∈ (qP l os).2, r.parts.length ≤ 8
  | m, l, [], h, _, _, r, hr => by cases hr
  | m, l, o :: os, h, hm, ho, r, hr => by
    simp only [List.length_cons] at hm
    have hr : r ∈ (qR l o).2 :: (qP (qR l o).1 os).2 := hr
    rcases List.mem_cons.1 hr with rfl | hr
    · exact stp_parts h.b.g o
    · exact run_parts (m + 1) _ os (h.step (by omega) (ho o (List.mem_cons_self ..))) (by omega) (fun x hx => ho x (List.mem_cons_of_mem _ hx)) r hr
set_option maxHeartbeats 8000000 in
theorem uJ (A : Option Addr) (n c : Nat) (l : List RawP) (z : Int) (w : World) (hl : l.length = n) (hc : n ≤ c) (hm : c ≤ maxLen) (hok : ∀ r ∈ l, RawOk r) (hr : Rd w 4 A n (rcs l)) (hz0 : -9223372036854775808 ≤ z) (hz1 : z ≤ 9223372036854775807) :
    Calls Tryz.prog 4 #[.slice A n c, .int .i64 z] w fun e w' => e = .returned (.bool true) ∧ Below w.heap.size w w' := by
  have HPK := Lib.hid (fun m (hm : 0 < m) (hm2 : m ≤ 100) W => zY z m (m : Int) rfl W hz0 hz1 (by omega) (by omega))
  have HPL := Lib.hid (fun m (hm : 0 < m) => yh z (m := m) hm)
  have HOR := Lib.hid (xe A n c l 40 40 rfl (by omega) w hl hc hm hok hr)
  clear hl hc hm hok hr hz0 hz1
  go_enter Tryz.func4, Tryz.ntmps4
  repeat' ((fail_if_success at_builtin); (fail_if_success at_make); (first | go_values | go_skip | go_guarded | go_step | go_upon | go_back))
  refine ((HOR.out)).mono ?_; rintro e_ w1 ⟨v, os, rfl, hos, hgo, hol, hb1⟩; dsimp only
  obtain ⟨B, d, rfl, hd1, hd2, hrw⟩ := hos.rows
  obtain ⟨m, hmm⟩ : ∃ m, m = os.length + 1 := ⟨_, rfl⟩
  have hw : IntKind.i64.wrap ((os.length : Int) + 1) = (m : Int) := by rw [IntWalk.i64_in _ (by omega)]; omega
  have HP := Lib.hid (HPK.out m (by omega) (by omega) w1)
  have HPm := Lib.hid (HPL.out m (by omega))
  have HMM := Lib.hid hmm
  have HRW := Lib.hid hrw
  have HGO := Lib.hid hgo
  have HB1 := Lib.hid hb1
  clear hgo hos hb1 hrw HOR HPK HPL hmm
  repeat' ((fail_if_success at_builtin); (fail_if_success at_make); (first | go_values | go_skip | go_guarded | go_step | go_upon | go_back))
  refine ((HP.out)).mono ?_; rintro e_ _ ⟨rfl, rfl⟩; dsimp only
  have hkm := HPm.out
  generalize pk z m = k at *
  have hkl : k ≤ os.length := by have := HMM.out; omega
  have HR1 := Lib.hid (Jl 900 B k d (os.take k) w1 (by omega) (by rw [List.length_take]; omega) (by omega) (by omega) hd2 (fun o ho => HGO.out o (List.mem_of_mem_take ho)) (HRW.out.pre hkl))
  have HR2 := Lib.hid (fun W (h : Below w1.heap.size w1 W) => Jl 900 B os.length d os W (by omega) rfl (by omega) hd1 hd2 HGO.out (HRW.out.below h))
  have HTK := Lib.hid (Vl (lo0 900) os k hkl)
  have HPR := Lib.hid (run_parts 0 (lo0 900) (os.take k) (LInv.zero (by omega)) (by rw [List.length_take]; omega) (fun o ho => HGO.out o (List.mem_of_mem_take ho)))
  have HL1 := Lib.hid (yK (lo0 900) (os.take k))
  have HL2 := Lib.hid (yK (lo0 900) os)
  have hkt : (os.take k).length = k := by rw [List.length_take]; omega
  rw [hkt] at HL1
  generalize qP (lo0 900) (os.take k) = lr1 at *
  generalize qP (lo0 900) os = lr2 at *
  obtain ⟨lo1, rs1⟩ := lr1
  obtain ⟨lo2, rs2⟩ := lr2
  dsimp only at HR1 HR2 HTK HL1 HL2 HPR
  have hk0 : (0 : Int) ≤ (k : Int) := by omega
  have hk1 : (k : Int) ≤ (d : Int) := by omega
  have hk2 : k ≤ d := by omega
  clear hkt hkm HPm HP hw
  repeat' ((fail_if_success at_builtin); (fail_if_success at_make); (first | go_values | go_skip | go_guarded | go_step | go_upon | go_back))
  refine ((HR1.out)).mono ?_; rintro e_ w2 ⟨vr, v1, v2, v3, v4, rfl, hrx, hol2, hb2⟩; dsimp only
  obtain ⟨Ar, cr, rfl, hcr, hcm, hRr⟩ := hrx.rwo.rows
  obtain ⟨⟨X, cX, Y, dY, G, ng, F, cF⟩, rfl, rfl, rfl, rfl, -⟩ := hol2.rd
  obtain ⟨w3, hw3⟩ : ∃ W, W = w2.alloc (.cells #[.slice X lo1.st.aE.length cX, .slice Y lo1.st.aF.length dY, .int .i64 (lo1.st.aH : Int), .int .i64 (lo1.st.aG : Int), .int .i64 (lo1.co.aJ : Int), .slice G lo1.co.aI.length ng, .string ⟨lo1.co.at_.toArray⟩, .slice F lo1.fs.length cF] 33) := ⟨_, rfl⟩
  have hb3 : Below w2.heap.size w2 w3 := by rw [hw3]; exact (Below.refl _ _).alloc (Nat.le_refl _) _
  have HRR := Lib.hid (hRr.below hb3)
  have HB2 := Lib.hid (hb2.trans (hb3.mono hb2.size))
  have HRa := Lib.hid (HR2.out w3 (hb2.trans (hb3.mono hb2.size)))
  have HW3 := Lib.hid hw3
  clear hrx hol2 hb2 hRr HR1 HR2 hb3 hw3
  repeat' ((fail_if_success at_builtin); (fail_if_success at_make); (first | go_values | go_skip | go_guarded | go_step | go_upon | go_back))
  rw [← HW3.out]
  clear HW3
  refine ((HRa.out)).mono ?_; rintro e_ w4 ⟨vr, v1, v2, v3, v4, rfl, hrx, hol3, hb3⟩; dsimp only
  obtain ⟨Br, dr, rfl, hdr, hdm, hSr⟩ := hrx.rwo.rows
  obtain ⟨⟨X', cX', Y', dY', G', ng', F', cF'⟩, rfl, rfl, rfl, rfl, -⟩ := hol3.rd
  obtain ⟨w5, hw5⟩ : ∃ W, W = w4.alloc (.cells #[.slice X' lo2.st.aE.length cX', .slice Y' lo2.st.aF.length dY', .int .i64 (lo2.st.aH : Int), .int .i64 (lo2.st.aG : Int), .int .i64 (lo2.co.aJ : Int), .slice G' lo2.co.aI.length ng', .string ⟨lo2.co.at_.toArray⟩, .slice F' lo2.fs.length cF'] 33) := ⟨_, rfl⟩
  have hb5 : Below w4.heap.size w4 w5 := by rw [hw5]; exact (Below.refl _ _).alloc (Nat.le_refl _) _
  have HRS := Lib.hid (hSr.below hb5)
  have HB3 := Lib.hid (hb3.trans (hb5.mono hb3.size))
  have HSV := Lib.hid (xh w5)
  have HW5 := Lib.hid hw5
  clear hrx hol3 hb3 hSr HRa hb5 hw5
  repeat' ((fail_if_success at_builtin); (fail_if_success at_make); (first | go_values | go_skip | go_guarded | go_step | go_upon | go_back))
  rw [← HW5.out]
  clear HW5
  refine ((HSV.out)).mono ?_; rintro e_ w6 ⟨rfl, hb4⟩; dsimp only
  have hb24 := HB3.out.trans (hb4.mono HB3.out.size)
  have hkr : k ≤ rs2.length := by have := HL2.out; omega
  have hre : rs2.take k = rs1 := HTK.out
  have HEQ := Lib.hid (VV Ar Br k cr dr rs1 w6 HL1.out (by omega) (fun r hr => by have := HPR.out r hr; omega) (HRR.out.below hb24) (by have := (HRS.out.below hb4).pre hkr; rwa [hre] at this))
  have HB4 := Lib.hid ((HB1.out.trans (HB2.out.mono HB1.out.size)).trans (hb24.mono (HB1.out.trans (HB2.out.mono HB1.out.size)).size))
  have l1 := HL1.out
  have l2 := HL2.out
  have hl1 : ((rs1.length : Int) == (k : Int)) = true := by rw [beq_iff_eq]; omega
  have hl2 : ((rs2.length : Int) == (os.length : Int)) = true := by rw [beq_iff_eq]; omega
  have hk3 : (k : Int) ≤ (dr : Int) := by omega
  have hk4 : k ≤ dr := by omega
  have hl3 : rs1.length = k := l1
  generalize rs1.length = n1 at *
  subst hl3
  clear hb4 hb24 HSV hre l1 l2
  repeat' ((fail_if_success at_builtin); (fail_if_success at_make); (first | go_values | go_skip | go_guarded | go_step | go_upon | go_back))
  refine ((HEQ.out)).mono ?_; rintro e_ w7 ⟨rfl, hb5⟩; dsimp only
  repeat' ((fail_if_success at_builtin); (fail_if_success at_make); (first | go_values | go_skip | go_guarded | go_step | go_upon | go_back))
  go_ret
  exact ⟨rfl, HB4.out.trans (hb5.mono HB4.out.size)⟩

end
end Go.Proofs.YtcjndgldjhmbgaaGreat
