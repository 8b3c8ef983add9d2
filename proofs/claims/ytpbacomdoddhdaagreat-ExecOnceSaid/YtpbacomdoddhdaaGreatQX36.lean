/- Lemmas of the proof. Conditions: as stated. -/
import Derived.Test.YtpbacomdoddhdaaGreatQX35
set_option linter.unusedVariables false
set_option linter.unusedSimpArgs false
set_option maxRecDepth 100000
namespace Go.Proofs.YtpbacomdoddhdaaGreat
open Go.RowKit Go.Maps
theorem KE (A : Option Addr) (c : Nat) (fs : List FlP) (key : List UInt8) (w : World) (hG : GoodF fs) (hf : Fls w A fs) (hc : fs.length ≤ c) (hm : c ≤ maxLen) :
  Calls Tryz.prog 99 #[.slice A fs.length c, .string ⟨key.toArray⟩] w fun e w' => ∃ v u, e = .returned (.tuple #[v, u, .int .i64 ((kT fs key).2.2 : Int)]) ∧ FlsO w' w.heap.size v (kT fs key).1 ∧ w'.ownsRow w.heap.size 3 1 u (kT fs key).2.1.length (ins (kT fs key).2.1) ∧ Below w.heap.size w w' := by
 have hkk : (⟨key.toArray⟩ : ByteArray).data.toList = key := List.toList_toArray
 unfold kT
 cases hfn : fnd 0 fs key with
 | none =>
  exact (XC A c fs ⟨key.toArray⟩ w hG hf hc hm (by rw [hkk]; exact hfn)).mono fun e w' ⟨he, hb⟩ => ⟨_, _, he, FlsO.nil_ _ _ _ (World.ownsRow_nil _ _ _ _), World.ownsRow_nil _ _ _ _, hb⟩
 | some i =>
  obtain ⟨hi, _⟩ := ki hfn
  simp only [List.getElem?_eq_getElem hi]
  exact Uv A c fs ⟨key.toArray⟩ i w hG hf hc hm (by rw [hkk]; exact hfn) hi
set_option maxHeartbeats 8000000 in
theorem Zq (p : LoW) (l : LoP) (key : List UInt8) (w : World) (hg : GoodL l) (hr : RdLo w p l) (fs2 : List FlP) (who : List Int) (q : Nat) (hj : kT l.fs key = (fs2, who, q)) :
  Calls Tryz.prog 37 #[loV p l, .string ⟨key.toArray⟩] w fun e w' => ∃ v1 v2 v3 v4 u, e = .returned (.tuple #[QD v1 v2 v3 v4 (if q = 0 then { l with fs := fs2 } else loZ), u, .int .i64 (q : Int)]) ∧ OwLo w' w.heap.size v1 v2 v3 v4 (if q = 0 then { l with fs := fs2 } else loZ) (fun b => b < w.heap.size) ∧ w'.ownsRow w.heap.size 3 1 u (if q = 0 then who else []).length (ins (if q = 0 then who else [])) ∧ Below w.heap.size w w' := by
 obtain ⟨X, cX, Y, dY, G, ng, F, cF⟩ := p
 obtain ⟨s, co, fs⟩ := l
 have hgs : GoodS s := hg.s
 have hlb : s.blobs.length ≤ 24 := hgs.b.len
 have hle : s.ents.length ≤ 10 := hgs.e.len
 have hlf : fs.length ≤ 6 := hg.f.len
 have hcm : cF ≤ maxLen := hr.fm
 obtain ⟨w1, hw1, hP, hR, hbx⟩ := zO w 58 58 [.slice X s.blobs.length cX, .slice Y s.ents.length dY, .int .i64 (s.room : Int), .int .i64 (s.clock : Int), .int .i64 (co.phase : Int), .slice G co.grey.length ng, .string ⟨co.at_.toArray⟩, .slice F fs.length cF] [.slice none 0 0, .slice none 0 0, .int .i64 0, .int .i64 0, .int .i64 0, .slice none 0 0, .string ⟨#[]⟩, .slice none 0 0]
 have hr1 := hr.below hbx
 have HCK := Lib.hid (yf ⟨X, cX, Y, dY, G, ng, F, cF⟩ ⟨s, co, fs⟩ w1 hg hr1)
 have HRD := Lib.hid (fun W (h : Below w1.heap.size w1 W) => hr1.below h)
 obtain ⟨gb, hgb⟩ : ∃ g, g = w.heap.size := ⟨_, rfl⟩
 rw [← hgb] at hP hR hbx ⊢
 have HPX := Lib.hid (show ∀ W, Below w1.heap.size w1 W → Arr W gb 58 [.slice X s.blobs.length cX, .slice Y s.ents.length dY, .int .i64 (s.room : Int), .int .i64 (s.clock : Int), .int .i64 (co.phase : Int), .slice G co.grey.length ng, .string ⟨co.at_.toArray⟩, .slice F fs.length cF] ∧ Arr W (gb + 1) 58 [.slice none 0 0, .slice none 0 0, .int .i64 0, .int .i64 0, .int .i64 0, .slice none 0 0, .string ⟨#[]⟩, .slice none 0 0] from fun W h => ⟨hP.below h, hR.below h⟩)
 have hg1 : gb + 1 < w1.heap.size := hR.lt
 have HG := Lib.hid hg
 have HGS := Lib.hid hgs
 have HBX := Lib.hid hbx
 have HW1 := Lib.hid hw1
 have HGB := Lib.hid hgb
 clear hg hgs hr hr1 hP hR hbx hw1 hgb
 go_enter Tryz.func37, Tryz.ntmps37
 repeat' (fail_if_success (first|at_builtin|at_make));first|go_values|go_skip|go_guarded|go_step|go_upon|go_back
 rw [← HW1.out, ← HGB.out]
 clear HW1
 refine ((HCK.out)).mono ?_; rintro e_ w2 ⟨rfl, hb2⟩; dsimp only
 clear HCK
 have HB2 := Lib.hid hb2
 have hen := KE F cF fs key w2 HG.out.f (HRD.out w2 hb2).f (HRD.out w2 hb2).fc (HRD.out w2 hb2).fm
 dsimp only at hj
 simp only [hj] at hen
 have HEN := Lib.hid hen
 clear hen hj
 have x0 := (HPX.out _ hb2).1.cell (k := 0) rfl
 have x1 := (HPX.out _ hb2).1.cell (k := 1) rfl
 have x2 := (HPX.out _ hb2).1.cell (k := 2) rfl
 have x3 := (HPX.out _ hb2).1.cell (k := 3) rfl
 have x4 := (HPX.out _ hb2).1.cell (k := 4) rfl
 have x5 := (HPX.out _ hb2).1.cell (k := 5) rfl
 have x6 := (HPX.out _ hb2).1.cell (k := 6) rfl
 have x7 := (HPX.out _ hb2).1.cell (k := 7) rfl
 repeat' (fail_if_success (first|at_builtin|at_make));first|go_values|go_skip|go_guarded|go_step|go_upon|go_back
 clear x0 x1 x2 x3 x4 x5 x6 x7
 refine ((HEN.out)).mono ?_; rintro e_ wE ⟨v5, u5, rfl, hf6, hu6, hb6⟩; dsimp only
 obtain ⟨F6, c6, rfl, _, _⟩ := hf6.fls
 obtain ⟨U6, d6, rfl, _, _⟩ := Rd.of_own' hu6
 have hbE := hb2.trans (hb6.mono hb2.size)
 have hsE : w2.heap.size ≤ wE.heap.size := hb6.size
 have hs2 : w1.heap.size ≤ w2.heap.size := hb2.size
 by_cases hq : q = 0
 rotate_left
 ·have hq1 : ((q : Int) != 0) = true := by rw [bne_iff_ne]; omega
  have HQ := Lib.hid hq
  clear hq
  have hR := (HPX.out _ hbE).2
  have y0 := hR.cell (k := 0) rfl
  have y1 := hR.cell (k := 1) rfl
  have y2 := hR.cell (k := 2) rfl
  have y3 := hR.cell (k := 3) rfl
  have y4 := hR.cell (k := 4) rfl
  have y5 := hR.cell (k := 5) rfl
  have y6 := hR.cell (k := 6) rfl
  have y7 := hR.cell (k := 7) rfl
  have f0 := hR.frozen 0
  have f1 := hR.frozen 1
  have f2 := hR.frozen 2
  have f3 := hR.frozen 3
  have f4 := hR.frozen 4
  have f5 := hR.frozen 5
  have f6 := hR.frozen 6
  have f7 := hR.frozen 7
  have HFN := Lib.hid (hR.all8 (.slice none 0 0) (.slice none 0 0) (.int .i64 0) (.int .i64 0) (.int .i64 0) (.slice none 0 0) (.string ⟨#[]⟩) (.slice none 0 0))
  have HB9 := Lib.hid (zy (HBX.out.trans (Below.mono hbE (by omega))) (show gb ≤ gb + 1 by omega) (.slice none 0 0) (.slice none 0 0) (.int .i64 0) (.int .i64 0) (.int .i64 0) (.slice none 0 0) (.string ⟨#[]⟩) (.slice none 0 0))
  clear hR
  repeat' (fail_if_success (first|at_builtin|at_make));first|go_values|go_skip|go_guarded|go_step|go_upon|go_back
  refine bodyPost_ret (zP rfl _ _ (gb + 1) _ _ _ _ (by rfl) HFN.out Tryz.underlying58 rfl (by kernel_rfl)) rfl ?_
  rw [if_neg HQ.out, if_neg HQ.out]
  exact ⟨_, _, _, _, _, rfl, OwLo.nil_, World.ownsRow_nil _ _ _ _, HB9.out⟩
 subst hq
 have HBE := Lib.hid hbE
 have HF6 := Lib.hid hf6
 have HU6 := Lib.hid hu6
 clear hf6 hu6 hb6 HEN
 have HCP := Lib.hid (yb ⟨X, cX, Y, dY, G, ng, F, cF⟩ ⟨s, co, fs⟩ wE HG.out (HRD.out wE HBE.out))
 have x0 := (HPX.out _ HBE.out).1.cell (k := 0) rfl
 have x1 := (HPX.out _ HBE.out).1.cell (k := 1) rfl
 have x2 := (HPX.out _ HBE.out).1.cell (k := 2) rfl
 have x3 := (HPX.out _ HBE.out).1.cell (k := 3) rfl
 have x4 := (HPX.out _ HBE.out).1.cell (k := 4) rfl
 have x5 := (HPX.out _ HBE.out).1.cell (k := 5) rfl
 have x6 := (HPX.out _ HBE.out).1.cell (k := 6) rfl
 have x7 := (HPX.out _ HBE.out).1.cell (k := 7) rfl
 repeat' (fail_if_success (first|at_builtin|at_make));first|go_values|go_skip|go_guarded|go_step|go_upon|go_back
 refine ((HCP.out)).mono ?_; rintro e_ w3 ⟨v1, v2, v3, v4, rfl, ho3, hb3⟩; dsimp only
 obtain ⟨⟨X3, cX3, Y3, dY3, G3, ng3, F3, cF3⟩, rfl, rfl, rfl, rfl, hrd3⟩ := ho3.rd
 clear x0 x1 x2 x3 x4 x5 x6 x7 HCP
 obtain ⟨w4, hw4⟩ : ∃ W, W = w3.alloc (.cells #[.slice X3 s.blobs.length cX3, .slice Y3 s.ents.length dY3, .int .i64 (s.room : Int), .int .i64 (s.clock : Int), .int .i64 (co.phase : Int), .slice G3 co.grey.length ng3, .string ⟨co.at_.toArray⟩, .slice F3 fs.length cF3] 58) := ⟨_, rfl⟩
 have hO4 : Arr w4 w3.heap.size 58 [.slice X3 s.blobs.length cX3, .slice Y3 s.ents.length dY3, .int .i64 (s.room : Int), .int .i64 (s.clock : Int), .int .i64 (co.phase : Int), .slice G3 co.grey.length ng3, .string ⟨co.at_.toArray⟩, .slice F3 fs.length cF3] := by rw [hw4]; exact Arr.new w3 58 _
 have hb34 : Below w3.heap.size w3 w4 := by rw [hw4]; exact (Below.refl _ _).alloc (Nat.le_refl _) _
 have hb13 := HBE.out.trans (hb3.mono HBE.out.size)
 have hb14 := hb13.trans (hb34.mono hb13.size)
 obtain ⟨go, hgo⟩ : ∃ g, g = w3.heap.size := ⟨_, rfl⟩
 rw [← hgo] at hO4
 have hgl : w1.heap.size ≤ go := by rw [hgo]; exact hb13.size
 have hgl4 : go < w4.heap.size := hO4.lt
 have ho4 := ((ho3.wider (N' := fun b => b < w1.heap.size ∨ b = go) (fun b hb => hb.elim (fun h => .inl (Nat.lt_of_lt_of_le h HBE.out.size)) (fun h => .inr (by rw [h, hgo]; exact Nat.le_refl _)))).below hb34).lower (b' := w1.heap.size) HBE.out.size
 have HO4 := Lib.hid ho4
 have HOB := Lib.hid hO4
 have HB14 := Lib.hid hb14
 have HBO := Lib.hid (hb3.trans (hb34.mono hb3.size))
 have HW4 := Lib.hid hw4
 have HGO := Lib.hid hgo
 clear ho3 hb3 hrd3 hO4 hb34 hb13 hb14 ho4 hw4 hgo
 repeat' ((fail_if_success (with_reducible refine zl 8 ?_)); (fail_if_success (with_reducible refine zi 8 ?_)); (fail_if_success (with_reducible refine zg 8 ?_)); (fail_if_success (with_reducible refine zk 8 ?_)); (fail_if_success (with_reducible refine zh 8 ?_)); (fail_if_success (with_reducible refine zj 8 ?_)); (fail_if_success at_builtin); (fail_if_success at_make); (first | go_values | go_skip | go_guarded | go_step | go_upon | go_back))
 rw [← HW4.out, ← HGO.out]
 clear HW4
 have hO4 := HOB.out
 have hR4 := (HPX.out _ HB14.out).2
 have hbg : gb + 1 ≠ go := by omega
 have hgo1 : gb ≤ go := by omega
 have o0 := hO4.cell (k := 0) rfl
 have o1 := hO4.cell (k := 1) rfl
 have o2 := hO4.cell (k := 2) rfl
 have o3 := hO4.cell (k := 3) rfl
 have o4 := hO4.cell (k := 4) rfl
 have o5 := hO4.cell (k := 5) rfl
 have o6 := hO4.cell (k := 6) rfl
 have o7 := hO4.cell (k := 7) rfl
 have m0 := hO4.frozen 0
 have m1 := hO4.frozen 1
 have m2 := hO4.frozen 2
 have m3 := hO4.frozen 3
 have m4 := hO4.frozen 4
 have m5 := hO4.frozen 5
 have m6 := hO4.frozen 6
 have m7 := hO4.frozen 7
 have hfe := HF6.out.below HBO.out
 have hue := zb HU6.out HBO.out
 have HO7 := Lib.hid (hO4.set (k := 7) (by simp) (.slice F6 fs2.length c6))
 have HR7 := Lib.hid (hR4.other hbg (k := 7) (.slice F6 fs2.length c6))
 have HL7 := Lib.hid (HO4.out.set1 (k := 7) hO4 (.inr rfl) (.slice F6 fs2.length c6))
 have HF7 := Lib.hid (hfe.set1 (k := 7) hO4 (by decide) (by decide) (.slice F6 fs2.length c6))
 have HU7 := Lib.hid (zc hue (zm hue hO4 (by decide)) (k := 7) (u := .slice F6 fs2.length c6))
 have HB7 := Lib.hid (Below.setCell (p := ⟨go, 7, none⟩) (HBX.out.trans (HB14.out.mono (by omega))) hgo1 (.slice F6 fs2.length c6))
 clear hO4 hR4 hfe hue
 repeat' ((fail_if_success (with_reducible refine zl 9 ?_)); (fail_if_success (with_reducible refine zi 9 ?_)); (fail_if_success (with_reducible refine zg 9 ?_)); (fail_if_success (with_reducible refine zk 9 ?_)); (fail_if_success (with_reducible refine zh 9 ?_)); (fail_if_success (with_reducible refine zj 9 ?_)); (fail_if_success at_builtin); (fail_if_success at_make); (first | go_values | go_skip | go_guarded | go_step | go_upon | go_back))
 clear o0 o1 o2 o3 o4 o5 o6 o7 m0 m1 m2 m3 m4 m5 m6 m7
 generalize w4.setCell ⟨go, 7, none⟩ (.slice F6 fs2.length c6) = w8 at *
 have hO := HO7.out
 have hR := HR7.out
 have o0 := hO.cell (k := 0) rfl
 have o1 := hO.cell (k := 1) rfl
 have o2 := hO.cell (k := 2) rfl
 have o3 := hO.cell (k := 3) rfl
 have o4 := hO.cell (k := 4) rfl
 have o5 := hO.cell (k := 5) rfl
 have o6 := hO.cell (k := 6) rfl
 have o7 := hO.cell (k := 7) rfl
 have m0 := hO.frozen 0
 have m1 := hO.frozen 1
 have m2 := hO.frozen 2
 have m3 := hO.frozen 3
 have m4 := hO.frozen 4
 have m5 := hO.frozen 5
 have m6 := hO.frozen 6
 have m7 := hO.frozen 7
 have y0 := hR.cell (k := 0) rfl
 have y1 := hR.cell (k := 1) rfl
 have y2 := hR.cell (k := 2) rfl
 have y3 := hR.cell (k := 3) rfl
 have y4 := hR.cell (k := 4) rfl
 have y5 := hR.cell (k := 5) rfl
 have y6 := hR.cell (k := 6) rfl
 have y7 := hR.cell (k := 7) rfl
 have f0 := hR.frozen 0
 have f1 := hR.frozen 1
 have f2 := hR.frozen 2
 have f3 := hR.frozen 3
 have f4 := hR.frozen 4
 have f5 := hR.frozen 5
 have f6 := hR.frozen 6
 have f7 := hR.frozen 7
 have HFN := Lib.hid (hR.all8 (.slice X3 s.blobs.length cX3) (.slice Y3 s.ents.length dY3) (.int .i64 (s.room : Int)) (.int .i64 (s.clock : Int)) (.int .i64 (co.phase : Int)) (.slice G3 co.grey.length ng3) (.string ⟨co.at_.toArray⟩) (.slice F6 fs2.length c6))
 have HL9 := Lib.hid (HL7.out.set8 hR (.inl (by omega)) (.slice X3 s.blobs.length cX3) (.slice Y3 s.ents.length dY3) (.int .i64 (s.room : Int)) (.int .i64 (s.clock : Int)) (.int .i64 (co.phase : Int)) (.slice G3 co.grey.length ng3) (.string ⟨co.at_.toArray⟩) (.slice F6 fs2.length c6))
 have HF9 := Lib.hid (HF7.out.set8 hR (by decide) (by decide) (.slice X3 s.blobs.length cX3) (.slice Y3 s.ents.length dY3) (.int .i64 (s.room : Int)) (.int .i64 (s.clock : Int)) (.int .i64 (co.phase : Int)) (.slice G3 co.grey.length ng3) (.string ⟨co.at_.toArray⟩) (.slice F6 fs2.length c6))
 have HU9 := Lib.hid (zM HU7.out (zm HU7.out hR (by decide)) (.slice X3 s.blobs.length cX3) (.slice Y3 s.ents.length dY3) (.int .i64 (s.room : Int)) (.int .i64 (s.clock : Int)) (.int .i64 (co.phase : Int)) (.slice G3 co.grey.length ng3) (.string ⟨co.at_.toArray⟩) (.slice F6 fs2.length c6))
 have HB9 := Lib.hid (zy HB7.out (show gb ≤ gb + 1 by omega) (.slice X3 s.blobs.length cX3) (.slice Y3 s.ents.length dY3) (.int .i64 (s.room : Int)) (.int .i64 (s.clock : Int)) (.int .i64 (co.phase : Int)) (.slice G3 co.grey.length ng3) (.string ⟨co.at_.toArray⟩) (.slice F6 fs2.length c6))
 clear hO hR
 repeat' (fail_if_success (first|at_builtin|at_make));first|go_values|go_skip|go_guarded|go_step|go_upon|go_back
 have hb5 : gb ≤ w2.heap.size := by omega
 have hb1 : gb ≤ w1.heap.size := by omega
 refine bodyPost_ret (zP rfl _ _ (gb + 1) _ _ _ _ (by rfl) HFN.out Tryz.underlying58 rfl (by kernel_rfl)) rfl ?_
 rw [if_pos rfl, if_pos rfl]
 exact ⟨_, _, _, _, _, rfl, ⟨(HL9.out.s.lower hb1).mono (fun b hb => .inl (by omega)), zd HL9.out.c hb1, HF9.out.lower hb5⟩, zd HU9.out hb5, HB9.out⟩
theorem ZD (A : Option Addr) (c : Nat) (B : Option Addr) (d : Nat) (s : StoP) (Ag : Option Addr) (ng : Nat) (cp : ColP) (key : List UInt8) (ps : List PartP) (PA : Option Addr) (pc : Nat) (w : World) (hg : GoodS s) (hr : RdSt w A c B d s) (hgl : cp.grey.length ≤ 1000) (hgc : GoodC s cp) (hc : RdC w Ag ng cp) (hk : hexC key = 0) (hpz : chk ps = 0) (hclk : s.clock < 1099511627776) (hlen : s.ents.length < 10) (hP : Sl w 3 PA ps.length pc (pcs ps)) :
  Calls Tryz.prog 70 #[.agg #[.slice A s.blobs.length c, .slice B s.ents.length d, .int .i64 (s.room : Int), .int .i64 (s.clock : Int)], coV (.slice Ag cp.grey.length ng) cp, .string ⟨key.toArray⟩, .slice PA ps.length pc] w fun e w' =>
   ∃ v1 v2 v3, e = .returned (.tuple #[stV v1 v2 (zU s cp key ps).1, coV v3 (zU s cp key ps).2.1, .int .i64 ((zU s cp key ps).2.2 : Int)]) ∧ OwSt w' w.heap.size v1 v2 (zU s cp key ps).1 (fun b => b < w.heap.size) ∧ w'.ownsRow w.heap.size 9 1 v3 (zU s cp key ps).2.1.grey.length (strs (zU s cp key ps).2.1.grey) ∧ Below w.heap.size w w' := by
 unfold zU
 by_cases hh : zT s.blobs ps = 0
 ·rw [if_pos hh]
  refine (U4 A c B d s Ag ng cp key ps PA pc w hg hr hgl hgc hc hk hpz hh hclk hlen hP _ rfl (kJ hg hk hpz (qA hh) hclk hlen)).mono ?_
  rintro e w' ⟨v1, v2, v3, he, ho, hl, hb⟩
  obtain ⟨r1, r2⟩ := YS (qJ s key ps) cp (ps.map (·.dig))
  refine ⟨v1, v2, v3, ?_, ho, hl, hb⟩
  rw [he]
  simp only [stV]
  rw [r1, r2]
  rfl
 ·rw [if_neg hh]
  refine (Vz A c B d s Ag ng cp key ps.length pc PA (zT s.blobs ps : Int) w hg hr hgl hgc hc (by omega) (fun W h => Zi A c B d s key ps PA pc _ W hg (hr.below h) hk hpz rfl hh (hP.below h))).mono ?_
  rintro e w' ⟨he, hb⟩
  exact ⟨.slice none 0 0, .slice none 0 0, .slice none 0 0, he, ⟨RwX.nil_ (World.ownsRow_nil _ _ _ _), RwX.nil_ (World.ownsRow_nil _ _ _ _), fun g h => by cases h⟩, World.ownsRow_nil _ _ _ _, hb⟩
set_option maxHeartbeats 8000000 in
theorem Kb (p : LoW) (l : LoP) (key : List UInt8) (ps : List PartP) (PA : Option Addr) (pc : Nat) (w : World) (hg : GoodL l) (hr : RdLo w p l) (hk : hexC key = 0) (hpz : chk ps = 0) (hclk : l.st.clock < 1099511627776) (hlen : l.st.ents.length < 10) (hP : Sl w 3 PA ps.length pc (pcs ps)) (fs2 : List FlP) (who : List Int) (q : Nat) (hj : kT l.fs key = (fs2, who, q)) (t : StoP) (c2 : ColP) (z : Nat) (hbj : zU l.st l.co key ps = (t, c2, z)) (b : Bool) (hb : b = decide (q = 0 ∧ z = 0)) :
  Calls Tryz.prog 44 #[loV p l, .string ⟨key.toArray⟩, .slice PA ps.length pc] w fun e w' => ∃ v1 v2 v3 v4 u, e = .returned (.tuple #[QD v1 v2 v3 v4 (if b then ⟨t, c2, fs2⟩ else loZ), u, .int .i64 ((if q = 0 then z else q : Nat) : Int)]) ∧ OwLo w' w.heap.size v1 v2 v3 v4 (if b then ⟨t, c2, fs2⟩ else loZ) (fun b => b < w.heap.size) ∧ w'.ownsRow w.heap.size 3 1 u (if b then who else []).length (ins (if b then who else [])) ∧ Below w.heap.size w w' := by
 have HPS0 := Lib.hid (fun W (h : Below w.heap.size w W) => hP.below h)
 have HKX := Lib.hid (And.intro hk (And.intro hpz (And.intro hclk hlen)))
 have HBD := Lib.hid hb
 clear hP hk hpz hclk hlen hb
 obtain ⟨X, cX, Y, dY, G, ng, F, cF⟩ := p
 obtain ⟨s, co, fs⟩ := l
 have hgs : GoodS s := hg.s
 have hlb : s.blobs.length ≤ 24 := hgs.b.len
 have hle : s.ents.length ≤ 10 := hgs.e.len
 have hlf : fs.length ≤ 6 := hg.f.len
 have hcm : cF ≤ maxLen := hr.fm
 obtain ⟨w1, hw1, hP, hR, hbx⟩ := zO w 58 58 [.slice X s.blobs.length cX, .slice Y s.ents.length dY, .int .i64 (s.room : Int), .int .i64 (s.clock : Int), .int .i64 (co.phase : Int), .slice G co.grey.length ng, .string ⟨co.at_.toArray⟩, .slice F fs.length cF] [.slice none 0 0, .slice none 0 0, .int .i64 0, .int .i64 0, .int .i64 0, .slice none 0 0, .string ⟨#[]⟩, .slice none 0 0]
 have hr1 := hr.below hbx
 have HCK := Lib.hid (yf ⟨X, cX, Y, dY, G, ng, F, cF⟩ ⟨s, co, fs⟩ w1 hg hr1)
 have HRD := Lib.hid (fun W (h : Below w1.heap.size w1 W) => hr1.below h)
 obtain ⟨gb, hgb⟩ : ∃ g, g = w.heap.size := ⟨_, rfl⟩
 rw [← hgb] at hP hR hbx ⊢
 have HPX := Lib.hid (show ∀ W, Below w1.heap.size w1 W → Arr W gb 58 [.slice X s.blobs.length cX, .slice Y s.ents.length dY, .int .i64 (s.room : Int), .int .i64 (s.clock : Int), .int .i64 (co.phase : Int), .slice G co.grey.length ng, .string ⟨co.at_.toArray⟩, .slice F fs.length cF] ∧ Arr W (gb + 1) 58 [.slice none 0 0, .slice none 0 0, .int .i64 0, .int .i64 0, .int .i64 0, .slice none 0 0, .string ⟨#[]⟩, .slice none 0 0] from fun W h => ⟨hP.below h, hR.below h⟩)
 have hg1 : gb + 1 < w1.heap.size := hR.lt
 have HG := Lib.hid hg
 have HGS := Lib.hid hgs
 have HBX := Lib.hid hbx
 have HW1 := Lib.hid hw1
 have HGB := Lib.hid hgb
 clear hg hgs hr hr1 hP hR hbx hw1 hgb
 go_enter Tryz.func44, Tryz.ntmps44
 repeat' (fail_if_success (first|at_builtin|at_make));first|go_values|go_skip|go_guarded|go_step|go_upon|go_back
 rw [← HW1.out, ← HGB.out]
 clear HW1
 refine ((HCK.out)).mono ?_; rintro e_ w2 ⟨rfl, hb2⟩; dsimp only
 clear HCK
 have HB2 := Lib.hid hb2
 have HPS := Lib.hid (fun W (h : Below gb w W) => HPS0.out W (by rw [← HGB.out]; exact h))
 have HBJ := Lib.hid hbj
 have hen := KE F cF fs key w2 HG.out.f (HRD.out w2 hb2).f (HRD.out w2 hb2).fc (HRD.out w2 hb2).fm
 dsimp only at hj
 simp only [hj] at hen
 have HEN := Lib.hid hen
 clear hen hj hbj HPS0
 have x0 := (HPX.out _ hb2).1.cell (k := 0) rfl
 have x1 := (HPX.out _ hb2).1.cell (k := 1) rfl
 have x2 := (HPX.out _ hb2).1.cell (k := 2) rfl
 have x3 := (HPX.out _ hb2).1.cell (k := 3) rfl
 have x4 := (HPX.out _ hb2).1.cell (k := 4) rfl
 have x5 := (HPX.out _ hb2).1.cell (k := 5) rfl
 have x6 := (HPX.out _ hb2).1.cell (k := 6) rfl
 have x7 := (HPX.out _ hb2).1.cell (k := 7) rfl
 repeat' (fail_if_success (first|at_builtin|at_make));first|go_values|go_skip|go_guarded|go_step|go_upon|go_back
 clear x0 x1 x2 x3 x4 x5 x6 x7
 refine ((HEN.out)).mono ?_; rintro e_ wE ⟨v5, u5, rfl, hf6, hu6, hb6⟩; dsimp only
 obtain ⟨F6, c6, rfl, _, _⟩ := hf6.fls
 obtain ⟨U6, d6, rfl, _, _⟩ := Rd.of_own' hu6
 have hbE := hb2.trans (hb6.mono hb2.size)
 have hsE : w2.heap.size ≤ wE.heap.size := hb6.size
 have hs2 : w1.heap.size ≤ w2.heap.size := hb2.size
 by_cases hq : q = 0
 rotate_left
 ·have hq1 : ((q : Int) != 0) = true := by rw [bne_iff_ne]; omega
  have HQ := Lib.hid hq
  clear hq
  have hR := (HPX.out _ hbE).2
  have y0 := hR.cell (k := 0) rfl
  have y1 := hR.cell (k := 1) rfl
  have y2 := hR.cell (k := 2) rfl
  have y3 := hR.cell (k := 3) rfl
  have y4 := hR.cell (k := 4) rfl
  have y5 := hR.cell (k := 5) rfl
  have y6 := hR.cell (k := 6) rfl
  have y7 := hR.cell (k := 7) rfl
  have f0 := hR.frozen 0
  have f1 := hR.frozen 1
  have f2 := hR.frozen 2
  have f3 := hR.frozen 3
  have f4 := hR.frozen 4
  have f5 := hR.frozen 5
  have f6 := hR.frozen 6
  have f7 := hR.frozen 7
  have HFN := Lib.hid (hR.all8 (.slice none 0 0) (.slice none 0 0) (.int .i64 0) (.int .i64 0) (.int .i64 0) (.slice none 0 0) (.string ⟨#[]⟩) (.slice none 0 0))
  have HB9 := Lib.hid (zy (HBX.out.trans (Below.mono hbE (by omega))) (show gb ≤ gb + 1 by omega) (.slice none 0 0) (.slice none 0 0) (.int .i64 0) (.int .i64 0) (.int .i64 0) (.slice none 0 0) (.string ⟨#[]⟩) (.slice none 0 0))
  clear hR
  repeat' (fail_if_success (first|at_builtin|at_make));first|go_values|go_skip|go_guarded|go_step|go_upon|go_back
  refine bodyPost_ret (zP rfl _ _ (gb + 1) _ _ _ _ (by rfl) HFN.out Tryz.underlying58 rfl (by kernel_rfl)) rfl ?_
  have hbb : b = false := by rw [HBD.out]; exact decide_eq_false (fun h => HQ.out h.1)
  rw [hbb, if_neg HQ.out]
  exact ⟨_, _, _, _, _, rfl, OwLo.nil_, World.ownsRow_nil _ _ _ _, HB9.out⟩
 subst hq
 have HBE := Lib.hid hbE
 have HF6 := Lib.hid hf6
 have HU6 := Lib.hid hu6
 have hbw := HBX.out.trans (hbE.mono (show gb ≤ w1.heap.size by omega))
 clear hf6 hu6 hb6 HEN
 have hbp := ZD X cX Y dY s G ng co key ps PA pc wE HGS.out (HRD.out _ hbE).s HG.out.g HG.out.c (HRD.out _ hbE).c HKX.out.1 HKX.out.2.1 HKX.out.2.2.1 HKX.out.2.2.2 (HPS.out _ hbw)
 simp only [HBJ.out] at hbp
 have HBP := Lib.hid hbp
 clear hbp
 have x0 := (HPX.out _ hbE).1.cell (k := 0) rfl
 have x1 := (HPX.out _ hbE).1.cell (k := 1) rfl
 have x2 := (HPX.out _ hbE).1.cell (k := 2) rfl
 have x3 := (HPX.out _ hbE).1.cell (k := 3) rfl
 have x4 := (HPX.out _ hbE).1.cell (k := 4) rfl
 have x5 := (HPX.out _ hbE).1.cell (k := 5) rfl
 have x6 := (HPX.out _ hbE).1.cell (k := 6) rfl
 have x7 := (HPX.out _ hbE).1.cell (k := 7) rfl
 repeat' (fail_if_success (first|at_builtin|at_make));first|go_values|go_skip|go_guarded|go_step|go_upon|go_back
 clear x0 x1 x2 x3 x4 x5 x6 x7
 refine ((HBP.out)).mono ?_; rintro e_ w7 ⟨v7, u7, t7, rfl, ho7, hl7, hb7⟩; dsimp only
 obtain ⟨X7, cX7, Y7, dY7, rfl, rfl, hr7⟩ := ho7.rows
 obtain ⟨G7, ng7, rfl, hc7⟩ := RdC.of_own (c := c2) hl7
 obtain ⟨w9, hw9, hS9, hC9, hb79⟩ := zO w7 26 29 [.slice X7 t.blobs.length cX7, .slice Y7 t.ents.length dY7, .int .i64 (t.room : Int), .int .i64 (t.clock : Int)] [.int .i64 (c2.phase : Int), .slice G7 c2.grey.length ng7, .string ⟨c2.at_.toArray⟩]
 have hbq := hb7.trans (hb79.mono hb7.size)
 have hb19 := (hbE).trans (hbq.mono (hbE).size)
 have HW9 := Lib.hid hw9
 obtain ⟨gs, hgs⟩ : ∃ g, g = w7.heap.size := ⟨_, rfl⟩
 have HGQ := Lib.hid hgs
 rw [← hgs] at hS9 hC9
 have HSC := Lib.hid (show ∀ W, Below w9.heap.size w9 W → Arr W gs 26 [.slice X7 t.blobs.length cX7, .slice Y7 t.ents.length dY7, .int .i64 (t.room : Int), .int .i64 (t.clock : Int)] ∧ Arr W (gs + 1) 29 [.int .i64 (c2.phase : Int), .slice G7 c2.grey.length ng7, .string ⟨c2.at_.toArray⟩] from fun W h => ⟨hS9.below h, hC9.below h⟩)
 have HO9 := Lib.hid (ho7.below hb79)
 have HL9 := Lib.hid (zb hl7 hb79)
 have HBQ := Lib.hid hbq
 have HB19 := Lib.hid hb19
 clear hw9 hgs hS9 hC9 ho7 hl7 hr7 hc7 hb7 hb79 hbq hb19 HBP
 repeat' ((fail_if_success (with_reducible refine zl 8 ?_)); (fail_if_success (with_reducible refine zi 8 ?_)); (fail_if_success (with_reducible refine zg 8 ?_)); (fail_if_success (with_reducible refine zk 8 ?_)); (fail_if_success (with_reducible refine zh 8 ?_)); (fail_if_success (with_reducible refine zj 8 ?_)); (fail_if_success at_builtin); (fail_if_success at_make); (first | go_values | go_skip | go_guarded | go_step | go_upon | go_back))
 rw [← HW9.out, ← HGQ.out]
 clear HW9
 by_cases hz : z = 0
 rotate_left
 ·have hz1 : ((z : Int) != 0) = true := by rw [bne_iff_ne]; omega
  have HZ := Lib.hid hz
  clear hz
  have hR := (HPX.out _ HB19.out).2
  have y0 := hR.cell (k := 0) rfl
  have y1 := hR.cell (k := 1) rfl
  have y2 := hR.cell (k := 2) rfl
  have y3 := hR.cell (k := 3) rfl
  have y4 := hR.cell (k := 4) rfl
  have y5 := hR.cell (k := 5) rfl
  have y6 := hR.cell (k := 6) rfl
  have y7 := hR.cell (k := 7) rfl
  have f0 := hR.frozen 0
  have f1 := hR.frozen 1
  have f2 := hR.frozen 2
  have f3 := hR.frozen 3
  have f4 := hR.frozen 4
  have f5 := hR.frozen 5
  have f6 := hR.frozen 6
  have f7 := hR.frozen 7
  have HFN := Lib.hid (hR.all8 (.slice none 0 0) (.slice none 0 0) (.int .i64 0) (.int .i64 0) (.int .i64 0) (.slice none 0 0) (.string ⟨#[]⟩) (.slice none 0 0))
  have HB9 := Lib.hid (zy (HBX.out.trans (Below.mono HB19.out (by omega))) (show gb ≤ gb + 1 by omega) (.slice none 0 0) (.slice none 0 0) (.int .i64 0) (.int .i64 0) (.int .i64 0) (.slice none 0 0) (.string ⟨#[]⟩) (.slice none 0 0))
  clear hR
  repeat' (fail_if_success (first|at_builtin|at_make));first|go_values|go_skip|go_guarded|go_step|go_upon|go_back
  refine bodyPost_ret (zP rfl _ _ (gb + 1) _ _ _ _ (by rfl) HFN.out Tryz.underlying58 rfl (by kernel_rfl)) rfl ?_
  have hbb : b = false := by rw [HBD.out]; exact decide_eq_false (fun h => HZ.out h.2)
  rw [hbb, if_pos rfl]
  exact ⟨_, _, _, _, _, rfl, OwLo.nil_, World.ownsRow_nil _ _ _ _, HB9.out⟩
 subst hz
 have hsc := HSC.out _ (Below.refl _ _)
 have s0 := hsc.1.cell (k := 0) rfl
 have s1 := hsc.1.cell (k := 1) rfl
 have s2 := hsc.1.cell (k := 2) rfl
 have s3 := hsc.1.cell (k := 3) rfl
 have t0 := hsc.2.cell (k := 0) rfl
 have t1 := hsc.2.cell (k := 1) rfl
 have t2 := hsc.2.cell (k := 2) rfl
 have hR := (HPX.out _ HB19.out).2
 have y0 := hR.cell (k := 0) rfl
 have y1 := hR.cell (k := 1) rfl
 have y2 := hR.cell (k := 2) rfl
 have y3 := hR.cell (k := 3) rfl
 have y4 := hR.cell (k := 4) rfl
 have y5 := hR.cell (k := 5) rfl
 have y6 := hR.cell (k := 6) rfl
 have y7 := hR.cell (k := 7) rfl
 have f0 := hR.frozen 0
 have f1 := hR.frozen 1
 have f2 := hR.frozen 2
 have f3 := hR.frozen 3
 have f4 := hR.frozen 4
 have f5 := hR.frozen 5
 have f6 := hR.frozen 6
 have f7 := hR.frozen 7
 have hse := HBQ.out.size
 have hfe := HF6.out.below HBQ.out
 have hue := zb HU6.out HBQ.out
 have HFN := Lib.hid (hR.all8 (.slice X7 t.blobs.length cX7) (.slice Y7 t.ents.length dY7) (.int .i64 (t.room : Int)) (.int .i64 (t.clock : Int)) (.int .i64 (c2.phase : Int)) (.slice G7 c2.grey.length ng7) (.string ⟨c2.at_.toArray⟩) (.slice F6 fs2.length c6))
 have HS9 := Lib.hid (HO9.out.set8N (show gb + 1 < wE.heap.size by omega) (HO9.out.nb hR (by decide) (by decide)).1 (HO9.out.nb hR (by decide) (by decide)).2 (.slice X7 t.blobs.length cX7) (.slice Y7 t.ents.length dY7) (.int .i64 (t.room : Int)) (.int .i64 (t.clock : Int)) (.int .i64 (c2.phase : Int)) (.slice G7 c2.grey.length ng7) (.string ⟨c2.at_.toArray⟩) (.slice F6 fs2.length c6))
 have HC9 := Lib.hid (zM HL9.out (zm HL9.out hR (by decide)) (.slice X7 t.blobs.length cX7) (.slice Y7 t.ents.length dY7) (.int .i64 (t.room : Int)) (.int .i64 (t.clock : Int)) (.int .i64 (c2.phase : Int)) (.slice G7 c2.grey.length ng7) (.string ⟨c2.at_.toArray⟩) (.slice F6 fs2.length c6))
 have HF9 := Lib.hid (hfe.set8 hR (by decide) (by decide) (.slice X7 t.blobs.length cX7) (.slice Y7 t.ents.length dY7) (.int .i64 (t.room : Int)) (.int .i64 (t.clock : Int)) (.int .i64 (c2.phase : Int)) (.slice G7 c2.grey.length ng7) (.string ⟨c2.at_.toArray⟩) (.slice F6 fs2.length c6))
 have HU9 := Lib.hid (zM hue (zm hue hR (by decide)) (.slice X7 t.blobs.length cX7) (.slice Y7 t.ents.length dY7) (.int .i64 (t.room : Int)) (.int .i64 (t.clock : Int)) (.int .i64 (c2.phase : Int)) (.slice G7 c2.grey.length ng7) (.string ⟨c2.at_.toArray⟩) (.slice F6 fs2.length c6))
 have HB9 := Lib.hid (zy (HBX.out.trans (HB19.out.mono (by omega))) (show gb ≤ gb + 1 by omega) (.slice X7 t.blobs.length cX7) (.slice Y7 t.ents.length dY7) (.int .i64 (t.room : Int)) (.int .i64 (t.clock : Int)) (.int .i64 (c2.phase : Int)) (.slice G7 c2.grey.length ng7) (.string ⟨c2.at_.toArray⟩) (.slice F6 fs2.length c6))
 clear hR hsc hfe hue
 repeat' (fail_if_success (first|at_builtin|at_make));first|go_values|go_skip|go_guarded|go_step|go_upon|go_back
 have hb5 : gb ≤ w2.heap.size := by omega
 have hbE : gb ≤ wE.heap.size := by omega
 have hbb : b = true := by rw [HBD.out]; exact decide_eq_true ⟨rfl, rfl⟩
 refine bodyPost_ret (zP rfl _ _ (gb + 1) _ _ _ _ (by rfl) HFN.out Tryz.underlying58 rfl (by kernel_rfl)) rfl ?_
 rw [hbb, if_pos rfl]
 exact ⟨_, _, _, _, _, rfl, ⟨(HS9.out.lower hbE).mono (fun b hb => by omega), zd HC9.out hbE, HF9.out.lower hb5⟩, zd HU9.out hb5, HB9.out⟩
set_option maxHeartbeats 8000000 in
theorem Qk (p : LoW) (l : LoP) (key : List UInt8) (PA : Option Addr) (pn pc : Nat) (w : World) (hg : GoodL l) (hr : RdLo w p l) (i : Nat) (hf : fnd 0 l.fs key = some i) :
  Calls Tryz.prog 40 #[loV p l, .string ⟨key.toArray⟩, .slice PA pn pc] w fun e w' => e = .returned (.tuple #[QD (.slice none 0 0) (.slice none 0 0) (.slice none 0 0) (.slice none 0 0) loZ, .int .i64 10]) ∧ Below w.heap.size w w' := by
 have hkk : (⟨key.toArray⟩ : ByteArray).data.toList = key := List.toList_toArray
 obtain ⟨X, cX, Y, dY, G, ng, F, cF⟩ := p
 obtain ⟨s, co, fs⟩ := l
 have hgs : GoodS s := hg.s
 have hlb : s.blobs.length ≤ 24 := hgs.b.len
 have hle : s.ents.length ≤ 10 := hgs.e.len
 have hlf : fs.length ≤ 6 := hg.f.len
 have hcm : cF ≤ maxLen := hr.fm
 obtain ⟨w1, hw1, hP, hR, hbx⟩ := zO w 58 58 [.slice X s.blobs.length cX, .slice Y s.ents.length dY, .int .i64 (s.room : Int), .int .i64 (s.clock : Int), .int .i64 (co.phase : Int), .slice G co.grey.length ng, .string ⟨co.at_.toArray⟩, .slice F fs.length cF] [.slice none 0 0, .slice none 0 0, .int .i64 0, .int .i64 0, .int .i64 0, .slice none 0 0, .string ⟨#[]⟩, .slice none 0 0]
 have hr1 := hr.below hbx
 have HCK := Lib.hid (yf ⟨X, cX, Y, dY, G, ng, F, cF⟩ ⟨s, co, fs⟩ w1 hg hr1)
 have HRD := Lib.hid (fun W (h : Below w1.heap.size w1 W) => hr1.below h)
 obtain ⟨gb, hgb⟩ : ∃ g, g = w.heap.size := ⟨_, rfl⟩
 rw [← hgb] at hP hR hbx ⊢
 have HPX := Lib.hid (show ∀ W, Below w1.heap.size w1 W → Arr W gb 58 [.slice X s.blobs.length cX, .slice Y s.ents.length dY, .int .i64 (s.room : Int), .int .i64 (s.clock : Int), .int .i64 (co.phase : Int), .slice G co.grey.length ng, .string ⟨co.at_.toArray⟩, .slice F fs.length cF] ∧ Arr W (gb + 1) 58 [.slice none 0 0, .slice none 0 0, .int .i64 0, .int .i64 0, .int .i64 0, .slice none 0 0, .string ⟨#[]⟩, .slice none 0 0] from fun W h => ⟨hP.below h, hR.below h⟩)
 have hg1 : gb + 1 < w1.heap.size := hR.lt
 have HG := Lib.hid hg
 have HGS := Lib.hid hgs
 have HBX := Lib.hid hbx
 have HW1 := Lib.hid hw1
 have HGB := Lib.hid hgb
 clear hg hgs hr hr1 hP hR hbx hw1 hgb
 go_enter Tryz.func40, Tryz.ntmps40
 repeat' (fail_if_success (first|at_builtin|at_make));first|go_values|go_skip|go_guarded|go_step|go_upon|go_back
 rw [← HW1.out, ← HGB.out]
 clear HW1
 refine ((HCK.out)).mono ?_; rintro e_ w2 ⟨rfl, hb2⟩; dsimp only
 clear HCK
 have HB2 := Lib.hid hb2
 have hfi := qP F cF fs ⟨key.toArray⟩ w2 (by omega) (HRD.out w2 hb2).f
 rw [hkk] at hfi
 dsimp only at hf
 rw [hf] at hfi
 dsimp only at hfi
 have HFI := Lib.hid hfi
 clear hfi hf hkk
 have x0 := (HPX.out _ hb2).1.cell (k := 0) rfl
 have x1 := (HPX.out _ hb2).1.cell (k := 1) rfl
 have x2 := (HPX.out _ hb2).1.cell (k := 2) rfl
 have x3 := (HPX.out _ hb2).1.cell (k := 3) rfl
 have x4 := (HPX.out _ hb2).1.cell (k := 4) rfl
 have x5 := (HPX.out _ hb2).1.cell (k := 5) rfl
 have x6 := (HPX.out _ hb2).1.cell (k := 6) rfl
 have x7 := (HPX.out _ hb2).1.cell (k := 7) rfl
 repeat' (fail_if_success (first|at_builtin|at_make));first|go_values|go_skip|go_guarded|go_step|go_upon|go_back
 clear x0 x1 x2 x3 x4 x5 x6 x7
 refine ((HFI.out)).mono ?_; rintro e_ wE ⟨rfl, hb6⟩; dsimp only
 have hbE := hb2.trans (hb6.mono hb2.size)
 have hR := (HPX.out _ hbE).2
 have y0 := hR.cell (k := 0) rfl
 have y1 := hR.cell (k := 1) rfl
 have y2 := hR.cell (k := 2) rfl
 have y3 := hR.cell (k := 3) rfl
 have y4 := hR.cell (k := 4) rfl
 have y5 := hR.cell (k := 5) rfl
 have y6 := hR.cell (k := 6) rfl
 have y7 := hR.cell (k := 7) rfl
 have f0 := hR.frozen 0
 have f1 := hR.frozen 1
 have f2 := hR.frozen 2
 have f3 := hR.frozen 3
 have f4 := hR.frozen 4
 have f5 := hR.frozen 5
 have f6 := hR.frozen 6
 have f7 := hR.frozen 7
 have HFN := Lib.hid (hR.all8 (.slice none 0 0) (.slice none 0 0) (.int .i64 0) (.int .i64 0) (.int .i64 0) (.slice none 0 0) (.string ⟨#[]⟩) (.slice none 0 0))
 have HB9 := Lib.hid (zy (HBX.out.trans (Below.mono hbE (by omega))) (show gb ≤ gb + 1 by omega) (.slice none 0 0) (.slice none 0 0) (.int .i64 0) (.int .i64 0) (.int .i64 0) (.slice none 0 0) (.string ⟨#[]⟩) (.slice none 0 0))
 clear hR
 repeat' (fail_if_success (first|at_builtin|at_make));first|go_values|go_skip|go_guarded|go_step|go_upon|go_back
 refine bodyPost_ret (qc rfl _ _ (gb + 1) _ _ _ _ (by rfl) HFN.out Tryz.underlying58 rfl (by kernel_rfl)) rfl ?_
 exact ⟨rfl, HB9.out⟩
set_option maxHeartbeats 8000000 in
theorem YK (p : LoW) (l : LoP) (key : List UInt8) (ps : List PartP) (PA : Option Addr) (pc : Nat) (w : World) (hg : GoodL l) (hr : RdLo w p l) (hk : hexC key = 0) (hpz : chk ps = 0) (hclk : l.st.clock < 1099511627776) (hlen : l.st.ents.length < 10) (hP : Sl w 3 PA ps.length pc (pcs ps)) (hf : fnd 0 l.fs key = none) (t : StoP) (c2 : ColP) (z : Nat) (hbj : zU l.st l.co key ps = (t, c2, z)) :
  Calls Tryz.prog 40 #[loV p l, .string ⟨key.toArray⟩, .slice PA ps.length pc] w fun e w' => ∃ v1 v2 v3 v4, e = .returned (.tuple #[QD v1 v2 v3 v4 (if z = 0 then ⟨t, c2, l.fs⟩ else loZ), .int .i64 (z : Int)]) ∧ OwLo w' w.heap.size v1 v2 v3 v4 (if z = 0 then ⟨t, c2, l.fs⟩ else loZ) (fun b => b < w.heap.size) ∧ Below w.heap.size w w' := by
 have hkk : (⟨key.toArray⟩ : ByteArray).data.toList = key := List.toList_toArray
 have HPS0 := Lib.hid (fun W (h : Below w.heap.size w W) => hP.below h)
 have HKX := Lib.hid (And.intro hk (And.intro hpz (And.intro hclk hlen)))
 clear hP hk hpz hclk hlen
 obtain ⟨X, cX, Y, dY, G, ng, F, cF⟩ := p
 obtain ⟨s, co, fs⟩ := l
 have hgs : GoodS s := hg.s
 have hlb : s.blobs.length ≤ 24 := hgs.b.len
 have hle : s.ents.length ≤ 10 := hgs.e.len
 have hlf : fs.length ≤ 6 := hg.f.len
 have hcm : cF ≤ maxLen := hr.fm
 obtain ⟨w1, hw1, hP, hR, hbx⟩ := zO w 58 58 [.slice X s.blobs.length cX, .slice Y s.ents.length dY, .int .i64 (s.room : Int), .int .i64 (s.clock : Int), .int .i64 (co.phase : Int), .slice G co.grey.length ng, .string ⟨co.at_.toArray⟩, .slice F fs.length cF] [.slice none 0 0, .slice none 0 0, .int .i64 0, .int .i64 0, .int .i64 0, .slice none 0 0, .string ⟨#[]⟩, .slice none 0 0]
 have hr1 := hr.below hbx
 have HCK := Lib.hid (yf ⟨X, cX, Y, dY, G, ng, F, cF⟩ ⟨s, co, fs⟩ w1 hg hr1)
 have HRD := Lib.hid (fun W (h : Below w1.heap.size w1 W) => hr1.below h)
 obtain ⟨gb, hgb⟩ : ∃ g, g = w.heap.size := ⟨_, rfl⟩
 rw [← hgb] at hP hR hbx ⊢
 have HPX := Lib.hid (show ∀ W, Below w1.heap.size w1 W → Arr W gb 58 [.slice X s.blobs.length cX, .slice Y s.ents.length dY, .int .i64 (s.room : Int), .int .i64 (s.clock : Int), .int .i64 (co.phase : Int), .slice G co.grey.length ng, .string ⟨co.at_.toArray⟩, .slice F fs.length cF] ∧ Arr W (gb + 1) 58 [.slice none 0 0, .slice none 0 0, .int .i64 0, .int .i64 0, .int .i64 0, .slice none 0 0, .string ⟨#[]⟩, .slice none 0 0] from fun W h => ⟨hP.below h, hR.below h⟩)
 have hg1 : gb + 1 < w1.heap.size := hR.lt
 have HG := Lib.hid hg
 have HGS := Lib.hid hgs
 have HBX := Lib.hid hbx
 have HW1 := Lib.hid hw1
 have HGB := Lib.hid hgb
 clear hg hgs hr hr1 hP hR hbx hw1 hgb
 go_enter Tryz.func40, Tryz.ntmps40
 repeat' (fail_if_success (first|at_builtin|at_make));first|go_values|go_skip|go_guarded|go_step|go_upon|go_back
 rw [← HW1.out, ← HGB.out]
 clear HW1
 refine ((HCK.out)).mono ?_; rintro e_ w2 ⟨rfl, hb2⟩; dsimp only
 clear HCK
 have HB2 := Lib.hid hb2
 have HPS := Lib.hid (fun W (h : Below gb w W) => HPS0.out W (by rw [← HGB.out]; exact h))
 have HBJ := Lib.hid hbj
 have hfi := qP F cF fs ⟨key.toArray⟩ w2 (by omega) (HRD.out w2 hb2).f
 rw [hkk] at hfi
 dsimp only at hf
 rw [hf] at hfi
 dsimp only at hfi
 have HFI := Lib.hid hfi
 clear hfi hf hkk hbj HPS0
 have x0 := (HPX.out _ hb2).1.cell (k := 0) rfl
 have x1 := (HPX.out _ hb2).1.cell (k := 1) rfl
 have x2 := (HPX.out _ hb2).1.cell (k := 2) rfl
 have x3 := (HPX.out _ hb2).1.cell (k := 3) rfl
 have x4 := (HPX.out _ hb2).1.cell (k := 4) rfl
 have x5 := (HPX.out _ hb2).1.cell (k := 5) rfl
 have x6 := (HPX.out _ hb2).1.cell (k := 6) rfl
 have x7 := (HPX.out _ hb2).1.cell (k := 7) rfl
 repeat' (fail_if_success (first|at_builtin|at_make));first|go_values|go_skip|go_guarded|go_step|go_upon|go_back
 clear x0 x1 x2 x3 x4 x5 x6 x7
 refine ((HFI.out)).mono ?_; rintro e_ wE ⟨rfl, hb6⟩; dsimp only
 have hbE := hb2.trans (hb6.mono hb2.size)
 have hsE : w2.heap.size ≤ wE.heap.size := hb6.size
 have hs2 : w1.heap.size ≤ w2.heap.size := hb2.size
 have hbw := HBX.out.trans (hbE.mono (show gb ≤ w1.heap.size by omega))
 clear hb6 HFI
 have hbp := ZD X cX Y dY s G ng co key ps PA pc wE HGS.out (HRD.out _ hbE).s HG.out.g HG.out.c (HRD.out _ hbE).c HKX.out.1 HKX.out.2.1 HKX.out.2.2.1 HKX.out.2.2.2 (HPS.out _ hbw)
 simp only [HBJ.out] at hbp
 have HBP := Lib.hid hbp
 clear hbp
 have x0 := (HPX.out _ hbE).1.cell (k := 0) rfl
 have x1 := (HPX.out _ hbE).1.cell (k := 1) rfl
 have x2 := (HPX.out _ hbE).1.cell (k := 2) rfl
 have x3 := (HPX.out _ hbE).1.cell (k := 3) rfl
 have x4 := (HPX.out _ hbE).1.cell (k := 4) rfl
 have x5 := (HPX.out _ hbE).1.cell (k := 5) rfl
 have x6 := (HPX.out _ hbE).1.cell (k := 6) rfl
 have x7 := (HPX.out _ hbE).1.cell (k := 7) rfl
 repeat' (fail_if_success (first|at_builtin|at_make));first|go_values|go_skip|go_guarded|go_step|go_upon|go_back
 clear x0 x1 x2 x3 x4 x5 x6 x7
 refine ((HBP.out)).mono ?_; rintro e_ w7 ⟨v7, u7, t7, rfl, ho7, hl7, hb7⟩; dsimp only
 obtain ⟨X7, cX7, Y7, dY7, rfl, rfl, hr7⟩ := ho7.rows
 obtain ⟨G7, ng7, rfl, hc7⟩ := RdC.of_own (c := c2) hl7
 obtain ⟨w9, hw9, hS9, hC9, hb79⟩ := zO w7 26 29 [.slice X7 t.blobs.length cX7, .slice Y7 t.ents.length dY7, .int .i64 (t.room : Int), .int .i64 (t.clock : Int)] [.int .i64 (c2.phase : Int), .slice G7 c2.grey.length ng7, .string ⟨c2.at_.toArray⟩]
 have hbq := hb7.trans (hb79.mono hb7.size)
 have hb19 := (hbE).trans (hbq.mono (hbE).size)
 have HW9 := Lib.hid hw9
 obtain ⟨gs, hgs⟩ : ∃ g, g = w7.heap.size := ⟨_, rfl⟩
 have HGQ := Lib.hid hgs
 rw [← hgs] at hS9 hC9
 have HSC := Lib.hid (show ∀ W, Below w9.heap.size w9 W → Arr W gs 26 [.slice X7 t.blobs.length cX7, .slice Y7 t.ents.length dY7, .int .i64 (t.room : Int), .int .i64 (t.clock : Int)] ∧ Arr W (gs + 1) 29 [.int .i64 (c2.phase : Int), .slice G7 c2.grey.length ng7, .string ⟨c2.at_.toArray⟩] from fun W h => ⟨hS9.below h, hC9.below h⟩)
 have HO9 := Lib.hid (ho7.below hb79)
 have HL9 := Lib.hid (zb hl7 hb79)
 have HBQ := Lib.hid hbq
 have HB19 := Lib.hid hb19
 clear hw9 hgs hS9 hC9 ho7 hl7 hr7 hc7 hb7 hb79 hbq hb19 HBP
 repeat' ((fail_if_success (with_reducible refine zl 8 ?_)); (fail_if_success (with_reducible refine zi 8 ?_)); (fail_if_success (with_reducible refine zg 8 ?_)); (fail_if_success (with_reducible refine zk 8 ?_)); (fail_if_success (with_reducible refine zh 8 ?_)); (fail_if_success (with_reducible refine zj 8 ?_)); (fail_if_success at_builtin); (fail_if_success at_make); (first | go_values | go_skip | go_guarded | go_step | go_upon | go_back))
 rw [← HW9.out, ← HGQ.out]
 clear HW9
 by_cases hz : z = 0
 rotate_left
 ·have hz1 : ((z : Int) != 0) = true := by rw [bne_iff_ne]; omega
  have HZ := Lib.hid hz
  clear hz
  have hR := (HPX.out _ HB19.out).2
  have y0 := hR.cell (k := 0) rfl
  have y1 := hR.cell (k := 1) rfl
  have y2 := hR.cell (k := 2) rfl
  have y3 := hR.cell (k := 3) rfl
  have y4 := hR.cell (k := 4) rfl
  have y5 := hR.cell (k := 5) rfl
  have y6 := hR.cell (k := 6) rfl
  have y7 := hR.cell (k := 7) rfl
  have f0 := hR.frozen 0
  have f1 := hR.frozen 1
  have f2 := hR.frozen 2
  have f3 := hR.frozen 3
  have f4 := hR.frozen 4
  have f5 := hR.frozen 5
  have f6 := hR.frozen 6
  have f7 := hR.frozen 7
  have HFN := Lib.hid (hR.all8 (.slice none 0 0) (.slice none 0 0) (.int .i64 0) (.int .i64 0) (.int .i64 0) (.slice none 0 0) (.string ⟨#[]⟩) (.slice none 0 0))
  have HB9 := Lib.hid (zy (HBX.out.trans (Below.mono HB19.out (by omega))) (show gb ≤ gb + 1 by omega) (.slice none 0 0) (.slice none 0 0) (.int .i64 0) (.int .i64 0) (.int .i64 0) (.slice none 0 0) (.string ⟨#[]⟩) (.slice none 0 0))
  clear hR
  repeat' (fail_if_success (first|at_builtin|at_make));first|go_values|go_skip|go_guarded|go_step|go_upon|go_back
  refine bodyPost_ret (qc rfl _ _ (gb + 1) _ _ _ _ (by rfl) HFN.out Tryz.underlying58 rfl (by kernel_rfl)) rfl ?_
  rw [if_neg HZ.out]
  exact ⟨_, _, _, _, rfl, OwLo.nil_, HB9.out⟩
 subst hz
 have HFC := Lib.hid (fun W (h : Below w9.heap.size w9 W) => qG F cF fs W (by omega) (fun p hp => by have := (HG.out.f.all p hp).2.1; omega) (HRD.out W (HB19.out.trans (h.mono HB19.out.size))).f (HRD.out W (HB19.out.trans (h.mono HB19.out.size))).fc)
 have HZ9 := Lib.hid (HBX.out.trans (HB19.out.mono (show gb ≤ w1.heap.size by omega)))
 have HRR := Lib.hid (HPX.out _ HB19.out).2
 have hs9 : wE.heap.size ≤ w9.heap.size := HBQ.out.size
 have HSB := Lib.hid (show ∀ W, Below w9.heap.size w9 W → (W.cell? ⟨gb, 0, none⟩ = some (.slice X s.blobs.length cX) ∧ W.cell? ⟨gb, 1, none⟩ = some (.slice Y s.ents.length dY) ∧ W.cell? ⟨gb, 2, none⟩ = some (.int .i64 (s.room : Int)) ∧ W.cell? ⟨gb, 3, none⟩ = some (.int .i64 (s.clock : Int)) ∧ W.cell? ⟨gb, 4, none⟩ = some (.int .i64 (co.phase : Int)) ∧ W.cell? ⟨gb, 5, none⟩ = some (.slice G co.grey.length ng) ∧ W.cell? ⟨gb, 6, none⟩ = some (.string ⟨co.at_.toArray⟩) ∧ W.cell? ⟨gb, 7, none⟩ = some (.slice F fs.length cF)) ∧ (W.cell? ⟨gs, 0, none⟩ = some (.slice X7 t.blobs.length cX7) ∧ W.cell? ⟨gs, 1, none⟩ = some (.slice Y7 t.ents.length dY7) ∧ W.cell? ⟨gs, 2, none⟩ = some (.int .i64 (t.room : Int)) ∧ W.cell? ⟨gs, 3, none⟩ = some (.int .i64 (t.clock : Int))) ∧ (W.cell? ⟨gs + 1, 0, none⟩ = some (.int .i64 (c2.phase : Int)) ∧ W.cell? ⟨gs + 1, 1, none⟩ = some (.slice G7 c2.grey.length ng7) ∧ W.cell? ⟨gs + 1, 2, none⟩ = some (.string ⟨c2.at_.toArray⟩)) from fun W h => by
  have h1 := (HPX.out W (HB19.out.trans (h.mono HB19.out.size))).1
  obtain ⟨h2, h3⟩ := HSC.out W h
  exact ⟨⟨h1.cell (k := 0) rfl, h1.cell (k := 1) rfl, h1.cell (k := 2) rfl, h1.cell (k := 3) rfl, h1.cell (k := 4) rfl, h1.cell (k := 5) rfl, h1.cell (k := 6) rfl, h1.cell (k := 7) rfl⟩, ⟨h2.cell (k := 0) rfl, h2.cell (k := 1) rfl, h2.cell (k := 2) rfl, h2.cell (k := 3) rfl⟩, h3.cell (k := 0) rfl, h3.cell (k := 1) rfl, h3.cell (k := 2) rfl⟩)
 repeat' (fail_if_success (first|at_builtin|at_make));first|go_values|go_skip|go_guarded|go_step|go_upon|go_back
 apply qp
 intro REST
 refine zv [6] (S := (fun w' => (w'.cell? ⟨gb, 0, none⟩ = some (.slice X s.blobs.length cX) ∧ w'.cell? ⟨gb, 1, none⟩ = some (.slice Y s.ents.length dY) ∧ w'.cell? ⟨gb, 2, none⟩ = some (.int .i64 (s.room : Int)) ∧ w'.cell? ⟨gb, 3, none⟩ = some (.int .i64 (s.clock : Int)) ∧ w'.cell? ⟨gb, 4, none⟩ = some (.int .i64 (co.phase : Int)) ∧ w'.cell? ⟨gb, 5, none⟩ = some (.slice G co.grey.length ng) ∧ w'.cell? ⟨gb, 6, none⟩ = some (.string ⟨co.at_.toArray⟩) ∧ w'.cell? ⟨gb, 7, none⟩ = some (.slice F fs.length cF)) ∧ (w'.cell? ⟨gs, 0, none⟩ = some (.slice X7 t.blobs.length cX7) ∧ w'.cell? ⟨gs, 1, none⟩ = some (.slice Y7 t.ents.length dY7) ∧ w'.cell? ⟨gs, 2, none⟩ = some (.int .i64 (t.room : Int)) ∧ w'.cell? ⟨gs, 3, none⟩ = some (.int .i64 (t.clock : Int))) ∧ (w'.cell? ⟨(gs + 1), 0, none⟩ = some (.int .i64 (c2.phase : Int)) ∧ w'.cell? ⟨(gs + 1), 1, none⟩ = some (.slice G7 c2.grey.length ng7) ∧ w'.cell? ⟨(gs + 1), 2, none⟩ = some (.string ⟨c2.at_.toArray⟩)))) (by kernel_rfl) ?_ (fun hHeld => ?_)
 ·exact HSB.out _ (((Below.refl w9.heap.size w9)).drew)
 have hB := ((Below.refl w9.heap.size w9)).drew
 have hz := HZ9.out.drew
 have hR := HRR.out.below (Below.refl w9.heap.size w9).drew
 have ho := HO9.out.below (Below.refl w9.heap.size w9).drew
 have hl := zb HL9.out (Below.refl w9.heap.size w9).drew
 generalize w9.drew = wn0 at *
 refine tkU 0 ?_
 try simp only [sqP]
 refine tkU 1 ?_
 try simp only [sqP]
 refine tkP 2 ?_
 try simp only [sqP]
 refine tkU 3 ?_
 try simp only [sqP]
 refine za (rs := [4]) (by kernel_rfl) (by simp) ?_
 refine z8.cons (o := _) rfl (fun K hK => ?_) ?_
 ·
  go_simp
  refine (HFC.out wn0 hB).mono ?_
  rintro e5 w5 ⟨v5, rfl, hz5, hb5⟩
  obtain ⟨A6, c6, rfl, -, -⟩ := hz5.fls
  dsimp only
  refine ku hK ?_ (fun W => Below w9.heap.size w9 W ∧ Arr W (gb + 1) 58 [.slice none 0 0, .slice none 0 0, .int .i64 0, .int .i64 0, .int .i64 0, .slice none 0 0, .string ⟨#[]⟩, .slice none 0 0] ∧ Below gb w W ∧ OwSt W wE.heap.size (.slice X7 t.blobs.length cX7) (.slice Y7 t.ents.length dY7) t (fun b => b < wE.heap.size) ∧ W.ownsRow wE.heap.size 9 1 (.slice G7 c2.grey.length ng7) c2.grey.length (strs c2.grey) ∧ FlsO W w9.heap.size (.slice A6 fs.length c6) fs) (fun W => True) ?_ ?_ (fun wn1 hHeld2 hF _ => ?_)
  ·exact HSB.out _ ((hB.trans (hb5.mono hB.size)))
  ·exact ⟨hB.trans (hb5.mono hB.size), hR.below hb5, hz.trans (hb5.mono (Nat.le_trans (show gb ≤ w9.heap.size by omega) hB.size)), ho.below hb5, zb hl hb5, hz5.lower hB.size⟩
  ·trivial
  clear hl ho hz hR hB hHeld
  have hHeld := hHeld2
  clear hHeld2
  obtain ⟨hB, hR, hz, ho, hl, hf⟩ := hF
  clear hb5 hz5
  clear hK K
  try simp only [sqP]
  refine tkP 5 ?_
  try simp only [sqP]
  refine za (rs := [6]) (by kernel_rfl) (by simp) ?_
  refine z8.store (o := _) rfl (by rfl) (fun K hK => ?_) ?_
  ·
   have z0 := hR.cell (k := 0) rfl
   have f0 := hR.frozen 0
   have z1 := hR.cell (k := 1) rfl
   have f1 := hR.frozen 1
   have z2 := hR.cell (k := 2) rfl
   have f2 := hR.frozen 2
   have z3 := hR.cell (k := 3) rfl
   have f3 := hR.frozen 3
   have z4 := hR.cell (k := 4) rfl
   have f4 := hR.frozen 4
   have z5 := hR.cell (k := 5) rfl
   have f5 := hR.frozen 5
   have z6 := hR.cell (k := 6) rfl
   have f6 := hR.frozen 6
   have z7 := hR.cell (k := 7) rfl
   have f7 := hR.frozen 7
   go_simp
   clear z0 f0 z1 f1 z2 f2 z3 f3 z4 f4 z5 f5 z6 f6 z7 f7
   refine Y5 hK (fun W => Arr W (gb + 1) 58 [.slice X7 t.blobs.length cX7, .slice Y7 t.ents.length dY7, .int .i64 (t.room : Int), .int .i64 (t.clock : Int), .int .i64 (c2.phase : Int), .slice G7 c2.grey.length ng7, .string ⟨c2.at_.toArray⟩, (.slice A6 fs.length c6)] ∧ Below gb w W ∧ OwSt W wE.heap.size (.slice X7 t.blobs.length cX7) (.slice Y7 t.ents.length dY7) t (fun b => b < wE.heap.size) ∧ W.ownsRow wE.heap.size 9 1 (.slice G7 c2.grey.length ng7) c2.grey.length (strs c2.grey) ∧ FlsO W w9.heap.size (.slice A6 fs.length c6) fs) (fun W => True) ?_ ?_ (fun wn2 hF _ => ?_)
   ·exact ⟨hR.all8 _ _ _ _ _ _ _ _, zy hz (show gb ≤ gb + 1 by omega) _ _ _ _ _ _ _ _, ho.set8N (show gb + 1 < wE.heap.size by omega) (ho.nb hR (by decide) (by decide)).1 (ho.nb hR (by decide) (by decide)).2 _ _ _ _ _ _ _ _, zM hl (zm hl hR (by decide)) _ _ _ _ _ _ _ _, hf.set8 hR (by decide) (by decide) _ _ _ _ _ _ _ _⟩
   ·trivial
   clear hf hl ho hz hR hB hHeld
   obtain ⟨hR, hz, ho, hl, hf⟩ := hF
   skip
   clear hK K
   try simp only [sqP]
   refine tkP 7 ?_
   try simp only [sqP]
   refine zN (by kernel_rfl) ?_ _
   try dsimp only [Exit.then]
   have hall := And.intro hR (And.intro hz (And.intro ho (And.intro hl hf)))
   clear hf hl ho hz hR
   generalize wn2 = wz at hall ⊢
   revert hall
   revert wz
   revert c6
   revert A6
   exact REST.out
  exact z8.nil
 exact z8.nil
 intro A6 c6 wz hall
 obtain ⟨hR, hz, ho, hl, hf⟩ := hall
 repeat' (fail_if_success (first|at_builtin|at_make));first|go_values|go_skip|go_guarded|go_step|go_upon|go_back
 have hbE : gb ≤ wE.heap.size := by omega
 have hb9 : gb ≤ w9.heap.size := by omega
 refine bodyPost_ret (qc rfl _ _ (gb + 1) _ _ _ _ (by rfl) hR Tryz.underlying58 rfl (by kernel_rfl)) rfl ?_
 rw [if_pos rfl]
 exact ⟨_, _, _, _, rfl, ⟨(ho.lower hbE).mono (fun b hb => by omega), zd hl hbE, hf.lower hb9⟩, hz⟩
theorem jO (p : LoW) (l : LoP) (key : List UInt8) (w : World) (hg : GoodL l) (hr : RdLo w p l) :
  Calls Tryz.prog 37 #[loV p l, .string ⟨key.toArray⟩] w fun e w' => ∃ v1 v2 v3 v4 u, e = .returned (.tuple #[QD v1 v2 v3 v4 (kV l key).1, u, .int .i64 ((kV l key).2.2 : Int)]) ∧ OwLo w' w.heap.size v1 v2 v3 v4 (kV l key).1 (fun b => b < w.heap.size) ∧ w'.ownsRow w.heap.size 3 1 u (kV l key).2.1.length (ins (kV l key).2.1) ∧ Below w.heap.size w w' := by
 have h := Zq p l key w hg hr (kT l.fs key).1 (kT l.fs key).2.1 (kT l.fs key).2.2 rfl
 unfold kV
 by_cases hq : (kT l.fs key).2.2 = 0
 ·simp only [if_pos hq] at h ⊢
  rw [hq] at h
  exact h
 ·simp only [if_neg hq] at h ⊢
  exact h
theorem Ke (p : LoW) (l : LoP) (key : List UInt8) (ps : List PartP) (PA : Option Addr) (pc : Nat) (w : World) (hg : GoodL l) (hr : RdLo w p l) (hk : hexC key = 0) (hpz : chk ps = 0) (hclk : l.st.clock < 1099511627776) (hlen : l.st.ents.length < 10) (hP : Sl w 3 PA ps.length pc (pcs ps)) :
  Calls Tryz.prog 44 #[loV p l, .string ⟨key.toArray⟩, .slice PA ps.length pc] w fun e w' => ∃ v1 v2 v3 v4 u, e = .returned (.tuple #[QD v1 v2 v3 v4 (yX l key ps).1, u, .int .i64 ((yX l key ps).2.2 : Int)]) ∧ OwLo w' w.heap.size v1 v2 v3 v4 (yX l key ps).1 (fun b => b < w.heap.size) ∧ w'.ownsRow w.heap.size 3 1 u (yX l key ps).2.1.length (ins (yX l key ps).2.1) ∧ Below w.heap.size w w' := by
 have h := Kb p l key ps PA pc w hg hr hk hpz hclk hlen hP (kT l.fs key).1 (kT l.fs key).2.1 (kT l.fs key).2.2 rfl (zU l.st l.co key ps).1 (zU l.st l.co key ps).2.1 (zU l.st l.co key ps).2.2 rfl _ rfl
 unfold yX
 by_cases hq : (kT l.fs key).2.2 = 0
 ·by_cases hz : (zU l.st l.co key ps).2.2 = 0
  ·rw [decide_eq_true ⟨hq, hz⟩] at h
   simp only [if_pos hq, if_pos hz, if_true] at h ⊢
   rw [hz] at h
   exact h
  ·rw [decide_eq_false (fun x => hz x.2)] at h
   simp only [if_pos hq, if_neg hz, Bool.false_eq_true, if_false] at h ⊢
   exact h
 ·rw [decide_eq_false (fun x => hq x.1)] at h
  simp only [if_neg hq, Bool.false_eq_true, if_false] at h ⊢
  exact h
theorem Zz (p : LoW) (l : LoP) (key : List UInt8) (ps : List PartP) (PA : Option Addr) (pc : Nat) (w : World) (hg : GoodL l) (hr : RdLo w p l) (hk : hexC key = 0) (hpz : chk ps = 0) (hclk : l.st.clock < 1099511627776) (hlen : l.st.ents.length < 10) (hP : Sl w 3 PA ps.length pc (pcs ps)) :
  Calls Tryz.prog 40 #[loV p l, .string ⟨key.toArray⟩, .slice PA ps.length pc] w fun e w' => ∃ v1 v2 v3 v4, e = .returned (.tuple #[QD v1 v2 v3 v4 (Zf l key ps).1, .int .i64 ((Zf l key ps).2 : Int)]) ∧ OwLo w' w.heap.size v1 v2 v3 v4 (Zf l key ps).1 (fun b => b < w.heap.size) ∧ Below w.heap.size w w' := by
 unfold Zf
 cases hf : fnd 0 l.fs key with
 | some i =>
  refine (Qk p l key PA ps.length pc w hg hr i hf).mono ?_
  rintro e w' ⟨he, hb⟩
  exact ⟨_, _, _, _, he, OwLo.nil_, hb⟩
 | none =>
  have h := YK p l key ps PA pc w hg hr hk hpz hclk hlen hP hf (zU l.st l.co key ps).1 (zU l.st l.co key ps).2.1 (zU l.st l.co key ps).2.2 rfl
  simp only [Option.isSome_none, Bool.false_eq_true, if_false]
  by_cases hz : (zU l.st l.co key ps).2.2 = 0
  ·simp only [if_pos hz] at h ⊢
   rw [hz] at h
   exact h
  ·simp only [if_neg hz] at h ⊢
   exact h
end Go.Proofs.YtpbacomdoddhdaaGreat
