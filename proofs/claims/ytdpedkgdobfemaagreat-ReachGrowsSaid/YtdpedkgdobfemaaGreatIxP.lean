/- index.Find, index.Put. Conditions: entries that may be. -/
import Derived.Test.YtdpedkgdobfemaaGreatBsf
import Derived.Test.YtdpedkgdobfemaaGreatBsL
import Derived.Test.YtdpedkgdobfemaaGreatChk
import Derived.Test.YtdpedkgdobfemaaGreatCpy
import Derived.Test.YtdpedkgdobfemaaGreatNxt
import Derived.Test.YtdpedkgdobfemaaGreatDel4
namespace Go.Proofs.YtdpedkgdobfemaaGreat
open Go.RowKit
set_option linter.unusedVariables false
set_option linter.unusedSimpArgs false
set_option maxRecDepth 100000

theorem FndE_tells (gk : Nat) (d : List UInt8) (l : List EntP) (w : World) (hk : w.cell? ⟨gk, 0, none⟩ = some (.string ⟨d.toArray⟩)) (hg : gk < w.heap.size) : TellsE w l 112 (.pointer (some ⟨gk, 0, none⟩)) (fun b => b.key == d) := by
  refine ⟨fun _ _ => by kernel_rfl, fun b B cb W hb hbel hs => ?_⟩
  have hg1 : gk < W.heap.size := Nat.lt_of_lt_of_le hg hbel.size
  have hk0 : W.cell? ⟨gk, 0, none⟩ = some (.string ⟨d.toArray⟩) := (hbel.cell (p := ⟨gk, 0, none⟩) hg).trans hk
  generalize hs1 : (⟨b.key.toArray⟩ : ByteArray) = s
  generalize hs2 : (⟨d.toArray⟩ : ByteArray) = t at hk0
  have hst : (b.key == d) = (s.toList == t.toList) := by
    rw [← hs1, ← hs2, ByteArray.toList_eq, ByteArray.toList_eq]
  dsimp only
  rw [hst]
  have hb1 := (Below.refl W.heap.size W).alloc (Nat.le_refl _) (.cells #[.string s, .slice B b.parts.length cb, .int .i64 (b.pins : Int), (.int .i64 (b.stamp : Int))] 32)
  have hk1 : (W.alloc (.cells #[.string s, .slice B b.parts.length cb, .int .i64 (b.pins : Int), (.int .i64 (b.stamp : Int))] 32)).cell? ⟨gk, 0, none⟩ = some (.string t) := (World.cell?_alloc_lt W _ ⟨gk, 0, none⟩ hg1).trans hk0
  clear hst hs1 hs2
  go_enter Tryz.func112, Tryz.ntmps112
  repeat' ((fail_if_success at_builtin); (fail_if_success at_make); (first | go_values | go_skip | go_guarded | go_step | go_upon | go_back))
  go_ret
  exact ⟨rfl, hb1⟩
theorem FindE_ok (A : Option Addr) (c : Nat) (l : List EntP) (d : List UInt8) (w : World) (hl : l.length ≤ 1000000) (hA : Rw EntS w A l) :
    Calls Tryz.prog 60 #[.slice A l.length c, .string ⟨d.toArray⟩] w fun e w' => e = .returned (fndR (l.findIdx? (fun x => x.key == d))) ∧ Below w.heap.size w w' := by
  obtain ⟨s, hs⟩ : ∃ s : ByteArray, s = ⟨d.toArray⟩ := ⟨_, rfl⟩
  rw [← hs]
  have hA1 := Arr.new w 9 [.string s]
  have hb1 := (Below.refl w.heap.size w).alloc (Nat.le_refl _) (.cells #[.string s] 9)
  have hA1' : Arr (w.alloc (.cells #[.string s] 9)) w.heap.size 9 [.string s] := hA1
  have hk := hA1'.cell (k := 0) rfl
  have HI := IdxE_ok A c l _ (.pointer (some ⟨w.heap.size, 0, none⟩)) (fun x => x.key == d) (w.alloc (.cells #[.string s] 9)) hl (hA.below hb1) (FndE_tells w.heap.size d l _ (by rw [hk, hs]) hA1'.lt)
  clear hs hA hA1 hA1' hk
  cases hf : l.findIdx? (fun x => x.key == d) with
  | none =>
    rw [hf] at HI
    have HI := Lib.hid HI
    go_enter Tryz.func60, Tryz.ntmps60
    repeat' ((fail_if_success at_builtin); (fail_if_success at_make); (first | go_values | go_skip | go_guarded | go_step | go_upon | go_back))
    refine ((HI.out)).mono ?_; rintro e_ w2 ⟨rfl, hb2⟩; dsimp only
    have hb12 := hb1.trans (hb2.mono hb1.size)
    repeat' ((fail_if_success at_builtin); (fail_if_success at_make); (first | go_values | go_skip | go_guarded | go_step | go_upon | go_back))
    go_ret2
    exact ⟨rfl, hb12⟩
  | some i =>
    rw [hf] at HI
    have HI := Lib.hid HI
    have hi : decide ((i : Int) < 0) = false := decide_eq_false (by omega)
    go_enter Tryz.func60, Tryz.ntmps60
    repeat' ((fail_if_success at_builtin); (fail_if_success at_make); (first | go_values | go_skip | go_guarded | go_step | go_upon | go_back))
    refine ((HI.out)).mono ?_; rintro e_ w2 ⟨rfl, hb2⟩; dsimp only
    have hb12 := hb1.trans (hb2.mono hb1.size)
    repeat' ((fail_if_success at_builtin); (fail_if_success at_make); (first | go_values | go_skip | go_guarded | go_step | go_upon | go_back))
    go_ret2
    exact ⟨rfl, hb12⟩

set_option maxHeartbeats 8000000 in
theorem PutE_ok (A : Option Addr) (c : Nat) (l : List EntP) (x : EntP) (PA : Option Addr) (pc : Nat) (w : World) (hg : GoodE l) (hx : GoodE1 x) (hlen : l.length < 10) (hA : Rw EntS w A l) (hP : Sl w 3 PA x.parts.length pc (pcs x.parts)) :
    Calls Tryz.prog 59 #[.slice A l.length c, .agg #[.string ⟨x.key.toArray⟩, .slice PA x.parts.length pc, .int .i64 (x.pins : Int), .int .i64 (x.stamp : Int)]] w fun e w' =>
      ∃ v, e = .returned (.tuple #[v, .int .i64 0]) ∧ RwX EntS 32 w' w.heap.size v (putE l x) (fun b => b < w.heap.size) ∧ Below w.heap.size w w' := by
  have HGD := Lib.hid (putE_good hg hx hlen)
  have hpl : x.parts.length ≤ 8 := (chk_zero hx.2.1).1
  have hg1 := hg.ris
  obtain ⟨sx, hsx⟩ : ∃ s : ByteArray, s = ⟨x.key.toArray⟩ := ⟨_, rfl⟩
  rw [← hsx]
  have hX : Arr (w.alloc (.cells #[.string sx, .slice PA x.parts.length pc, .int .i64 (x.pins : Int), .int .i64 (x.stamp : Int)] 32)) w.heap.size 32 [.string sx, .slice PA x.parts.length pc, .int .i64 (x.pins : Int), .int .i64 (x.stamp : Int)] := Arr.new w 32 _
  have hb1 := (Below.refl w.heap.size w).alloc (Nat.le_refl _) (.cells #[.string sx, .slice PA x.parts.length pc, .int .i64 (x.pins : Int), .int .i64 (x.stamp : Int)] 32)
  have HC1 := Lib.hid (CheckE_ok A c l _ hg (hA.below hb1))
  have hA1 := hA.below hb1
  have hP1 := hP.below hb1
  have HSX := Lib.hid hsx
  obtain ⟨H, hH⟩ : ∃ H, H = w.heap.size := ⟨_, rfl⟩
  have hlt1 := hX.lt
  rw [← hH] at hX hlt1
  have hgl : l.length ≤ 10 := hg.len
  have HPL := Lib.hid (show ∀ y ∈ l, y.parts.length ≤ 1000000 from fun y hy => by have := (chk_zero (hg.one y hy).2.1).1; omega)
  have HA0 := Lib.hid hA
  clear hg hx hA hP hsx
  go_enter Tryz.func59, Tryz.ntmps59
  repeat' ((fail_if_success at_builtin); (fail_if_success at_make); (first | go_values | go_skip | go_guarded | go_step | go_upon | go_back))
  rw [← hH]
  have HH := Lib.hid hH
  clear hH
  generalize w.alloc (.cells #[.string sx, .slice PA x.parts.length pc, .int .i64 (x.pins : Int), .int .i64 (x.stamp : Int)] 32) = w1 at *
  refine ((HC1.out)).mono ?_; rintro e_ w2 ⟨rfl, hb2⟩; dsimp only
  have hb12 := hb1.trans (hb2.mono hb1.size)
  have hX2 := hX.below hb2
  have hA2 := hA1.below hb2
  have hP2 := hP1.below hb2
  have k0 := hX2.cell (k := 0) rfl
  have HBS := BsE_ok A c l x.key w2 (by omega) hg1 hA2
  rw [← HSX.out] at HBS
  have HBS := Lib.hid HBS
  clear hX hA1 hP1
  repeat' ((fail_if_success at_builtin); (fail_if_success at_make); (first | go_values | go_skip | go_guarded | go_step | go_upon | go_back))
  clear k0
  refine ((HBS.out)).mono ?_; rintro e_ w3 ⟨i, f, rfl, hil, P1, P2, hf, hb3⟩; dsimp only
  have hb13 := hb12.trans (hb3.mono hb12.size)
  have hX3 := hX2.below hb3
  have hA3 := hA2.below hb3
  have hP3 := hP2.below hb3
  have HF := Lib.hid hf
  have HP1 := Lib.hid P1
  have HP2 := Lib.hid P2
  have HG1 := Lib.hid hg1
  have HCP := Lib.hid (CopyE_ok A c l w3 (by omega) (fun y hy => HPL.out y hy) hA3)
  clear hX2 hA2 hP2 hf P1 P2 hg1
  repeat' ((fail_if_success at_builtin); (fail_if_success at_make); (first | go_values | go_skip | go_guarded | go_step | go_upon | go_back))
  refine ((HCP.out)).mono ?_; rintro e_ w4 ⟨g, rfl, hx4, hb4⟩; dsimp only
  have hb14 := hb13.trans (hb4.mono hb13.size)
  have hX4 := hX3.below hb4
  have hP4 := hP3.below hb4
  have hH3 := hX3.lt
  have y1 := hX4.cell (k := 1) rfl
  have HCN := Lib.hid (ClonePart_ok PA x.parts.length pc (pcs x.parts) w4 (by omega) hP4.rd (pcs_one _))
  have hg3 := (hx4.rwo.blk rfl)
  clear hX3 hA3 hP3
  repeat' ((fail_if_success at_builtin); (fail_if_success at_make); (first | go_values | go_skip | go_guarded | go_step | go_upon | go_back))
  clear y1
  refine ((HCN.out)).mono ?_; rintro e_ w5 ⟨v5, rfl, ho5, hb5⟩; dsimp only
  obtain ⟨A5, c5, rfl, hs5, hl5⟩ := OwnSl ho5
  have hX5 := hX4.below hb5
  have hx5 := hx4.below hb5
  have hb15 := hb14.trans (hb5.mono hb14.size)
  have f1 := hX5.frozen 1
  have y1 := hX5.cell (k := 1) rfl
  have hx6 := hx5.set (g := H) (k := 1) hH3 hH3 (.slice A5 x.parts.length c5)
  have hX6 := hX5.set (k := 1) (by simp) (.slice A5 x.parts.length c5)
  have hs6 := hs5.other (g := H) (k := 1) (fun a ha => by have := hl5 a ha; have := hX4.lt; omega) (.slice A5 x.parts.length c5)
  have hb06 := hb15.setCell (p := ⟨H, 1, none⟩) (by rw [← HH.out]; exact Nat.le_refl _) (.slice A5 x.parts.length c5)
  have hsz4 : w4.heap.size ≤ w5.heap.size := hb5.size
  have hgb : g < w4.heap.size := hg3.2
  have hw03 : w.heap.size ≤ w3.heap.size := hb13.size
  have hw34 : w3.heap.size ≤ w4.heap.size := hb4.size
  clear hx4 hx5 hX4 hX5 hP4 ho5 hs5 hb4 hb5 hb15 hb14 hb13
  have hX6' : Arr (w5.setCell ⟨H, 1, none⟩ (.slice A5 x.parts.length c5)) H 32 [.string sx, .slice A5 x.parts.length c5, .int .i64 (x.pins : Int), .int .i64 (x.stamp : Int)] := hX6
  clear hX6
  cases f with
  | true =>
    obtain ⟨hi, he⟩ := HF.out.1 rfl
    have HPE := Lib.hid (show putE l x = l.set i { x with pins := l[i].pins } by
      unfold putE; rw [bs_found (f := fun y : EntP => y.key) HP1.out hi he]
      show l.set i { x with pins := (match l[i]? with | some y => y.pins | none => 0) } = _
      rw [List.getElem?_eq_getElem hi])
    obtain ⟨b, off, B, cb, rfl, hbb, d0, d1, d2, d3, _⟩ := (HA0.out.below hb06).ent_at i hi
    have hi0 : (0 : Int) ≤ (i : Int) := by omega
    have hi1 : (i : Int) < (l.length : Int) := by omega
    clear he
    generalize l[i].pins = pn at *
    have f2 := hX6'.frozen 2
    have y2 := hX6'.cell (k := 2) rfl
    have hX7 : Arr ((w5.setCell ⟨H, 1, none⟩ (.slice A5 x.parts.length c5)).setCell ⟨H, 2, none⟩ (.int .i64 (pn : Int))) H 32 [.string sx, .slice A5 x.parts.length c5, .int .i64 (pn : Int), .int .i64 (x.stamp : Int)] := hX6'.set (k := 2) (by simp) _
    have hx7 := hx6.set (g := H) (k := 2) hH3 hH3 (.int .i64 (pn : Int))
    have hs7 := hs6.other (g := H) (k := 2) (fun a ha => by have := hl5 a ha; omega) (.int .i64 (pn : Int))
    have hb07 := hb06.setCell (p := ⟨H, 2, none⟩) (by rw [← HH.out]; exact Nat.le_refl _) (.int .i64 (pn : Int))
    obtain ⟨ps7, hx7o, hx7l⟩ : ∃ cs, Arr ((w5.setCell ⟨H, 1, none⟩ (.slice A5 x.parts.length c5)).setCell ⟨H, 2, none⟩ (.int .i64 (pn : Int))) g 32 cs ∧ cs.length = l.length * 4 := by
      obtain ⟨ps, _, _, h3, _⟩ := hx7
      obtain ⟨g', cap', cs, e1, _, h4, _, _, h5, _⟩ := own_ex h3 (by omega)
      injection e1 with e11 _ e13
      injection e11 with e11
      injection e11 with e11
      subst e11 e13
      exact ⟨cs, h4, h5⟩
    have q0 := hx7o.cell (k := i * 4) (List.getElem?_eq_getElem (by omega))
    have q1 := hx7o.cell (k := i * 4 + 1) (List.getElem?_eq_getElem (by omega))
    have q2 := hx7o.cell (k := i * 4 + 2) (List.getElem?_eq_getElem (by omega))
    have q3 := hx7o.cell (k := i * 4 + 3) (List.getElem?_eq_getElem (by omega))
    have p0 := hx7o.frozen (i * 4)
    have p1 := hx7o.frozen (i * 4 + 1)
    have p2 := hx7o.frozen (i * 4 + 2)
    have p3 := hx7o.frozen (i * 4 + 3)
    have k0 := hX7.cell (k := 0) rfl
    have k1 := hX7.cell (k := 1) rfl
    have k2 := hX7.cell (k := 2) rfl
    have k3 := hX7.cell (k := 3) rfl
    obtain ⟨hx8, hg8⟩ := hx7.put4 (x := { x with pins := pn }) (u0 := .string sx) (u1 := .slice A5 x.parts.length c5) (u2 := .int .i64 (pn : Int)) (u3 := .int .i64 (x.stamp : Int)) rfl hi ⟨A5, c5, by rw [HSX.out]; rfl, hs7⟩ (fun b hb ⟨a, n', c', hm, e⟩ => by
      simp only [List.mem_cons, List.not_mem_nil, or_false, Value.slice.injEq, reduceCtorEq, false_or] at hm
      have := hl5 a hm.1.symm
      rcases hb with hb | hb <;> omega)
    have hb08 := hb07.grown hg8 hb07.size (fun k hk => by cases hk; exact Nat.le_trans hw03 hg3.1)
    rw [show l.set i { x with pins := pn } = putE l x from HPE.out.symm] at hx8
    have hlen8 : (putE l x).length = l.length := by rw [HPE.out, List.length_set]
    rw [put4] at hx8 hg8 hb08
    clear hx7o hx6 hs6 hX6' hx7 hs7 hb06 hb07 hg8 hX7
    repeat' ((fail_if_success at_builtin); (fail_if_success at_make); (first | go_values | go_skip | go_guarded | go_step | go_upon | go_back))
    clear d0 d1 d2 d3 f2 y2 q0 q1 q2 q3 p0 p1 p2 p3 k0 k1 k2 k3 hx7l
    generalize (((((w5.setCell ⟨H, 1, none⟩ (.slice A5 x.parts.length c5)).setCell ⟨H, 2, none⟩ (.int .i64 (pn : Int))).setCell ⟨g, i * 4, none⟩ (.string sx)).setCell ⟨g, i * 4 + 1, none⟩ (.slice A5 x.parts.length c5)).setCell ⟨g, i * 4 + 2, none⟩ (.int .i64 (pn : Int))).setCell ⟨g, i * 4 + 3, none⟩ (.int .i64 (x.stamp : Int)) = w8 at *
    have HC8 := CheckE_ok (some ⟨g, 0, none⟩) l.length (putE l x) w8 HGD.out (by
      obtain ⟨A', c', e1, _, _, h⟩ := hx8.rwo.rows
      injection e1 with e2
      rw [e2]; exact h)
    rw [hlen8] at HC8
    have HC8 := Lib.hid HC8
    refine ((HC8.out)).mono ?_; rintro e_ w9 ⟨rfl, hb9⟩; dsimp only
    have hx9 := ((hx8.below hb9).lower hw03).wider (N' := fun b => b < w.heap.size) (fun b hb => .inl (Nat.lt_of_lt_of_le hb hw03))
    have hb09 := hb08.trans (hb9.mono hb08.size)
    clear hx8 hb08 hb9
    repeat' ((fail_if_success at_builtin); (fail_if_success at_make); (first | go_values | go_skip | go_guarded | go_step | go_upon | go_back))
    go_ret2
    exact ⟨_, rfl, hx9, hb09⟩
  | false =>
    have hn : ¬ ∃ h : i < l.length, l[i].key = x.key := fun h => by have := HF.out.2 h; cases this
    have HPE := Lib.hid (show putE l x = l.take i ++ x :: l.drop i by
      unfold putE; rw [bs_idx (f := fun y : EntP => y.key) HG1.out HP1.out HP2.out hn]
      exact (bs_srt (f := fun y : EntP => y.key) HG1.out HP1.out HP2.out hn rfl).symm)
    have k0 := hX6'.cell (k := 0) rfl
    have k1 := hX6'.cell (k := 1) rfl
    have k2 := hX6'.cell (k := 2) rfl
    have k3 := hX6'.cell (k := 3) rfl
    clear hn HF
    have hg31 : w3.heap.size ≤ g := hg3.1
    have hz6 : (w5.setCell ⟨H, 1, none⟩ (.slice A5 x.parts.length c5)).heap.size = w5.heap.size := by simp [World.setCell]
    have hV : Arr ((w5.setCell ⟨H, 1, none⟩ (.slice A5 x.parts.length c5)).alloc (.cells #[.string sx, .slice A5 x.parts.length c5, .int .i64 (x.pins : Int), .int .i64 (x.stamp : Int)] 32)) (w5.setCell ⟨H, 1, none⟩ (.slice A5 x.parts.length c5)).heap.size 32 (ecell x A5 c5) := by
      rw [ecell, ← HSX.out]; exact Arr.new (w5.setCell ⟨H, 1, none⟩ (.slice A5 x.parts.length c5)) 32 _
    have hba := (Below.refl (w5.setCell ⟨H, 1, none⟩ (.slice A5 x.parts.length c5)).heap.size (w5.setCell ⟨H, 1, none⟩ (.slice A5 x.parts.length c5))).alloc (Nat.le_refl _) (.cells #[.string sx, .slice A5 x.parts.length c5, .int .i64 (x.pins : Int), .int .i64 (x.stamp : Int)] 32)
    have hx7 := hx6.below hba
    have hs7 := hs6.below hba
    have hb07 := hb06.trans (hba.mono hb06.size)
    have hgsz : g < (w5.setCell ⟨H, 1, none⟩ (.slice A5 x.parts.length c5)).heap.size := (hx6.rwo.blk rfl).2
    have hbs7 : w3.heap.size ≤ ((w5.setCell ⟨H, 1, none⟩ (.slice A5 x.parts.length c5)).alloc (.cells #[.string sx, .slice A5 x.parts.length c5, .int .i64 (x.pins : Int), .int .i64 (x.stamp : Int)] 32)).heap.size := by rw [World.size_alloc]; omega
    clear hx6 hs6 hX6' hba hb06
    repeat' ((fail_if_success at_builtin); (fail_if_success at_make); (first | go_values | go_skip | go_guarded | go_step | go_upon | go_back))
    rw [← hz6]
    clear k0 k1 k2 k3
    generalize hw6 : (w5.setCell ⟨H, 1, none⟩ (.slice A5 x.parts.length c5)) = w6 at *
    clear hw6 hz6
    generalize w6.alloc (.cells #[.string sx, .slice A5 x.parts.length c5, .int .i64 (x.pins : Int), .int .i64 (x.stamp : Int)] 32) = w7 at *
    have HIN := Lib.hid (InsertE_ok l g i x A5 c5 w6.heap.size 1 w7 w3.heap.size (fun b => b < w3.heap.size) hil (by omega) hbs7 hx7 hV ⟨A5, c5, rfl, hs7⟩ (fun b hb hle => by
      obtain ⟨a, e1, e2⟩ := ec_leads hle
      have := hl5 a e1
      rcases hb with hb | hb <;> omega))
    clear hV hx7 hs7 hbs7
    refine ((HIN.out)).mono ?_; rintro e_ w8 ⟨v8, rfl, hx8, hg8⟩; dsimp only
    have hb08 := hb07.grown hg8 hb07.size (fun k hk => by cases hk; exact Nat.le_trans hw03 hg3.1)
    rw [show l.take i ++ x :: l.drop i = putE l x from HPE.out.symm] at hx8
    have hlp : (putE l x).length ≤ 10 := HGD.out.len
    have HCL := Lib.hid (CloneE_ok v8 (putE l x) w8 w3.heap.size _ (by omega) hx8)
    obtain ⟨A8, c8, rfl, _, _, _⟩ := hx8.rwo.rows
    clear hx8 hg8 hb07
    repeat' ((fail_if_success at_builtin); (fail_if_success at_make); (first | go_values | go_skip | go_guarded | go_step | go_upon | go_back))
    refine ((HCL.out)).mono ?_; rintro e_ w9 ⟨v9, rfl, hx9, hb9⟩; dsimp only
    have hb09 := hb08.trans (hb9.mono hb08.size)
    have hw8 : w.heap.size ≤ w8.heap.size := hb08.size
    obtain ⟨A9, c9, rfl, _, _, hR9⟩ := hx9.rwo.rows
    have HC8 := Lib.hid (CheckE_ok A9 c9 (putE l x) w9 HGD.out hR9)
    clear hb9 hb08 hR9
    repeat' ((fail_if_success at_builtin); (fail_if_success at_make); (first | go_values | go_skip | go_guarded | go_step | go_upon | go_back))
    refine ((HC8.out)).mono ?_; rintro e_ w10 ⟨rfl, hb10⟩; dsimp only
    have hx10 := ((hx9.below hb10).lower hw8).wider (N' := fun b => b < w.heap.size) (fun b hb => .inl (Nat.lt_of_lt_of_le hb hw03))
    have hb010 := hb09.trans (hb10.mono hb09.size)
    clear hx9 hb09 hb10
    repeat' ((fail_if_success at_builtin); (fail_if_success at_make); (first | go_values | go_skip | go_guarded | go_step | go_upon | go_back))
    go_ret2
    exact ⟨_, rfl, hx10, hb010⟩
end Go.Proofs.YtdpedkgdobfemaaGreat
