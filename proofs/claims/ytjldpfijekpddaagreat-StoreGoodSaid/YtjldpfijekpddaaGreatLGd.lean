/- StoreGood walked. Conditions: the slice's size. -/
import Derived.Test.YtjldpfijekpddaaGreatLCm
namespace Go.Proofs.YtjldpfijekpddaaGreat
open Go.RowKit
set_option linter.unusedVariables false
set_option linter.unusedSimpArgs false
set_option maxRecDepth 100000

def zS : StoP := ⟨[], [], 0, 0⟩
theorem zS_own (w : World) (base : Nat) (N : Nat → Prop) : OwSt w base (.slice none 0 0) (.slice none 0 0) zS N :=
  ⟨RwX.nil_ (World.ownsRow_nil _ _ _ _), RwX.nil_ (World.ownsRow_nil _ _ _ _), fun g e => by cases e⟩
/-- a store in a box, and what was answered beside it -/
structure Bx (W : World) (g : Nat) (A : Option Addr) (c : Nat) (B : Option Addr) (d : Nat) (x : StoP) (q : Nat) : Prop where
  box : Arr W g 28 [.slice A x.blobs.length c, .slice B x.ents.length d, .int .i64 (x.room : Int), .int .i64 (x.clock : Int)]
  rd : RdSt W A c B d x
  ok : q = 0 → GoodS x
theorem Bx.below {W W' : World} {g c d q : Nat} {A B : Option Addr} {x : StoP} (h : Bx W g A c B d x q) (hb : Below W.heap.size W W') : Bx W' g A c B d x q := ⟨h.box.below hb, h.rd.below hb, h.ok⟩
theorem PutBlobG (A : Option Addr) (c : Nat) (B : Option Addr) (d : Nat) (s : StoP) (D : List UInt8) (DA : Option Addr) (dc : Nat) (w : World) (hf : Fits s D) (hr : RdSt w A c B d s) (hD : Sl w 1 DA D.length dc (bys D)) :
    Calls Tryz.prog 24 #[.agg #[.slice A s.blobs.length c, .slice B s.ents.length d, .int .i64 (s.room : Int), .int .i64 (s.clock : Int)], .slice DA D.length dc] w fun e w' =>
      ∃ A' c' B' d' x q, e = .returned (.tuple #[.agg #[.slice A' x.blobs.length c', .slice B' x.ents.length d', .int .i64 (x.room : Int), .int .i64 (x.clock : Int)], .string ⟨(shaS D).toArray⟩, .int .i64 ((q : Nat) : Int)]) ∧ OwSt w' w.heap.size (.slice A' x.blobs.length c') (.slice B' x.ents.length d') x (fun b => b < w.heap.size) ∧ (q = 0 → GoodS x) ∧ Below w.heap.size w w' :=
  (PutBlobF_ok A c B d s D DA dc w hf hr hD).mono fun e w' ⟨A', c', B', d', h1, h2, h3⟩ => ⟨A', c', B', d', putBS s D, 0, h1, h2, fun _ => hf.good, h3⟩
theorem GetG (A : Option Addr) (c : Nat) (B : Option Addr) (d : Nat) (s : StoP) (key : List UInt8) (w : World) (hg : GoodS s) (hr : RdSt w A c B d s) (hclk : s.clock < 1099511627776) :
    Calls Tryz.prog 29 #[.agg #[.slice A s.blobs.length c, .slice B s.ents.length d, .int .i64 (s.room : Int), .int .i64 (s.clock : Int)], .string ⟨key.toArray⟩] w fun e w' =>
      ∃ A' c' B' d' x q v3, e = .returned (.tuple #[.agg #[.slice A' x.blobs.length c', .slice B' x.ents.length d', .int .i64 (x.room : Int), .int .i64 (x.clock : Int)], v3, .int .i64 ((q : Nat) : Int)]) ∧ OwSt w' w.heap.size (.slice A' x.blobs.length c') (.slice B' x.ents.length d') x (fun b => b < w.heap.size) ∧ (q = 0 → GoodS x) ∧ Below w.heap.size w w' := by
  by_cases h : ∃ x ∈ s.ents, x.key = key
  · obtain ⟨x, hx, hk⟩ := h
    obtain ⟨i, hi, rfl⟩ := List.mem_iff_getElem.1 hx
    refine (GetSF_ok A c B d s _ key _ i w hg hr hi hk rfl hclk rfl).mono fun e w' ⟨A', c', B', d', A5, c5, h1, h2, _, h3⟩ => ?_
    exact ⟨A', c', B', d', _, 0, _, h1, h2, fun _ => getS_good hg hi hclk, h3⟩
  · refine (GetS_none A c B d s key w hg hr (fun b hb e => h ⟨b, hb, e⟩)).mono fun e w' ⟨h1, h3⟩ => ?_
    exact ⟨none, 0, none, 0, zS, 5, _, h1, zS_own _ _ _, (fun e => by cases e), h3⟩
theorem HoldBG (A : Option Addr) (c : Nat) (B : Option Addr) (d : Nat) (s : StoP) (key : List UInt8) (up : Bool) (w : World) (hg : GoodS s) (hr : RdSt w A c B d s) :
    Calls Tryz.prog 20 #[.agg #[.slice A s.blobs.length c, .slice B s.ents.length d, .int .i64 (s.room : Int), .int .i64 (s.clock : Int)], .string ⟨key.toArray⟩, .bool up] w fun e w' =>
      ∃ A' c' B' d' x q, e = .returned (.tuple #[.agg #[.slice A' x.blobs.length c', .slice B' x.ents.length d', .int .i64 (x.room : Int), .int .i64 (x.clock : Int)], .int .i64 ((q : Nat) : Int)]) ∧ OwSt w' w.heap.size (.slice A' x.blobs.length c') (.slice B' x.ents.length d') x (fun b => b < w.heap.size) ∧ (q = 0 → GoodS x) ∧ Below w.heap.size w w' := by
  by_cases h : ∃ x ∈ s.blobs, x.dig = key
  · obtain ⟨x, hx, hk⟩ := h
    obtain ⟨i, hi, rfl⟩ := List.mem_iff_getElem.1 hx
    by_cases hm : if up then s.blobs[i].pins < 5 else 0 < s.blobs[i].pins ∧ s.blobs[i].pins ≤ 5
    · refine (HoldB_ok A c B d s key up i w hg hr hi hk hm).mono fun e w' ⟨v1, v2, h1, h2, h3⟩ => ?_
      obtain ⟨A', c', B', d', e1, e2, _⟩ := h2.rows
      subst e1 e2
      exact ⟨A', c', B', d', _, 0, h1, h2, fun _ => holdBS_good hg hi (mv_le hm), h3⟩
    · have h5 : s.blobs[i].pins ≤ 5 := (hg.b.one _ (List.getElem_mem hi)).2.2
      refine (HoldB_no A c B d s key up i w hg hr hi hk (by cases up <;> simp at hm ⊢ <;> omega)).mono fun e w' ⟨h1, h3⟩ => ?_
      exact ⟨none, 0, none, 0, zS, noE up, h1, zS_own _ _ _, (fun e => by cases up <;> cases e), h3⟩
  · refine (HoldB_none A c B d s key up w hg hr (fun b hb e => h ⟨b, hb, e⟩)).mono fun e w' ⟨h1, h3⟩ => ?_
    exact ⟨none, 0, none, 0, zS, 5, h1, zS_own _ _ _, (fun e => by cases e), h3⟩
theorem HoldEG (A : Option Addr) (c : Nat) (B : Option Addr) (d : Nat) (s : StoP) (key : List UInt8) (up : Bool) (w : World) (hg : GoodS s) (hr : RdSt w A c B d s) :
    Calls Tryz.prog 22 #[.agg #[.slice A s.blobs.length c, .slice B s.ents.length d, .int .i64 (s.room : Int), .int .i64 (s.clock : Int)], .string ⟨key.toArray⟩, .bool up] w fun e w' =>
      ∃ A' c' B' d' x q, e = .returned (.tuple #[.agg #[.slice A' x.blobs.length c', .slice B' x.ents.length d', .int .i64 (x.room : Int), .int .i64 (x.clock : Int)], .int .i64 ((q : Nat) : Int)]) ∧ OwSt w' w.heap.size (.slice A' x.blobs.length c') (.slice B' x.ents.length d') x (fun b => b < w.heap.size) ∧ (q = 0 → GoodS x) ∧ Below w.heap.size w w' := by
  by_cases h : ∃ x ∈ s.ents, x.key = key
  · obtain ⟨x, hx, hk⟩ := h
    obtain ⟨i, hi, rfl⟩ := List.mem_iff_getElem.1 hx
    by_cases hm : if up then s.ents[i].pins < 5 else 0 < s.ents[i].pins ∧ s.ents[i].pins ≤ 5
    · refine (HoldE_ok A c B d s key up i w hg hr hi hk hm).mono fun e w' ⟨v1, v2, h1, h2, h3⟩ => ?_
      obtain ⟨A', c', B', d', e1, e2, _⟩ := h2.rows
      subst e1 e2
      exact ⟨A', c', B', d', _, 0, h1, h2, fun _ => holdES_good hg hi (mv_le hm), h3⟩
    · have h5 : s.ents[i].pins ≤ 5 := (hg.e.one _ (List.getElem_mem hi)).2.2.1
      refine (HoldE_no A c B d s key up i w hg hr hi hk (by cases up <;> simp at hm ⊢ <;> omega)).mono fun e w' ⟨h1, h3⟩ => ?_
      exact ⟨none, 0, none, 0, zS, noE up, h1, zS_own _ _ _, (fun e => by cases up <;> cases e), h3⟩
  · refine (HoldE_none A c B d s key up w hg hr (fun b hb e => h ⟨b, hb, e⟩)).mono fun e w' ⟨h1, h3⟩ => ?_
    exact ⟨none, 0, none, 0, zS, 5, h1, zS_own _ _ _, (fun e => by cases e), h3⟩
set_option maxHeartbeats 4000000 in
theorem GoodC_ok (g : Nat) (A : Option Addr) (c : Nat) (B : Option Addr) (d : Nat) (x : StoP) (q : Nat) (w : World) (h : Bx w g A c B d x q) :
    Calls Tryz.prog 34 #[.agg #[.slice A x.blobs.length c, .slice B x.ents.length d, .int .i64 (x.room : Int), .int .i64 (x.clock : Int)], .int .i64 (q : Int)] w fun e w' => e = .returned (.bool true) ∧ Below w.heap.size w w' := by
  obtain ⟨w0, hw0⟩ : ∃ w0, w0 = w.alloc (.cells #[.slice A x.blobs.length c, .slice B x.ents.length d, .int .i64 (x.room : Int), .int .i64 (x.clock : Int)] 28) := ⟨_, rfl⟩
  have hb0 : Below w.heap.size w w0 := by rw [hw0]; exact (Below.refl _ _).alloc (Nat.le_refl _) _
  by_cases hq : q = 0
  · subst hq
    have hX : Arr w0 w.heap.size 28 [.slice A x.blobs.length c, .slice B x.ents.length d, .int .i64 (x.room : Int), .int .i64 (x.clock : Int)] := by rw [hw0]; exact Arr.new w 28 _
    have x0 := hX.cell (k := 0) rfl
    have x1 := hX.cell (k := 1) rfl
    have x2 := hX.cell (k := 2) rfl
    have x3 := hX.cell (k := 3) rfl
    rw [hw0] at x0 x1 x2 x3
    have HC := Lib.hid (CheckS_ok A c B d x w0 (h.ok rfl) (h.rd.below hb0))
    rw [show ((0 : Nat) : Int) = 0 from rfl]
    clear h hX
    go_enter Tryz.func34, Tryz.ntmps34
    repeat' ((fail_if_success at_builtin); (fail_if_success at_make); (first | go_values | go_skip | go_guarded | go_step | go_upon | go_back))
    rw [← hw0]
    clear hw0 x0 x1 x2 x3
    refine ((HC.out)).mono ?_; rintro e_ w1 ⟨rfl, hb1⟩; dsimp only
    have hb01 := hb0.trans (hb1.mono hb0.size)
    repeat' ((fail_if_success at_builtin); (fail_if_success at_make); (first | go_values | go_skip | go_guarded | go_step | go_upon | go_back))
    go_ret
    exact ⟨rfl, hb01⟩
  · have hne : ((q : Int) != 0) = true := by rw [bne_iff_ne]; omega
    clear h
    go_enter Tryz.func34, Tryz.ntmps34
    repeat' ((fail_if_success at_builtin); (fail_if_success at_make); (first | go_values | go_skip | go_guarded | go_step | go_upon | go_back))
    go_ret
    rw [← hw0]
    exact ⟨rfl, hb0⟩
set_option maxHeartbeats 16000000 in
theorem StoreGood_walk (A : Option Addr) (n c : Nat) (l : List RawP) (r : RawP) (up : Bool) (w : World) (hl : l.length = n) (hc : n ≤ c) (hm : c ≤ maxLen) (hok : ∀ r ∈ l, RawOk r) (hr : Rd w 4 A n (rcs l)) (hro : RawOk r) :
    Calls Tryz.prog 9 #[.slice A n c, rval r, .bool up] w fun e w' => e = .returned (.bool true) ∧ Below w.heap.size w w' := by
  have HSG := Lib.hid (sto_good l)
  have HS7 := Lib.hid (sto7 l)
  have HSC := Lib.hid (sto_clk l)
  obtain ⟨hp1, hp2⟩ := sto_pts l r
  have HP3 := Lib.hid (pts_len (sto l).blobs r)
  obtain ⟨ps, hps⟩ : ∃ ps, ps = ptsOf (sto l).blobs r := ⟨_, rfl⟩
  rw [← hps] at hp1 hp2 HP3
  have HRO := Lib.hid hro
  obtain ⟨D, hD⟩ : ∃ D, D = datL r 60 := ⟨_, rfl⟩
  have hDl : D.length ≤ 60 := by rw [hD]; exact datL_len r 60
  have HF1 := Lib.hid (sto_fits l (D := D) (by omega) (by omega))
  have HDT := Data_ok r 60 60 rfl (by omega) hro
  rw [← hD] at HDT
  have HDT := Lib.hid HDT
  obtain ⟨w0, hw0⟩ : ∃ w0, w0 = w.alloc (.cells #[.int .i64 r.kind, .int .i64 r.a, .int .i64 r.b, .string r.text] 24) := ⟨_, rfl⟩
  have hb0 : Below w.heap.size w w0 := by rw [hw0]; exact (Below.refl _ _).alloc (Nat.le_refl _) _
  obtain ⟨gr, hgr⟩ : ∃ g, g = w.heap.size := ⟨_, rfl⟩
  have hRb : Arr w0 gr 24 [.int .i64 r.kind, .int .i64 r.a, .int .i64 r.b, .string r.text] := by rw [hw0, hgr]; exact Arr.new w 24 _
  have HS := Lib.hid (Store_ok A n c l w0 hl hc hm hok (hr.below hb0))
  rw [← hgr] at hb0 ⊢
  have hgl : gr < w0.heap.size := hRb.lt
  clear hok hl hr hro hD
  generalize hs : sto l = s at *
  have hlb : s.blobs.length ≤ 24 := HSG.out.b.len
  have HPT0 := Lib.hid (fun (Ax : Option Addr) (cx : Nat) (W : World) (h1 : s.blobs.length ≤ cx) (h2 : cx ≤ maxLen) (h3 : Rw BlobS W Ax s.blobs) => Parts_ok Ax cx s.blobs r W (by omega) h1 h2 (fun b hb => by have := (HSG.out.b.one b hb).2.1; omega) h3 HRO.out)
  rw [← hps] at HPT0
  obtain ⟨rk, ra, rb, rt⟩ := r
  unfold rval at HDT ⊢
  dsimp only at HPT0 hRb hw0 HDT
  have HP1 := Lib.hid hp1
  have HP2 := Lib.hid hp2
  clear hs hps hp1 hp2
  go_enter Tryz.func9, Tryz.ntmps9
  repeat' ((fail_if_success at_builtin); (fail_if_success at_make); (first | go_values | go_skip | go_guarded | go_step | go_upon | go_back))
  rw [← hw0, ← hgr]
  clear hw0 hgr
  refine ((HS.out)).mono ?_; rintro e_ w1 ⟨v1, v2, rfl, hb, he, hb1⟩; dsimp only
  obtain ⟨As, cs, rfl, hc1, hc2, hRs⟩ := hb.rows
  obtain ⟨Bs, ds, rfl, hd1, hd2, hEs⟩ := he.rows
  have hrd1 : RdSt w1 As cs Bs ds s := ⟨hRs, hEs, hc1, hc2, hd1, hd2⟩
  have hb01 := hb0.trans (hb1.mono (by omega))
  have hRb1 := hRb.below hb1
  have hba := (Below.refl w1.heap.size w1).alloc (Nat.le_refl _) (.cells #[.slice As s.blobs.length cs, .slice Bs s.ents.length ds, .int .i64 (s.room : Int), .int .i64 (s.clock : Int)] 28)
  have hX' : Arr (w1.alloc (.cells #[.slice As s.blobs.length cs, .slice Bs s.ents.length ds, .int .i64 (s.room : Int), .int .i64 (s.clock : Int)] 28)) w1.heap.size 28 [.slice As s.blobs.length cs, .slice Bs s.ents.length ds, .int .i64 (s.room : Int), .int .i64 (s.clock : Int)] := Arr.new w1 28 _
  have hrd2 := hrd1.below hba
  have hRb2 := hRb1.below hba
  have hb02 := hb01.trans (hba.mono (by have := hb1.size; omega))
  have hg2 : gr < (w1.alloc (.cells #[.slice As s.blobs.length cs, .slice Bs s.ents.length ds, .int .i64 (s.room : Int), .int .i64 (s.clock : Int)] 28)).heap.size := hRb2.lt
  have HKP := Lib.hid (kept_ok (w1.alloc (.cells #[.slice As s.blobs.length cs, .slice Bs s.ents.length ds, .int .i64 (s.room : Int), .int .i64 (s.clock : Int)] 28)))
  clear hb he hRs hEs hba hrd1 hRb hRb1 hb0 hb1 hb01 hc1 hc2 hd1 hd2
  repeat' ((fail_if_success at_builtin); (fail_if_success at_make); (first | go_values | go_skip | go_guarded | go_step | go_upon | go_back))
  generalize w1.alloc (.cells #[.slice As s.blobs.length cs, .slice Bs s.ents.length ds, .int .i64 (s.room : Int), .int .i64 (s.clock : Int)] 28) = w2 at *
  generalize w1.heap.size = gs at *
  refine ((HKP.out)).mono ?_; rintro e_ w3 ⟨rfl, hb3⟩; dsimp only
  have hX3 := hX'.below hb3
  have hrd3 := hrd2.below hb3
  have hRb3 := hRb2.below hb3
  have hb03 := hb02.trans (hb3.mono (Nat.le_of_lt hg2))
  have hg3 : gr < w3.heap.size := hRb3.lt
  have HCK := Lib.hid (CheckS_ok As cs Bs ds s w3 HSG.out hrd3)
  have z0 := hX3.cell (k := 0) rfl
  have z1 := hX3.cell (k := 1) rfl
  have z2 := hX3.cell (k := 2) rfl
  have z3 := hX3.cell (k := 3) rfl
  clear hX' hrd2 hRb2 hb02 hb3 hg2
  repeat' ((fail_if_success at_builtin); (fail_if_success at_make); (first | go_values | go_skip | go_guarded | go_step | go_upon | go_back))
  clear z0 z1 z2 z3
  refine ((HCK.out)).mono ?_; rintro e_ u1 ⟨rfl, hb4⟩; dsimp only
  have hXS := hX3.below hb4
  have hrS := hrd3.below hb4
  have hRw := hRb3.below hb4
  have hbW := hb03.trans (hb4.mono (Nat.le_of_lt hg3))
  have hgr : gr < u1.heap.size := hRw.lt
  obtain ⟨K, hK⟩ : ∃ K, K = keyS (pk ra 7) := ⟨_, rfl⟩
  obtain ⟨sk, hsk⟩ : ∃ x : ByteArray, x = ⟨K.toArray⟩ := ⟨_, rfl⟩
  have HKH := Lib.hid (show hexC K = 0 by rw [hK]; exact hexC_sha _)
  have HKY := Lib.hid (show ∀ W, Calls Tryz.prog 26 #[.int .i64 ra] W fun e w' => e = .returned (.string sk) ∧ Below W.heap.size W w' from fun W => by
    rw [hsk, hK]; exact Key_ok ra W HRO.out.a0 HRO.out.a1)
  have HSK := Lib.hid hsk
  obtain ⟨T, hT⟩ : ∃ T, T = rt.data.toList := ⟨_, rfl⟩
  have HTT := Lib.hid hT.symm
  have hrz : rt.size ≤ 140737488351232 := HRO.out.t
  have HTZ := Lib.hid (show rt.size ≤ maxLen by simp only [maxLen]; omega)
  have HTL := Lib.hid (show T.length ≤ 140737488351232 by rw [hT, Array.length_toList]; exact hrz)
  obtain ⟨L, hL⟩ : ∃ L, L = shaS T := ⟨_, rfl⟩
  obtain ⟨sL, hsL⟩ : ∃ x : ByteArray, x = ⟨L.toArray⟩ := ⟨_, rfl⟩
  have HSL := Lib.hid hsL
  have HLT := Lib.hid hL
  obtain ⟨sd, hsd⟩ : ∃ x : ByteArray, x = ⟨(shaS D).toArray⟩ := ⟨_, rfl⟩
  have HSD := Lib.hid hsd
  clear hX3 hrd3 hRb3 hb03 hb4 hg3 hK hsk hT hL hsL hsd hrz
  have HSB := Lib.hid (show ∀ W, Below u1.heap.size u1 W → (W.cell? ⟨gs, 0, none⟩ = some (.slice As s.blobs.length cs) ∧ W.cell? ⟨gs, 1, none⟩ = some (.slice Bs s.ents.length ds) ∧ W.cell? ⟨gs, 2, none⟩ = some (.int .i64 (s.room : Int)) ∧ W.cell? ⟨gs, 3, none⟩ = some (.int .i64 (s.clock : Int))) ∧ (W.cell? ⟨gr, 0, none⟩ = some (.int .i64 rk) ∧ W.cell? ⟨gr, 1, none⟩ = some (.int .i64 ra) ∧ W.cell? ⟨gr, 2, none⟩ = some (.int .i64 rb) ∧ W.cell? ⟨gr, 3, none⟩ = some (.string rt)) from fun W h =>
    ⟨⟨(hXS.below h).cell (k := 0) rfl, (hXS.below h).cell (k := 1) rfl, (hXS.below h).cell (k := 2) rfl, (hXS.below h).cell (k := 3) rfl⟩, (hRw.below h).cell (k := 0) rfl, (hRw.below h).cell (k := 1) rfl, (hRw.below h).cell (k := 2) rfl, (hRw.below h).cell (k := 3) rfl⟩)
  have hmn := fun W A2 c2 (h : Below u1.heap.size u1 W) (hz : OwnZ W u1.heap.size A2 c2 D) => PutBlobG As cs Bs ds s D A2 c2 W HF1.out (hrS.below h) hz.sl.1
  rw [← HSD.out] at hmn
  have HMN := Lib.hid hmn
  clear hmn
  repeat' ((fail_if_success at_builtin); (fail_if_success at_make); (first | go_values | go_skip | go_guarded | go_step | go_upon | go_back))
  apply share
  intro REST1
  refine wp_region_held_drew (S := (fun w' => (w'.cell? ⟨gs, 0, none⟩ = some (.slice As s.blobs.length cs) ∧ w'.cell? ⟨gs, 1, none⟩ = some (.slice Bs s.ents.length ds) ∧ w'.cell? ⟨gs, 2, none⟩ = some (.int .i64 (s.room : Int)) ∧ w'.cell? ⟨gs, 3, none⟩ = some (.int .i64 (s.clock : Int))) ∧ (w'.cell? ⟨gr, 0, none⟩ = some (.int .i64 rk) ∧ w'.cell? ⟨gr, 1, none⟩ = some (.int .i64 ra) ∧ w'.cell? ⟨gr, 2, none⟩ = some (.int .i64 rb) ∧ w'.cell? ⟨gr, 3, none⟩ = some (.string rt)))) (by kernel_rfl) ?_ (fun hHeld => ?_)
  · exact HSB.out _ (Below.refl _ u1).drew
  have hB := (Below.refl u1.heap.size u1).drew
  generalize u1.drew = wn0 at *
  refine wpAnyH_take (i := 0) (oi := _) (v := ?_) rfl (by kernel_rfl) (by kernel_rfl) (by kernel_rfl) (fun _ _ _ h => h) (Or.inl ⟨by rfl, ?_⟩) (by assumption) ?_
  rotate_left
  · (intro w hSw; (try dsimp only at hSw); go_simp; try (with_reducible rfl))
  try simp only [List.getElem_toArray, List.getElem_cons_zero, List.getElem_cons_succ, Act.put, List.setIfInBounds_toArray, List.set_cons_zero, List.set_cons_succ]
  refine wpAnyH_take (i := 1) (oi := _) (v := ?_) rfl (by kernel_rfl) (by kernel_rfl) (by kernel_rfl) (fun _ _ _ h => h) (Or.inl ⟨by rfl, ?_⟩) (by assumption) ?_
  rotate_left
  · (intro w hSw; (try dsimp only at hSw); go_simp; try (with_reducible rfl))
  try simp only [List.getElem_toArray, List.getElem_cons_zero, List.getElem_cons_succ, Act.put, List.setIfInBounds_toArray, List.set_cons_zero, List.set_cons_succ]
  refine wpAnyH_ready (rs := [2, 8]) (by kernel_rfl) (by simp) ?_
  refine AllReadyH.cons (o := _) rfl (fun K hK => ?_) ?_
  ·
    go_simp
    refine (HDT.out wn0).mono ?_
    rintro e5 w5 ⟨A2, c2, rfl, hz5, hb5⟩
    dsimp only
    refine outG hK ?_ (Below wn0.heap.size wn0) (fun W => OwnZ W u1.heap.size A2 c2 D) ?_ ?_ (fun wn1 hHeld hst hnew => ?_)
    · (exact HSB.out _ (hB.trans (Below.mono (show Below wn0.heap.size wn0 _ from by (first | exact (Below.refl _ _).alloc (Nat.le_refl _) _ | exact hbq | exact hb5 | exact Below.refl _ _)) hB.size)))
    · (first | exact (Below.refl _ _).alloc (Nat.le_refl _) _ | exact hbq | exact hb5 | exact Below.refl _ _)
    · (exact hz5.lower hB.size)
    have hB := hB.trans (hst.mono hB.size)
    have hD := hnew
    clear hnew
    clear hst
    clear hK K
    try simp only [List.getElem_toArray, List.getElem_cons_zero, List.getElem_cons_succ, Act.put, List.setIfInBounds_toArray, List.set_cons_zero, List.set_cons_succ]
    refine wpAnyH_ready (rs := [3, 8]) (by kernel_rfl) (by simp) ?_
    refine AllReadyH.cons (o := _) rfl (fun K hK => ?_) ?_
    ·
      try have hA8 := h8.lt
      go_simp
      refine (HMN.out wn1 A2 c2 hB hD).mono ?_
      rintro e5 w5 ⟨A', c', B', d', x, q, rfl, ho5, hgx, hb5⟩
      dsimp only
      refine outG hK ?_ (Below wn1.heap.size wn1) (fun W => OwSt W wn1.heap.size (Value.slice A' x.blobs.length c') (Value.slice B' x.ents.length d') x (fun b => b < wn1.heap.size)) ?_ ?_ (fun wn2 hHeld hst hnew => ?_)
      · (exact HSB.out _ (hB.trans (Below.mono (show Below wn1.heap.size wn1 _ from by (first | exact (Below.refl _ _).alloc (Nat.le_refl _) _ | exact hbq | exact hb5 | exact Below.refl _ _)) hB.size)))
      · (first | exact (Below.refl _ _).alloc (Nat.le_refl _) _ | exact hbq | exact hb5 | exact Below.refl _ _)
      · (exact ho5)
      have hB := hB.trans (hst.mono hB.size)
      have ho := hnew
      try (have hne1 : (Value.slice A' x.blobs.length c').ownBlock ≠ some g6 := fun e => by have := (ho.b.rwo.blk e).1; omega)
      try (have hne2 : (Value.slice B' x.ents.length d').ownBlock ≠ some g6 := fun e => by have := (ho.e.rwo.blk e).1; omega)
      try (have ho := ho.wider (N' := fun b => b = g6) (fun b hb => .inl (by omega)))
      try (have ho := ho.lower (base' := 0) (Nat.zero_le _))
      clear hst
      clear hK K
      try simp only [List.getElem_toArray, List.getElem_cons_zero, List.getElem_cons_succ, Act.put, List.setIfInBounds_toArray, List.set_cons_zero, List.set_cons_succ]
      refine wpAnyH_take (i := 4) (oi := _) (v := ?_) rfl (by kernel_rfl) (by kernel_rfl) (by kernel_rfl) (fun _ _ _ h => h) (Or.inl ⟨by rfl, ?_⟩) (by assumption) ?_
      rotate_left
      · (intro w hSw; (try dsimp only at hSw); go_simp; try (with_reducible rfl))
      try simp only [List.getElem_toArray, List.getElem_cons_zero, List.getElem_cons_succ, Act.put, List.setIfInBounds_toArray, List.set_cons_zero, List.set_cons_succ]
      refine wpAnyH_take (i := 5) (oi := _) (v := ?_) rfl (by kernel_rfl) (by kernel_rfl) (by kernel_rfl) (fun _ _ _ h => h) (Or.inl ⟨by rfl, ?_⟩) (by assumption) ?_
      rotate_left
      · (intro w hSw; (try dsimp only at hSw); go_simp; try (with_reducible rfl))
      try simp only [List.getElem_toArray, List.getElem_cons_zero, List.getElem_cons_succ, Act.put, List.setIfInBounds_toArray, List.set_cons_zero, List.set_cons_succ]
      refine wpAnyH_take (i := 6) (oi := _) (v := ?_) rfl (by kernel_rfl) (by kernel_rfl) (by kernel_rfl) (fun _ _ _ h => h) (Or.inl ⟨by rfl, ?_⟩) (by assumption) ?_
      rotate_left
      · (intro w hSw; (try dsimp only at hSw); go_simp; try (with_reducible rfl))
      try simp only [List.getElem_toArray, List.getElem_cons_zero, List.getElem_cons_succ, Act.put, List.setIfInBounds_toArray, List.set_cons_zero, List.set_cons_succ]
      refine wpAnyH_take (i := 7) (oi := _) (v := ?_) rfl (by kernel_rfl) (by kernel_rfl) (by kernel_rfl) (fun _ _ _ h => h) (Or.inl ⟨by rfl, ?_⟩) (by assumption) ?_
      rotate_left
      · (intro w hSw; (try dsimp only at hSw); go_simp; try (with_reducible rfl))
      try simp only [List.getElem_toArray, List.getElem_cons_zero, List.getElem_cons_succ, Act.put, List.setIfInBounds_toArray, List.set_cons_zero, List.set_cons_succ]
      refine wpAnyH_ready (rs := [8]) (by kernel_rfl) (by simp) ?_
      refine AllReadyH.cons (o := _) rfl (fun K hK => ?_) ?_
      ·
        try (have hA1 := fun b (e : (Value.slice A' x.blobs.length c').ownBlock = some b) => (ho.b.rwo.blk e).2)
        try (have hA2 := fun b (e : (Value.slice B' x.ents.length d').ownBlock = some b) => (ho.e.rwo.blk e).2)
        try (have ho := (ho.lower (base' := 0) (Nat.zero_le _)).wider (N' := fun b => b = wn2.heap.size) (fun b hb => .inr (by omega)))
        go_simp
        refine outG hK ?_ (Below wn2.heap.size wn2) (fun W => Arr W wn2.heap.size 28 [.slice none 0 0, .slice none 0 0, .int .i64 0, .int .i64 0] ∧ u1.heap.size ≤ wn2.heap.size) ?_ ?_ (fun wn3 hHeld hst hnew => ?_)
        · (exact HSB.out _ (hB.trans (Below.mono (show Below wn2.heap.size wn2 _ from by (first | exact (Below.refl _ _).alloc (Nat.le_refl _) _ | exact hbq | exact hb5 | exact Below.refl _ _)) hB.size)))
        · (first | exact (Below.refl _ _).alloc (Nat.le_refl _) _ | exact hbq | exact hb5 | exact Below.refl _ _)
        · (exact ⟨Arr.new _ _ _, hB.size⟩)
        have hB := hB.trans (hst.mono hB.size)
        have ho := ho.below hst
        obtain ⟨h8, hl8⟩ := hnew
        obtain ⟨g6, hg6⟩ : ∃ g, g = wn2.heap.size := ⟨_, rfl⟩
        rw [← hg6] at h8 hl8 ⊢
        try (rw [← hg6] at ho)
        try (have hne1 : (Value.slice A' x.blobs.length c').ownBlock ≠ some g6 := fun e => by have := hA1 _ e; omega)
        try (have hne2 : (Value.slice B' x.ents.length d').ownBlock ≠ some g6 := fun e => by have := hA2 _ e; omega)
        try clear hA1
        try clear hA2
        clear hg6
        clear hst
        clear hK K
        try simp only [List.getElem_toArray, List.getElem_cons_zero, List.getElem_cons_succ, Act.put, List.setIfInBounds_toArray, List.set_cons_zero, List.set_cons_succ]
        refine wpAnyH_ready (rs := [9]) (by kernel_rfl) (by simp) ?_
        refine AllReadyH.cons (o := _) rfl (fun K hK => ?_) ?_
        ·
          have z0 := h8.cell (k := 0) rfl
          have z1 := h8.cell (k := 1) rfl
          have z2 := h8.cell (k := 2) rfl
          have z3 := h8.cell (k := 3) rfl
          have f0 := h8.frozen 0
          have f1 := h8.frozen 1
          have f2 := h8.frozen 2
          have f3 := h8.frozen 3
          go_simp
          clear z0 z1 z2 z3 f0 f1 f2 f3
          refine outG hK ?_ (fun W => Arr W g6 28 [.slice A' x.blobs.length c', .slice B' x.ents.length d', .int .i64 (x.room : Int), .int .i64 (x.clock : Int)]) (fun W => Below u1.heap.size u1 W ∧ OwSt W 0 (Value.slice A' x.blobs.length c') (Value.slice B' x.ents.length d') x (fun b => b = g6)) ?_ ?_ (fun wn4 hHeld hF hG => ?_)
          · exact HSB.out _ ((((hB.setCell (p := ⟨g6, 0, none⟩) hl8 _).setCell (p := ⟨g6, 1, none⟩) hl8 _).setCell (p := ⟨g6, 2, none⟩) hl8 _).setCell (p := ⟨g6, 3, none⟩) hl8 _)
          · exact h8.all4 _ _ _ _
          · exact ⟨(((hB.setCell (p := ⟨g6, 0, none⟩) hl8 _).setCell (p := ⟨g6, 1, none⟩) hl8 _).setCell (p := ⟨g6, 2, none⟩) hl8 _).setCell (p := ⟨g6, 3, none⟩) hl8 _, (((ho.setX rfl hne1 hne2 _).setX rfl hne1 hne2 _).setX rfl hne1 hne2 _).setX rfl hne1 hne2 _⟩
          clear hB h8 ho
          clear hK K
          try simp only [List.getElem_toArray, List.getElem_cons_zero, List.getElem_cons_succ, Act.put, List.setIfInBounds_toArray, List.set_cons_zero, List.set_cons_succ]
          refine wpAnyH_take (i := 10) (oi := _) (v := ?_) rfl (by kernel_rfl) (by kernel_rfl) (by kernel_rfl) (fun _ _ _ h => h) (Or.inl ⟨by rfl, ?_⟩) (by assumption) ?_
          rotate_left
          · (intro w hSw; (try dsimp only at hSw); go_simp; try (with_reducible rfl))
          try simp only [List.getElem_toArray, List.getElem_cons_zero, List.getElem_cons_succ, Act.put, List.setIfInBounds_toArray, List.set_cons_zero, List.set_cons_succ]
          refine wpAnyH_take (i := 11) (oi := _) (v := ?_) rfl (by kernel_rfl) (by kernel_rfl) (by kernel_rfl) (fun _ _ _ h => h) (Or.inl ⟨by rfl, ?_⟩) (by assumption) ?_
          rotate_left
          · (intro w hSw; (try dsimp only at hSw); go_simp; try (with_reducible rfl))
          try simp only [List.getElem_toArray, List.getElem_cons_zero, List.getElem_cons_succ, Act.put, List.setIfInBounds_toArray, List.set_cons_zero, List.set_cons_succ]
          refine wpAnyH_done (by kernel_rfl) ?_ _
          dsimp only [Exit.then]
          clear hHeld
          obtain ⟨hBz, hoz⟩ := hG
          have hrz : RdSt wn4 A' c' B' d' x := by
            obtain ⟨A9, c9, B9, d9, e1, e2, h⟩ := hoz.rows
            cases e1; cases e2; exact h
          have hall := And.intro hBz (Bx.mk hF hrz hgx)
          generalize wn4 = wz at hall ⊢
          generalize g6 = gz at hall ⊢
          generalize A' = Az at hall ⊢
          generalize c' = cz at hall ⊢
          generalize B' = Bz at hall ⊢
          generalize d' = dz at hall ⊢
          generalize x = xz at hall ⊢
          generalize q = qz at hall ⊢
          generalize A2 = A3
          generalize c2 = c3
          revert wz gz Az cz Bz dz xz qz A3 c3
          exact REST1.out
        exact AllReadyH.nil
      exact AllReadyH.nil
    refine AllReadyH.cons (o := _) rfl (fun K hK => ?_) ?_
    ·
      try (have hA1 := fun b (e : (Value.slice A' x.blobs.length c').ownBlock = some b) => (ho.b.rwo.blk e).2)
      try (have hA2 := fun b (e : (Value.slice B' x.ents.length d').ownBlock = some b) => (ho.e.rwo.blk e).2)
      try (have ho := (ho.lower (base' := 0) (Nat.zero_le _)).wider (N' := fun b => b = wn1.heap.size) (fun b hb => .inr (by omega)))
      go_simp
      refine outG hK ?_ (Below wn1.heap.size wn1) (fun W => Arr W wn1.heap.size 28 [.slice none 0 0, .slice none 0 0, .int .i64 0, .int .i64 0] ∧ u1.heap.size ≤ wn1.heap.size) ?_ ?_ (fun wn5 hHeld hst hnew => ?_)
      · (exact HSB.out _ (hB.trans (Below.mono (show Below wn1.heap.size wn1 _ from by (first | exact (Below.refl _ _).alloc (Nat.le_refl _) _ | exact hbq | exact hb5 | exact Below.refl _ _)) hB.size)))
      · (first | exact (Below.refl _ _).alloc (Nat.le_refl _) _ | exact hbq | exact hb5 | exact Below.refl _ _)
      · (exact ⟨Arr.new _ _ _, hB.size⟩)
      have hB := hB.trans (hst.mono hB.size)
      have hD := hD.below hst
      obtain ⟨h8, hl8⟩ := hnew
      obtain ⟨g6, hg6⟩ : ∃ g, g = wn1.heap.size := ⟨_, rfl⟩
      rw [← hg6] at h8 hl8 ⊢
      try (rw [← hg6] at ho)
      try (have hne1 : (Value.slice A' x.blobs.length c').ownBlock ≠ some g6 := fun e => by have := hA1 _ e; omega)
      try (have hne2 : (Value.slice B' x.ents.length d').ownBlock ≠ some g6 := fun e => by have := hA2 _ e; omega)
      try clear hA1
      try clear hA2
      clear hg6
      clear hst
      clear hK K
      try simp only [List.getElem_toArray, List.getElem_cons_zero, List.getElem_cons_succ, Act.put, List.setIfInBounds_toArray, List.set_cons_zero, List.set_cons_succ]
      refine wpAnyH_ready (rs := [3]) (by kernel_rfl) (by simp) ?_
      refine AllReadyH.cons (o := _) rfl (fun K hK => ?_) ?_
      ·
        try have hA8 := h8.lt
        go_simp
        refine (HMN.out wn5 A2 c2 hB hD).mono ?_
        rintro e5 w5 ⟨A', c', B', d', x, q, rfl, ho5, hgx, hb5⟩
        dsimp only
        refine outG hK ?_ (Below wn5.heap.size wn5) (fun W => OwSt W wn5.heap.size (Value.slice A' x.blobs.length c') (Value.slice B' x.ents.length d') x (fun b => b < wn5.heap.size)) ?_ ?_ (fun wn6 hHeld hst hnew => ?_)
        · (exact HSB.out _ (hB.trans (Below.mono (show Below wn5.heap.size wn5 _ from by (first | exact (Below.refl _ _).alloc (Nat.le_refl _) _ | exact hbq | exact hb5 | exact Below.refl _ _)) hB.size)))
        · (first | exact (Below.refl _ _).alloc (Nat.le_refl _) _ | exact hbq | exact hb5 | exact Below.refl _ _)
        · (exact ho5)
        have hB := hB.trans (hst.mono hB.size)
        have h8 := h8.below hst
        have ho := hnew
        try (have hne1 : (Value.slice A' x.blobs.length c').ownBlock ≠ some g6 := fun e => by have := (ho.b.rwo.blk e).1; omega)
        try (have hne2 : (Value.slice B' x.ents.length d').ownBlock ≠ some g6 := fun e => by have := (ho.e.rwo.blk e).1; omega)
        try (have ho := ho.wider (N' := fun b => b = g6) (fun b hb => .inl (by omega)))
        try (have ho := ho.lower (base' := 0) (Nat.zero_le _))
        clear hst
        clear hK K
        try simp only [List.getElem_toArray, List.getElem_cons_zero, List.getElem_cons_succ, Act.put, List.setIfInBounds_toArray, List.set_cons_zero, List.set_cons_succ]
        refine wpAnyH_take (i := 4) (oi := _) (v := ?_) rfl (by kernel_rfl) (by kernel_rfl) (by kernel_rfl) (fun _ _ _ h => h) (Or.inl ⟨by rfl, ?_⟩) (by assumption) ?_
        rotate_left
        · (intro w hSw; (try dsimp only at hSw); go_simp; try (with_reducible rfl))
        try simp only [List.getElem_toArray, List.getElem_cons_zero, List.getElem_cons_succ, Act.put, List.setIfInBounds_toArray, List.set_cons_zero, List.set_cons_succ]
        refine wpAnyH_take (i := 5) (oi := _) (v := ?_) rfl (by kernel_rfl) (by kernel_rfl) (by kernel_rfl) (fun _ _ _ h => h) (Or.inl ⟨by rfl, ?_⟩) (by assumption) ?_
        rotate_left
        · (intro w hSw; (try dsimp only at hSw); go_simp; try (with_reducible rfl))
        try simp only [List.getElem_toArray, List.getElem_cons_zero, List.getElem_cons_succ, Act.put, List.setIfInBounds_toArray, List.set_cons_zero, List.set_cons_succ]
        refine wpAnyH_take (i := 6) (oi := _) (v := ?_) rfl (by kernel_rfl) (by kernel_rfl) (by kernel_rfl) (fun _ _ _ h => h) (Or.inl ⟨by rfl, ?_⟩) (by assumption) ?_
        rotate_left
        · (intro w hSw; (try dsimp only at hSw); go_simp; try (with_reducible rfl))
        try simp only [List.getElem_toArray, List.getElem_cons_zero, List.getElem_cons_succ, Act.put, List.setIfInBounds_toArray, List.set_cons_zero, List.set_cons_succ]
        refine wpAnyH_take (i := 7) (oi := _) (v := ?_) rfl (by kernel_rfl) (by kernel_rfl) (by kernel_rfl) (fun _ _ _ h => h) (Or.inl ⟨by rfl, ?_⟩) (by assumption) ?_
        rotate_left
        · (intro w hSw; (try dsimp only at hSw); go_simp; try (with_reducible rfl))
        try simp only [List.getElem_toArray, List.getElem_cons_zero, List.getElem_cons_succ, Act.put, List.setIfInBounds_toArray, List.set_cons_zero, List.set_cons_succ]
        refine wpAnyH_ready (rs := [9]) (by kernel_rfl) (by simp) ?_
        refine AllReadyH.cons (o := _) rfl (fun K hK => ?_) ?_
        ·
          have z0 := h8.cell (k := 0) rfl
          have z1 := h8.cell (k := 1) rfl
          have z2 := h8.cell (k := 2) rfl
          have z3 := h8.cell (k := 3) rfl
          have f0 := h8.frozen 0
          have f1 := h8.frozen 1
          have f2 := h8.frozen 2
          have f3 := h8.frozen 3
          go_simp
          clear z0 z1 z2 z3 f0 f1 f2 f3
          refine outG hK ?_ (fun W => Arr W g6 28 [.slice A' x.blobs.length c', .slice B' x.ents.length d', .int .i64 (x.room : Int), .int .i64 (x.clock : Int)]) (fun W => Below u1.heap.size u1 W ∧ OwSt W 0 (Value.slice A' x.blobs.length c') (Value.slice B' x.ents.length d') x (fun b => b = g6)) ?_ ?_ (fun wn7 hHeld hF hG => ?_)
          · exact HSB.out _ ((((hB.setCell (p := ⟨g6, 0, none⟩) hl8 _).setCell (p := ⟨g6, 1, none⟩) hl8 _).setCell (p := ⟨g6, 2, none⟩) hl8 _).setCell (p := ⟨g6, 3, none⟩) hl8 _)
          · exact h8.all4 _ _ _ _
          · exact ⟨(((hB.setCell (p := ⟨g6, 0, none⟩) hl8 _).setCell (p := ⟨g6, 1, none⟩) hl8 _).setCell (p := ⟨g6, 2, none⟩) hl8 _).setCell (p := ⟨g6, 3, none⟩) hl8 _, (((ho.setX rfl hne1 hne2 _).setX rfl hne1 hne2 _).setX rfl hne1 hne2 _).setX rfl hne1 hne2 _⟩
          clear hB h8 ho
          clear hK K
          try simp only [List.getElem_toArray, List.getElem_cons_zero, List.getElem_cons_succ, Act.put, List.setIfInBounds_toArray, List.set_cons_zero, List.set_cons_succ]
          refine wpAnyH_take (i := 10) (oi := _) (v := ?_) rfl (by kernel_rfl) (by kernel_rfl) (by kernel_rfl) (fun _ _ _ h => h) (Or.inl ⟨by rfl, ?_⟩) (by assumption) ?_
          rotate_left
          · (intro w hSw; (try dsimp only at hSw); go_simp; try (with_reducible rfl))
          try simp only [List.getElem_toArray, List.getElem_cons_zero, List.getElem_cons_succ, Act.put, List.setIfInBounds_toArray, List.set_cons_zero, List.set_cons_succ]
          refine wpAnyH_take (i := 11) (oi := _) (v := ?_) rfl (by kernel_rfl) (by kernel_rfl) (by kernel_rfl) (fun _ _ _ h => h) (Or.inl ⟨by rfl, ?_⟩) (by assumption) ?_
          rotate_left
          · (intro w hSw; (try dsimp only at hSw); go_simp; try (with_reducible rfl))
          try simp only [List.getElem_toArray, List.getElem_cons_zero, List.getElem_cons_succ, Act.put, List.setIfInBounds_toArray, List.set_cons_zero, List.set_cons_succ]
          refine wpAnyH_done (by kernel_rfl) ?_ _
          dsimp only [Exit.then]
          clear hHeld
          obtain ⟨hBz, hoz⟩ := hG
          have hrz : RdSt wn7 A' c' B' d' x := by
            obtain ⟨A9, c9, B9, d9, e1, e2, h⟩ := hoz.rows
            cases e1; cases e2; exact h
          have hall := And.intro hBz (Bx.mk hF hrz hgx)
          generalize wn7 = wz at hall ⊢
          generalize g6 = gz at hall ⊢
          generalize A' = Az at hall ⊢
          generalize c' = cz at hall ⊢
          generalize B' = Bz at hall ⊢
          generalize d' = dz at hall ⊢
          generalize x = xz at hall ⊢
          generalize q = qz at hall ⊢
          generalize A2 = A3
          generalize c2 = c3
          revert wz gz Az cz Bz dz xz qz A3 c3
          exact REST1.out
        exact AllReadyH.nil
      exact AllReadyH.nil
    exact AllReadyH.nil
  refine AllReadyH.cons (o := _) rfl (fun K hK => ?_) ?_
  ·
    try (have hA1 := fun b (e : (Value.slice A' x.blobs.length c').ownBlock = some b) => (ho.b.rwo.blk e).2)
    try (have hA2 := fun b (e : (Value.slice B' x.ents.length d').ownBlock = some b) => (ho.e.rwo.blk e).2)
    try (have ho := (ho.lower (base' := 0) (Nat.zero_le _)).wider (N' := fun b => b = wn0.heap.size) (fun b hb => .inr (by omega)))
    go_simp
    refine outG hK ?_ (Below wn0.heap.size wn0) (fun W => Arr W wn0.heap.size 28 [.slice none 0 0, .slice none 0 0, .int .i64 0, .int .i64 0] ∧ u1.heap.size ≤ wn0.heap.size) ?_ ?_ (fun wn8 hHeld hst hnew => ?_)
    · (exact HSB.out _ (hB.trans (Below.mono (show Below wn0.heap.size wn0 _ from by (first | exact (Below.refl _ _).alloc (Nat.le_refl _) _ | exact hbq | exact hb5 | exact Below.refl _ _)) hB.size)))
    · (first | exact (Below.refl _ _).alloc (Nat.le_refl _) _ | exact hbq | exact hb5 | exact Below.refl _ _)
    · (exact ⟨Arr.new _ _ _, hB.size⟩)
    have hB := hB.trans (hst.mono hB.size)
    obtain ⟨h8, hl8⟩ := hnew
    obtain ⟨g6, hg6⟩ : ∃ g, g = wn0.heap.size := ⟨_, rfl⟩
    rw [← hg6] at h8 hl8 ⊢
    try (rw [← hg6] at ho)
    try (have hne1 : (Value.slice A' x.blobs.length c').ownBlock ≠ some g6 := fun e => by have := hA1 _ e; omega)
    try (have hne2 : (Value.slice B' x.ents.length d').ownBlock ≠ some g6 := fun e => by have := hA2 _ e; omega)
    try clear hA1
    try clear hA2
    clear hg6
    clear hst
    clear hK K
    try simp only [List.getElem_toArray, List.getElem_cons_zero, List.getElem_cons_succ, Act.put, List.setIfInBounds_toArray, List.set_cons_zero, List.set_cons_succ]
    refine wpAnyH_ready (rs := [2]) (by kernel_rfl) (by simp) ?_
    refine AllReadyH.cons (o := _) rfl (fun K hK => ?_) ?_
    ·
      go_simp
      refine (HDT.out wn8).mono ?_
      rintro e5 w5 ⟨A2, c2, rfl, hz5, hb5⟩
      dsimp only
      refine outG hK ?_ (Below wn8.heap.size wn8) (fun W => OwnZ W u1.heap.size A2 c2 D) ?_ ?_ (fun wn9 hHeld hst hnew => ?_)
      · (exact HSB.out _ (hB.trans (Below.mono (show Below wn8.heap.size wn8 _ from by (first | exact (Below.refl _ _).alloc (Nat.le_refl _) _ | exact hbq | exact hb5 | exact Below.refl _ _)) hB.size)))
      · (first | exact (Below.refl _ _).alloc (Nat.le_refl _) _ | exact hbq | exact hb5 | exact Below.refl _ _)
      · (exact hz5.lower hB.size)
      have hB := hB.trans (hst.mono hB.size)
      have h8 := h8.below hst
      have hD := hnew
      clear hnew
      clear hst
      clear hK K
      try simp only [List.getElem_toArray, List.getElem_cons_zero, List.getElem_cons_succ, Act.put, List.setIfInBounds_toArray, List.set_cons_zero, List.set_cons_succ]
      refine wpAnyH_ready (rs := [3]) (by kernel_rfl) (by simp) ?_
      refine AllReadyH.cons (o := _) rfl (fun K hK => ?_) ?_
      ·
        try have hA8 := h8.lt
        go_simp
        refine (HMN.out wn9 A2 c2 hB hD).mono ?_
        rintro e5 w5 ⟨A', c', B', d', x, q, rfl, ho5, hgx, hb5⟩
        dsimp only
        refine outG hK ?_ (Below wn9.heap.size wn9) (fun W => OwSt W wn9.heap.size (Value.slice A' x.blobs.length c') (Value.slice B' x.ents.length d') x (fun b => b < wn9.heap.size)) ?_ ?_ (fun wn10 hHeld hst hnew => ?_)
        · (exact HSB.out _ (hB.trans (Below.mono (show Below wn9.heap.size wn9 _ from by (first | exact (Below.refl _ _).alloc (Nat.le_refl _) _ | exact hbq | exact hb5 | exact Below.refl _ _)) hB.size)))
        · (first | exact (Below.refl _ _).alloc (Nat.le_refl _) _ | exact hbq | exact hb5 | exact Below.refl _ _)
        · (exact ho5)
        have hB := hB.trans (hst.mono hB.size)
        have h8 := h8.below hst
        have ho := hnew
        try (have hne1 : (Value.slice A' x.blobs.length c').ownBlock ≠ some g6 := fun e => by have := (ho.b.rwo.blk e).1; omega)
        try (have hne2 : (Value.slice B' x.ents.length d').ownBlock ≠ some g6 := fun e => by have := (ho.e.rwo.blk e).1; omega)
        try (have ho := ho.wider (N' := fun b => b = g6) (fun b hb => .inl (by omega)))
        try (have ho := ho.lower (base' := 0) (Nat.zero_le _))
        clear hst
        clear hK K
        try simp only [List.getElem_toArray, List.getElem_cons_zero, List.getElem_cons_succ, Act.put, List.setIfInBounds_toArray, List.set_cons_zero, List.set_cons_succ]
        refine wpAnyH_take (i := 4) (oi := _) (v := ?_) rfl (by kernel_rfl) (by kernel_rfl) (by kernel_rfl) (fun _ _ _ h => h) (Or.inl ⟨by rfl, ?_⟩) (by assumption) ?_
        rotate_left
        · (intro w hSw; (try dsimp only at hSw); go_simp; try (with_reducible rfl))
        try simp only [List.getElem_toArray, List.getElem_cons_zero, List.getElem_cons_succ, Act.put, List.setIfInBounds_toArray, List.set_cons_zero, List.set_cons_succ]
        refine wpAnyH_take (i := 5) (oi := _) (v := ?_) rfl (by kernel_rfl) (by kernel_rfl) (by kernel_rfl) (fun _ _ _ h => h) (Or.inl ⟨by rfl, ?_⟩) (by assumption) ?_
        rotate_left
        · (intro w hSw; (try dsimp only at hSw); go_simp; try (with_reducible rfl))
        try simp only [List.getElem_toArray, List.getElem_cons_zero, List.getElem_cons_succ, Act.put, List.setIfInBounds_toArray, List.set_cons_zero, List.set_cons_succ]
        refine wpAnyH_take (i := 6) (oi := _) (v := ?_) rfl (by kernel_rfl) (by kernel_rfl) (by kernel_rfl) (fun _ _ _ h => h) (Or.inl ⟨by rfl, ?_⟩) (by assumption) ?_
        rotate_left
        · (intro w hSw; (try dsimp only at hSw); go_simp; try (with_reducible rfl))
        try simp only [List.getElem_toArray, List.getElem_cons_zero, List.getElem_cons_succ, Act.put, List.setIfInBounds_toArray, List.set_cons_zero, List.set_cons_succ]
        refine wpAnyH_take (i := 7) (oi := _) (v := ?_) rfl (by kernel_rfl) (by kernel_rfl) (by kernel_rfl) (fun _ _ _ h => h) (Or.inl ⟨by rfl, ?_⟩) (by assumption) ?_
        rotate_left
        · (intro w hSw; (try dsimp only at hSw); go_simp; try (with_reducible rfl))
        try simp only [List.getElem_toArray, List.getElem_cons_zero, List.getElem_cons_succ, Act.put, List.setIfInBounds_toArray, List.set_cons_zero, List.set_cons_succ]
        refine wpAnyH_ready (rs := [9]) (by kernel_rfl) (by simp) ?_
        refine AllReadyH.cons (o := _) rfl (fun K hK => ?_) ?_
        ·
          have z0 := h8.cell (k := 0) rfl
          have z1 := h8.cell (k := 1) rfl
          have z2 := h8.cell (k := 2) rfl
          have z3 := h8.cell (k := 3) rfl
          have f0 := h8.frozen 0
          have f1 := h8.frozen 1
          have f2 := h8.frozen 2
          have f3 := h8.frozen 3
          go_simp
          clear z0 z1 z2 z3 f0 f1 f2 f3
          refine outG hK ?_ (fun W => Arr W g6 28 [.slice A' x.blobs.length c', .slice B' x.ents.length d', .int .i64 (x.room : Int), .int .i64 (x.clock : Int)]) (fun W => Below u1.heap.size u1 W ∧ OwSt W 0 (Value.slice A' x.blobs.length c') (Value.slice B' x.ents.length d') x (fun b => b = g6)) ?_ ?_ (fun wn11 hHeld hF hG => ?_)
          · exact HSB.out _ ((((hB.setCell (p := ⟨g6, 0, none⟩) hl8 _).setCell (p := ⟨g6, 1, none⟩) hl8 _).setCell (p := ⟨g6, 2, none⟩) hl8 _).setCell (p := ⟨g6, 3, none⟩) hl8 _)
          · exact h8.all4 _ _ _ _
          · exact ⟨(((hB.setCell (p := ⟨g6, 0, none⟩) hl8 _).setCell (p := ⟨g6, 1, none⟩) hl8 _).setCell (p := ⟨g6, 2, none⟩) hl8 _).setCell (p := ⟨g6, 3, none⟩) hl8 _, (((ho.setX rfl hne1 hne2 _).setX rfl hne1 hne2 _).setX rfl hne1 hne2 _).setX rfl hne1 hne2 _⟩
          clear hB h8 ho
          clear hK K
          try simp only [List.getElem_toArray, List.getElem_cons_zero, List.getElem_cons_succ, Act.put, List.setIfInBounds_toArray, List.set_cons_zero, List.set_cons_succ]
          refine wpAnyH_take (i := 10) (oi := _) (v := ?_) rfl (by kernel_rfl) (by kernel_rfl) (by kernel_rfl) (fun _ _ _ h => h) (Or.inl ⟨by rfl, ?_⟩) (by assumption) ?_
          rotate_left
          · (intro w hSw; (try dsimp only at hSw); go_simp; try (with_reducible rfl))
          try simp only [List.getElem_toArray, List.getElem_cons_zero, List.getElem_cons_succ, Act.put, List.setIfInBounds_toArray, List.set_cons_zero, List.set_cons_succ]
          refine wpAnyH_take (i := 11) (oi := _) (v := ?_) rfl (by kernel_rfl) (by kernel_rfl) (by kernel_rfl) (fun _ _ _ h => h) (Or.inl ⟨by rfl, ?_⟩) (by assumption) ?_
          rotate_left
          · (intro w hSw; (try dsimp only at hSw); go_simp; try (with_reducible rfl))
          try simp only [List.getElem_toArray, List.getElem_cons_zero, List.getElem_cons_succ, Act.put, List.setIfInBounds_toArray, List.set_cons_zero, List.set_cons_succ]
          refine wpAnyH_done (by kernel_rfl) ?_ _
          dsimp only [Exit.then]
          clear hHeld
          obtain ⟨hBz, hoz⟩ := hG
          have hrz : RdSt wn11 A' c' B' d' x := by
            obtain ⟨A9, c9, B9, d9, e1, e2, h⟩ := hoz.rows
            cases e1; cases e2; exact h
          have hall := And.intro hBz (Bx.mk hF hrz hgx)
          generalize wn11 = wz at hall ⊢
          generalize g6 = gz at hall ⊢
          generalize A' = Az at hall ⊢
          generalize c' = cz at hall ⊢
          generalize B' = Bz at hall ⊢
          generalize d' = dz at hall ⊢
          generalize x = xz at hall ⊢
          generalize q = qz at hall ⊢
          generalize A2 = A3
          generalize c2 = c3
          revert wz gz Az cz Bz dz xz qz A3 c3
          exact REST1.out
        exact AllReadyH.nil
      exact AllReadyH.nil
    exact AllReadyH.nil
  exact AllReadyH.nil
  intro u2 g1 A1 c1 B1 d1 x1 q1 ⟨hBz, bx1⟩ A3 c3
  have t1 := hXS.below hBz
  have t2 := hrS.below hBz
  have t3 := hRw.below hBz
  have t4 := hbW.trans (hBz.mono (Nat.le_of_lt hgr))
  have t5 : gr < u2.heap.size := t3.lt
  clear hXS hrS hRw hbW hgr hBz HSB HMN
  have hXS := t1
  have hrS := t2
  have hRw := t3
  have hbW := t4
  have hgr := t5
  clear t1 t2 t3 t4 t5
  have HSB := Lib.hid (show ∀ W, Below u2.heap.size u2 W → (W.cell? ⟨gs, 0, none⟩ = some (.slice As s.blobs.length cs) ∧ W.cell? ⟨gs, 1, none⟩ = some (.slice Bs s.ents.length ds) ∧ W.cell? ⟨gs, 2, none⟩ = some (.int .i64 (s.room : Int)) ∧ W.cell? ⟨gs, 3, none⟩ = some (.int .i64 (s.clock : Int))) ∧ (W.cell? ⟨gr, 0, none⟩ = some (.int .i64 rk) ∧ W.cell? ⟨gr, 1, none⟩ = some (.int .i64 ra) ∧ W.cell? ⟨gr, 2, none⟩ = some (.int .i64 rb) ∧ W.cell? ⟨gr, 3, none⟩ = some (.string rt)) from fun W h =>
    ⟨⟨(hXS.below h).cell (k := 0) rfl, (hXS.below h).cell (k := 1) rfl, (hXS.below h).cell (k := 2) rfl, (hXS.below h).cell (k := 3) rfl⟩, (hRw.below h).cell (k := 0) rfl, (hRw.below h).cell (k := 1) rfl, (hRw.below h).cell (k := 2) rfl, (hRw.below h).cell (k := 3) rfl⟩)
  have HPT := Lib.hid (show ∀ W, Below u2.heap.size u2 W → Calls Tryz.prog 28 #[.slice As s.blobs.length cs, .agg #[.int .i64 rk, .int .i64 ra, .int .i64 rb, .string rt]] W fun e w' => ∃ PA pc, e = .returned (.slice PA ps.length pc) ∧ Sl w' 3 PA ps.length pc (pcs ps) ∧ Below W.heap.size W w' from fun W h =>
    (HPT0.out As cs W hrS.bc hrS.bm (hrS.b.below h)).mono fun e w' ⟨v, h1, h2, h3⟩ => by
      obtain ⟨PA, pc, rfl, hs, _⟩ := OwnSl h2
      exact ⟨PA, pc, h1, hs, h3⟩)
  have hmn := fun W PA pc (h : Below u2.heap.size u2 W) (hp : Sl W 3 PA ps.length pc (pcs ps)) => PutSF_ok As cs Bs ds s _ K ps PA pc W HSG.out (hrS.below h) HKH.out HP1.out HP2.out (by have := HSC.out; omega) (by have := HS7.out; omega) hp rfl
  have HXG := Lib.hid (show GoodS (putES s K ps) from putES_good HSG.out HKH.out HP1.out (have_of_zero HP2.out) (by have := HSC.out; omega) (by have := HS7.out; omega))
  obtain ⟨x, hx⟩ : ∃ x, x = putES s K ps := ⟨_, rfl⟩
  rw [← HSK.out, ← hx] at hmn
  rw [← hx] at HXG
  clear hx
  have HMN := Lib.hid hmn
  clear hmn
  repeat' ((fail_if_success at_builtin); (fail_if_success at_make); (first | go_values | go_skip | go_guarded | go_step | go_upon | go_back))
  apply share
  intro REST2
  refine wp_region_held_drew (S := (fun w' => (w'.cell? ⟨gs, 0, none⟩ = some (.slice As s.blobs.length cs) ∧ w'.cell? ⟨gs, 1, none⟩ = some (.slice Bs s.ents.length ds) ∧ w'.cell? ⟨gs, 2, none⟩ = some (.int .i64 (s.room : Int)) ∧ w'.cell? ⟨gs, 3, none⟩ = some (.int .i64 (s.clock : Int))) ∧ (w'.cell? ⟨gr, 0, none⟩ = some (.int .i64 rk) ∧ w'.cell? ⟨gr, 1, none⟩ = some (.int .i64 ra) ∧ w'.cell? ⟨gr, 2, none⟩ = some (.int .i64 rb) ∧ w'.cell? ⟨gr, 3, none⟩ = some (.string rt)))) (by kernel_rfl) ?_ (fun hHeld => ?_)
  · exact HSB.out _ (Below.refl _ u2).drew
  have hB := (Below.refl u2.heap.size u2).drew
  generalize u2.drew = wn0 at *
  refine wpAnyH_take (i := 0) (oi := _) (v := ?_) rfl (by kernel_rfl) (by kernel_rfl) (by kernel_rfl) (fun _ _ _ h => h) (Or.inl ⟨by rfl, ?_⟩) (by assumption) ?_
  rotate_left
  · (intro w hSw; (try dsimp only at hSw); go_simp; try (with_reducible rfl))
  try simp only [List.getElem_toArray, List.getElem_cons_zero, List.getElem_cons_succ, Act.put, List.setIfInBounds_toArray, List.set_cons_zero, List.set_cons_succ]
  refine wpAnyH_take (i := 1) (oi := _) (v := ?_) rfl (by kernel_rfl) (by kernel_rfl) (by kernel_rfl) (fun _ _ _ h => h) (Or.inl ⟨by rfl, ?_⟩) (by assumption) ?_
  rotate_left
  · (intro w hSw; (try dsimp only at hSw); go_simp; try (with_reducible rfl))
  try simp only [List.getElem_toArray, List.getElem_cons_zero, List.getElem_cons_succ, Act.put, List.setIfInBounds_toArray, List.set_cons_zero, List.set_cons_succ]
  refine wpAnyH_take (i := 2) (oi := _) (v := ?_) rfl (by kernel_rfl) (by kernel_rfl) (by kernel_rfl) (fun _ _ _ h => h) (Or.inl ⟨by rfl, ?_⟩) (by assumption) ?_
  rotate_left
  · (intro w hSw; (try dsimp only at hSw); go_simp; try (with_reducible rfl))
  try simp only [List.getElem_toArray, List.getElem_cons_zero, List.getElem_cons_succ, Act.put, List.setIfInBounds_toArray, List.set_cons_zero, List.set_cons_succ]
  refine wpAnyH_take (i := 4) (oi := _) (v := ?_) rfl (by kernel_rfl) (by kernel_rfl) (by kernel_rfl) (fun _ _ _ h => h) (Or.inl ⟨by rfl, ?_⟩) (by assumption) ?_
  rotate_left
  · (intro w hSw; (try dsimp only at hSw); go_simp; try (with_reducible rfl))
  try simp only [List.getElem_toArray, List.getElem_cons_zero, List.getElem_cons_succ, Act.put, List.setIfInBounds_toArray, List.set_cons_zero, List.set_cons_succ]
  refine wpAnyH_take (i := 5) (oi := _) (v := ?_) rfl (by kernel_rfl) (by kernel_rfl) (by kernel_rfl) (fun _ _ _ h => h) (Or.inl ⟨by rfl, ?_⟩) (by assumption) ?_
  rotate_left
  · (intro w hSw; (try dsimp only at hSw); go_simp; try (with_reducible rfl))
  try simp only [List.getElem_toArray, List.getElem_cons_zero, List.getElem_cons_succ, Act.put, List.setIfInBounds_toArray, List.set_cons_zero, List.set_cons_succ]
  refine wpAnyH_take (i := 6) (oi := _) (v := ?_) rfl (by kernel_rfl) (by kernel_rfl) (by kernel_rfl) (fun _ _ _ h => h) (Or.inl ⟨by rfl, ?_⟩) (by assumption) ?_
  rotate_left
  · (intro w hSw; (try dsimp only at hSw); go_simp; try (with_reducible rfl))
  try simp only [List.getElem_toArray, List.getElem_cons_zero, List.getElem_cons_succ, Act.put, List.setIfInBounds_toArray, List.set_cons_zero, List.set_cons_succ]
  refine wpAnyH_ready (rs := [3, 12]) (by kernel_rfl) (by simp) ?_
  refine AllReadyH.cons (o := _) rfl (fun K hK => ?_) ?_
  ·
    go_simp
    refine (HKY.out wn0).mono ?_
    rintro e5 w5 ⟨rfl, hb5⟩
    dsimp only
    refine outG hK ?_ (Below wn0.heap.size wn0) (fun W => True) ?_ ?_ (fun wn1 hHeld hst hnew => ?_)
    · (exact HSB.out _ (hB.trans (Below.mono (show Below wn0.heap.size wn0 _ from by (first | exact (Below.refl _ _).alloc (Nat.le_refl _) _ | exact hbq | exact hb5 | exact Below.refl _ _)) hB.size)))
    · (first | exact (Below.refl _ _).alloc (Nat.le_refl _) _ | exact hbq | exact hb5 | exact Below.refl _ _)
    · (trivial)
    have hB := hB.trans (hst.mono hB.size)
    clear hst
    clear hK K
    try simp only [List.getElem_toArray, List.getElem_cons_zero, List.getElem_cons_succ, Act.put, List.setIfInBounds_toArray, List.set_cons_zero, List.set_cons_succ]
    refine wpAnyH_ready (rs := [7, 12]) (by kernel_rfl) (by simp) ?_
    refine AllReadyH.cons (o := _) rfl (fun K hK => ?_) ?_
    ·
      go_simp
      refine (HPT.out wn1 hB).mono ?_
      rintro e5 w5 ⟨PA, pc, rfl, hp5, hb5⟩
      dsimp only
      refine outG hK ?_ (Below wn1.heap.size wn1) (fun W => Sl W 3 PA ps.length pc (pcs ps)) ?_ ?_ (fun wn2 hHeld hst hnew => ?_)
      · (exact HSB.out _ (hB.trans (Below.mono (show Below wn1.heap.size wn1 _ from by (first | exact (Below.refl _ _).alloc (Nat.le_refl _) _ | exact hbq | exact hb5 | exact Below.refl _ _)) hB.size)))
      · (first | exact (Below.refl _ _).alloc (Nat.le_refl _) _ | exact hbq | exact hb5 | exact Below.refl _ _)
      · (exact hp5)
      have hB := hB.trans (hst.mono hB.size)
      have hP := hnew
      clear hnew
      clear hst
      clear hK K
      try simp only [List.getElem_toArray, List.getElem_cons_zero, List.getElem_cons_succ, Act.put, List.setIfInBounds_toArray, List.set_cons_zero, List.set_cons_succ]
      refine wpAnyH_ready (rs := [8, 12]) (by kernel_rfl) (by simp) ?_
      refine AllReadyH.cons (o := _) rfl (fun K hK => ?_) ?_
      ·
        try have hA8 := h8.lt
        go_simp
        refine (HMN.out wn2 PA pc hB hP).mono ?_
        rintro e5 w5 ⟨A', c', B', d', rfl, ho5, hb5⟩
        dsimp only
        refine outG hK ?_ (Below wn2.heap.size wn2) (fun W => OwSt W wn2.heap.size (Value.slice A' x.blobs.length c') (Value.slice B' x.ents.length d') x (fun b => b < wn2.heap.size)) ?_ ?_ (fun wn3 hHeld hst hnew => ?_)
        · (exact HSB.out _ (hB.trans (Below.mono (show Below wn2.heap.size wn2 _ from by (first | exact (Below.refl _ _).alloc (Nat.le_refl _) _ | exact hbq | exact hb5 | exact Below.refl _ _)) hB.size)))
        · (first | exact (Below.refl _ _).alloc (Nat.le_refl _) _ | exact hbq | exact hb5 | exact Below.refl _ _)
        · (exact ho5)
        have hB := hB.trans (hst.mono hB.size)
        have ho := hnew
        try (have hne1 : (Value.slice A' x.blobs.length c').ownBlock ≠ some g6 := fun e => by have := (ho.b.rwo.blk e).1; omega)
        try (have hne2 : (Value.slice B' x.ents.length d').ownBlock ≠ some g6 := fun e => by have := (ho.e.rwo.blk e).1; omega)
        try (have ho := ho.wider (N' := fun b => b = g6) (fun b hb => .inl (by omega)))
        try (have ho := ho.lower (base' := 0) (Nat.zero_le _))
        clear hst
        clear hK K
        try simp only [List.getElem_toArray, List.getElem_cons_zero, List.getElem_cons_succ, Act.put, List.setIfInBounds_toArray, List.set_cons_zero, List.set_cons_succ]
        refine wpAnyH_take (i := 9) (oi := _) (v := ?_) rfl (by kernel_rfl) (by kernel_rfl) (by kernel_rfl) (fun _ _ _ h => h) (Or.inl ⟨by rfl, ?_⟩) (by assumption) ?_
        rotate_left
        · (intro w hSw; (try dsimp only at hSw); go_simp; try (with_reducible rfl))
        try simp only [List.getElem_toArray, List.getElem_cons_zero, List.getElem_cons_succ, Act.put, List.setIfInBounds_toArray, List.set_cons_zero, List.set_cons_succ]
        refine wpAnyH_take (i := 10) (oi := _) (v := ?_) rfl (by kernel_rfl) (by kernel_rfl) (by kernel_rfl) (fun _ _ _ h => h) (Or.inl ⟨by rfl, ?_⟩) (by assumption) ?_
        rotate_left
        · (intro w hSw; (try dsimp only at hSw); go_simp; try (with_reducible rfl))
        try simp only [List.getElem_toArray, List.getElem_cons_zero, List.getElem_cons_succ, Act.put, List.setIfInBounds_toArray, List.set_cons_zero, List.set_cons_succ]
        refine wpAnyH_take (i := 11) (oi := _) (v := ?_) rfl (by kernel_rfl) (by kernel_rfl) (by kernel_rfl) (fun _ _ _ h => h) (Or.inl ⟨by rfl, ?_⟩) (by assumption) ?_
        rotate_left
        · (intro w hSw; (try dsimp only at hSw); go_simp; try (with_reducible rfl))
        try simp only [List.getElem_toArray, List.getElem_cons_zero, List.getElem_cons_succ, Act.put, List.setIfInBounds_toArray, List.set_cons_zero, List.set_cons_succ]
        refine wpAnyH_ready (rs := [12]) (by kernel_rfl) (by simp) ?_
        refine AllReadyH.cons (o := _) rfl (fun K hK => ?_) ?_
        ·
          try (have hA1 := fun b (e : (Value.slice A' x.blobs.length c').ownBlock = some b) => (ho.b.rwo.blk e).2)
          try (have hA2 := fun b (e : (Value.slice B' x.ents.length d').ownBlock = some b) => (ho.e.rwo.blk e).2)
          try (have ho := (ho.lower (base' := 0) (Nat.zero_le _)).wider (N' := fun b => b = wn3.heap.size) (fun b hb => .inr (by omega)))
          go_simp
          refine outG hK ?_ (Below wn3.heap.size wn3) (fun W => Arr W wn3.heap.size 28 [.slice none 0 0, .slice none 0 0, .int .i64 0, .int .i64 0] ∧ u2.heap.size ≤ wn3.heap.size) ?_ ?_ (fun wn4 hHeld hst hnew => ?_)
          · (exact HSB.out _ (hB.trans (Below.mono (show Below wn3.heap.size wn3 _ from by (first | exact (Below.refl _ _).alloc (Nat.le_refl _) _ | exact hbq | exact hb5 | exact Below.refl _ _)) hB.size)))
          · (first | exact (Below.refl _ _).alloc (Nat.le_refl _) _ | exact hbq | exact hb5 | exact Below.refl _ _)
          · (exact ⟨Arr.new _ _ _, hB.size⟩)
          have hB := hB.trans (hst.mono hB.size)
          have ho := ho.below hst
          obtain ⟨h8, hl8⟩ := hnew
          obtain ⟨g6, hg6⟩ : ∃ g, g = wn3.heap.size := ⟨_, rfl⟩
          rw [← hg6] at h8 hl8 ⊢
          try (rw [← hg6] at ho)
          try (have hne1 : (Value.slice A' x.blobs.length c').ownBlock ≠ some g6 := fun e => by have := hA1 _ e; omega)
          try (have hne2 : (Value.slice B' x.ents.length d').ownBlock ≠ some g6 := fun e => by have := hA2 _ e; omega)
          try clear hA1
          try clear hA2
          clear hg6
          clear hst
          clear hK K
          try simp only [List.getElem_toArray, List.getElem_cons_zero, List.getElem_cons_succ, Act.put, List.setIfInBounds_toArray, List.set_cons_zero, List.set_cons_succ]
          refine wpAnyH_ready (rs := [13]) (by kernel_rfl) (by simp) ?_
          refine AllReadyH.cons (o := _) rfl (fun K hK => ?_) ?_
          ·
            have z0 := h8.cell (k := 0) rfl
            have z1 := h8.cell (k := 1) rfl
            have z2 := h8.cell (k := 2) rfl
            have z3 := h8.cell (k := 3) rfl
            have f0 := h8.frozen 0
            have f1 := h8.frozen 1
            have f2 := h8.frozen 2
            have f3 := h8.frozen 3
            go_simp
            clear z0 z1 z2 z3 f0 f1 f2 f3
            refine outG hK ?_ (fun W => Arr W g6 28 [.slice A' x.blobs.length c', .slice B' x.ents.length d', .int .i64 (x.room : Int), .int .i64 (x.clock : Int)]) (fun W => Below u2.heap.size u2 W ∧ OwSt W 0 (Value.slice A' x.blobs.length c') (Value.slice B' x.ents.length d') x (fun b => b = g6)) ?_ ?_ (fun wn5 hHeld hF hG => ?_)
            · exact HSB.out _ ((((hB.setCell (p := ⟨g6, 0, none⟩) hl8 _).setCell (p := ⟨g6, 1, none⟩) hl8 _).setCell (p := ⟨g6, 2, none⟩) hl8 _).setCell (p := ⟨g6, 3, none⟩) hl8 _)
            · exact h8.all4 _ _ _ _
            · exact ⟨(((hB.setCell (p := ⟨g6, 0, none⟩) hl8 _).setCell (p := ⟨g6, 1, none⟩) hl8 _).setCell (p := ⟨g6, 2, none⟩) hl8 _).setCell (p := ⟨g6, 3, none⟩) hl8 _, (((ho.setX rfl hne1 hne2 _).setX rfl hne1 hne2 _).setX rfl hne1 hne2 _).setX rfl hne1 hne2 _⟩
            clear hB h8 ho
            clear hK K
            try simp only [List.getElem_toArray, List.getElem_cons_zero, List.getElem_cons_succ, Act.put, List.setIfInBounds_toArray, List.set_cons_zero, List.set_cons_succ]
            refine wpAnyH_take (i := 14) (oi := _) (v := ?_) rfl (by kernel_rfl) (by kernel_rfl) (by kernel_rfl) (fun _ _ _ h => h) (Or.inl ⟨by rfl, ?_⟩) (by assumption) ?_
            rotate_left
            · (intro w hSw; (try dsimp only at hSw); go_simp; try (with_reducible rfl))
            try simp only [List.getElem_toArray, List.getElem_cons_zero, List.getElem_cons_succ, Act.put, List.setIfInBounds_toArray, List.set_cons_zero, List.set_cons_succ]
            refine wpAnyH_done (by kernel_rfl) ?_ _
            dsimp only [Exit.then]
            clear hHeld
            obtain ⟨hBz, hoz⟩ := hG
            have hrz : RdSt wn5 A' c' B' d' x := by
              obtain ⟨A9, c9, B9, d9, e1, e2, h⟩ := hoz.rows
              cases e1; cases e2; exact h
            have hall := And.intro hBz (Bx.mk (q := 0) hF hrz (fun _ => HXG.out))
            generalize wn5 = wz at hall ⊢
            generalize g6 = gz at hall ⊢
            generalize A' = Az at hall ⊢
            generalize c' = cz at hall ⊢
            generalize B' = Bz at hall ⊢
            generalize d' = dz at hall ⊢
            generalize PA = PA3
            generalize pc = pc3
            revert wz gz Az cz Bz dz PA3 pc3
            exact REST2.out
          exact AllReadyH.nil
        exact AllReadyH.nil
      refine AllReadyH.cons (o := _) rfl (fun K hK => ?_) ?_
      ·
        try (have hA1 := fun b (e : (Value.slice A' x.blobs.length c').ownBlock = some b) => (ho.b.rwo.blk e).2)
        try (have hA2 := fun b (e : (Value.slice B' x.ents.length d').ownBlock = some b) => (ho.e.rwo.blk e).2)
        try (have ho := (ho.lower (base' := 0) (Nat.zero_le _)).wider (N' := fun b => b = wn2.heap.size) (fun b hb => .inr (by omega)))
        go_simp
        refine outG hK ?_ (Below wn2.heap.size wn2) (fun W => Arr W wn2.heap.size 28 [.slice none 0 0, .slice none 0 0, .int .i64 0, .int .i64 0] ∧ u2.heap.size ≤ wn2.heap.size) ?_ ?_ (fun wn6 hHeld hst hnew => ?_)
        · (exact HSB.out _ (hB.trans (Below.mono (show Below wn2.heap.size wn2 _ from by (first | exact (Below.refl _ _).alloc (Nat.le_refl _) _ | exact hbq | exact hb5 | exact Below.refl _ _)) hB.size)))
        · (first | exact (Below.refl _ _).alloc (Nat.le_refl _) _ | exact hbq | exact hb5 | exact Below.refl _ _)
        · (exact ⟨Arr.new _ _ _, hB.size⟩)
        have hB := hB.trans (hst.mono hB.size)
        have hP := hP.below hst
        obtain ⟨h8, hl8⟩ := hnew
        obtain ⟨g6, hg6⟩ : ∃ g, g = wn2.heap.size := ⟨_, rfl⟩
        rw [← hg6] at h8 hl8 ⊢
        try (rw [← hg6] at ho)
        try (have hne1 : (Value.slice A' x.blobs.length c').ownBlock ≠ some g6 := fun e => by have := hA1 _ e; omega)
        try (have hne2 : (Value.slice B' x.ents.length d').ownBlock ≠ some g6 := fun e => by have := hA2 _ e; omega)
        try clear hA1
        try clear hA2
        clear hg6
        clear hst
        clear hK K
        try simp only [List.getElem_toArray, List.getElem_cons_zero, List.getElem_cons_succ, Act.put, List.setIfInBounds_toArray, List.set_cons_zero, List.set_cons_succ]
        refine wpAnyH_ready (rs := [8]) (by kernel_rfl) (by simp) ?_
        refine AllReadyH.cons (o := _) rfl (fun K hK => ?_) ?_
        ·
          try have hA8 := h8.lt
          go_simp
          refine (HMN.out wn6 PA pc hB hP).mono ?_
          rintro e5 w5 ⟨A', c', B', d', rfl, ho5, hb5⟩
          dsimp only
          refine outG hK ?_ (Below wn6.heap.size wn6) (fun W => OwSt W wn6.heap.size (Value.slice A' x.blobs.length c') (Value.slice B' x.ents.length d') x (fun b => b < wn6.heap.size)) ?_ ?_ (fun wn7 hHeld hst hnew => ?_)
          · (exact HSB.out _ (hB.trans (Below.mono (show Below wn6.heap.size wn6 _ from by (first | exact (Below.refl _ _).alloc (Nat.le_refl _) _ | exact hbq | exact hb5 | exact Below.refl _ _)) hB.size)))
          · (first | exact (Below.refl _ _).alloc (Nat.le_refl _) _ | exact hbq | exact hb5 | exact Below.refl _ _)
          · (exact ho5)
          have hB := hB.trans (hst.mono hB.size)
          have h8 := h8.below hst
          have ho := hnew
          try (have hne1 : (Value.slice A' x.blobs.length c').ownBlock ≠ some g6 := fun e => by have := (ho.b.rwo.blk e).1; omega)
          try (have hne2 : (Value.slice B' x.ents.length d').ownBlock ≠ some g6 := fun e => by have := (ho.e.rwo.blk e).1; omega)
          try (have ho := ho.wider (N' := fun b => b = g6) (fun b hb => .inl (by omega)))
          try (have ho := ho.lower (base' := 0) (Nat.zero_le _))
          clear hst
          clear hK K
          try simp only [List.getElem_toArray, List.getElem_cons_zero, List.getElem_cons_succ, Act.put, List.setIfInBounds_toArray, List.set_cons_zero, List.set_cons_succ]
          refine wpAnyH_take (i := 9) (oi := _) (v := ?_) rfl (by kernel_rfl) (by kernel_rfl) (by kernel_rfl) (fun _ _ _ h => h) (Or.inl ⟨by rfl, ?_⟩) (by assumption) ?_
          rotate_left
          · (intro w hSw; (try dsimp only at hSw); go_simp; try (with_reducible rfl))
          try simp only [List.getElem_toArray, List.getElem_cons_zero, List.getElem_cons_succ, Act.put, List.setIfInBounds_toArray, List.set_cons_zero, List.set_cons_succ]
          refine wpAnyH_take (i := 10) (oi := _) (v := ?_) rfl (by kernel_rfl) (by kernel_rfl) (by kernel_rfl) (fun _ _ _ h => h) (Or.inl ⟨by rfl, ?_⟩) (by assumption) ?_
          rotate_left
          · (intro w hSw; (try dsimp only at hSw); go_simp; try (with_reducible rfl))
          try simp only [List.getElem_toArray, List.getElem_cons_zero, List.getElem_cons_succ, Act.put, List.setIfInBounds_toArray, List.set_cons_zero, List.set_cons_succ]
          refine wpAnyH_take (i := 11) (oi := _) (v := ?_) rfl (by kernel_rfl) (by kernel_rfl) (by kernel_rfl) (fun _ _ _ h => h) (Or.inl ⟨by rfl, ?_⟩) (by assumption) ?_
          rotate_left
          · (intro w hSw; (try dsimp only at hSw); go_simp; try (with_reducible rfl))
          try simp only [List.getElem_toArray, List.getElem_cons_zero, List.getElem_cons_succ, Act.put, List.setIfInBounds_toArray, List.set_cons_zero, List.set_cons_succ]
          refine wpAnyH_ready (rs := [13]) (by kernel_rfl) (by simp) ?_
          refine AllReadyH.cons (o := _) rfl (fun K hK => ?_) ?_
          ·
            have z0 := h8.cell (k := 0) rfl
            have z1 := h8.cell (k := 1) rfl
            have z2 := h8.cell (k := 2) rfl
            have z3 := h8.cell (k := 3) rfl
            have f0 := h8.frozen 0
            have f1 := h8.frozen 1
            have f2 := h8.frozen 2
            have f3 := h8.frozen 3
            go_simp
            clear z0 z1 z2 z3 f0 f1 f2 f3
            refine outG hK ?_ (fun W => Arr W g6 28 [.slice A' x.blobs.length c', .slice B' x.ents.length d', .int .i64 (x.room : Int), .int .i64 (x.clock : Int)]) (fun W => Below u2.heap.size u2 W ∧ OwSt W 0 (Value.slice A' x.blobs.length c') (Value.slice B' x.ents.length d') x (fun b => b = g6)) ?_ ?_ (fun wn8 hHeld hF hG => ?_)
            · exact HSB.out _ ((((hB.setCell (p := ⟨g6, 0, none⟩) hl8 _).setCell (p := ⟨g6, 1, none⟩) hl8 _).setCell (p := ⟨g6, 2, none⟩) hl8 _).setCell (p := ⟨g6, 3, none⟩) hl8 _)
            · exact h8.all4 _ _ _ _
            · exact ⟨(((hB.setCell (p := ⟨g6, 0, none⟩) hl8 _).setCell (p := ⟨g6, 1, none⟩) hl8 _).setCell (p := ⟨g6, 2, none⟩) hl8 _).setCell (p := ⟨g6, 3, none⟩) hl8 _, (((ho.setX rfl hne1 hne2 _).setX rfl hne1 hne2 _).setX rfl hne1 hne2 _).setX rfl hne1 hne2 _⟩
            clear hB h8 ho
            clear hK K
            try simp only [List.getElem_toArray, List.getElem_cons_zero, List.getElem_cons_succ, Act.put, List.setIfInBounds_toArray, List.set_cons_zero, List.set_cons_succ]
            refine wpAnyH_take (i := 14) (oi := _) (v := ?_) rfl (by kernel_rfl) (by kernel_rfl) (by kernel_rfl) (fun _ _ _ h => h) (Or.inl ⟨by rfl, ?_⟩) (by assumption) ?_
            rotate_left
            · (intro w hSw; (try dsimp only at hSw); go_simp; try (with_reducible rfl))
            try simp only [List.getElem_toArray, List.getElem_cons_zero, List.getElem_cons_succ, Act.put, List.setIfInBounds_toArray, List.set_cons_zero, List.set_cons_succ]
            refine wpAnyH_done (by kernel_rfl) ?_ _
            dsimp only [Exit.then]
            clear hHeld
            obtain ⟨hBz, hoz⟩ := hG
            have hrz : RdSt wn8 A' c' B' d' x := by
              obtain ⟨A9, c9, B9, d9, e1, e2, h⟩ := hoz.rows
              cases e1; cases e2; exact h
            have hall := And.intro hBz (Bx.mk (q := 0) hF hrz (fun _ => HXG.out))
            generalize wn8 = wz at hall ⊢
            generalize g6 = gz at hall ⊢
            generalize A' = Az at hall ⊢
            generalize c' = cz at hall ⊢
            generalize B' = Bz at hall ⊢
            generalize d' = dz at hall ⊢
            generalize PA = PA3
            generalize pc = pc3
            revert wz gz Az cz Bz dz PA3 pc3
            exact REST2.out
          exact AllReadyH.nil
        exact AllReadyH.nil
      exact AllReadyH.nil
    refine AllReadyH.cons (o := _) rfl (fun K hK => ?_) ?_
    ·
      try (have hA1 := fun b (e : (Value.slice A' x.blobs.length c').ownBlock = some b) => (ho.b.rwo.blk e).2)
      try (have hA2 := fun b (e : (Value.slice B' x.ents.length d').ownBlock = some b) => (ho.e.rwo.blk e).2)
      try (have ho := (ho.lower (base' := 0) (Nat.zero_le _)).wider (N' := fun b => b = wn1.heap.size) (fun b hb => .inr (by omega)))
      go_simp
      refine outG hK ?_ (Below wn1.heap.size wn1) (fun W => Arr W wn1.heap.size 28 [.slice none 0 0, .slice none 0 0, .int .i64 0, .int .i64 0] ∧ u2.heap.size ≤ wn1.heap.size) ?_ ?_ (fun wn9 hHeld hst hnew => ?_)
      · (exact HSB.out _ (hB.trans (Below.mono (show Below wn1.heap.size wn1 _ from by (first | exact (Below.refl _ _).alloc (Nat.le_refl _) _ | exact hbq | exact hb5 | exact Below.refl _ _)) hB.size)))
      · (first | exact (Below.refl _ _).alloc (Nat.le_refl _) _ | exact hbq | exact hb5 | exact Below.refl _ _)
      · (exact ⟨Arr.new _ _ _, hB.size⟩)
      have hB := hB.trans (hst.mono hB.size)
      obtain ⟨h8, hl8⟩ := hnew
      obtain ⟨g6, hg6⟩ : ∃ g, g = wn1.heap.size := ⟨_, rfl⟩
      rw [← hg6] at h8 hl8 ⊢
      try (rw [← hg6] at ho)
      try (have hne1 : (Value.slice A' x.blobs.length c').ownBlock ≠ some g6 := fun e => by have := hA1 _ e; omega)
      try (have hne2 : (Value.slice B' x.ents.length d').ownBlock ≠ some g6 := fun e => by have := hA2 _ e; omega)
      try clear hA1
      try clear hA2
      clear hg6
      clear hst
      clear hK K
      try simp only [List.getElem_toArray, List.getElem_cons_zero, List.getElem_cons_succ, Act.put, List.setIfInBounds_toArray, List.set_cons_zero, List.set_cons_succ]
      refine wpAnyH_ready (rs := [7]) (by kernel_rfl) (by simp) ?_
      refine AllReadyH.cons (o := _) rfl (fun K hK => ?_) ?_
      ·
        go_simp
        refine (HPT.out wn9 hB).mono ?_
        rintro e5 w5 ⟨PA, pc, rfl, hp5, hb5⟩
        dsimp only
        refine outG hK ?_ (Below wn9.heap.size wn9) (fun W => Sl W 3 PA ps.length pc (pcs ps)) ?_ ?_ (fun wn10 hHeld hst hnew => ?_)
        · (exact HSB.out _ (hB.trans (Below.mono (show Below wn9.heap.size wn9 _ from by (first | exact (Below.refl _ _).alloc (Nat.le_refl _) _ | exact hbq | exact hb5 | exact Below.refl _ _)) hB.size)))
        · (first | exact (Below.refl _ _).alloc (Nat.le_refl _) _ | exact hbq | exact hb5 | exact Below.refl _ _)
        · (exact hp5)
        have hB := hB.trans (hst.mono hB.size)
        have h8 := h8.below hst
        have hP := hnew
        clear hnew
        clear hst
        clear hK K
        try simp only [List.getElem_toArray, List.getElem_cons_zero, List.getElem_cons_succ, Act.put, List.setIfInBounds_toArray, List.set_cons_zero, List.set_cons_succ]
        refine wpAnyH_ready (rs := [8]) (by kernel_rfl) (by simp) ?_
        refine AllReadyH.cons (o := _) rfl (fun K hK => ?_) ?_
        ·
          try have hA8 := h8.lt
          go_simp
          refine (HMN.out wn10 PA pc hB hP).mono ?_
          rintro e5 w5 ⟨A', c', B', d', rfl, ho5, hb5⟩
          dsimp only
          refine outG hK ?_ (Below wn10.heap.size wn10) (fun W => OwSt W wn10.heap.size (Value.slice A' x.blobs.length c') (Value.slice B' x.ents.length d') x (fun b => b < wn10.heap.size)) ?_ ?_ (fun wn11 hHeld hst hnew => ?_)
          · (exact HSB.out _ (hB.trans (Below.mono (show Below wn10.heap.size wn10 _ from by (first | exact (Below.refl _ _).alloc (Nat.le_refl _) _ | exact hbq | exact hb5 | exact Below.refl _ _)) hB.size)))
          · (first | exact (Below.refl _ _).alloc (Nat.le_refl _) _ | exact hbq | exact hb5 | exact Below.refl _ _)
          · (exact ho5)
          have hB := hB.trans (hst.mono hB.size)
          have h8 := h8.below hst
          have ho := hnew
          try (have hne1 : (Value.slice A' x.blobs.length c').ownBlock ≠ some g6 := fun e => by have := (ho.b.rwo.blk e).1; omega)
          try (have hne2 : (Value.slice B' x.ents.length d').ownBlock ≠ some g6 := fun e => by have := (ho.e.rwo.blk e).1; omega)
          try (have ho := ho.wider (N' := fun b => b = g6) (fun b hb => .inl (by omega)))
          try (have ho := ho.lower (base' := 0) (Nat.zero_le _))
          clear hst
          clear hK K
          try simp only [List.getElem_toArray, List.getElem_cons_zero, List.getElem_cons_succ, Act.put, List.setIfInBounds_toArray, List.set_cons_zero, List.set_cons_succ]
          refine wpAnyH_take (i := 9) (oi := _) (v := ?_) rfl (by kernel_rfl) (by kernel_rfl) (by kernel_rfl) (fun _ _ _ h => h) (Or.inl ⟨by rfl, ?_⟩) (by assumption) ?_
          rotate_left
          · (intro w hSw; (try dsimp only at hSw); go_simp; try (with_reducible rfl))
          try simp only [List.getElem_toArray, List.getElem_cons_zero, List.getElem_cons_succ, Act.put, List.setIfInBounds_toArray, List.set_cons_zero, List.set_cons_succ]
          refine wpAnyH_take (i := 10) (oi := _) (v := ?_) rfl (by kernel_rfl) (by kernel_rfl) (by kernel_rfl) (fun _ _ _ h => h) (Or.inl ⟨by rfl, ?_⟩) (by assumption) ?_
          rotate_left
          · (intro w hSw; (try dsimp only at hSw); go_simp; try (with_reducible rfl))
          try simp only [List.getElem_toArray, List.getElem_cons_zero, List.getElem_cons_succ, Act.put, List.setIfInBounds_toArray, List.set_cons_zero, List.set_cons_succ]
          refine wpAnyH_take (i := 11) (oi := _) (v := ?_) rfl (by kernel_rfl) (by kernel_rfl) (by kernel_rfl) (fun _ _ _ h => h) (Or.inl ⟨by rfl, ?_⟩) (by assumption) ?_
          rotate_left
          · (intro w hSw; (try dsimp only at hSw); go_simp; try (with_reducible rfl))
          try simp only [List.getElem_toArray, List.getElem_cons_zero, List.getElem_cons_succ, Act.put, List.setIfInBounds_toArray, List.set_cons_zero, List.set_cons_succ]
          refine wpAnyH_ready (rs := [13]) (by kernel_rfl) (by simp) ?_
          refine AllReadyH.cons (o := _) rfl (fun K hK => ?_) ?_
          ·
            have z0 := h8.cell (k := 0) rfl
            have z1 := h8.cell (k := 1) rfl
            have z2 := h8.cell (k := 2) rfl
            have z3 := h8.cell (k := 3) rfl
            have f0 := h8.frozen 0
            have f1 := h8.frozen 1
            have f2 := h8.frozen 2
            have f3 := h8.frozen 3
            go_simp
            clear z0 z1 z2 z3 f0 f1 f2 f3
            refine outG hK ?_ (fun W => Arr W g6 28 [.slice A' x.blobs.length c', .slice B' x.ents.length d', .int .i64 (x.room : Int), .int .i64 (x.clock : Int)]) (fun W => Below u2.heap.size u2 W ∧ OwSt W 0 (Value.slice A' x.blobs.length c') (Value.slice B' x.ents.length d') x (fun b => b = g6)) ?_ ?_ (fun wn12 hHeld hF hG => ?_)
            · exact HSB.out _ ((((hB.setCell (p := ⟨g6, 0, none⟩) hl8 _).setCell (p := ⟨g6, 1, none⟩) hl8 _).setCell (p := ⟨g6, 2, none⟩) hl8 _).setCell (p := ⟨g6, 3, none⟩) hl8 _)
            · exact h8.all4 _ _ _ _
            · exact ⟨(((hB.setCell (p := ⟨g6, 0, none⟩) hl8 _).setCell (p := ⟨g6, 1, none⟩) hl8 _).setCell (p := ⟨g6, 2, none⟩) hl8 _).setCell (p := ⟨g6, 3, none⟩) hl8 _, (((ho.setX rfl hne1 hne2 _).setX rfl hne1 hne2 _).setX rfl hne1 hne2 _).setX rfl hne1 hne2 _⟩
            clear hB h8 ho
            clear hK K
            try simp only [List.getElem_toArray, List.getElem_cons_zero, List.getElem_cons_succ, Act.put, List.setIfInBounds_toArray, List.set_cons_zero, List.set_cons_succ]
            refine wpAnyH_take (i := 14) (oi := _) (v := ?_) rfl (by kernel_rfl) (by kernel_rfl) (by kernel_rfl) (fun _ _ _ h => h) (Or.inl ⟨by rfl, ?_⟩) (by assumption) ?_
            rotate_left
            · (intro w hSw; (try dsimp only at hSw); go_simp; try (with_reducible rfl))
            try simp only [List.getElem_toArray, List.getElem_cons_zero, List.getElem_cons_succ, Act.put, List.setIfInBounds_toArray, List.set_cons_zero, List.set_cons_succ]
            refine wpAnyH_done (by kernel_rfl) ?_ _
            dsimp only [Exit.then]
            clear hHeld
            obtain ⟨hBz, hoz⟩ := hG
            have hrz : RdSt wn12 A' c' B' d' x := by
              obtain ⟨A9, c9, B9, d9, e1, e2, h⟩ := hoz.rows
              cases e1; cases e2; exact h
            have hall := And.intro hBz (Bx.mk (q := 0) hF hrz (fun _ => HXG.out))
            generalize wn12 = wz at hall ⊢
            generalize g6 = gz at hall ⊢
            generalize A' = Az at hall ⊢
            generalize c' = cz at hall ⊢
            generalize B' = Bz at hall ⊢
            generalize d' = dz at hall ⊢
            generalize PA = PA3
            generalize pc = pc3
            revert wz gz Az cz Bz dz PA3 pc3
            exact REST2.out
          exact AllReadyH.nil
        exact AllReadyH.nil
      exact AllReadyH.nil
    exact AllReadyH.nil
  refine AllReadyH.cons (o := _) rfl (fun K hK => ?_) ?_
  ·
    try (have hA1 := fun b (e : (Value.slice A' x.blobs.length c').ownBlock = some b) => (ho.b.rwo.blk e).2)
    try (have hA2 := fun b (e : (Value.slice B' x.ents.length d').ownBlock = some b) => (ho.e.rwo.blk e).2)
    try (have ho := (ho.lower (base' := 0) (Nat.zero_le _)).wider (N' := fun b => b = wn0.heap.size) (fun b hb => .inr (by omega)))
    go_simp
    refine outG hK ?_ (Below wn0.heap.size wn0) (fun W => Arr W wn0.heap.size 28 [.slice none 0 0, .slice none 0 0, .int .i64 0, .int .i64 0] ∧ u2.heap.size ≤ wn0.heap.size) ?_ ?_ (fun wn13 hHeld hst hnew => ?_)
    · (exact HSB.out _ (hB.trans (Below.mono (show Below wn0.heap.size wn0 _ from by (first | exact (Below.refl _ _).alloc (Nat.le_refl _) _ | exact hbq | exact hb5 | exact Below.refl _ _)) hB.size)))
    · (first | exact (Below.refl _ _).alloc (Nat.le_refl _) _ | exact hbq | exact hb5 | exact Below.refl _ _)
    · (exact ⟨Arr.new _ _ _, hB.size⟩)
    have hB := hB.trans (hst.mono hB.size)
    obtain ⟨h8, hl8⟩ := hnew
    obtain ⟨g6, hg6⟩ : ∃ g, g = wn0.heap.size := ⟨_, rfl⟩
    rw [← hg6] at h8 hl8 ⊢
    try (rw [← hg6] at ho)
    try (have hne1 : (Value.slice A' x.blobs.length c').ownBlock ≠ some g6 := fun e => by have := hA1 _ e; omega)
    try (have hne2 : (Value.slice B' x.ents.length d').ownBlock ≠ some g6 := fun e => by have := hA2 _ e; omega)
    try clear hA1
    try clear hA2
    clear hg6
    clear hst
    clear hK K
    try simp only [List.getElem_toArray, List.getElem_cons_zero, List.getElem_cons_succ, Act.put, List.setIfInBounds_toArray, List.set_cons_zero, List.set_cons_succ]
    refine wpAnyH_ready (rs := [3]) (by kernel_rfl) (by simp) ?_
    refine AllReadyH.cons (o := _) rfl (fun K hK => ?_) ?_
    ·
      go_simp
      refine (HKY.out wn13).mono ?_
      rintro e5 w5 ⟨rfl, hb5⟩
      dsimp only
      refine outG hK ?_ (Below wn13.heap.size wn13) (fun W => True) ?_ ?_ (fun wn14 hHeld hst hnew => ?_)
      · (exact HSB.out _ (hB.trans (Below.mono (show Below wn13.heap.size wn13 _ from by (first | exact (Below.refl _ _).alloc (Nat.le_refl _) _ | exact hbq | exact hb5 | exact Below.refl _ _)) hB.size)))
      · (first | exact (Below.refl _ _).alloc (Nat.le_refl _) _ | exact hbq | exact hb5 | exact Below.refl _ _)
      · (trivial)
      have hB := hB.trans (hst.mono hB.size)
      have h8 := h8.below hst
      clear hst
      clear hK K
      try simp only [List.getElem_toArray, List.getElem_cons_zero, List.getElem_cons_succ, Act.put, List.setIfInBounds_toArray, List.set_cons_zero, List.set_cons_succ]
      refine wpAnyH_ready (rs := [7]) (by kernel_rfl) (by simp) ?_
      refine AllReadyH.cons (o := _) rfl (fun K hK => ?_) ?_
      ·
        go_simp
        refine (HPT.out wn14 hB).mono ?_
        rintro e5 w5 ⟨PA, pc, rfl, hp5, hb5⟩
        dsimp only
        refine outG hK ?_ (Below wn14.heap.size wn14) (fun W => Sl W 3 PA ps.length pc (pcs ps)) ?_ ?_ (fun wn15 hHeld hst hnew => ?_)
        · (exact HSB.out _ (hB.trans (Below.mono (show Below wn14.heap.size wn14 _ from by (first | exact (Below.refl _ _).alloc (Nat.le_refl _) _ | exact hbq | exact hb5 | exact Below.refl _ _)) hB.size)))
        · (first | exact (Below.refl _ _).alloc (Nat.le_refl _) _ | exact hbq | exact hb5 | exact Below.refl _ _)
        · (exact hp5)
        have hB := hB.trans (hst.mono hB.size)
        have h8 := h8.below hst
        have hP := hnew
        clear hnew
        clear hst
        clear hK K
        try simp only [List.getElem_toArray, List.getElem_cons_zero, List.getElem_cons_succ, Act.put, List.setIfInBounds_toArray, List.set_cons_zero, List.set_cons_succ]
        refine wpAnyH_ready (rs := [8]) (by kernel_rfl) (by simp) ?_
        refine AllReadyH.cons (o := _) rfl (fun K hK => ?_) ?_
        ·
          try have hA8 := h8.lt
          go_simp
          refine (HMN.out wn15 PA pc hB hP).mono ?_
          rintro e5 w5 ⟨A', c', B', d', rfl, ho5, hb5⟩
          dsimp only
          refine outG hK ?_ (Below wn15.heap.size wn15) (fun W => OwSt W wn15.heap.size (Value.slice A' x.blobs.length c') (Value.slice B' x.ents.length d') x (fun b => b < wn15.heap.size)) ?_ ?_ (fun wn16 hHeld hst hnew => ?_)
          · (exact HSB.out _ (hB.trans (Below.mono (show Below wn15.heap.size wn15 _ from by (first | exact (Below.refl _ _).alloc (Nat.le_refl _) _ | exact hbq | exact hb5 | exact Below.refl _ _)) hB.size)))
          · (first | exact (Below.refl _ _).alloc (Nat.le_refl _) _ | exact hbq | exact hb5 | exact Below.refl _ _)
          · (exact ho5)
          have hB := hB.trans (hst.mono hB.size)
          have h8 := h8.below hst
          have ho := hnew
          try (have hne1 : (Value.slice A' x.blobs.length c').ownBlock ≠ some g6 := fun e => by have := (ho.b.rwo.blk e).1; omega)
          try (have hne2 : (Value.slice B' x.ents.length d').ownBlock ≠ some g6 := fun e => by have := (ho.e.rwo.blk e).1; omega)
          try (have ho := ho.wider (N' := fun b => b = g6) (fun b hb => .inl (by omega)))
          try (have ho := ho.lower (base' := 0) (Nat.zero_le _))
          clear hst
          clear hK K
          try simp only [List.getElem_toArray, List.getElem_cons_zero, List.getElem_cons_succ, Act.put, List.setIfInBounds_toArray, List.set_cons_zero, List.set_cons_succ]
          refine wpAnyH_take (i := 9) (oi := _) (v := ?_) rfl (by kernel_rfl) (by kernel_rfl) (by kernel_rfl) (fun _ _ _ h => h) (Or.inl ⟨by rfl, ?_⟩) (by assumption) ?_
          rotate_left
          · (intro w hSw; (try dsimp only at hSw); go_simp; try (with_reducible rfl))
          try simp only [List.getElem_toArray, List.getElem_cons_zero, List.getElem_cons_succ, Act.put, List.setIfInBounds_toArray, List.set_cons_zero, List.set_cons_succ]
          refine wpAnyH_take (i := 10) (oi := _) (v := ?_) rfl (by kernel_rfl) (by kernel_rfl) (by kernel_rfl) (fun _ _ _ h => h) (Or.inl ⟨by rfl, ?_⟩) (by assumption) ?_
          rotate_left
          · (intro w hSw; (try dsimp only at hSw); go_simp; try (with_reducible rfl))
          try simp only [List.getElem_toArray, List.getElem_cons_zero, List.getElem_cons_succ, Act.put, List.setIfInBounds_toArray, List.set_cons_zero, List.set_cons_succ]
          refine wpAnyH_take (i := 11) (oi := _) (v := ?_) rfl (by kernel_rfl) (by kernel_rfl) (by kernel_rfl) (fun _ _ _ h => h) (Or.inl ⟨by rfl, ?_⟩) (by assumption) ?_
          rotate_left
          · (intro w hSw; (try dsimp only at hSw); go_simp; try (with_reducible rfl))
          try simp only [List.getElem_toArray, List.getElem_cons_zero, List.getElem_cons_succ, Act.put, List.setIfInBounds_toArray, List.set_cons_zero, List.set_cons_succ]
          refine wpAnyH_ready (rs := [13]) (by kernel_rfl) (by simp) ?_
          refine AllReadyH.cons (o := _) rfl (fun K hK => ?_) ?_
          ·
            have z0 := h8.cell (k := 0) rfl
            have z1 := h8.cell (k := 1) rfl
            have z2 := h8.cell (k := 2) rfl
            have z3 := h8.cell (k := 3) rfl
            have f0 := h8.frozen 0
            have f1 := h8.frozen 1
            have f2 := h8.frozen 2
            have f3 := h8.frozen 3
            go_simp
            clear z0 z1 z2 z3 f0 f1 f2 f3
            refine outG hK ?_ (fun W => Arr W g6 28 [.slice A' x.blobs.length c', .slice B' x.ents.length d', .int .i64 (x.room : Int), .int .i64 (x.clock : Int)]) (fun W => Below u2.heap.size u2 W ∧ OwSt W 0 (Value.slice A' x.blobs.length c') (Value.slice B' x.ents.length d') x (fun b => b = g6)) ?_ ?_ (fun wn17 hHeld hF hG => ?_)
            · exact HSB.out _ ((((hB.setCell (p := ⟨g6, 0, none⟩) hl8 _).setCell (p := ⟨g6, 1, none⟩) hl8 _).setCell (p := ⟨g6, 2, none⟩) hl8 _).setCell (p := ⟨g6, 3, none⟩) hl8 _)
            · exact h8.all4 _ _ _ _
            · exact ⟨(((hB.setCell (p := ⟨g6, 0, none⟩) hl8 _).setCell (p := ⟨g6, 1, none⟩) hl8 _).setCell (p := ⟨g6, 2, none⟩) hl8 _).setCell (p := ⟨g6, 3, none⟩) hl8 _, (((ho.setX rfl hne1 hne2 _).setX rfl hne1 hne2 _).setX rfl hne1 hne2 _).setX rfl hne1 hne2 _⟩
            clear hB h8 ho
            clear hK K
            try simp only [List.getElem_toArray, List.getElem_cons_zero, List.getElem_cons_succ, Act.put, List.setIfInBounds_toArray, List.set_cons_zero, List.set_cons_succ]
            refine wpAnyH_take (i := 14) (oi := _) (v := ?_) rfl (by kernel_rfl) (by kernel_rfl) (by kernel_rfl) (fun _ _ _ h => h) (Or.inl ⟨by rfl, ?_⟩) (by assumption) ?_
            rotate_left
            · (intro w hSw; (try dsimp only at hSw); go_simp; try (with_reducible rfl))
            try simp only [List.getElem_toArray, List.getElem_cons_zero, List.getElem_cons_succ, Act.put, List.setIfInBounds_toArray, List.set_cons_zero, List.set_cons_succ]
            refine wpAnyH_done (by kernel_rfl) ?_ _
            dsimp only [Exit.then]
            clear hHeld
            obtain ⟨hBz, hoz⟩ := hG
            have hrz : RdSt wn17 A' c' B' d' x := by
              obtain ⟨A9, c9, B9, d9, e1, e2, h⟩ := hoz.rows
              cases e1; cases e2; exact h
            have hall := And.intro hBz (Bx.mk (q := 0) hF hrz (fun _ => HXG.out))
            generalize wn17 = wz at hall ⊢
            generalize g6 = gz at hall ⊢
            generalize A' = Az at hall ⊢
            generalize c' = cz at hall ⊢
            generalize B' = Bz at hall ⊢
            generalize d' = dz at hall ⊢
            generalize PA = PA3
            generalize pc = pc3
            revert wz gz Az cz Bz dz PA3 pc3
            exact REST2.out
          exact AllReadyH.nil
        exact AllReadyH.nil
      exact AllReadyH.nil
    exact AllReadyH.nil
  exact AllReadyH.nil
  intro u3 g2 A2 c2 B2 d2 ⟨hBz, bx2⟩ PA3 pc3
  have t1 := hXS.below hBz
  have t2 := hrS.below hBz
  have t3 := hRw.below hBz
  have t4 := hbW.trans (hBz.mono (Nat.le_of_lt hgr))
  have t5 : gr < u3.heap.size := t3.lt
  have s1 := bx1.below hBz
  clear hXS hrS hRw hbW hgr hBz HSB HMN bx1
  have hXS := t1
  have hrS := t2
  have hRw := t3
  have hbW := t4
  have hgr := t5
  have bx1 := s1
  clear t1 t2 t3 t4 t5 s1
  have HSB := Lib.hid (show ∀ W, Below u3.heap.size u3 W → (W.cell? ⟨gs, 0, none⟩ = some (.slice As s.blobs.length cs) ∧ W.cell? ⟨gs, 1, none⟩ = some (.slice Bs s.ents.length ds) ∧ W.cell? ⟨gs, 2, none⟩ = some (.int .i64 (s.room : Int)) ∧ W.cell? ⟨gs, 3, none⟩ = some (.int .i64 (s.clock : Int))) ∧ (W.cell? ⟨gr, 0, none⟩ = some (.int .i64 rk) ∧ W.cell? ⟨gr, 1, none⟩ = some (.int .i64 ra) ∧ W.cell? ⟨gr, 2, none⟩ = some (.int .i64 rb) ∧ W.cell? ⟨gr, 3, none⟩ = some (.string rt)) from fun W h =>
    ⟨⟨(hXS.below h).cell (k := 0) rfl, (hXS.below h).cell (k := 1) rfl, (hXS.below h).cell (k := 2) rfl, (hXS.below h).cell (k := 3) rfl⟩, (hRw.below h).cell (k := 0) rfl, (hRw.below h).cell (k := 1) rfl, (hRw.below h).cell (k := 2) rfl, (hRw.below h).cell (k := 3) rfl⟩)
  have hmn := fun W (h : Below u3.heap.size u3 W) => GetG As cs Bs ds s K W HSG.out (hrS.below h) (by have := HSC.out; omega)
  rw [← HSK.out] at hmn
  have HMN := Lib.hid hmn
  clear hmn
  repeat' ((fail_if_success at_builtin); (fail_if_success at_make); (first | go_values | go_skip | go_guarded | go_step | go_upon | go_back))
  apply share
  intro REST3
  refine wp_region_held_drew (S := (fun w' => (w'.cell? ⟨gs, 0, none⟩ = some (.slice As s.blobs.length cs) ∧ w'.cell? ⟨gs, 1, none⟩ = some (.slice Bs s.ents.length ds) ∧ w'.cell? ⟨gs, 2, none⟩ = some (.int .i64 (s.room : Int)) ∧ w'.cell? ⟨gs, 3, none⟩ = some (.int .i64 (s.clock : Int))) ∧ (w'.cell? ⟨gr, 0, none⟩ = some (.int .i64 rk) ∧ w'.cell? ⟨gr, 1, none⟩ = some (.int .i64 ra) ∧ w'.cell? ⟨gr, 2, none⟩ = some (.int .i64 rb) ∧ w'.cell? ⟨gr, 3, none⟩ = some (.string rt)))) (by kernel_rfl) ?_ (fun hHeld => ?_)
  · exact HSB.out _ (Below.refl _ u3).drew
  have hB := (Below.refl u3.heap.size u3).drew
  generalize u3.drew = wn0 at *
  refine wpAnyH_take (i := 0) (oi := _) (v := ?_) rfl (by kernel_rfl) (by kernel_rfl) (by kernel_rfl) (fun _ _ _ h => h) (Or.inl ⟨by rfl, ?_⟩) (by assumption) ?_
  rotate_left
  · (intro w hSw; (try dsimp only at hSw); go_simp; try (with_reducible rfl))
  try simp only [List.getElem_toArray, List.getElem_cons_zero, List.getElem_cons_succ, Act.put, List.setIfInBounds_toArray, List.set_cons_zero, List.set_cons_succ]
  refine wpAnyH_take (i := 1) (oi := _) (v := ?_) rfl (by kernel_rfl) (by kernel_rfl) (by kernel_rfl) (fun _ _ _ h => h) (Or.inl ⟨by rfl, ?_⟩) (by assumption) ?_
  rotate_left
  · (intro w hSw; (try dsimp only at hSw); go_simp; try (with_reducible rfl))
  try simp only [List.getElem_toArray, List.getElem_cons_zero, List.getElem_cons_succ, Act.put, List.setIfInBounds_toArray, List.set_cons_zero, List.set_cons_succ]
  refine wpAnyH_take (i := 2) (oi := _) (v := ?_) rfl (by kernel_rfl) (by kernel_rfl) (by kernel_rfl) (fun _ _ _ h => h) (Or.inl ⟨by rfl, ?_⟩) (by assumption) ?_
  rotate_left
  · (intro w hSw; (try dsimp only at hSw); go_simp; try (with_reducible rfl))
  try simp only [List.getElem_toArray, List.getElem_cons_zero, List.getElem_cons_succ, Act.put, List.setIfInBounds_toArray, List.set_cons_zero, List.set_cons_succ]
  refine wpAnyH_ready (rs := [3, 9]) (by kernel_rfl) (by simp) ?_
  refine AllReadyH.cons (o := _) rfl (fun K hK => ?_) ?_
  ·
    go_simp
    refine (HKY.out wn0).mono ?_
    rintro e5 w5 ⟨rfl, hb5⟩
    dsimp only
    refine outG hK ?_ (Below wn0.heap.size wn0) (fun W => True) ?_ ?_ (fun wn1 hHeld hst hnew => ?_)
    · (exact HSB.out _ (hB.trans (Below.mono (show Below wn0.heap.size wn0 _ from by (first | exact (Below.refl _ _).alloc (Nat.le_refl _) _ | exact hbq | exact hb5 | exact Below.refl _ _)) hB.size)))
    · (first | exact (Below.refl _ _).alloc (Nat.le_refl _) _ | exact hbq | exact hb5 | exact Below.refl _ _)
    · (trivial)
    have hB := hB.trans (hst.mono hB.size)
    clear hst
    clear hK K
    try simp only [List.getElem_toArray, List.getElem_cons_zero, List.getElem_cons_succ, Act.put, List.setIfInBounds_toArray, List.set_cons_zero, List.set_cons_succ]
    refine wpAnyH_ready (rs := [4, 9]) (by kernel_rfl) (by simp) ?_
    refine AllReadyH.cons (o := _) rfl (fun K hK => ?_) ?_
    ·
      try have hA8 := h8.lt
      go_simp
      refine (HMN.out wn1 hB).mono ?_
      rintro e5 w5 ⟨A', c', B', d', x, q, v3, rfl, ho5, hgx, hb5⟩
      dsimp only
      refine outG hK ?_ (Below wn1.heap.size wn1) (fun W => OwSt W wn1.heap.size (Value.slice A' x.blobs.length c') (Value.slice B' x.ents.length d') x (fun b => b < wn1.heap.size)) ?_ ?_ (fun wn2 hHeld hst hnew => ?_)
      · (exact HSB.out _ (hB.trans (Below.mono (show Below wn1.heap.size wn1 _ from by (first | exact (Below.refl _ _).alloc (Nat.le_refl _) _ | exact hbq | exact hb5 | exact Below.refl _ _)) hB.size)))
      · (first | exact (Below.refl _ _).alloc (Nat.le_refl _) _ | exact hbq | exact hb5 | exact Below.refl _ _)
      · (exact ho5)
      have hB := hB.trans (hst.mono hB.size)
      have ho := hnew
      try (have hne1 : (Value.slice A' x.blobs.length c').ownBlock ≠ some g6 := fun e => by have := (ho.b.rwo.blk e).1; omega)
      try (have hne2 : (Value.slice B' x.ents.length d').ownBlock ≠ some g6 := fun e => by have := (ho.e.rwo.blk e).1; omega)
      try (have ho := ho.wider (N' := fun b => b = g6) (fun b hb => .inl (by omega)))
      try (have ho := ho.lower (base' := 0) (Nat.zero_le _))
      clear hst
      clear hK K
      try simp only [List.getElem_toArray, List.getElem_cons_zero, List.getElem_cons_succ, Act.put, List.setIfInBounds_toArray, List.set_cons_zero, List.set_cons_succ]
      refine wpAnyH_take (i := 5) (oi := _) (v := ?_) rfl (by kernel_rfl) (by kernel_rfl) (by kernel_rfl) (fun _ _ _ h => h) (Or.inl ⟨by rfl, ?_⟩) (by assumption) ?_
      rotate_left
      · (intro w hSw; (try dsimp only at hSw); go_simp; try (with_reducible rfl))
      try simp only [List.getElem_toArray, List.getElem_cons_zero, List.getElem_cons_succ, Act.put, List.setIfInBounds_toArray, List.set_cons_zero, List.set_cons_succ]
      refine wpAnyH_take (i := 6) (oi := _) (v := ?_) rfl (by kernel_rfl) (by kernel_rfl) (by kernel_rfl) (fun _ _ _ h => h) (Or.inl ⟨by rfl, ?_⟩) (by assumption) ?_
      rotate_left
      · (intro w hSw; (try dsimp only at hSw); go_simp; try (with_reducible rfl))
      try simp only [List.getElem_toArray, List.getElem_cons_zero, List.getElem_cons_succ, Act.put, List.setIfInBounds_toArray, List.set_cons_zero, List.set_cons_succ]
      refine wpAnyH_take (i := 7) (oi := _) (v := ?_) rfl (by kernel_rfl) (by kernel_rfl) (by kernel_rfl) (fun _ _ _ h => h) (Or.inl ⟨by rfl, ?_⟩) (by assumption) ?_
      rotate_left
      · (intro w hSw; (try dsimp only at hSw); go_simp; try (with_reducible rfl))
      try simp only [List.getElem_toArray, List.getElem_cons_zero, List.getElem_cons_succ, Act.put, List.setIfInBounds_toArray, List.set_cons_zero, List.set_cons_succ]
      refine wpAnyH_take (i := 8) (oi := _) (v := ?_) rfl (by kernel_rfl) (by kernel_rfl) (by kernel_rfl) (fun _ _ _ h => h) (Or.inl ⟨by rfl, ?_⟩) (by assumption) ?_
      rotate_left
      · (intro w hSw; (try dsimp only at hSw); go_simp; try (with_reducible rfl))
      try simp only [List.getElem_toArray, List.getElem_cons_zero, List.getElem_cons_succ, Act.put, List.setIfInBounds_toArray, List.set_cons_zero, List.set_cons_succ]
      refine wpAnyH_ready (rs := [9]) (by kernel_rfl) (by simp) ?_
      refine AllReadyH.cons (o := _) rfl (fun K hK => ?_) ?_
      ·
        try (have hA1 := fun b (e : (Value.slice A' x.blobs.length c').ownBlock = some b) => (ho.b.rwo.blk e).2)
        try (have hA2 := fun b (e : (Value.slice B' x.ents.length d').ownBlock = some b) => (ho.e.rwo.blk e).2)
        try (have ho := (ho.lower (base' := 0) (Nat.zero_le _)).wider (N' := fun b => b = wn2.heap.size) (fun b hb => .inr (by omega)))
        go_simp
        refine outG hK ?_ (Below wn2.heap.size wn2) (fun W => Arr W wn2.heap.size 28 [.slice none 0 0, .slice none 0 0, .int .i64 0, .int .i64 0] ∧ u3.heap.size ≤ wn2.heap.size) ?_ ?_ (fun wn3 hHeld hst hnew => ?_)
        · (exact HSB.out _ (hB.trans (Below.mono (show Below wn2.heap.size wn2 _ from by (first | exact (Below.refl _ _).alloc (Nat.le_refl _) _ | exact hbq | exact hb5 | exact Below.refl _ _)) hB.size)))
        · (first | exact (Below.refl _ _).alloc (Nat.le_refl _) _ | exact hbq | exact hb5 | exact Below.refl _ _)
        · (exact ⟨Arr.new _ _ _, hB.size⟩)
        have hB := hB.trans (hst.mono hB.size)
        have ho := ho.below hst
        obtain ⟨h8, hl8⟩ := hnew
        obtain ⟨g6, hg6⟩ : ∃ g, g = wn2.heap.size := ⟨_, rfl⟩
        rw [← hg6] at h8 hl8 ⊢
        try (rw [← hg6] at ho)
        try (have hne1 : (Value.slice A' x.blobs.length c').ownBlock ≠ some g6 := fun e => by have := hA1 _ e; omega)
        try (have hne2 : (Value.slice B' x.ents.length d').ownBlock ≠ some g6 := fun e => by have := hA2 _ e; omega)
        try clear hA1
        try clear hA2
        clear hg6
        clear hst
        clear hK K
        try simp only [List.getElem_toArray, List.getElem_cons_zero, List.getElem_cons_succ, Act.put, List.setIfInBounds_toArray, List.set_cons_zero, List.set_cons_succ]
        refine wpAnyH_ready (rs := [10]) (by kernel_rfl) (by simp) ?_
        refine AllReadyH.cons (o := _) rfl (fun K hK => ?_) ?_
        ·
          have z0 := h8.cell (k := 0) rfl
          have z1 := h8.cell (k := 1) rfl
          have z2 := h8.cell (k := 2) rfl
          have z3 := h8.cell (k := 3) rfl
          have f0 := h8.frozen 0
          have f1 := h8.frozen 1
          have f2 := h8.frozen 2
          have f3 := h8.frozen 3
          go_simp
          clear z0 z1 z2 z3 f0 f1 f2 f3
          refine outG hK ?_ (fun W => Arr W g6 28 [.slice A' x.blobs.length c', .slice B' x.ents.length d', .int .i64 (x.room : Int), .int .i64 (x.clock : Int)]) (fun W => Below u3.heap.size u3 W ∧ OwSt W 0 (Value.slice A' x.blobs.length c') (Value.slice B' x.ents.length d') x (fun b => b = g6)) ?_ ?_ (fun wn4 hHeld hF hG => ?_)
          · exact HSB.out _ ((((hB.setCell (p := ⟨g6, 0, none⟩) hl8 _).setCell (p := ⟨g6, 1, none⟩) hl8 _).setCell (p := ⟨g6, 2, none⟩) hl8 _).setCell (p := ⟨g6, 3, none⟩) hl8 _)
          · exact h8.all4 _ _ _ _
          · exact ⟨(((hB.setCell (p := ⟨g6, 0, none⟩) hl8 _).setCell (p := ⟨g6, 1, none⟩) hl8 _).setCell (p := ⟨g6, 2, none⟩) hl8 _).setCell (p := ⟨g6, 3, none⟩) hl8 _, (((ho.setX rfl hne1 hne2 _).setX rfl hne1 hne2 _).setX rfl hne1 hne2 _).setX rfl hne1 hne2 _⟩
          clear hB h8 ho
          clear hK K
          try simp only [List.getElem_toArray, List.getElem_cons_zero, List.getElem_cons_succ, Act.put, List.setIfInBounds_toArray, List.set_cons_zero, List.set_cons_succ]
          refine wpAnyH_take (i := 11) (oi := _) (v := ?_) rfl (by kernel_rfl) (by kernel_rfl) (by kernel_rfl) (fun _ _ _ h => h) (Or.inl ⟨by rfl, ?_⟩) (by assumption) ?_
          rotate_left
          · (intro w hSw; (try dsimp only at hSw); go_simp; try (with_reducible rfl))
          try simp only [List.getElem_toArray, List.getElem_cons_zero, List.getElem_cons_succ, Act.put, List.setIfInBounds_toArray, List.set_cons_zero, List.set_cons_succ]
          refine wpAnyH_take (i := 12) (oi := _) (v := ?_) rfl (by kernel_rfl) (by kernel_rfl) (by kernel_rfl) (fun _ _ _ h => h) (Or.inl ⟨by rfl, ?_⟩) (by assumption) ?_
          rotate_left
          · (intro w hSw; (try dsimp only at hSw); go_simp; try (with_reducible rfl))
          try simp only [List.getElem_toArray, List.getElem_cons_zero, List.getElem_cons_succ, Act.put, List.setIfInBounds_toArray, List.set_cons_zero, List.set_cons_succ]
          refine wpAnyH_done (by kernel_rfl) ?_ _
          dsimp only [Exit.then]
          clear hHeld
          obtain ⟨hBz, hoz⟩ := hG
          have hrz : RdSt wn4 A' c' B' d' x := by
            obtain ⟨A9, c9, B9, d9, e1, e2, h⟩ := hoz.rows
            cases e1; cases e2; exact h
          have hall := And.intro hBz (Bx.mk hF hrz hgx)
          generalize wn4 = wz at hall ⊢
          generalize g6 = gz at hall ⊢
          generalize A' = Az at hall ⊢
          generalize c' = cz at hall ⊢
          generalize B' = Bz at hall ⊢
          generalize d' = dz at hall ⊢
          generalize x = xz at hall ⊢
          generalize q = qz at hall ⊢
          generalize v3 = v4
          revert wz gz Az cz Bz dz xz qz v4
          exact REST3.out
        exact AllReadyH.nil
      exact AllReadyH.nil
    refine AllReadyH.cons (o := _) rfl (fun K hK => ?_) ?_
    ·
      try (have hA1 := fun b (e : (Value.slice A' x.blobs.length c').ownBlock = some b) => (ho.b.rwo.blk e).2)
      try (have hA2 := fun b (e : (Value.slice B' x.ents.length d').ownBlock = some b) => (ho.e.rwo.blk e).2)
      try (have ho := (ho.lower (base' := 0) (Nat.zero_le _)).wider (N' := fun b => b = wn1.heap.size) (fun b hb => .inr (by omega)))
      go_simp
      refine outG hK ?_ (Below wn1.heap.size wn1) (fun W => Arr W wn1.heap.size 28 [.slice none 0 0, .slice none 0 0, .int .i64 0, .int .i64 0] ∧ u3.heap.size ≤ wn1.heap.size) ?_ ?_ (fun wn5 hHeld hst hnew => ?_)
      · (exact HSB.out _ (hB.trans (Below.mono (show Below wn1.heap.size wn1 _ from by (first | exact (Below.refl _ _).alloc (Nat.le_refl _) _ | exact hbq | exact hb5 | exact Below.refl _ _)) hB.size)))
      · (first | exact (Below.refl _ _).alloc (Nat.le_refl _) _ | exact hbq | exact hb5 | exact Below.refl _ _)
      · (exact ⟨Arr.new _ _ _, hB.size⟩)
      have hB := hB.trans (hst.mono hB.size)
      obtain ⟨h8, hl8⟩ := hnew
      obtain ⟨g6, hg6⟩ : ∃ g, g = wn1.heap.size := ⟨_, rfl⟩
      rw [← hg6] at h8 hl8 ⊢
      try (rw [← hg6] at ho)
      try (have hne1 : (Value.slice A' x.blobs.length c').ownBlock ≠ some g6 := fun e => by have := hA1 _ e; omega)
      try (have hne2 : (Value.slice B' x.ents.length d').ownBlock ≠ some g6 := fun e => by have := hA2 _ e; omega)
      try clear hA1
      try clear hA2
      clear hg6
      clear hst
      clear hK K
      try simp only [List.getElem_toArray, List.getElem_cons_zero, List.getElem_cons_succ, Act.put, List.setIfInBounds_toArray, List.set_cons_zero, List.set_cons_succ]
      refine wpAnyH_ready (rs := [4]) (by kernel_rfl) (by simp) ?_
      refine AllReadyH.cons (o := _) rfl (fun K hK => ?_) ?_
      ·
        try have hA8 := h8.lt
        go_simp
        refine (HMN.out wn5 hB).mono ?_
        rintro e5 w5 ⟨A', c', B', d', x, q, v3, rfl, ho5, hgx, hb5⟩
        dsimp only
        refine outG hK ?_ (Below wn5.heap.size wn5) (fun W => OwSt W wn5.heap.size (Value.slice A' x.blobs.length c') (Value.slice B' x.ents.length d') x (fun b => b < wn5.heap.size)) ?_ ?_ (fun wn6 hHeld hst hnew => ?_)
        · (exact HSB.out _ (hB.trans (Below.mono (show Below wn5.heap.size wn5 _ from by (first | exact (Below.refl _ _).alloc (Nat.le_refl _) _ | exact hbq | exact hb5 | exact Below.refl _ _)) hB.size)))
        · (first | exact (Below.refl _ _).alloc (Nat.le_refl _) _ | exact hbq | exact hb5 | exact Below.refl _ _)
        · (exact ho5)
        have hB := hB.trans (hst.mono hB.size)
        have h8 := h8.below hst
        have ho := hnew
        try (have hne1 : (Value.slice A' x.blobs.length c').ownBlock ≠ some g6 := fun e => by have := (ho.b.rwo.blk e).1; omega)
        try (have hne2 : (Value.slice B' x.ents.length d').ownBlock ≠ some g6 := fun e => by have := (ho.e.rwo.blk e).1; omega)
        try (have ho := ho.wider (N' := fun b => b = g6) (fun b hb => .inl (by omega)))
        try (have ho := ho.lower (base' := 0) (Nat.zero_le _))
        clear hst
        clear hK K
        try simp only [List.getElem_toArray, List.getElem_cons_zero, List.getElem_cons_succ, Act.put, List.setIfInBounds_toArray, List.set_cons_zero, List.set_cons_succ]
        refine wpAnyH_take (i := 5) (oi := _) (v := ?_) rfl (by kernel_rfl) (by kernel_rfl) (by kernel_rfl) (fun _ _ _ h => h) (Or.inl ⟨by rfl, ?_⟩) (by assumption) ?_
        rotate_left
        · (intro w hSw; (try dsimp only at hSw); go_simp; try (with_reducible rfl))
        try simp only [List.getElem_toArray, List.getElem_cons_zero, List.getElem_cons_succ, Act.put, List.setIfInBounds_toArray, List.set_cons_zero, List.set_cons_succ]
        refine wpAnyH_take (i := 6) (oi := _) (v := ?_) rfl (by kernel_rfl) (by kernel_rfl) (by kernel_rfl) (fun _ _ _ h => h) (Or.inl ⟨by rfl, ?_⟩) (by assumption) ?_
        rotate_left
        · (intro w hSw; (try dsimp only at hSw); go_simp; try (with_reducible rfl))
        try simp only [List.getElem_toArray, List.getElem_cons_zero, List.getElem_cons_succ, Act.put, List.setIfInBounds_toArray, List.set_cons_zero, List.set_cons_succ]
        refine wpAnyH_take (i := 7) (oi := _) (v := ?_) rfl (by kernel_rfl) (by kernel_rfl) (by kernel_rfl) (fun _ _ _ h => h) (Or.inl ⟨by rfl, ?_⟩) (by assumption) ?_
        rotate_left
        · (intro w hSw; (try dsimp only at hSw); go_simp; try (with_reducible rfl))
        try simp only [List.getElem_toArray, List.getElem_cons_zero, List.getElem_cons_succ, Act.put, List.setIfInBounds_toArray, List.set_cons_zero, List.set_cons_succ]
        refine wpAnyH_take (i := 8) (oi := _) (v := ?_) rfl (by kernel_rfl) (by kernel_rfl) (by kernel_rfl) (fun _ _ _ h => h) (Or.inl ⟨by rfl, ?_⟩) (by assumption) ?_
        rotate_left
        · (intro w hSw; (try dsimp only at hSw); go_simp; try (with_reducible rfl))
        try simp only [List.getElem_toArray, List.getElem_cons_zero, List.getElem_cons_succ, Act.put, List.setIfInBounds_toArray, List.set_cons_zero, List.set_cons_succ]
        refine wpAnyH_ready (rs := [10]) (by kernel_rfl) (by simp) ?_
        refine AllReadyH.cons (o := _) rfl (fun K hK => ?_) ?_
        ·
          have z0 := h8.cell (k := 0) rfl
          have z1 := h8.cell (k := 1) rfl
          have z2 := h8.cell (k := 2) rfl
          have z3 := h8.cell (k := 3) rfl
          have f0 := h8.frozen 0
          have f1 := h8.frozen 1
          have f2 := h8.frozen 2
          have f3 := h8.frozen 3
          go_simp
          clear z0 z1 z2 z3 f0 f1 f2 f3
          refine outG hK ?_ (fun W => Arr W g6 28 [.slice A' x.blobs.length c', .slice B' x.ents.length d', .int .i64 (x.room : Int), .int .i64 (x.clock : Int)]) (fun W => Below u3.heap.size u3 W ∧ OwSt W 0 (Value.slice A' x.blobs.length c') (Value.slice B' x.ents.length d') x (fun b => b = g6)) ?_ ?_ (fun wn7 hHeld hF hG => ?_)
          · exact HSB.out _ ((((hB.setCell (p := ⟨g6, 0, none⟩) hl8 _).setCell (p := ⟨g6, 1, none⟩) hl8 _).setCell (p := ⟨g6, 2, none⟩) hl8 _).setCell (p := ⟨g6, 3, none⟩) hl8 _)
          · exact h8.all4 _ _ _ _
          · exact ⟨(((hB.setCell (p := ⟨g6, 0, none⟩) hl8 _).setCell (p := ⟨g6, 1, none⟩) hl8 _).setCell (p := ⟨g6, 2, none⟩) hl8 _).setCell (p := ⟨g6, 3, none⟩) hl8 _, (((ho.setX rfl hne1 hne2 _).setX rfl hne1 hne2 _).setX rfl hne1 hne2 _).setX rfl hne1 hne2 _⟩
          clear hB h8 ho
          clear hK K
          try simp only [List.getElem_toArray, List.getElem_cons_zero, List.getElem_cons_succ, Act.put, List.setIfInBounds_toArray, List.set_cons_zero, List.set_cons_succ]
          refine wpAnyH_take (i := 11) (oi := _) (v := ?_) rfl (by kernel_rfl) (by kernel_rfl) (by kernel_rfl) (fun _ _ _ h => h) (Or.inl ⟨by rfl, ?_⟩) (by assumption) ?_
          rotate_left
          · (intro w hSw; (try dsimp only at hSw); go_simp; try (with_reducible rfl))
          try simp only [List.getElem_toArray, List.getElem_cons_zero, List.getElem_cons_succ, Act.put, List.setIfInBounds_toArray, List.set_cons_zero, List.set_cons_succ]
          refine wpAnyH_take (i := 12) (oi := _) (v := ?_) rfl (by kernel_rfl) (by kernel_rfl) (by kernel_rfl) (fun _ _ _ h => h) (Or.inl ⟨by rfl, ?_⟩) (by assumption) ?_
          rotate_left
          · (intro w hSw; (try dsimp only at hSw); go_simp; try (with_reducible rfl))
          try simp only [List.getElem_toArray, List.getElem_cons_zero, List.getElem_cons_succ, Act.put, List.setIfInBounds_toArray, List.set_cons_zero, List.set_cons_succ]
          refine wpAnyH_done (by kernel_rfl) ?_ _
          dsimp only [Exit.then]
          clear hHeld
          obtain ⟨hBz, hoz⟩ := hG
          have hrz : RdSt wn7 A' c' B' d' x := by
            obtain ⟨A9, c9, B9, d9, e1, e2, h⟩ := hoz.rows
            cases e1; cases e2; exact h
          have hall := And.intro hBz (Bx.mk hF hrz hgx)
          generalize wn7 = wz at hall ⊢
          generalize g6 = gz at hall ⊢
          generalize A' = Az at hall ⊢
          generalize c' = cz at hall ⊢
          generalize B' = Bz at hall ⊢
          generalize d' = dz at hall ⊢
          generalize x = xz at hall ⊢
          generalize q = qz at hall ⊢
          generalize v3 = v4
          revert wz gz Az cz Bz dz xz qz v4
          exact REST3.out
        exact AllReadyH.nil
      exact AllReadyH.nil
    exact AllReadyH.nil
  refine AllReadyH.cons (o := _) rfl (fun K hK => ?_) ?_
  ·
    try (have hA1 := fun b (e : (Value.slice A' x.blobs.length c').ownBlock = some b) => (ho.b.rwo.blk e).2)
    try (have hA2 := fun b (e : (Value.slice B' x.ents.length d').ownBlock = some b) => (ho.e.rwo.blk e).2)
    try (have ho := (ho.lower (base' := 0) (Nat.zero_le _)).wider (N' := fun b => b = wn0.heap.size) (fun b hb => .inr (by omega)))
    go_simp
    refine outG hK ?_ (Below wn0.heap.size wn0) (fun W => Arr W wn0.heap.size 28 [.slice none 0 0, .slice none 0 0, .int .i64 0, .int .i64 0] ∧ u3.heap.size ≤ wn0.heap.size) ?_ ?_ (fun wn8 hHeld hst hnew => ?_)
    · (exact HSB.out _ (hB.trans (Below.mono (show Below wn0.heap.size wn0 _ from by (first | exact (Below.refl _ _).alloc (Nat.le_refl _) _ | exact hbq | exact hb5 | exact Below.refl _ _)) hB.size)))
    · (first | exact (Below.refl _ _).alloc (Nat.le_refl _) _ | exact hbq | exact hb5 | exact Below.refl _ _)
    · (exact ⟨Arr.new _ _ _, hB.size⟩)
    have hB := hB.trans (hst.mono hB.size)
    obtain ⟨h8, hl8⟩ := hnew
    obtain ⟨g6, hg6⟩ : ∃ g, g = wn0.heap.size := ⟨_, rfl⟩
    rw [← hg6] at h8 hl8 ⊢
    try (rw [← hg6] at ho)
    try (have hne1 : (Value.slice A' x.blobs.length c').ownBlock ≠ some g6 := fun e => by have := hA1 _ e; omega)
    try (have hne2 : (Value.slice B' x.ents.length d').ownBlock ≠ some g6 := fun e => by have := hA2 _ e; omega)
    try clear hA1
    try clear hA2
    clear hg6
    clear hst
    clear hK K
    try simp only [List.getElem_toArray, List.getElem_cons_zero, List.getElem_cons_succ, Act.put, List.setIfInBounds_toArray, List.set_cons_zero, List.set_cons_succ]
    refine wpAnyH_ready (rs := [3]) (by kernel_rfl) (by simp) ?_
    refine AllReadyH.cons (o := _) rfl (fun K hK => ?_) ?_
    ·
      go_simp
      refine (HKY.out wn8).mono ?_
      rintro e5 w5 ⟨rfl, hb5⟩
      dsimp only
      refine outG hK ?_ (Below wn8.heap.size wn8) (fun W => True) ?_ ?_ (fun wn9 hHeld hst hnew => ?_)
      · (exact HSB.out _ (hB.trans (Below.mono (show Below wn8.heap.size wn8 _ from by (first | exact (Below.refl _ _).alloc (Nat.le_refl _) _ | exact hbq | exact hb5 | exact Below.refl _ _)) hB.size)))
      · (first | exact (Below.refl _ _).alloc (Nat.le_refl _) _ | exact hbq | exact hb5 | exact Below.refl _ _)
      · (trivial)
      have hB := hB.trans (hst.mono hB.size)
      have h8 := h8.below hst
      clear hst
      clear hK K
      try simp only [List.getElem_toArray, List.getElem_cons_zero, List.getElem_cons_succ, Act.put, List.setIfInBounds_toArray, List.set_cons_zero, List.set_cons_succ]
      refine wpAnyH_ready (rs := [4]) (by kernel_rfl) (by simp) ?_
      refine AllReadyH.cons (o := _) rfl (fun K hK => ?_) ?_
      ·
        try have hA8 := h8.lt
        go_simp
        refine (HMN.out wn9 hB).mono ?_
        rintro e5 w5 ⟨A', c', B', d', x, q, v3, rfl, ho5, hgx, hb5⟩
        dsimp only
        refine outG hK ?_ (Below wn9.heap.size wn9) (fun W => OwSt W wn9.heap.size (Value.slice A' x.blobs.length c') (Value.slice B' x.ents.length d') x (fun b => b < wn9.heap.size)) ?_ ?_ (fun wn10 hHeld hst hnew => ?_)
        · (exact HSB.out _ (hB.trans (Below.mono (show Below wn9.heap.size wn9 _ from by (first | exact (Below.refl _ _).alloc (Nat.le_refl _) _ | exact hbq | exact hb5 | exact Below.refl _ _)) hB.size)))
        · (first | exact (Below.refl _ _).alloc (Nat.le_refl _) _ | exact hbq | exact hb5 | exact Below.refl _ _)
        · (exact ho5)
        have hB := hB.trans (hst.mono hB.size)
        have h8 := h8.below hst
        have ho := hnew
        try (have hne1 : (Value.slice A' x.blobs.length c').ownBlock ≠ some g6 := fun e => by have := (ho.b.rwo.blk e).1; omega)
        try (have hne2 : (Value.slice B' x.ents.length d').ownBlock ≠ some g6 := fun e => by have := (ho.e.rwo.blk e).1; omega)
        try (have ho := ho.wider (N' := fun b => b = g6) (fun b hb => .inl (by omega)))
        try (have ho := ho.lower (base' := 0) (Nat.zero_le _))
        clear hst
        clear hK K
        try simp only [List.getElem_toArray, List.getElem_cons_zero, List.getElem_cons_succ, Act.put, List.setIfInBounds_toArray, List.set_cons_zero, List.set_cons_succ]
        refine wpAnyH_take (i := 5) (oi := _) (v := ?_) rfl (by kernel_rfl) (by kernel_rfl) (by kernel_rfl) (fun _ _ _ h => h) (Or.inl ⟨by rfl, ?_⟩) (by assumption) ?_
        rotate_left
        · (intro w hSw; (try dsimp only at hSw); go_simp; try (with_reducible rfl))
        try simp only [List.getElem_toArray, List.getElem_cons_zero, List.getElem_cons_succ, Act.put, List.setIfInBounds_toArray, List.set_cons_zero, List.set_cons_succ]
        refine wpAnyH_take (i := 6) (oi := _) (v := ?_) rfl (by kernel_rfl) (by kernel_rfl) (by kernel_rfl) (fun _ _ _ h => h) (Or.inl ⟨by rfl, ?_⟩) (by assumption) ?_
        rotate_left
        · (intro w hSw; (try dsimp only at hSw); go_simp; try (with_reducible rfl))
        try simp only [List.getElem_toArray, List.getElem_cons_zero, List.getElem_cons_succ, Act.put, List.setIfInBounds_toArray, List.set_cons_zero, List.set_cons_succ]
        refine wpAnyH_take (i := 7) (oi := _) (v := ?_) rfl (by kernel_rfl) (by kernel_rfl) (by kernel_rfl) (fun _ _ _ h => h) (Or.inl ⟨by rfl, ?_⟩) (by assumption) ?_
        rotate_left
        · (intro w hSw; (try dsimp only at hSw); go_simp; try (with_reducible rfl))
        try simp only [List.getElem_toArray, List.getElem_cons_zero, List.getElem_cons_succ, Act.put, List.setIfInBounds_toArray, List.set_cons_zero, List.set_cons_succ]
        refine wpAnyH_take (i := 8) (oi := _) (v := ?_) rfl (by kernel_rfl) (by kernel_rfl) (by kernel_rfl) (fun _ _ _ h => h) (Or.inl ⟨by rfl, ?_⟩) (by assumption) ?_
        rotate_left
        · (intro w hSw; (try dsimp only at hSw); go_simp; try (with_reducible rfl))
        try simp only [List.getElem_toArray, List.getElem_cons_zero, List.getElem_cons_succ, Act.put, List.setIfInBounds_toArray, List.set_cons_zero, List.set_cons_succ]
        refine wpAnyH_ready (rs := [10]) (by kernel_rfl) (by simp) ?_
        refine AllReadyH.cons (o := _) rfl (fun K hK => ?_) ?_
        ·
          have z0 := h8.cell (k := 0) rfl
          have z1 := h8.cell (k := 1) rfl
          have z2 := h8.cell (k := 2) rfl
          have z3 := h8.cell (k := 3) rfl
          have f0 := h8.frozen 0
          have f1 := h8.frozen 1
          have f2 := h8.frozen 2
          have f3 := h8.frozen 3
          go_simp
          clear z0 z1 z2 z3 f0 f1 f2 f3
          refine outG hK ?_ (fun W => Arr W g6 28 [.slice A' x.blobs.length c', .slice B' x.ents.length d', .int .i64 (x.room : Int), .int .i64 (x.clock : Int)]) (fun W => Below u3.heap.size u3 W ∧ OwSt W 0 (Value.slice A' x.blobs.length c') (Value.slice B' x.ents.length d') x (fun b => b = g6)) ?_ ?_ (fun wn11 hHeld hF hG => ?_)
          · exact HSB.out _ ((((hB.setCell (p := ⟨g6, 0, none⟩) hl8 _).setCell (p := ⟨g6, 1, none⟩) hl8 _).setCell (p := ⟨g6, 2, none⟩) hl8 _).setCell (p := ⟨g6, 3, none⟩) hl8 _)
          · exact h8.all4 _ _ _ _
          · exact ⟨(((hB.setCell (p := ⟨g6, 0, none⟩) hl8 _).setCell (p := ⟨g6, 1, none⟩) hl8 _).setCell (p := ⟨g6, 2, none⟩) hl8 _).setCell (p := ⟨g6, 3, none⟩) hl8 _, (((ho.setX rfl hne1 hne2 _).setX rfl hne1 hne2 _).setX rfl hne1 hne2 _).setX rfl hne1 hne2 _⟩
          clear hB h8 ho
          clear hK K
          try simp only [List.getElem_toArray, List.getElem_cons_zero, List.getElem_cons_succ, Act.put, List.setIfInBounds_toArray, List.set_cons_zero, List.set_cons_succ]
          refine wpAnyH_take (i := 11) (oi := _) (v := ?_) rfl (by kernel_rfl) (by kernel_rfl) (by kernel_rfl) (fun _ _ _ h => h) (Or.inl ⟨by rfl, ?_⟩) (by assumption) ?_
          rotate_left
          · (intro w hSw; (try dsimp only at hSw); go_simp; try (with_reducible rfl))
          try simp only [List.getElem_toArray, List.getElem_cons_zero, List.getElem_cons_succ, Act.put, List.setIfInBounds_toArray, List.set_cons_zero, List.set_cons_succ]
          refine wpAnyH_take (i := 12) (oi := _) (v := ?_) rfl (by kernel_rfl) (by kernel_rfl) (by kernel_rfl) (fun _ _ _ h => h) (Or.inl ⟨by rfl, ?_⟩) (by assumption) ?_
          rotate_left
          · (intro w hSw; (try dsimp only at hSw); go_simp; try (with_reducible rfl))
          try simp only [List.getElem_toArray, List.getElem_cons_zero, List.getElem_cons_succ, Act.put, List.setIfInBounds_toArray, List.set_cons_zero, List.set_cons_succ]
          refine wpAnyH_done (by kernel_rfl) ?_ _
          dsimp only [Exit.then]
          clear hHeld
          obtain ⟨hBz, hoz⟩ := hG
          have hrz : RdSt wn11 A' c' B' d' x := by
            obtain ⟨A9, c9, B9, d9, e1, e2, h⟩ := hoz.rows
            cases e1; cases e2; exact h
          have hall := And.intro hBz (Bx.mk hF hrz hgx)
          generalize wn11 = wz at hall ⊢
          generalize g6 = gz at hall ⊢
          generalize A' = Az at hall ⊢
          generalize c' = cz at hall ⊢
          generalize B' = Bz at hall ⊢
          generalize d' = dz at hall ⊢
          generalize x = xz at hall ⊢
          generalize q = qz at hall ⊢
          generalize v3 = v4
          revert wz gz Az cz Bz dz xz qz v4
          exact REST3.out
        exact AllReadyH.nil
      exact AllReadyH.nil
    exact AllReadyH.nil
  exact AllReadyH.nil
  intro u4 g3 A3 c3 B3 d3 x3 q3 ⟨hBz, bx3⟩ v4
  have t1 := hXS.below hBz
  have t2 := hrS.below hBz
  have t3 := hRw.below hBz
  have t4 := hbW.trans (hBz.mono (Nat.le_of_lt hgr))
  have t5 : gr < u4.heap.size := t3.lt
  have s1 := bx1.below hBz
  have s2 := bx2.below hBz
  clear hXS hrS hRw hbW hgr hBz HSB HMN bx1 bx2
  have hXS := t1
  have hrS := t2
  have hRw := t3
  have hbW := t4
  have hgr := t5
  have bx1 := s1
  have bx2 := s2
  clear t1 t2 t3 t4 t5 s1 s2
  have HSB := Lib.hid (show ∀ W, Below u4.heap.size u4 W → (W.cell? ⟨gs, 0, none⟩ = some (.slice As s.blobs.length cs) ∧ W.cell? ⟨gs, 1, none⟩ = some (.slice Bs s.ents.length ds) ∧ W.cell? ⟨gs, 2, none⟩ = some (.int .i64 (s.room : Int)) ∧ W.cell? ⟨gs, 3, none⟩ = some (.int .i64 (s.clock : Int))) ∧ (W.cell? ⟨gr, 0, none⟩ = some (.int .i64 rk) ∧ W.cell? ⟨gr, 1, none⟩ = some (.int .i64 ra) ∧ W.cell? ⟨gr, 2, none⟩ = some (.int .i64 rb) ∧ W.cell? ⟨gr, 3, none⟩ = some (.string rt)) from fun W h =>
    ⟨⟨(hXS.below h).cell (k := 0) rfl, (hXS.below h).cell (k := 1) rfl, (hXS.below h).cell (k := 2) rfl, (hXS.below h).cell (k := 3) rfl⟩, (hRw.below h).cell (k := 0) rfl, (hRw.below h).cell (k := 1) rfl, (hRw.below h).cell (k := 2) rfl, (hRw.below h).cell (k := 3) rfl⟩)
  have HDX := Lib.hid (show ∀ W (A2 : Option Addr) (c2 : Nat), Below u4.heap.size u4 W → OwnZ W u4.heap.size A2 c2 T → Calls Tryz.prog 14 #[.slice A2 T.length c2] W fun e w' => e = .returned (.string sL) ∧ Below W.heap.size W w' from fun W A2 c2 h hz => by
    have := Digest_ok A2 T.length c2 T W rfl hz.cap.1 HTL.out hz.rd
    rw [← HLT.out, ← HSL.out] at this
    exact this)
  have hmn := fun W (h : Below u4.heap.size u4 W) => HoldBG As cs Bs ds s L up W HSG.out (hrS.below h)
  rw [← HSL.out] at hmn
  have HMN := Lib.hid hmn
  clear hmn
  repeat' ((fail_if_success at_builtin); (fail_if_success at_make); (first | go_values | go_skip | go_guarded | go_step | go_upon | go_back))
  apply share
  intro REST4
  refine wp_region_held_drew (S := (fun w' => (w'.cell? ⟨gs, 0, none⟩ = some (.slice As s.blobs.length cs) ∧ w'.cell? ⟨gs, 1, none⟩ = some (.slice Bs s.ents.length ds) ∧ w'.cell? ⟨gs, 2, none⟩ = some (.int .i64 (s.room : Int)) ∧ w'.cell? ⟨gs, 3, none⟩ = some (.int .i64 (s.clock : Int))) ∧ (w'.cell? ⟨gr, 0, none⟩ = some (.int .i64 rk) ∧ w'.cell? ⟨gr, 1, none⟩ = some (.int .i64 ra) ∧ w'.cell? ⟨gr, 2, none⟩ = some (.int .i64 rb) ∧ w'.cell? ⟨gr, 3, none⟩ = some (.string rt)))) (by kernel_rfl) ?_ (fun hHeld => ?_)
  · exact HSB.out _ (Below.refl _ u4).drew
  have hB := (Below.refl u4.heap.size u4).drew
  generalize u4.drew = wn0 at *
  refine wpAnyH_take (i := 0) (oi := _) (v := ?_) rfl (by kernel_rfl) (by kernel_rfl) (by kernel_rfl) (fun _ _ _ h => h) (Or.inl ⟨by rfl, ?_⟩) (by assumption) ?_
  rotate_left
  · (intro w hSw; (try dsimp only at hSw); go_simp; try (with_reducible rfl))
  try simp only [List.getElem_toArray, List.getElem_cons_zero, List.getElem_cons_succ, Act.put, List.setIfInBounds_toArray, List.set_cons_zero, List.set_cons_succ]
  refine wpAnyH_take (i := 1) (oi := _) (v := ?_) rfl (by kernel_rfl) (by kernel_rfl) (by kernel_rfl) (fun _ _ _ h => h) (Or.inl ⟨by rfl, ?_⟩) (by assumption) ?_
  rotate_left
  · (intro w hSw; (try dsimp only at hSw); go_simp; try (with_reducible rfl))
  try simp only [List.getElem_toArray, List.getElem_cons_zero, List.getElem_cons_succ, Act.put, List.setIfInBounds_toArray, List.set_cons_zero, List.set_cons_succ]
  refine wpAnyH_take (i := 2) (oi := _) (v := ?_) rfl (by kernel_rfl) (by kernel_rfl) (by kernel_rfl) (fun _ _ _ h => h) (Or.inl ⟨by rfl, ?_⟩) (by assumption) ?_
  rotate_left
  · (intro w hSw; (try dsimp only at hSw); go_simp; try (with_reducible rfl))
  try simp only [List.getElem_toArray, List.getElem_cons_zero, List.getElem_cons_succ, Act.put, List.setIfInBounds_toArray, List.set_cons_zero, List.set_cons_succ]
  refine wpAnyH_take (i := 5) (oi := _) (v := ?_) rfl (by kernel_rfl) (by kernel_rfl) (by kernel_rfl) (fun _ _ _ h => h) (Or.inl ⟨by rfl, ?_⟩) (by assumption) ?_
  rotate_left
  · (intro w hSw; (try dsimp only at hSw); go_simp; try (with_reducible rfl))
  try simp only [List.getElem_toArray, List.getElem_cons_zero, List.getElem_cons_succ, Act.put, List.setIfInBounds_toArray, List.set_cons_zero, List.set_cons_succ]
  refine wpAnyH_ready (rs := [3, 10]) (by kernel_rfl) (by simp) ?_
  refine AllReadyH.cons (o := _) rfl (fun K hK => ?_) ?_
  ·
    obtain ⟨wq, qz, hz, hbq⟩ := conv_Z rt wn0 HTZ.out
    rw [HTT.out] at qz hz
    go_simp
    clear qz
    refine outG hK ?_ (Below wn0.heap.size wn0) (fun W => OwnZ W u4.heap.size (some ⟨wn0.heap.size, 0, none⟩) (grownCap wn0 rt.size 0 5) T) ?_ ?_ (fun wn1 hHeld hst hnew => ?_)
    · (exact HSB.out _ (hB.trans (Below.mono (show Below wn0.heap.size wn0 _ from by (first | exact (Below.refl _ _).alloc (Nat.le_refl _) _ | exact hbq | exact hb5 | exact Below.refl _ _)) hB.size)))
    · (first | exact (Below.refl _ _).alloc (Nat.le_refl _) _ | exact hbq | exact hb5 | exact Below.refl _ _)
    · (exact hz.lower hB.size)
    have hB := hB.trans (hst.mono hB.size)
    have hZ := hnew
    clear hnew
    generalize grownCap wn0 rt.size 0 5 = cq at *
    obtain ⟨gq, hgq⟩ : ∃ g, g = wn0.heap.size := ⟨_, rfl⟩
    rw [← hgq] at hZ ⊢
    clear hgq
    clear hst
    clear hK K
    try simp only [List.getElem_toArray, List.getElem_cons_zero, List.getElem_cons_succ, Act.put, List.setIfInBounds_toArray, List.set_cons_zero, List.set_cons_succ]
    refine wpAnyH_ready (rs := [4, 10]) (by kernel_rfl) (by simp) ?_
    refine AllReadyH.cons (o := _) rfl (fun K hK => ?_) ?_
    ·
      go_simp
      refine (HDX.out wn1 _ _ hB hZ).mono ?_
      rintro e5 w5 ⟨rfl, hb5⟩
      dsimp only
      refine outG hK ?_ (Below wn1.heap.size wn1) (fun W => True) ?_ ?_ (fun wn2 hHeld hst hnew => ?_)
      · (exact HSB.out _ (hB.trans (Below.mono (show Below wn1.heap.size wn1 _ from by (first | exact (Below.refl _ _).alloc (Nat.le_refl _) _ | exact hbq | exact hb5 | exact Below.refl _ _)) hB.size)))
      · (first | exact (Below.refl _ _).alloc (Nat.le_refl _) _ | exact hbq | exact hb5 | exact Below.refl _ _)
      · (trivial)
      have hB := hB.trans (hst.mono hB.size)
      clear hst
      clear hK K
      try simp only [List.getElem_toArray, List.getElem_cons_zero, List.getElem_cons_succ, Act.put, List.setIfInBounds_toArray, List.set_cons_zero, List.set_cons_succ]
      refine wpAnyH_ready (rs := [6, 10]) (by kernel_rfl) (by simp) ?_
      refine AllReadyH.cons (o := _) rfl (fun K hK => ?_) ?_
      ·
        try have hA8 := h8.lt
        go_simp
        refine (HMN.out wn2 hB).mono ?_
        rintro e5 w5 ⟨A', c', B', d', x, q, rfl, ho5, hgx, hb5⟩
        dsimp only
        refine outG hK ?_ (Below wn2.heap.size wn2) (fun W => OwSt W wn2.heap.size (Value.slice A' x.blobs.length c') (Value.slice B' x.ents.length d') x (fun b => b < wn2.heap.size)) ?_ ?_ (fun wn3 hHeld hst hnew => ?_)
        · (exact HSB.out _ (hB.trans (Below.mono (show Below wn2.heap.size wn2 _ from by (first | exact (Below.refl _ _).alloc (Nat.le_refl _) _ | exact hbq | exact hb5 | exact Below.refl _ _)) hB.size)))
        · (first | exact (Below.refl _ _).alloc (Nat.le_refl _) _ | exact hbq | exact hb5 | exact Below.refl _ _)
        · (exact ho5)
        have hB := hB.trans (hst.mono hB.size)
        have ho := hnew
        try (have hne1 : (Value.slice A' x.blobs.length c').ownBlock ≠ some g6 := fun e => by have := (ho.b.rwo.blk e).1; omega)
        try (have hne2 : (Value.slice B' x.ents.length d').ownBlock ≠ some g6 := fun e => by have := (ho.e.rwo.blk e).1; omega)
        try (have ho := ho.wider (N' := fun b => b = g6) (fun b hb => .inl (by omega)))
        try (have ho := ho.lower (base' := 0) (Nat.zero_le _))
        clear hst
        clear hK K
        try simp only [List.getElem_toArray, List.getElem_cons_zero, List.getElem_cons_succ, Act.put, List.setIfInBounds_toArray, List.set_cons_zero, List.set_cons_succ]
        refine wpAnyH_take (i := 7) (oi := _) (v := ?_) rfl (by kernel_rfl) (by kernel_rfl) (by kernel_rfl) (fun _ _ _ h => h) (Or.inl ⟨by rfl, ?_⟩) (by assumption) ?_
        rotate_left
        · (intro w hSw; (try dsimp only at hSw); go_simp; try (with_reducible rfl))
        try simp only [List.getElem_toArray, List.getElem_cons_zero, List.getElem_cons_succ, Act.put, List.setIfInBounds_toArray, List.set_cons_zero, List.set_cons_succ]
        refine wpAnyH_take (i := 8) (oi := _) (v := ?_) rfl (by kernel_rfl) (by kernel_rfl) (by kernel_rfl) (fun _ _ _ h => h) (Or.inl ⟨by rfl, ?_⟩) (by assumption) ?_
        rotate_left
        · (intro w hSw; (try dsimp only at hSw); go_simp; try (with_reducible rfl))
        try simp only [List.getElem_toArray, List.getElem_cons_zero, List.getElem_cons_succ, Act.put, List.setIfInBounds_toArray, List.set_cons_zero, List.set_cons_succ]
        refine wpAnyH_take (i := 9) (oi := _) (v := ?_) rfl (by kernel_rfl) (by kernel_rfl) (by kernel_rfl) (fun _ _ _ h => h) (Or.inl ⟨by rfl, ?_⟩) (by assumption) ?_
        rotate_left
        · (intro w hSw; (try dsimp only at hSw); go_simp; try (with_reducible rfl))
        try simp only [List.getElem_toArray, List.getElem_cons_zero, List.getElem_cons_succ, Act.put, List.setIfInBounds_toArray, List.set_cons_zero, List.set_cons_succ]
        refine wpAnyH_ready (rs := [10]) (by kernel_rfl) (by simp) ?_
        refine AllReadyH.cons (o := _) rfl (fun K hK => ?_) ?_
        ·
          try (have hA1 := fun b (e : (Value.slice A' x.blobs.length c').ownBlock = some b) => (ho.b.rwo.blk e).2)
          try (have hA2 := fun b (e : (Value.slice B' x.ents.length d').ownBlock = some b) => (ho.e.rwo.blk e).2)
          try (have ho := (ho.lower (base' := 0) (Nat.zero_le _)).wider (N' := fun b => b = wn3.heap.size) (fun b hb => .inr (by omega)))
          go_simp
          refine outG hK ?_ (Below wn3.heap.size wn3) (fun W => Arr W wn3.heap.size 28 [.slice none 0 0, .slice none 0 0, .int .i64 0, .int .i64 0] ∧ u4.heap.size ≤ wn3.heap.size) ?_ ?_ (fun wn4 hHeld hst hnew => ?_)
          · (exact HSB.out _ (hB.trans (Below.mono (show Below wn3.heap.size wn3 _ from by (first | exact (Below.refl _ _).alloc (Nat.le_refl _) _ | exact hbq | exact hb5 | exact Below.refl _ _)) hB.size)))
          · (first | exact (Below.refl _ _).alloc (Nat.le_refl _) _ | exact hbq | exact hb5 | exact Below.refl _ _)
          · (exact ⟨Arr.new _ _ _, hB.size⟩)
          have hB := hB.trans (hst.mono hB.size)
          have ho := ho.below hst
          obtain ⟨h8, hl8⟩ := hnew
          obtain ⟨g6, hg6⟩ : ∃ g, g = wn3.heap.size := ⟨_, rfl⟩
          rw [← hg6] at h8 hl8 ⊢
          try (rw [← hg6] at ho)
          try (have hne1 : (Value.slice A' x.blobs.length c').ownBlock ≠ some g6 := fun e => by have := hA1 _ e; omega)
          try (have hne2 : (Value.slice B' x.ents.length d').ownBlock ≠ some g6 := fun e => by have := hA2 _ e; omega)
          try clear hA1
          try clear hA2
          clear hg6
          clear hst
          clear hK K
          try simp only [List.getElem_toArray, List.getElem_cons_zero, List.getElem_cons_succ, Act.put, List.setIfInBounds_toArray, List.set_cons_zero, List.set_cons_succ]
          refine wpAnyH_ready (rs := [11]) (by kernel_rfl) (by simp) ?_
          refine AllReadyH.cons (o := _) rfl (fun K hK => ?_) ?_
          ·
            have z0 := h8.cell (k := 0) rfl
            have z1 := h8.cell (k := 1) rfl
            have z2 := h8.cell (k := 2) rfl
            have z3 := h8.cell (k := 3) rfl
            have f0 := h8.frozen 0
            have f1 := h8.frozen 1
            have f2 := h8.frozen 2
            have f3 := h8.frozen 3
            go_simp
            clear z0 z1 z2 z3 f0 f1 f2 f3
            refine outG hK ?_ (fun W => Arr W g6 28 [.slice A' x.blobs.length c', .slice B' x.ents.length d', .int .i64 (x.room : Int), .int .i64 (x.clock : Int)]) (fun W => Below u4.heap.size u4 W ∧ OwSt W 0 (Value.slice A' x.blobs.length c') (Value.slice B' x.ents.length d') x (fun b => b = g6)) ?_ ?_ (fun wn5 hHeld hF hG => ?_)
            · exact HSB.out _ ((((hB.setCell (p := ⟨g6, 0, none⟩) hl8 _).setCell (p := ⟨g6, 1, none⟩) hl8 _).setCell (p := ⟨g6, 2, none⟩) hl8 _).setCell (p := ⟨g6, 3, none⟩) hl8 _)
            · exact h8.all4 _ _ _ _
            · exact ⟨(((hB.setCell (p := ⟨g6, 0, none⟩) hl8 _).setCell (p := ⟨g6, 1, none⟩) hl8 _).setCell (p := ⟨g6, 2, none⟩) hl8 _).setCell (p := ⟨g6, 3, none⟩) hl8 _, (((ho.setX rfl hne1 hne2 _).setX rfl hne1 hne2 _).setX rfl hne1 hne2 _).setX rfl hne1 hne2 _⟩
            clear hB h8 ho
            clear hK K
            try simp only [List.getElem_toArray, List.getElem_cons_zero, List.getElem_cons_succ, Act.put, List.setIfInBounds_toArray, List.set_cons_zero, List.set_cons_succ]
            refine wpAnyH_take (i := 12) (oi := _) (v := ?_) rfl (by kernel_rfl) (by kernel_rfl) (by kernel_rfl) (fun _ _ _ h => h) (Or.inl ⟨by rfl, ?_⟩) (by assumption) ?_
            rotate_left
            · (intro w hSw; (try dsimp only at hSw); go_simp; try (with_reducible rfl))
            try simp only [List.getElem_toArray, List.getElem_cons_zero, List.getElem_cons_succ, Act.put, List.setIfInBounds_toArray, List.set_cons_zero, List.set_cons_succ]
            refine wpAnyH_done (by kernel_rfl) ?_ _
            dsimp only [Exit.then]
            clear hHeld
            obtain ⟨hBz, hoz⟩ := hG
            have hrz : RdSt wn5 A' c' B' d' x := by
              obtain ⟨A9, c9, B9, d9, e1, e2, h⟩ := hoz.rows
              cases e1; cases e2; exact h
            have hall := And.intro hBz (Bx.mk hF hrz hgx)
            generalize wn5 = wz at hall ⊢
            generalize g6 = gz at hall ⊢
            generalize A' = Az at hall ⊢
            generalize c' = cz at hall ⊢
            generalize B' = Bz at hall ⊢
            generalize d' = dz at hall ⊢
            generalize x = xz at hall ⊢
            generalize q = qz at hall ⊢
            generalize gq = gq3
            generalize cq = cq3
            revert wz gz Az cz Bz dz xz qz gq3 cq3
            exact REST4.out
          exact AllReadyH.nil
        exact AllReadyH.nil
      refine AllReadyH.cons (o := _) rfl (fun K hK => ?_) ?_
      ·
        try (have hA1 := fun b (e : (Value.slice A' x.blobs.length c').ownBlock = some b) => (ho.b.rwo.blk e).2)
        try (have hA2 := fun b (e : (Value.slice B' x.ents.length d').ownBlock = some b) => (ho.e.rwo.blk e).2)
        try (have ho := (ho.lower (base' := 0) (Nat.zero_le _)).wider (N' := fun b => b = wn2.heap.size) (fun b hb => .inr (by omega)))
        go_simp
        refine outG hK ?_ (Below wn2.heap.size wn2) (fun W => Arr W wn2.heap.size 28 [.slice none 0 0, .slice none 0 0, .int .i64 0, .int .i64 0] ∧ u4.heap.size ≤ wn2.heap.size) ?_ ?_ (fun wn6 hHeld hst hnew => ?_)
        · (exact HSB.out _ (hB.trans (Below.mono (show Below wn2.heap.size wn2 _ from by (first | exact (Below.refl _ _).alloc (Nat.le_refl _) _ | exact hbq | exact hb5 | exact Below.refl _ _)) hB.size)))
        · (first | exact (Below.refl _ _).alloc (Nat.le_refl _) _ | exact hbq | exact hb5 | exact Below.refl _ _)
        · (exact ⟨Arr.new _ _ _, hB.size⟩)
        have hB := hB.trans (hst.mono hB.size)
        obtain ⟨h8, hl8⟩ := hnew
        obtain ⟨g6, hg6⟩ : ∃ g, g = wn2.heap.size := ⟨_, rfl⟩
        rw [← hg6] at h8 hl8 ⊢
        try (rw [← hg6] at ho)
        try (have hne1 : (Value.slice A' x.blobs.length c').ownBlock ≠ some g6 := fun e => by have := hA1 _ e; omega)
        try (have hne2 : (Value.slice B' x.ents.length d').ownBlock ≠ some g6 := fun e => by have := hA2 _ e; omega)
        try clear hA1
        try clear hA2
        clear hg6
        clear hst
        clear hK K
        try simp only [List.getElem_toArray, List.getElem_cons_zero, List.getElem_cons_succ, Act.put, List.setIfInBounds_toArray, List.set_cons_zero, List.set_cons_succ]
        refine wpAnyH_ready (rs := [6]) (by kernel_rfl) (by simp) ?_
        refine AllReadyH.cons (o := _) rfl (fun K hK => ?_) ?_
        ·
          try have hA8 := h8.lt
          go_simp
          refine (HMN.out wn6 hB).mono ?_
          rintro e5 w5 ⟨A', c', B', d', x, q, rfl, ho5, hgx, hb5⟩
          dsimp only
          refine outG hK ?_ (Below wn6.heap.size wn6) (fun W => OwSt W wn6.heap.size (Value.slice A' x.blobs.length c') (Value.slice B' x.ents.length d') x (fun b => b < wn6.heap.size)) ?_ ?_ (fun wn7 hHeld hst hnew => ?_)
          · (exact HSB.out _ (hB.trans (Below.mono (show Below wn6.heap.size wn6 _ from by (first | exact (Below.refl _ _).alloc (Nat.le_refl _) _ | exact hbq | exact hb5 | exact Below.refl _ _)) hB.size)))
          · (first | exact (Below.refl _ _).alloc (Nat.le_refl _) _ | exact hbq | exact hb5 | exact Below.refl _ _)
          · (exact ho5)
          have hB := hB.trans (hst.mono hB.size)
          have h8 := h8.below hst
          have ho := hnew
          try (have hne1 : (Value.slice A' x.blobs.length c').ownBlock ≠ some g6 := fun e => by have := (ho.b.rwo.blk e).1; omega)
          try (have hne2 : (Value.slice B' x.ents.length d').ownBlock ≠ some g6 := fun e => by have := (ho.e.rwo.blk e).1; omega)
          try (have ho := ho.wider (N' := fun b => b = g6) (fun b hb => .inl (by omega)))
          try (have ho := ho.lower (base' := 0) (Nat.zero_le _))
          clear hst
          clear hK K
          try simp only [List.getElem_toArray, List.getElem_cons_zero, List.getElem_cons_succ, Act.put, List.setIfInBounds_toArray, List.set_cons_zero, List.set_cons_succ]
          refine wpAnyH_take (i := 7) (oi := _) (v := ?_) rfl (by kernel_rfl) (by kernel_rfl) (by kernel_rfl) (fun _ _ _ h => h) (Or.inl ⟨by rfl, ?_⟩) (by assumption) ?_
          rotate_left
          · (intro w hSw; (try dsimp only at hSw); go_simp; try (with_reducible rfl))
          try simp only [List.getElem_toArray, List.getElem_cons_zero, List.getElem_cons_succ, Act.put, List.setIfInBounds_toArray, List.set_cons_zero, List.set_cons_succ]
          refine wpAnyH_take (i := 8) (oi := _) (v := ?_) rfl (by kernel_rfl) (by kernel_rfl) (by kernel_rfl) (fun _ _ _ h => h) (Or.inl ⟨by rfl, ?_⟩) (by assumption) ?_
          rotate_left
          · (intro w hSw; (try dsimp only at hSw); go_simp; try (with_reducible rfl))
          try simp only [List.getElem_toArray, List.getElem_cons_zero, List.getElem_cons_succ, Act.put, List.setIfInBounds_toArray, List.set_cons_zero, List.set_cons_succ]
          refine wpAnyH_take (i := 9) (oi := _) (v := ?_) rfl (by kernel_rfl) (by kernel_rfl) (by kernel_rfl) (fun _ _ _ h => h) (Or.inl ⟨by rfl, ?_⟩) (by assumption) ?_
          rotate_left
          · (intro w hSw; (try dsimp only at hSw); go_simp; try (with_reducible rfl))
          try simp only [List.getElem_toArray, List.getElem_cons_zero, List.getElem_cons_succ, Act.put, List.setIfInBounds_toArray, List.set_cons_zero, List.set_cons_succ]
          refine wpAnyH_ready (rs := [11]) (by kernel_rfl) (by simp) ?_
          refine AllReadyH.cons (o := _) rfl (fun K hK => ?_) ?_
          ·
            have z0 := h8.cell (k := 0) rfl
            have z1 := h8.cell (k := 1) rfl
            have z2 := h8.cell (k := 2) rfl
            have z3 := h8.cell (k := 3) rfl
            have f0 := h8.frozen 0
            have f1 := h8.frozen 1
            have f2 := h8.frozen 2
            have f3 := h8.frozen 3
            go_simp
            clear z0 z1 z2 z3 f0 f1 f2 f3
            refine outG hK ?_ (fun W => Arr W g6 28 [.slice A' x.blobs.length c', .slice B' x.ents.length d', .int .i64 (x.room : Int), .int .i64 (x.clock : Int)]) (fun W => Below u4.heap.size u4 W ∧ OwSt W 0 (Value.slice A' x.blobs.length c') (Value.slice B' x.ents.length d') x (fun b => b = g6)) ?_ ?_ (fun wn8 hHeld hF hG => ?_)
            · exact HSB.out _ ((((hB.setCell (p := ⟨g6, 0, none⟩) hl8 _).setCell (p := ⟨g6, 1, none⟩) hl8 _).setCell (p := ⟨g6, 2, none⟩) hl8 _).setCell (p := ⟨g6, 3, none⟩) hl8 _)
            · exact h8.all4 _ _ _ _
            · exact ⟨(((hB.setCell (p := ⟨g6, 0, none⟩) hl8 _).setCell (p := ⟨g6, 1, none⟩) hl8 _).setCell (p := ⟨g6, 2, none⟩) hl8 _).setCell (p := ⟨g6, 3, none⟩) hl8 _, (((ho.setX rfl hne1 hne2 _).setX rfl hne1 hne2 _).setX rfl hne1 hne2 _).setX rfl hne1 hne2 _⟩
            clear hB h8 ho
            clear hK K
            try simp only [List.getElem_toArray, List.getElem_cons_zero, List.getElem_cons_succ, Act.put, List.setIfInBounds_toArray, List.set_cons_zero, List.set_cons_succ]
            refine wpAnyH_take (i := 12) (oi := _) (v := ?_) rfl (by kernel_rfl) (by kernel_rfl) (by kernel_rfl) (fun _ _ _ h => h) (Or.inl ⟨by rfl, ?_⟩) (by assumption) ?_
            rotate_left
            · (intro w hSw; (try dsimp only at hSw); go_simp; try (with_reducible rfl))
            try simp only [List.getElem_toArray, List.getElem_cons_zero, List.getElem_cons_succ, Act.put, List.setIfInBounds_toArray, List.set_cons_zero, List.set_cons_succ]
            refine wpAnyH_done (by kernel_rfl) ?_ _
            dsimp only [Exit.then]
            clear hHeld
            obtain ⟨hBz, hoz⟩ := hG
            have hrz : RdSt wn8 A' c' B' d' x := by
              obtain ⟨A9, c9, B9, d9, e1, e2, h⟩ := hoz.rows
              cases e1; cases e2; exact h
            have hall := And.intro hBz (Bx.mk hF hrz hgx)
            generalize wn8 = wz at hall ⊢
            generalize g6 = gz at hall ⊢
            generalize A' = Az at hall ⊢
            generalize c' = cz at hall ⊢
            generalize B' = Bz at hall ⊢
            generalize d' = dz at hall ⊢
            generalize x = xz at hall ⊢
            generalize q = qz at hall ⊢
            generalize gq = gq3
            generalize cq = cq3
            revert wz gz Az cz Bz dz xz qz gq3 cq3
            exact REST4.out
          exact AllReadyH.nil
        exact AllReadyH.nil
      exact AllReadyH.nil
    refine AllReadyH.cons (o := _) rfl (fun K hK => ?_) ?_
    ·
      try (have hA1 := fun b (e : (Value.slice A' x.blobs.length c').ownBlock = some b) => (ho.b.rwo.blk e).2)
      try (have hA2 := fun b (e : (Value.slice B' x.ents.length d').ownBlock = some b) => (ho.e.rwo.blk e).2)
      try (have ho := (ho.lower (base' := 0) (Nat.zero_le _)).wider (N' := fun b => b = wn1.heap.size) (fun b hb => .inr (by omega)))
      go_simp
      refine outG hK ?_ (Below wn1.heap.size wn1) (fun W => Arr W wn1.heap.size 28 [.slice none 0 0, .slice none 0 0, .int .i64 0, .int .i64 0] ∧ u4.heap.size ≤ wn1.heap.size) ?_ ?_ (fun wn9 hHeld hst hnew => ?_)
      · (exact HSB.out _ (hB.trans (Below.mono (show Below wn1.heap.size wn1 _ from by (first | exact (Below.refl _ _).alloc (Nat.le_refl _) _ | exact hbq | exact hb5 | exact Below.refl _ _)) hB.size)))
      · (first | exact (Below.refl _ _).alloc (Nat.le_refl _) _ | exact hbq | exact hb5 | exact Below.refl _ _)
      · (exact ⟨Arr.new _ _ _, hB.size⟩)
      have hB := hB.trans (hst.mono hB.size)
      have hZ := hZ.below hst
      obtain ⟨h8, hl8⟩ := hnew
      obtain ⟨g6, hg6⟩ : ∃ g, g = wn1.heap.size := ⟨_, rfl⟩
      rw [← hg6] at h8 hl8 ⊢
      try (rw [← hg6] at ho)
      try (have hne1 : (Value.slice A' x.blobs.length c').ownBlock ≠ some g6 := fun e => by have := hA1 _ e; omega)
      try (have hne2 : (Value.slice B' x.ents.length d').ownBlock ≠ some g6 := fun e => by have := hA2 _ e; omega)
      try clear hA1
      try clear hA2
      clear hg6
      clear hst
      clear hK K
      try simp only [List.getElem_toArray, List.getElem_cons_zero, List.getElem_cons_succ, Act.put, List.setIfInBounds_toArray, List.set_cons_zero, List.set_cons_succ]
      refine wpAnyH_ready (rs := [4]) (by kernel_rfl) (by simp) ?_
      refine AllReadyH.cons (o := _) rfl (fun K hK => ?_) ?_
      ·
        go_simp
        refine (HDX.out wn9 _ _ hB hZ).mono ?_
        rintro e5 w5 ⟨rfl, hb5⟩
        dsimp only
        refine outG hK ?_ (Below wn9.heap.size wn9) (fun W => True) ?_ ?_ (fun wn10 hHeld hst hnew => ?_)
        · (exact HSB.out _ (hB.trans (Below.mono (show Below wn9.heap.size wn9 _ from by (first | exact (Below.refl _ _).alloc (Nat.le_refl _) _ | exact hbq | exact hb5 | exact Below.refl _ _)) hB.size)))
        · (first | exact (Below.refl _ _).alloc (Nat.le_refl _) _ | exact hbq | exact hb5 | exact Below.refl _ _)
        · (trivial)
        have hB := hB.trans (hst.mono hB.size)
        have h8 := h8.below hst
        clear hst
        clear hK K
        try simp only [List.getElem_toArray, List.getElem_cons_zero, List.getElem_cons_succ, Act.put, List.setIfInBounds_toArray, List.set_cons_zero, List.set_cons_succ]
        refine wpAnyH_ready (rs := [6]) (by kernel_rfl) (by simp) ?_
        refine AllReadyH.cons (o := _) rfl (fun K hK => ?_) ?_
        ·
          try have hA8 := h8.lt
          go_simp
          refine (HMN.out wn10 hB).mono ?_
          rintro e5 w5 ⟨A', c', B', d', x, q, rfl, ho5, hgx, hb5⟩
          dsimp only
          refine outG hK ?_ (Below wn10.heap.size wn10) (fun W => OwSt W wn10.heap.size (Value.slice A' x.blobs.length c') (Value.slice B' x.ents.length d') x (fun b => b < wn10.heap.size)) ?_ ?_ (fun wn11 hHeld hst hnew => ?_)
          · (exact HSB.out _ (hB.trans (Below.mono (show Below wn10.heap.size wn10 _ from by (first | exact (Below.refl _ _).alloc (Nat.le_refl _) _ | exact hbq | exact hb5 | exact Below.refl _ _)) hB.size)))
          · (first | exact (Below.refl _ _).alloc (Nat.le_refl _) _ | exact hbq | exact hb5 | exact Below.refl _ _)
          · (exact ho5)
          have hB := hB.trans (hst.mono hB.size)
          have h8 := h8.below hst
          have ho := hnew
          try (have hne1 : (Value.slice A' x.blobs.length c').ownBlock ≠ some g6 := fun e => by have := (ho.b.rwo.blk e).1; omega)
          try (have hne2 : (Value.slice B' x.ents.length d').ownBlock ≠ some g6 := fun e => by have := (ho.e.rwo.blk e).1; omega)
          try (have ho := ho.wider (N' := fun b => b = g6) (fun b hb => .inl (by omega)))
          try (have ho := ho.lower (base' := 0) (Nat.zero_le _))
          clear hst
          clear hK K
          try simp only [List.getElem_toArray, List.getElem_cons_zero, List.getElem_cons_succ, Act.put, List.setIfInBounds_toArray, List.set_cons_zero, List.set_cons_succ]
          refine wpAnyH_take (i := 7) (oi := _) (v := ?_) rfl (by kernel_rfl) (by kernel_rfl) (by kernel_rfl) (fun _ _ _ h => h) (Or.inl ⟨by rfl, ?_⟩) (by assumption) ?_
          rotate_left
          · (intro w hSw; (try dsimp only at hSw); go_simp; try (with_reducible rfl))
          try simp only [List.getElem_toArray, List.getElem_cons_zero, List.getElem_cons_succ, Act.put, List.setIfInBounds_toArray, List.set_cons_zero, List.set_cons_succ]
          refine wpAnyH_take (i := 8) (oi := _) (v := ?_) rfl (by kernel_rfl) (by kernel_rfl) (by kernel_rfl) (fun _ _ _ h => h) (Or.inl ⟨by rfl, ?_⟩) (by assumption) ?_
          rotate_left
          · (intro w hSw; (try dsimp only at hSw); go_simp; try (with_reducible rfl))
          try simp only [List.getElem_toArray, List.getElem_cons_zero, List.getElem_cons_succ, Act.put, List.setIfInBounds_toArray, List.set_cons_zero, List.set_cons_succ]
          refine wpAnyH_take (i := 9) (oi := _) (v := ?_) rfl (by kernel_rfl) (by kernel_rfl) (by kernel_rfl) (fun _ _ _ h => h) (Or.inl ⟨by rfl, ?_⟩) (by assumption) ?_
          rotate_left
          · (intro w hSw; (try dsimp only at hSw); go_simp; try (with_reducible rfl))
          try simp only [List.getElem_toArray, List.getElem_cons_zero, List.getElem_cons_succ, Act.put, List.setIfInBounds_toArray, List.set_cons_zero, List.set_cons_succ]
          refine wpAnyH_ready (rs := [11]) (by kernel_rfl) (by simp) ?_
          refine AllReadyH.cons (o := _) rfl (fun K hK => ?_) ?_
          ·
            have z0 := h8.cell (k := 0) rfl
            have z1 := h8.cell (k := 1) rfl
            have z2 := h8.cell (k := 2) rfl
            have z3 := h8.cell (k := 3) rfl
            have f0 := h8.frozen 0
            have f1 := h8.frozen 1
            have f2 := h8.frozen 2
            have f3 := h8.frozen 3
            go_simp
            clear z0 z1 z2 z3 f0 f1 f2 f3
            refine outG hK ?_ (fun W => Arr W g6 28 [.slice A' x.blobs.length c', .slice B' x.ents.length d', .int .i64 (x.room : Int), .int .i64 (x.clock : Int)]) (fun W => Below u4.heap.size u4 W ∧ OwSt W 0 (Value.slice A' x.blobs.length c') (Value.slice B' x.ents.length d') x (fun b => b = g6)) ?_ ?_ (fun wn12 hHeld hF hG => ?_)
            · exact HSB.out _ ((((hB.setCell (p := ⟨g6, 0, none⟩) hl8 _).setCell (p := ⟨g6, 1, none⟩) hl8 _).setCell (p := ⟨g6, 2, none⟩) hl8 _).setCell (p := ⟨g6, 3, none⟩) hl8 _)
            · exact h8.all4 _ _ _ _
            · exact ⟨(((hB.setCell (p := ⟨g6, 0, none⟩) hl8 _).setCell (p := ⟨g6, 1, none⟩) hl8 _).setCell (p := ⟨g6, 2, none⟩) hl8 _).setCell (p := ⟨g6, 3, none⟩) hl8 _, (((ho.setX rfl hne1 hne2 _).setX rfl hne1 hne2 _).setX rfl hne1 hne2 _).setX rfl hne1 hne2 _⟩
            clear hB h8 ho
            clear hK K
            try simp only [List.getElem_toArray, List.getElem_cons_zero, List.getElem_cons_succ, Act.put, List.setIfInBounds_toArray, List.set_cons_zero, List.set_cons_succ]
            refine wpAnyH_take (i := 12) (oi := _) (v := ?_) rfl (by kernel_rfl) (by kernel_rfl) (by kernel_rfl) (fun _ _ _ h => h) (Or.inl ⟨by rfl, ?_⟩) (by assumption) ?_
            rotate_left
            · (intro w hSw; (try dsimp only at hSw); go_simp; try (with_reducible rfl))
            try simp only [List.getElem_toArray, List.getElem_cons_zero, List.getElem_cons_succ, Act.put, List.setIfInBounds_toArray, List.set_cons_zero, List.set_cons_succ]
            refine wpAnyH_done (by kernel_rfl) ?_ _
            dsimp only [Exit.then]
            clear hHeld
            obtain ⟨hBz, hoz⟩ := hG
            have hrz : RdSt wn12 A' c' B' d' x := by
              obtain ⟨A9, c9, B9, d9, e1, e2, h⟩ := hoz.rows
              cases e1; cases e2; exact h
            have hall := And.intro hBz (Bx.mk hF hrz hgx)
            generalize wn12 = wz at hall ⊢
            generalize g6 = gz at hall ⊢
            generalize A' = Az at hall ⊢
            generalize c' = cz at hall ⊢
            generalize B' = Bz at hall ⊢
            generalize d' = dz at hall ⊢
            generalize x = xz at hall ⊢
            generalize q = qz at hall ⊢
            generalize gq = gq3
            generalize cq = cq3
            revert wz gz Az cz Bz dz xz qz gq3 cq3
            exact REST4.out
          exact AllReadyH.nil
        exact AllReadyH.nil
      exact AllReadyH.nil
    exact AllReadyH.nil
  refine AllReadyH.cons (o := _) rfl (fun K hK => ?_) ?_
  ·
    try (have hA1 := fun b (e : (Value.slice A' x.blobs.length c').ownBlock = some b) => (ho.b.rwo.blk e).2)
    try (have hA2 := fun b (e : (Value.slice B' x.ents.length d').ownBlock = some b) => (ho.e.rwo.blk e).2)
    try (have ho := (ho.lower (base' := 0) (Nat.zero_le _)).wider (N' := fun b => b = wn0.heap.size) (fun b hb => .inr (by omega)))
    go_simp
    refine outG hK ?_ (Below wn0.heap.size wn0) (fun W => Arr W wn0.heap.size 28 [.slice none 0 0, .slice none 0 0, .int .i64 0, .int .i64 0] ∧ u4.heap.size ≤ wn0.heap.size) ?_ ?_ (fun wn13 hHeld hst hnew => ?_)
    · (exact HSB.out _ (hB.trans (Below.mono (show Below wn0.heap.size wn0 _ from by (first | exact (Below.refl _ _).alloc (Nat.le_refl _) _ | exact hbq | exact hb5 | exact Below.refl _ _)) hB.size)))
    · (first | exact (Below.refl _ _).alloc (Nat.le_refl _) _ | exact hbq | exact hb5 | exact Below.refl _ _)
    · (exact ⟨Arr.new _ _ _, hB.size⟩)
    have hB := hB.trans (hst.mono hB.size)
    obtain ⟨h8, hl8⟩ := hnew
    obtain ⟨g6, hg6⟩ : ∃ g, g = wn0.heap.size := ⟨_, rfl⟩
    rw [← hg6] at h8 hl8 ⊢
    try (rw [← hg6] at ho)
    try (have hne1 : (Value.slice A' x.blobs.length c').ownBlock ≠ some g6 := fun e => by have := hA1 _ e; omega)
    try (have hne2 : (Value.slice B' x.ents.length d').ownBlock ≠ some g6 := fun e => by have := hA2 _ e; omega)
    try clear hA1
    try clear hA2
    clear hg6
    clear hst
    clear hK K
    try simp only [List.getElem_toArray, List.getElem_cons_zero, List.getElem_cons_succ, Act.put, List.setIfInBounds_toArray, List.set_cons_zero, List.set_cons_succ]
    refine wpAnyH_ready (rs := [3]) (by kernel_rfl) (by simp) ?_
    refine AllReadyH.cons (o := _) rfl (fun K hK => ?_) ?_
    ·
      obtain ⟨wq, qz, hz, hbq⟩ := conv_Z rt wn13 HTZ.out
      rw [HTT.out] at qz hz
      go_simp
      clear qz
      refine outG hK ?_ (Below wn13.heap.size wn13) (fun W => OwnZ W u4.heap.size (some ⟨wn13.heap.size, 0, none⟩) (grownCap wn13 rt.size 0 5) T) ?_ ?_ (fun wn14 hHeld hst hnew => ?_)
      · (exact HSB.out _ (hB.trans (Below.mono (show Below wn13.heap.size wn13 _ from by (first | exact (Below.refl _ _).alloc (Nat.le_refl _) _ | exact hbq | exact hb5 | exact Below.refl _ _)) hB.size)))
      · (first | exact (Below.refl _ _).alloc (Nat.le_refl _) _ | exact hbq | exact hb5 | exact Below.refl _ _)
      · (exact hz.lower hB.size)
      have hB := hB.trans (hst.mono hB.size)
      have h8 := h8.below hst
      have hZ := hnew
      clear hnew
      generalize grownCap wn13 rt.size 0 5 = cq at *
      obtain ⟨gq, hgq⟩ : ∃ g, g = wn13.heap.size := ⟨_, rfl⟩
      rw [← hgq] at hZ ⊢
      clear hgq
      clear hst
      clear hK K
      try simp only [List.getElem_toArray, List.getElem_cons_zero, List.getElem_cons_succ, Act.put, List.setIfInBounds_toArray, List.set_cons_zero, List.set_cons_succ]
      refine wpAnyH_ready (rs := [4]) (by kernel_rfl) (by simp) ?_
      refine AllReadyH.cons (o := _) rfl (fun K hK => ?_) ?_
      ·
        go_simp
        refine (HDX.out wn14 _ _ hB hZ).mono ?_
        rintro e5 w5 ⟨rfl, hb5⟩
        dsimp only
        refine outG hK ?_ (Below wn14.heap.size wn14) (fun W => True) ?_ ?_ (fun wn15 hHeld hst hnew => ?_)
        · (exact HSB.out _ (hB.trans (Below.mono (show Below wn14.heap.size wn14 _ from by (first | exact (Below.refl _ _).alloc (Nat.le_refl _) _ | exact hbq | exact hb5 | exact Below.refl _ _)) hB.size)))
        · (first | exact (Below.refl _ _).alloc (Nat.le_refl _) _ | exact hbq | exact hb5 | exact Below.refl _ _)
        · (trivial)
        have hB := hB.trans (hst.mono hB.size)
        have h8 := h8.below hst
        clear hst
        clear hK K
        try simp only [List.getElem_toArray, List.getElem_cons_zero, List.getElem_cons_succ, Act.put, List.setIfInBounds_toArray, List.set_cons_zero, List.set_cons_succ]
        refine wpAnyH_ready (rs := [6]) (by kernel_rfl) (by simp) ?_
        refine AllReadyH.cons (o := _) rfl (fun K hK => ?_) ?_
        ·
          try have hA8 := h8.lt
          go_simp
          refine (HMN.out wn15 hB).mono ?_
          rintro e5 w5 ⟨A', c', B', d', x, q, rfl, ho5, hgx, hb5⟩
          dsimp only
          refine outG hK ?_ (Below wn15.heap.size wn15) (fun W => OwSt W wn15.heap.size (Value.slice A' x.blobs.length c') (Value.slice B' x.ents.length d') x (fun b => b < wn15.heap.size)) ?_ ?_ (fun wn16 hHeld hst hnew => ?_)
          · (exact HSB.out _ (hB.trans (Below.mono (show Below wn15.heap.size wn15 _ from by (first | exact (Below.refl _ _).alloc (Nat.le_refl _) _ | exact hbq | exact hb5 | exact Below.refl _ _)) hB.size)))
          · (first | exact (Below.refl _ _).alloc (Nat.le_refl _) _ | exact hbq | exact hb5 | exact Below.refl _ _)
          · (exact ho5)
          have hB := hB.trans (hst.mono hB.size)
          have h8 := h8.below hst
          have ho := hnew
          try (have hne1 : (Value.slice A' x.blobs.length c').ownBlock ≠ some g6 := fun e => by have := (ho.b.rwo.blk e).1; omega)
          try (have hne2 : (Value.slice B' x.ents.length d').ownBlock ≠ some g6 := fun e => by have := (ho.e.rwo.blk e).1; omega)
          try (have ho := ho.wider (N' := fun b => b = g6) (fun b hb => .inl (by omega)))
          try (have ho := ho.lower (base' := 0) (Nat.zero_le _))
          clear hst
          clear hK K
          try simp only [List.getElem_toArray, List.getElem_cons_zero, List.getElem_cons_succ, Act.put, List.setIfInBounds_toArray, List.set_cons_zero, List.set_cons_succ]
          refine wpAnyH_take (i := 7) (oi := _) (v := ?_) rfl (by kernel_rfl) (by kernel_rfl) (by kernel_rfl) (fun _ _ _ h => h) (Or.inl ⟨by rfl, ?_⟩) (by assumption) ?_
          rotate_left
          · (intro w hSw; (try dsimp only at hSw); go_simp; try (with_reducible rfl))
          try simp only [List.getElem_toArray, List.getElem_cons_zero, List.getElem_cons_succ, Act.put, List.setIfInBounds_toArray, List.set_cons_zero, List.set_cons_succ]
          refine wpAnyH_take (i := 8) (oi := _) (v := ?_) rfl (by kernel_rfl) (by kernel_rfl) (by kernel_rfl) (fun _ _ _ h => h) (Or.inl ⟨by rfl, ?_⟩) (by assumption) ?_
          rotate_left
          · (intro w hSw; (try dsimp only at hSw); go_simp; try (with_reducible rfl))
          try simp only [List.getElem_toArray, List.getElem_cons_zero, List.getElem_cons_succ, Act.put, List.setIfInBounds_toArray, List.set_cons_zero, List.set_cons_succ]
          refine wpAnyH_take (i := 9) (oi := _) (v := ?_) rfl (by kernel_rfl) (by kernel_rfl) (by kernel_rfl) (fun _ _ _ h => h) (Or.inl ⟨by rfl, ?_⟩) (by assumption) ?_
          rotate_left
          · (intro w hSw; (try dsimp only at hSw); go_simp; try (with_reducible rfl))
          try simp only [List.getElem_toArray, List.getElem_cons_zero, List.getElem_cons_succ, Act.put, List.setIfInBounds_toArray, List.set_cons_zero, List.set_cons_succ]
          refine wpAnyH_ready (rs := [11]) (by kernel_rfl) (by simp) ?_
          refine AllReadyH.cons (o := _) rfl (fun K hK => ?_) ?_
          ·
            have z0 := h8.cell (k := 0) rfl
            have z1 := h8.cell (k := 1) rfl
            have z2 := h8.cell (k := 2) rfl
            have z3 := h8.cell (k := 3) rfl
            have f0 := h8.frozen 0
            have f1 := h8.frozen 1
            have f2 := h8.frozen 2
            have f3 := h8.frozen 3
            go_simp
            clear z0 z1 z2 z3 f0 f1 f2 f3
            refine outG hK ?_ (fun W => Arr W g6 28 [.slice A' x.blobs.length c', .slice B' x.ents.length d', .int .i64 (x.room : Int), .int .i64 (x.clock : Int)]) (fun W => Below u4.heap.size u4 W ∧ OwSt W 0 (Value.slice A' x.blobs.length c') (Value.slice B' x.ents.length d') x (fun b => b = g6)) ?_ ?_ (fun wn17 hHeld hF hG => ?_)
            · exact HSB.out _ ((((hB.setCell (p := ⟨g6, 0, none⟩) hl8 _).setCell (p := ⟨g6, 1, none⟩) hl8 _).setCell (p := ⟨g6, 2, none⟩) hl8 _).setCell (p := ⟨g6, 3, none⟩) hl8 _)
            · exact h8.all4 _ _ _ _
            · exact ⟨(((hB.setCell (p := ⟨g6, 0, none⟩) hl8 _).setCell (p := ⟨g6, 1, none⟩) hl8 _).setCell (p := ⟨g6, 2, none⟩) hl8 _).setCell (p := ⟨g6, 3, none⟩) hl8 _, (((ho.setX rfl hne1 hne2 _).setX rfl hne1 hne2 _).setX rfl hne1 hne2 _).setX rfl hne1 hne2 _⟩
            clear hB h8 ho
            clear hK K
            try simp only [List.getElem_toArray, List.getElem_cons_zero, List.getElem_cons_succ, Act.put, List.setIfInBounds_toArray, List.set_cons_zero, List.set_cons_succ]
            refine wpAnyH_take (i := 12) (oi := _) (v := ?_) rfl (by kernel_rfl) (by kernel_rfl) (by kernel_rfl) (fun _ _ _ h => h) (Or.inl ⟨by rfl, ?_⟩) (by assumption) ?_
            rotate_left
            · (intro w hSw; (try dsimp only at hSw); go_simp; try (with_reducible rfl))
            try simp only [List.getElem_toArray, List.getElem_cons_zero, List.getElem_cons_succ, Act.put, List.setIfInBounds_toArray, List.set_cons_zero, List.set_cons_succ]
            refine wpAnyH_done (by kernel_rfl) ?_ _
            dsimp only [Exit.then]
            clear hHeld
            obtain ⟨hBz, hoz⟩ := hG
            have hrz : RdSt wn17 A' c' B' d' x := by
              obtain ⟨A9, c9, B9, d9, e1, e2, h⟩ := hoz.rows
              cases e1; cases e2; exact h
            have hall := And.intro hBz (Bx.mk hF hrz hgx)
            generalize wn17 = wz at hall ⊢
            generalize g6 = gz at hall ⊢
            generalize A' = Az at hall ⊢
            generalize c' = cz at hall ⊢
            generalize B' = Bz at hall ⊢
            generalize d' = dz at hall ⊢
            generalize x = xz at hall ⊢
            generalize q = qz at hall ⊢
            generalize gq = gq3
            generalize cq = cq3
            revert wz gz Az cz Bz dz xz qz gq3 cq3
            exact REST4.out
          exact AllReadyH.nil
        exact AllReadyH.nil
      exact AllReadyH.nil
    exact AllReadyH.nil
  exact AllReadyH.nil
  intro u5 g4 A4 c4 B4 d4 x4 q4 ⟨hBz, bx4⟩ gq3 cq3
  have t1 := hXS.below hBz
  have t2 := hrS.below hBz
  have t3 := hRw.below hBz
  have t4 := hbW.trans (hBz.mono (Nat.le_of_lt hgr))
  have t5 : gr < u5.heap.size := t3.lt
  have s1 := bx1.below hBz
  have s2 := bx2.below hBz
  have s3 := bx3.below hBz
  clear hXS hrS hRw hbW hgr hBz HSB HMN bx1 bx2 bx3
  have hXS := t1
  have hrS := t2
  have hRw := t3
  have hbW := t4
  have hgr := t5
  have bx1 := s1
  have bx2 := s2
  have bx3 := s3
  clear t1 t2 t3 t4 t5 s1 s2 s3
  have HSB := Lib.hid (show ∀ W, Below u5.heap.size u5 W → (W.cell? ⟨gs, 0, none⟩ = some (.slice As s.blobs.length cs) ∧ W.cell? ⟨gs, 1, none⟩ = some (.slice Bs s.ents.length ds) ∧ W.cell? ⟨gs, 2, none⟩ = some (.int .i64 (s.room : Int)) ∧ W.cell? ⟨gs, 3, none⟩ = some (.int .i64 (s.clock : Int))) ∧ (W.cell? ⟨gr, 0, none⟩ = some (.int .i64 rk) ∧ W.cell? ⟨gr, 1, none⟩ = some (.int .i64 ra) ∧ W.cell? ⟨gr, 2, none⟩ = some (.int .i64 rb) ∧ W.cell? ⟨gr, 3, none⟩ = some (.string rt)) from fun W h =>
    ⟨⟨(hXS.below h).cell (k := 0) rfl, (hXS.below h).cell (k := 1) rfl, (hXS.below h).cell (k := 2) rfl, (hXS.below h).cell (k := 3) rfl⟩, (hRw.below h).cell (k := 0) rfl, (hRw.below h).cell (k := 1) rfl, (hRw.below h).cell (k := 2) rfl, (hRw.below h).cell (k := 3) rfl⟩)
  have hmn := fun W (h : Below u5.heap.size u5 W) => HoldEG As cs Bs ds s K up W HSG.out (hrS.below h)
  rw [← HSK.out] at hmn
  have HMN := Lib.hid hmn
  clear hmn
  repeat' ((fail_if_success at_builtin); (fail_if_success at_make); (first | go_values | go_skip | go_guarded | go_step | go_upon | go_back))
  apply share
  intro REST5
  refine wp_region_held_drew (S := (fun w' => (w'.cell? ⟨gs, 0, none⟩ = some (.slice As s.blobs.length cs) ∧ w'.cell? ⟨gs, 1, none⟩ = some (.slice Bs s.ents.length ds) ∧ w'.cell? ⟨gs, 2, none⟩ = some (.int .i64 (s.room : Int)) ∧ w'.cell? ⟨gs, 3, none⟩ = some (.int .i64 (s.clock : Int))) ∧ (w'.cell? ⟨gr, 0, none⟩ = some (.int .i64 rk) ∧ w'.cell? ⟨gr, 1, none⟩ = some (.int .i64 ra) ∧ w'.cell? ⟨gr, 2, none⟩ = some (.int .i64 rb) ∧ w'.cell? ⟨gr, 3, none⟩ = some (.string rt)))) (by kernel_rfl) ?_ (fun hHeld => ?_)
  · exact HSB.out _ (Below.refl _ u5).drew
  have hB := (Below.refl u5.heap.size u5).drew
  generalize u5.drew = wn0 at *
  refine wpAnyH_take (i := 0) (oi := _) (v := ?_) rfl (by kernel_rfl) (by kernel_rfl) (by kernel_rfl) (fun _ _ _ h => h) (Or.inl ⟨by rfl, ?_⟩) (by assumption) ?_
  rotate_left
  · (intro w hSw; (try dsimp only at hSw); go_simp; try (with_reducible rfl))
  try simp only [List.getElem_toArray, List.getElem_cons_zero, List.getElem_cons_succ, Act.put, List.setIfInBounds_toArray, List.set_cons_zero, List.set_cons_succ]
  refine wpAnyH_take (i := 1) (oi := _) (v := ?_) rfl (by kernel_rfl) (by kernel_rfl) (by kernel_rfl) (fun _ _ _ h => h) (Or.inl ⟨by rfl, ?_⟩) (by assumption) ?_
  rotate_left
  · (intro w hSw; (try dsimp only at hSw); go_simp; try (with_reducible rfl))
  try simp only [List.getElem_toArray, List.getElem_cons_zero, List.getElem_cons_succ, Act.put, List.setIfInBounds_toArray, List.set_cons_zero, List.set_cons_succ]
  refine wpAnyH_take (i := 2) (oi := _) (v := ?_) rfl (by kernel_rfl) (by kernel_rfl) (by kernel_rfl) (fun _ _ _ h => h) (Or.inl ⟨by rfl, ?_⟩) (by assumption) ?_
  rotate_left
  · (intro w hSw; (try dsimp only at hSw); go_simp; try (with_reducible rfl))
  try simp only [List.getElem_toArray, List.getElem_cons_zero, List.getElem_cons_succ, Act.put, List.setIfInBounds_toArray, List.set_cons_zero, List.set_cons_succ]
  refine wpAnyH_take (i := 4) (oi := _) (v := ?_) rfl (by kernel_rfl) (by kernel_rfl) (by kernel_rfl) (fun _ _ _ h => h) (Or.inl ⟨by rfl, ?_⟩) (by assumption) ?_
  rotate_left
  · (intro w hSw; (try dsimp only at hSw); go_simp; try (with_reducible rfl))
  try simp only [List.getElem_toArray, List.getElem_cons_zero, List.getElem_cons_succ, Act.put, List.setIfInBounds_toArray, List.set_cons_zero, List.set_cons_succ]
  refine wpAnyH_ready (rs := [3, 9]) (by kernel_rfl) (by simp) ?_
  refine AllReadyH.cons (o := _) rfl (fun K hK => ?_) ?_
  ·
    go_simp
    refine (HKY.out wn0).mono ?_
    rintro e5 w5 ⟨rfl, hb5⟩
    dsimp only
    refine outG hK ?_ (Below wn0.heap.size wn0) (fun W => True) ?_ ?_ (fun wn1 hHeld hst hnew => ?_)
    · (exact HSB.out _ (hB.trans (Below.mono (show Below wn0.heap.size wn0 _ from by (first | exact (Below.refl _ _).alloc (Nat.le_refl _) _ | exact hbq | exact hb5 | exact Below.refl _ _)) hB.size)))
    · (first | exact (Below.refl _ _).alloc (Nat.le_refl _) _ | exact hbq | exact hb5 | exact Below.refl _ _)
    · (trivial)
    have hB := hB.trans (hst.mono hB.size)
    clear hst
    clear hK K
    try simp only [List.getElem_toArray, List.getElem_cons_zero, List.getElem_cons_succ, Act.put, List.setIfInBounds_toArray, List.set_cons_zero, List.set_cons_succ]
    refine wpAnyH_ready (rs := [5, 9]) (by kernel_rfl) (by simp) ?_
    refine AllReadyH.cons (o := _) rfl (fun K hK => ?_) ?_
    ·
      try have hA8 := h8.lt
      go_simp
      refine (HMN.out wn1 hB).mono ?_
      rintro e5 w5 ⟨A', c', B', d', x, q, rfl, ho5, hgx, hb5⟩
      dsimp only
      refine outG hK ?_ (Below wn1.heap.size wn1) (fun W => OwSt W wn1.heap.size (Value.slice A' x.blobs.length c') (Value.slice B' x.ents.length d') x (fun b => b < wn1.heap.size)) ?_ ?_ (fun wn2 hHeld hst hnew => ?_)
      · (exact HSB.out _ (hB.trans (Below.mono (show Below wn1.heap.size wn1 _ from by (first | exact (Below.refl _ _).alloc (Nat.le_refl _) _ | exact hbq | exact hb5 | exact Below.refl _ _)) hB.size)))
      · (first | exact (Below.refl _ _).alloc (Nat.le_refl _) _ | exact hbq | exact hb5 | exact Below.refl _ _)
      · (exact ho5)
      have hB := hB.trans (hst.mono hB.size)
      have ho := hnew
      try (have hne1 : (Value.slice A' x.blobs.length c').ownBlock ≠ some g6 := fun e => by have := (ho.b.rwo.blk e).1; omega)
      try (have hne2 : (Value.slice B' x.ents.length d').ownBlock ≠ some g6 := fun e => by have := (ho.e.rwo.blk e).1; omega)
      try (have ho := ho.wider (N' := fun b => b = g6) (fun b hb => .inl (by omega)))
      try (have ho := ho.lower (base' := 0) (Nat.zero_le _))
      clear hst
      clear hK K
      try simp only [List.getElem_toArray, List.getElem_cons_zero, List.getElem_cons_succ, Act.put, List.setIfInBounds_toArray, List.set_cons_zero, List.set_cons_succ]
      refine wpAnyH_take (i := 6) (oi := _) (v := ?_) rfl (by kernel_rfl) (by kernel_rfl) (by kernel_rfl) (fun _ _ _ h => h) (Or.inl ⟨by rfl, ?_⟩) (by assumption) ?_
      rotate_left
      · (intro w hSw; (try dsimp only at hSw); go_simp; try (with_reducible rfl))
      try simp only [List.getElem_toArray, List.getElem_cons_zero, List.getElem_cons_succ, Act.put, List.setIfInBounds_toArray, List.set_cons_zero, List.set_cons_succ]
      refine wpAnyH_take (i := 7) (oi := _) (v := ?_) rfl (by kernel_rfl) (by kernel_rfl) (by kernel_rfl) (fun _ _ _ h => h) (Or.inl ⟨by rfl, ?_⟩) (by assumption) ?_
      rotate_left
      · (intro w hSw; (try dsimp only at hSw); go_simp; try (with_reducible rfl))
      try simp only [List.getElem_toArray, List.getElem_cons_zero, List.getElem_cons_succ, Act.put, List.setIfInBounds_toArray, List.set_cons_zero, List.set_cons_succ]
      refine wpAnyH_take (i := 8) (oi := _) (v := ?_) rfl (by kernel_rfl) (by kernel_rfl) (by kernel_rfl) (fun _ _ _ h => h) (Or.inl ⟨by rfl, ?_⟩) (by assumption) ?_
      rotate_left
      · (intro w hSw; (try dsimp only at hSw); go_simp; try (with_reducible rfl))
      try simp only [List.getElem_toArray, List.getElem_cons_zero, List.getElem_cons_succ, Act.put, List.setIfInBounds_toArray, List.set_cons_zero, List.set_cons_succ]
      refine wpAnyH_ready (rs := [9]) (by kernel_rfl) (by simp) ?_
      refine AllReadyH.cons (o := _) rfl (fun K hK => ?_) ?_
      ·
        try (have hA1 := fun b (e : (Value.slice A' x.blobs.length c').ownBlock = some b) => (ho.b.rwo.blk e).2)
        try (have hA2 := fun b (e : (Value.slice B' x.ents.length d').ownBlock = some b) => (ho.e.rwo.blk e).2)
        try (have ho := (ho.lower (base' := 0) (Nat.zero_le _)).wider (N' := fun b => b = wn2.heap.size) (fun b hb => .inr (by omega)))
        go_simp
        refine outG hK ?_ (Below wn2.heap.size wn2) (fun W => Arr W wn2.heap.size 28 [.slice none 0 0, .slice none 0 0, .int .i64 0, .int .i64 0] ∧ u5.heap.size ≤ wn2.heap.size) ?_ ?_ (fun wn3 hHeld hst hnew => ?_)
        · (exact HSB.out _ (hB.trans (Below.mono (show Below wn2.heap.size wn2 _ from by (first | exact (Below.refl _ _).alloc (Nat.le_refl _) _ | exact hbq | exact hb5 | exact Below.refl _ _)) hB.size)))
        · (first | exact (Below.refl _ _).alloc (Nat.le_refl _) _ | exact hbq | exact hb5 | exact Below.refl _ _)
        · (exact ⟨Arr.new _ _ _, hB.size⟩)
        have hB := hB.trans (hst.mono hB.size)
        have ho := ho.below hst
        obtain ⟨h8, hl8⟩ := hnew
        obtain ⟨g6, hg6⟩ : ∃ g, g = wn2.heap.size := ⟨_, rfl⟩
        rw [← hg6] at h8 hl8 ⊢
        try (rw [← hg6] at ho)
        try (have hne1 : (Value.slice A' x.blobs.length c').ownBlock ≠ some g6 := fun e => by have := hA1 _ e; omega)
        try (have hne2 : (Value.slice B' x.ents.length d').ownBlock ≠ some g6 := fun e => by have := hA2 _ e; omega)
        try clear hA1
        try clear hA2
        clear hg6
        clear hst
        clear hK K
        try simp only [List.getElem_toArray, List.getElem_cons_zero, List.getElem_cons_succ, Act.put, List.setIfInBounds_toArray, List.set_cons_zero, List.set_cons_succ]
        refine wpAnyH_ready (rs := [10]) (by kernel_rfl) (by simp) ?_
        refine AllReadyH.cons (o := _) rfl (fun K hK => ?_) ?_
        ·
          have z0 := h8.cell (k := 0) rfl
          have z1 := h8.cell (k := 1) rfl
          have z2 := h8.cell (k := 2) rfl
          have z3 := h8.cell (k := 3) rfl
          have f0 := h8.frozen 0
          have f1 := h8.frozen 1
          have f2 := h8.frozen 2
          have f3 := h8.frozen 3
          go_simp
          clear z0 z1 z2 z3 f0 f1 f2 f3
          refine outG hK ?_ (fun W => Arr W g6 28 [.slice A' x.blobs.length c', .slice B' x.ents.length d', .int .i64 (x.room : Int), .int .i64 (x.clock : Int)]) (fun W => Below u5.heap.size u5 W ∧ OwSt W 0 (Value.slice A' x.blobs.length c') (Value.slice B' x.ents.length d') x (fun b => b = g6)) ?_ ?_ (fun wn4 hHeld hF hG => ?_)
          · exact HSB.out _ ((((hB.setCell (p := ⟨g6, 0, none⟩) hl8 _).setCell (p := ⟨g6, 1, none⟩) hl8 _).setCell (p := ⟨g6, 2, none⟩) hl8 _).setCell (p := ⟨g6, 3, none⟩) hl8 _)
          · exact h8.all4 _ _ _ _
          · exact ⟨(((hB.setCell (p := ⟨g6, 0, none⟩) hl8 _).setCell (p := ⟨g6, 1, none⟩) hl8 _).setCell (p := ⟨g6, 2, none⟩) hl8 _).setCell (p := ⟨g6, 3, none⟩) hl8 _, (((ho.setX rfl hne1 hne2 _).setX rfl hne1 hne2 _).setX rfl hne1 hne2 _).setX rfl hne1 hne2 _⟩
          clear hB h8 ho
          clear hK K
          try simp only [List.getElem_toArray, List.getElem_cons_zero, List.getElem_cons_succ, Act.put, List.setIfInBounds_toArray, List.set_cons_zero, List.set_cons_succ]
          refine wpAnyH_take (i := 11) (oi := _) (v := ?_) rfl (by kernel_rfl) (by kernel_rfl) (by kernel_rfl) (fun _ _ _ h => h) (Or.inl ⟨by rfl, ?_⟩) (by assumption) ?_
          rotate_left
          · (intro w hSw; (try dsimp only at hSw); go_simp; try (with_reducible rfl))
          try simp only [List.getElem_toArray, List.getElem_cons_zero, List.getElem_cons_succ, Act.put, List.setIfInBounds_toArray, List.set_cons_zero, List.set_cons_succ]
          refine wpAnyH_done (by kernel_rfl) ?_ _
          dsimp only [Exit.then]
          clear hHeld
          obtain ⟨hBz, hoz⟩ := hG
          have hrz : RdSt wn4 A' c' B' d' x := by
            obtain ⟨A9, c9, B9, d9, e1, e2, h⟩ := hoz.rows
            cases e1; cases e2; exact h
          have hall := And.intro hBz (Bx.mk hF hrz hgx)
          generalize wn4 = wz at hall ⊢
          generalize g6 = gz at hall ⊢
          generalize A' = Az at hall ⊢
          generalize c' = cz at hall ⊢
          generalize B' = Bz at hall ⊢
          generalize d' = dz at hall ⊢
          generalize x = xz at hall ⊢
          generalize q = qz at hall ⊢
          
          revert wz gz Az cz Bz dz xz qz 
          exact REST5.out
        exact AllReadyH.nil
      exact AllReadyH.nil
    refine AllReadyH.cons (o := _) rfl (fun K hK => ?_) ?_
    ·
      try (have hA1 := fun b (e : (Value.slice A' x.blobs.length c').ownBlock = some b) => (ho.b.rwo.blk e).2)
      try (have hA2 := fun b (e : (Value.slice B' x.ents.length d').ownBlock = some b) => (ho.e.rwo.blk e).2)
      try (have ho := (ho.lower (base' := 0) (Nat.zero_le _)).wider (N' := fun b => b = wn1.heap.size) (fun b hb => .inr (by omega)))
      go_simp
      refine outG hK ?_ (Below wn1.heap.size wn1) (fun W => Arr W wn1.heap.size 28 [.slice none 0 0, .slice none 0 0, .int .i64 0, .int .i64 0] ∧ u5.heap.size ≤ wn1.heap.size) ?_ ?_ (fun wn5 hHeld hst hnew => ?_)
      · (exact HSB.out _ (hB.trans (Below.mono (show Below wn1.heap.size wn1 _ from by (first | exact (Below.refl _ _).alloc (Nat.le_refl _) _ | exact hbq | exact hb5 | exact Below.refl _ _)) hB.size)))
      · (first | exact (Below.refl _ _).alloc (Nat.le_refl _) _ | exact hbq | exact hb5 | exact Below.refl _ _)
      · (exact ⟨Arr.new _ _ _, hB.size⟩)
      have hB := hB.trans (hst.mono hB.size)
      obtain ⟨h8, hl8⟩ := hnew
      obtain ⟨g6, hg6⟩ : ∃ g, g = wn1.heap.size := ⟨_, rfl⟩
      rw [← hg6] at h8 hl8 ⊢
      try (rw [← hg6] at ho)
      try (have hne1 : (Value.slice A' x.blobs.length c').ownBlock ≠ some g6 := fun e => by have := hA1 _ e; omega)
      try (have hne2 : (Value.slice B' x.ents.length d').ownBlock ≠ some g6 := fun e => by have := hA2 _ e; omega)
      try clear hA1
      try clear hA2
      clear hg6
      clear hst
      clear hK K
      try simp only [List.getElem_toArray, List.getElem_cons_zero, List.getElem_cons_succ, Act.put, List.setIfInBounds_toArray, List.set_cons_zero, List.set_cons_succ]
      refine wpAnyH_ready (rs := [5]) (by kernel_rfl) (by simp) ?_
      refine AllReadyH.cons (o := _) rfl (fun K hK => ?_) ?_
      ·
        try have hA8 := h8.lt
        go_simp
        refine (HMN.out wn5 hB).mono ?_
        rintro e5 w5 ⟨A', c', B', d', x, q, rfl, ho5, hgx, hb5⟩
        dsimp only
        refine outG hK ?_ (Below wn5.heap.size wn5) (fun W => OwSt W wn5.heap.size (Value.slice A' x.blobs.length c') (Value.slice B' x.ents.length d') x (fun b => b < wn5.heap.size)) ?_ ?_ (fun wn6 hHeld hst hnew => ?_)
        · (exact HSB.out _ (hB.trans (Below.mono (show Below wn5.heap.size wn5 _ from by (first | exact (Below.refl _ _).alloc (Nat.le_refl _) _ | exact hbq | exact hb5 | exact Below.refl _ _)) hB.size)))
        · (first | exact (Below.refl _ _).alloc (Nat.le_refl _) _ | exact hbq | exact hb5 | exact Below.refl _ _)
        · (exact ho5)
        have hB := hB.trans (hst.mono hB.size)
        have h8 := h8.below hst
        have ho := hnew
        try (have hne1 : (Value.slice A' x.blobs.length c').ownBlock ≠ some g6 := fun e => by have := (ho.b.rwo.blk e).1; omega)
        try (have hne2 : (Value.slice B' x.ents.length d').ownBlock ≠ some g6 := fun e => by have := (ho.e.rwo.blk e).1; omega)
        try (have ho := ho.wider (N' := fun b => b = g6) (fun b hb => .inl (by omega)))
        try (have ho := ho.lower (base' := 0) (Nat.zero_le _))
        clear hst
        clear hK K
        try simp only [List.getElem_toArray, List.getElem_cons_zero, List.getElem_cons_succ, Act.put, List.setIfInBounds_toArray, List.set_cons_zero, List.set_cons_succ]
        refine wpAnyH_take (i := 6) (oi := _) (v := ?_) rfl (by kernel_rfl) (by kernel_rfl) (by kernel_rfl) (fun _ _ _ h => h) (Or.inl ⟨by rfl, ?_⟩) (by assumption) ?_
        rotate_left
        · (intro w hSw; (try dsimp only at hSw); go_simp; try (with_reducible rfl))
        try simp only [List.getElem_toArray, List.getElem_cons_zero, List.getElem_cons_succ, Act.put, List.setIfInBounds_toArray, List.set_cons_zero, List.set_cons_succ]
        refine wpAnyH_take (i := 7) (oi := _) (v := ?_) rfl (by kernel_rfl) (by kernel_rfl) (by kernel_rfl) (fun _ _ _ h => h) (Or.inl ⟨by rfl, ?_⟩) (by assumption) ?_
        rotate_left
        · (intro w hSw; (try dsimp only at hSw); go_simp; try (with_reducible rfl))
        try simp only [List.getElem_toArray, List.getElem_cons_zero, List.getElem_cons_succ, Act.put, List.setIfInBounds_toArray, List.set_cons_zero, List.set_cons_succ]
        refine wpAnyH_take (i := 8) (oi := _) (v := ?_) rfl (by kernel_rfl) (by kernel_rfl) (by kernel_rfl) (fun _ _ _ h => h) (Or.inl ⟨by rfl, ?_⟩) (by assumption) ?_
        rotate_left
        · (intro w hSw; (try dsimp only at hSw); go_simp; try (with_reducible rfl))
        try simp only [List.getElem_toArray, List.getElem_cons_zero, List.getElem_cons_succ, Act.put, List.setIfInBounds_toArray, List.set_cons_zero, List.set_cons_succ]
        refine wpAnyH_ready (rs := [10]) (by kernel_rfl) (by simp) ?_
        refine AllReadyH.cons (o := _) rfl (fun K hK => ?_) ?_
        ·
          have z0 := h8.cell (k := 0) rfl
          have z1 := h8.cell (k := 1) rfl
          have z2 := h8.cell (k := 2) rfl
          have z3 := h8.cell (k := 3) rfl
          have f0 := h8.frozen 0
          have f1 := h8.frozen 1
          have f2 := h8.frozen 2
          have f3 := h8.frozen 3
          go_simp
          clear z0 z1 z2 z3 f0 f1 f2 f3
          refine outG hK ?_ (fun W => Arr W g6 28 [.slice A' x.blobs.length c', .slice B' x.ents.length d', .int .i64 (x.room : Int), .int .i64 (x.clock : Int)]) (fun W => Below u5.heap.size u5 W ∧ OwSt W 0 (Value.slice A' x.blobs.length c') (Value.slice B' x.ents.length d') x (fun b => b = g6)) ?_ ?_ (fun wn7 hHeld hF hG => ?_)
          · exact HSB.out _ ((((hB.setCell (p := ⟨g6, 0, none⟩) hl8 _).setCell (p := ⟨g6, 1, none⟩) hl8 _).setCell (p := ⟨g6, 2, none⟩) hl8 _).setCell (p := ⟨g6, 3, none⟩) hl8 _)
          · exact h8.all4 _ _ _ _
          · exact ⟨(((hB.setCell (p := ⟨g6, 0, none⟩) hl8 _).setCell (p := ⟨g6, 1, none⟩) hl8 _).setCell (p := ⟨g6, 2, none⟩) hl8 _).setCell (p := ⟨g6, 3, none⟩) hl8 _, (((ho.setX rfl hne1 hne2 _).setX rfl hne1 hne2 _).setX rfl hne1 hne2 _).setX rfl hne1 hne2 _⟩
          clear hB h8 ho
          clear hK K
          try simp only [List.getElem_toArray, List.getElem_cons_zero, List.getElem_cons_succ, Act.put, List.setIfInBounds_toArray, List.set_cons_zero, List.set_cons_succ]
          refine wpAnyH_take (i := 11) (oi := _) (v := ?_) rfl (by kernel_rfl) (by kernel_rfl) (by kernel_rfl) (fun _ _ _ h => h) (Or.inl ⟨by rfl, ?_⟩) (by assumption) ?_
          rotate_left
          · (intro w hSw; (try dsimp only at hSw); go_simp; try (with_reducible rfl))
          try simp only [List.getElem_toArray, List.getElem_cons_zero, List.getElem_cons_succ, Act.put, List.setIfInBounds_toArray, List.set_cons_zero, List.set_cons_succ]
          refine wpAnyH_done (by kernel_rfl) ?_ _
          dsimp only [Exit.then]
          clear hHeld
          obtain ⟨hBz, hoz⟩ := hG
          have hrz : RdSt wn7 A' c' B' d' x := by
            obtain ⟨A9, c9, B9, d9, e1, e2, h⟩ := hoz.rows
            cases e1; cases e2; exact h
          have hall := And.intro hBz (Bx.mk hF hrz hgx)
          generalize wn7 = wz at hall ⊢
          generalize g6 = gz at hall ⊢
          generalize A' = Az at hall ⊢
          generalize c' = cz at hall ⊢
          generalize B' = Bz at hall ⊢
          generalize d' = dz at hall ⊢
          generalize x = xz at hall ⊢
          generalize q = qz at hall ⊢
          
          revert wz gz Az cz Bz dz xz qz 
          exact REST5.out
        exact AllReadyH.nil
      exact AllReadyH.nil
    exact AllReadyH.nil
  refine AllReadyH.cons (o := _) rfl (fun K hK => ?_) ?_
  ·
    try (have hA1 := fun b (e : (Value.slice A' x.blobs.length c').ownBlock = some b) => (ho.b.rwo.blk e).2)
    try (have hA2 := fun b (e : (Value.slice B' x.ents.length d').ownBlock = some b) => (ho.e.rwo.blk e).2)
    try (have ho := (ho.lower (base' := 0) (Nat.zero_le _)).wider (N' := fun b => b = wn0.heap.size) (fun b hb => .inr (by omega)))
    go_simp
    refine outG hK ?_ (Below wn0.heap.size wn0) (fun W => Arr W wn0.heap.size 28 [.slice none 0 0, .slice none 0 0, .int .i64 0, .int .i64 0] ∧ u5.heap.size ≤ wn0.heap.size) ?_ ?_ (fun wn8 hHeld hst hnew => ?_)
    · (exact HSB.out _ (hB.trans (Below.mono (show Below wn0.heap.size wn0 _ from by (first | exact (Below.refl _ _).alloc (Nat.le_refl _) _ | exact hbq | exact hb5 | exact Below.refl _ _)) hB.size)))
    · (first | exact (Below.refl _ _).alloc (Nat.le_refl _) _ | exact hbq | exact hb5 | exact Below.refl _ _)
    · (exact ⟨Arr.new _ _ _, hB.size⟩)
    have hB := hB.trans (hst.mono hB.size)
    obtain ⟨h8, hl8⟩ := hnew
    obtain ⟨g6, hg6⟩ : ∃ g, g = wn0.heap.size := ⟨_, rfl⟩
    rw [← hg6] at h8 hl8 ⊢
    try (rw [← hg6] at ho)
    try (have hne1 : (Value.slice A' x.blobs.length c').ownBlock ≠ some g6 := fun e => by have := hA1 _ e; omega)
    try (have hne2 : (Value.slice B' x.ents.length d').ownBlock ≠ some g6 := fun e => by have := hA2 _ e; omega)
    try clear hA1
    try clear hA2
    clear hg6
    clear hst
    clear hK K
    try simp only [List.getElem_toArray, List.getElem_cons_zero, List.getElem_cons_succ, Act.put, List.setIfInBounds_toArray, List.set_cons_zero, List.set_cons_succ]
    refine wpAnyH_ready (rs := [3]) (by kernel_rfl) (by simp) ?_
    refine AllReadyH.cons (o := _) rfl (fun K hK => ?_) ?_
    ·
      go_simp
      refine (HKY.out wn8).mono ?_
      rintro e5 w5 ⟨rfl, hb5⟩
      dsimp only
      refine outG hK ?_ (Below wn8.heap.size wn8) (fun W => True) ?_ ?_ (fun wn9 hHeld hst hnew => ?_)
      · (exact HSB.out _ (hB.trans (Below.mono (show Below wn8.heap.size wn8 _ from by (first | exact (Below.refl _ _).alloc (Nat.le_refl _) _ | exact hbq | exact hb5 | exact Below.refl _ _)) hB.size)))
      · (first | exact (Below.refl _ _).alloc (Nat.le_refl _) _ | exact hbq | exact hb5 | exact Below.refl _ _)
      · (trivial)
      have hB := hB.trans (hst.mono hB.size)
      have h8 := h8.below hst
      clear hst
      clear hK K
      try simp only [List.getElem_toArray, List.getElem_cons_zero, List.getElem_cons_succ, Act.put, List.setIfInBounds_toArray, List.set_cons_zero, List.set_cons_succ]
      refine wpAnyH_ready (rs := [5]) (by kernel_rfl) (by simp) ?_
      refine AllReadyH.cons (o := _) rfl (fun K hK => ?_) ?_
      ·
        try have hA8 := h8.lt
        go_simp
        refine (HMN.out wn9 hB).mono ?_
        rintro e5 w5 ⟨A', c', B', d', x, q, rfl, ho5, hgx, hb5⟩
        dsimp only
        refine outG hK ?_ (Below wn9.heap.size wn9) (fun W => OwSt W wn9.heap.size (Value.slice A' x.blobs.length c') (Value.slice B' x.ents.length d') x (fun b => b < wn9.heap.size)) ?_ ?_ (fun wn10 hHeld hst hnew => ?_)
        · (exact HSB.out _ (hB.trans (Below.mono (show Below wn9.heap.size wn9 _ from by (first | exact (Below.refl _ _).alloc (Nat.le_refl _) _ | exact hbq | exact hb5 | exact Below.refl _ _)) hB.size)))
        · (first | exact (Below.refl _ _).alloc (Nat.le_refl _) _ | exact hbq | exact hb5 | exact Below.refl _ _)
        · (exact ho5)
        have hB := hB.trans (hst.mono hB.size)
        have h8 := h8.below hst
        have ho := hnew
        try (have hne1 : (Value.slice A' x.blobs.length c').ownBlock ≠ some g6 := fun e => by have := (ho.b.rwo.blk e).1; omega)
        try (have hne2 : (Value.slice B' x.ents.length d').ownBlock ≠ some g6 := fun e => by have := (ho.e.rwo.blk e).1; omega)
        try (have ho := ho.wider (N' := fun b => b = g6) (fun b hb => .inl (by omega)))
        try (have ho := ho.lower (base' := 0) (Nat.zero_le _))
        clear hst
        clear hK K
        try simp only [List.getElem_toArray, List.getElem_cons_zero, List.getElem_cons_succ, Act.put, List.setIfInBounds_toArray, List.set_cons_zero, List.set_cons_succ]
        refine wpAnyH_take (i := 6) (oi := _) (v := ?_) rfl (by kernel_rfl) (by kernel_rfl) (by kernel_rfl) (fun _ _ _ h => h) (Or.inl ⟨by rfl, ?_⟩) (by assumption) ?_
        rotate_left
        · (intro w hSw; (try dsimp only at hSw); go_simp; try (with_reducible rfl))
        try simp only [List.getElem_toArray, List.getElem_cons_zero, List.getElem_cons_succ, Act.put, List.setIfInBounds_toArray, List.set_cons_zero, List.set_cons_succ]
        refine wpAnyH_take (i := 7) (oi := _) (v := ?_) rfl (by kernel_rfl) (by kernel_rfl) (by kernel_rfl) (fun _ _ _ h => h) (Or.inl ⟨by rfl, ?_⟩) (by assumption) ?_
        rotate_left
        · (intro w hSw; (try dsimp only at hSw); go_simp; try (with_reducible rfl))
        try simp only [List.getElem_toArray, List.getElem_cons_zero, List.getElem_cons_succ, Act.put, List.setIfInBounds_toArray, List.set_cons_zero, List.set_cons_succ]
        refine wpAnyH_take (i := 8) (oi := _) (v := ?_) rfl (by kernel_rfl) (by kernel_rfl) (by kernel_rfl) (fun _ _ _ h => h) (Or.inl ⟨by rfl, ?_⟩) (by assumption) ?_
        rotate_left
        · (intro w hSw; (try dsimp only at hSw); go_simp; try (with_reducible rfl))
        try simp only [List.getElem_toArray, List.getElem_cons_zero, List.getElem_cons_succ, Act.put, List.setIfInBounds_toArray, List.set_cons_zero, List.set_cons_succ]
        refine wpAnyH_ready (rs := [10]) (by kernel_rfl) (by simp) ?_
        refine AllReadyH.cons (o := _) rfl (fun K hK => ?_) ?_
        ·
          have z0 := h8.cell (k := 0) rfl
          have z1 := h8.cell (k := 1) rfl
          have z2 := h8.cell (k := 2) rfl
          have z3 := h8.cell (k := 3) rfl
          have f0 := h8.frozen 0
          have f1 := h8.frozen 1
          have f2 := h8.frozen 2
          have f3 := h8.frozen 3
          go_simp
          clear z0 z1 z2 z3 f0 f1 f2 f3
          refine outG hK ?_ (fun W => Arr W g6 28 [.slice A' x.blobs.length c', .slice B' x.ents.length d', .int .i64 (x.room : Int), .int .i64 (x.clock : Int)]) (fun W => Below u5.heap.size u5 W ∧ OwSt W 0 (Value.slice A' x.blobs.length c') (Value.slice B' x.ents.length d') x (fun b => b = g6)) ?_ ?_ (fun wn11 hHeld hF hG => ?_)
          · exact HSB.out _ ((((hB.setCell (p := ⟨g6, 0, none⟩) hl8 _).setCell (p := ⟨g6, 1, none⟩) hl8 _).setCell (p := ⟨g6, 2, none⟩) hl8 _).setCell (p := ⟨g6, 3, none⟩) hl8 _)
          · exact h8.all4 _ _ _ _
          · exact ⟨(((hB.setCell (p := ⟨g6, 0, none⟩) hl8 _).setCell (p := ⟨g6, 1, none⟩) hl8 _).setCell (p := ⟨g6, 2, none⟩) hl8 _).setCell (p := ⟨g6, 3, none⟩) hl8 _, (((ho.setX rfl hne1 hne2 _).setX rfl hne1 hne2 _).setX rfl hne1 hne2 _).setX rfl hne1 hne2 _⟩
          clear hB h8 ho
          clear hK K
          try simp only [List.getElem_toArray, List.getElem_cons_zero, List.getElem_cons_succ, Act.put, List.setIfInBounds_toArray, List.set_cons_zero, List.set_cons_succ]
          refine wpAnyH_take (i := 11) (oi := _) (v := ?_) rfl (by kernel_rfl) (by kernel_rfl) (by kernel_rfl) (fun _ _ _ h => h) (Or.inl ⟨by rfl, ?_⟩) (by assumption) ?_
          rotate_left
          · (intro w hSw; (try dsimp only at hSw); go_simp; try (with_reducible rfl))
          try simp only [List.getElem_toArray, List.getElem_cons_zero, List.getElem_cons_succ, Act.put, List.setIfInBounds_toArray, List.set_cons_zero, List.set_cons_succ]
          refine wpAnyH_done (by kernel_rfl) ?_ _
          dsimp only [Exit.then]
          clear hHeld
          obtain ⟨hBz, hoz⟩ := hG
          have hrz : RdSt wn11 A' c' B' d' x := by
            obtain ⟨A9, c9, B9, d9, e1, e2, h⟩ := hoz.rows
            cases e1; cases e2; exact h
          have hall := And.intro hBz (Bx.mk hF hrz hgx)
          generalize wn11 = wz at hall ⊢
          generalize g6 = gz at hall ⊢
          generalize A' = Az at hall ⊢
          generalize c' = cz at hall ⊢
          generalize B' = Bz at hall ⊢
          generalize d' = dz at hall ⊢
          generalize x = xz at hall ⊢
          generalize q = qz at hall ⊢
          
          revert wz gz Az cz Bz dz xz qz 
          exact REST5.out
        exact AllReadyH.nil
      exact AllReadyH.nil
    exact AllReadyH.nil
  exact AllReadyH.nil
  intro u6 g5 A5 c5 B5 d5 x5 q5 ⟨hBz, bx5⟩ 
  have t1 := hXS.below hBz
  have t2 := hrS.below hBz
  have t3 := hRw.below hBz
  have t4 := hbW.trans (hBz.mono (Nat.le_of_lt hgr))
  have t5 : gr < u6.heap.size := t3.lt
  have s1 := bx1.below hBz
  have s2 := bx2.below hBz
  have s3 := bx3.below hBz
  have s4 := bx4.below hBz
  clear hXS hrS hRw hbW hgr hBz HSB HMN bx1 bx2 bx3 bx4
  have hXS := t1
  have hrS := t2
  have hRw := t3
  have hbW := t4
  have hgr := t5
  have bx1 := s1
  have bx2 := s2
  have bx3 := s3
  have bx4 := s4
  clear t1 t2 t3 t4 t5 s1 s2 s3 s4
  have z0 := bx1.box.cell (k := 0) rfl
  have z1 := bx1.box.cell (k := 1) rfl
  have z2 := bx1.box.cell (k := 2) rfl
  have z3 := bx1.box.cell (k := 3) rfl
  have HC1 := Lib.hid (GoodC_ok g1 A1 c1 B1 d1 x1 q1 u6 bx1)
  clear hXS hrS hRw
  repeat' ((fail_if_success at_builtin); (fail_if_success at_make); (first | go_values | go_skip | go_guarded | go_step | go_upon | go_back))
  clear z0 z1 z2 z3
  refine ((HC1.out)).mono ?_; rintro e_ y1 ⟨rfl, hy1⟩; dsimp only
  have hbW1 := hbW.trans (hy1.mono (Nat.le_of_lt hgr))
  have hgr1 : gr < y1.heap.size := Nat.lt_of_lt_of_le hgr hy1.size
  clear hbW hgr
  have hbW := hbW1
  have hgr := hgr1
  clear hbW1 hgr1
  have n2 := bx2.below hy1
  have n3 := bx3.below hy1
  have n4 := bx4.below hy1
  have n5 := bx5.below hy1
  clear bx2
  have bx2 := n2
  clear n2
  clear bx3
  have bx3 := n3
  clear n3
  clear bx4
  have bx4 := n4
  clear n4
  clear bx5
  have bx5 := n5
  clear n5
  have z0 := bx2.box.cell (k := 0) rfl
  have z1 := bx2.box.cell (k := 1) rfl
  have z2 := bx2.box.cell (k := 2) rfl
  have z3 := bx2.box.cell (k := 3) rfl
  have HC2 := Lib.hid (GoodC_ok g2 A2 c2 B2 d2 x 0 y1 bx2)
  repeat' ((fail_if_success at_builtin); (fail_if_success at_make); (first | go_values | go_skip | go_guarded | go_step | go_upon | go_back))
  clear z0 z1 z2 z3
  refine ((HC2.out)).mono ?_; rintro e_ y2 ⟨rfl, hy2⟩; dsimp only
  have hbW2 := hbW.trans (hy2.mono (Nat.le_of_lt hgr))
  have hgr2 : gr < y2.heap.size := Nat.lt_of_lt_of_le hgr hy2.size
  clear hbW hgr
  have hbW := hbW2
  have hgr := hgr2
  clear hbW2 hgr2
  have n3 := bx3.below hy2
  have n4 := bx4.below hy2
  have n5 := bx5.below hy2
  clear bx3
  have bx3 := n3
  clear n3
  clear bx4
  have bx4 := n4
  clear n4
  clear bx5
  have bx5 := n5
  clear n5
  have z0 := bx3.box.cell (k := 0) rfl
  have z1 := bx3.box.cell (k := 1) rfl
  have z2 := bx3.box.cell (k := 2) rfl
  have z3 := bx3.box.cell (k := 3) rfl
  have HC3 := Lib.hid (GoodC_ok g3 A3 c3 B3 d3 x3 q3 y2 bx3)
  repeat' ((fail_if_success at_builtin); (fail_if_success at_make); (first | go_values | go_skip | go_guarded | go_step | go_upon | go_back))
  clear z0 z1 z2 z3
  refine ((HC3.out)).mono ?_; rintro e_ y3 ⟨rfl, hy3⟩; dsimp only
  have hbW3 := hbW.trans (hy3.mono (Nat.le_of_lt hgr))
  have hgr3 : gr < y3.heap.size := Nat.lt_of_lt_of_le hgr hy3.size
  clear hbW hgr
  have hbW := hbW3
  have hgr := hgr3
  clear hbW3 hgr3
  have n4 := bx4.below hy3
  have n5 := bx5.below hy3
  clear bx4
  have bx4 := n4
  clear n4
  clear bx5
  have bx5 := n5
  clear n5
  have z0 := bx4.box.cell (k := 0) rfl
  have z1 := bx4.box.cell (k := 1) rfl
  have z2 := bx4.box.cell (k := 2) rfl
  have z3 := bx4.box.cell (k := 3) rfl
  have HC4 := Lib.hid (GoodC_ok g4 A4 c4 B4 d4 x4 q4 y3 bx4)
  repeat' ((fail_if_success at_builtin); (fail_if_success at_make); (first | go_values | go_skip | go_guarded | go_step | go_upon | go_back))
  clear z0 z1 z2 z3
  refine ((HC4.out)).mono ?_; rintro e_ y4 ⟨rfl, hy4⟩; dsimp only
  have hbW4 := hbW.trans (hy4.mono (Nat.le_of_lt hgr))
  have hgr4 : gr < y4.heap.size := Nat.lt_of_lt_of_le hgr hy4.size
  clear hbW hgr
  have hbW := hbW4
  have hgr := hgr4
  clear hbW4 hgr4
  have n5 := bx5.below hy4
  clear bx5
  have bx5 := n5
  clear n5
  have z0 := bx5.box.cell (k := 0) rfl
  have z1 := bx5.box.cell (k := 1) rfl
  have z2 := bx5.box.cell (k := 2) rfl
  have z3 := bx5.box.cell (k := 3) rfl
  have HC5 := Lib.hid (GoodC_ok g5 A5 c5 B5 d5 x5 q5 y4 bx5)
  repeat' ((fail_if_success at_builtin); (fail_if_success at_make); (first | go_values | go_skip | go_guarded | go_step | go_upon | go_back))
  clear z0 z1 z2 z3
  refine ((HC5.out)).mono ?_; rintro e_ y5 ⟨rfl, hy5⟩; dsimp only
  have hbW5 := hbW.trans (hy5.mono (Nat.le_of_lt hgr))
  have hgr5 : gr < y5.heap.size := Nat.lt_of_lt_of_le hgr hy5.size
  clear hbW hgr
  have hbW := hbW5
  have hgr := hgr5
  clear hbW5 hgr5
  repeat' ((fail_if_success at_builtin); (fail_if_success at_make); (first | go_values | go_skip | go_guarded | go_step | go_upon | go_back))
  go_ret
  exact ⟨rfl, hbW⟩

end Go.Proofs.YtjldpfijekpddaaGreat
