/- Lemmas of the proof. Conditions: as stated. -/
import Derived.Test.YtpbacomdoddhdaaGreatQX10
set_option linter.unusedVariables false
set_option linter.unusedSimpArgs false
set_option maxRecDepth 100000
namespace Go.Proofs.YtpbacomdoddhdaaGreat
open Go.RowKit
theorem vU (n : Int) (w : World) : Calls Tryz.prog 143 #[.int .i64 n] w fun e w' => e = .returned (.bool (decide (1 ≤ n ∧ n ≤ 1000))) ∧ w = w' := by
 by_cases h1 : 1 ≤ n
 ·by_cases h2 : n ≤ 1000
  ·have e1 : decide (1 ≤ n) = true := by simpa using h1
   have e2 : decide (n ≤ 1000) = true := by simpa using h2
   have e3 : decide (1 ≤ n ∧ n ≤ 1000) = true := by simp [h1, h2]
   have H3 := Lib.hid e3
   clear e3
   go_enter Tryz.func143, Tryz.ntmps143
   repeat' (fail_if_success (first|at_builtin|at_make));first|go_values|go_skip|go_guarded|go_step|go_upon|go_back
   go_ret
   rw [H3.out]
   exact ⟨rfl, rfl⟩
  ·have e1 : decide (1 ≤ n) = true := by simpa using h1
   have e2 : decide (n ≤ 1000) = false := by simpa using h2
   have e3 : decide (1 ≤ n ∧ n ≤ 1000) = false := by simp [h1, h2]
   have H3 := Lib.hid e3
   clear e3
   go_enter Tryz.func143, Tryz.ntmps143
   repeat' (fail_if_success (first|at_builtin|at_make));first|go_values|go_skip|go_guarded|go_step|go_upon|go_back
   go_ret
   rw [H3.out]
   exact ⟨rfl, rfl⟩
 ·have e1 : decide (1 ≤ n) = false := by simpa using h1
  have e3 : decide (1 ≤ n ∧ n ≤ 1000) = false := by simp [h1]
  have H3 := Lib.hid e3
  clear e3
  go_enter Tryz.func143, Tryz.ntmps143
  repeat' (fail_if_success (first|at_builtin|at_make));first|go_values|go_skip|go_guarded|go_step|go_upon|go_back
  go_ret
  rw [H3.out]
  exact ⟨rfl, rfl⟩
theorem XG : El Tryz.prog 73 3 1 8 := El.mk' (z := .int .i64 0) Tryz.underlying73 (by kernel_rfl) rfl (by omega) (by omega)
theorem Kt (l : List Int) : ∀ u ∈ ins l, u.oneCell' = true := by
 intro u hu; simp only [ins, List.mem_map] at hu; obtain ⟨_, _, rfl⟩ := hu; rfl
theorem kg (A : Option Addr) (c : Nat) (l : List Int) (x : Int) (w : World) (hn : l.length ≤ 9223372036854775807) (hr : Rd w 1 A l.length (ins l)) :
  Calls Tryz.prog 144 #[.slice A l.length c, .int .i64 x] w fun e w' => e = .returned (.bool (l.contains x)) ∧ w = w' := by
 rcases Nat.eq_zero_or_pos l.length with h0 | h0
 ·obtain rfl := List.eq_nil_of_length_eq_zero h0
  exact (Tryz.slices_Contains_int_empty A c x w).mono fun e w' h => ⟨h.1, h.2.symm⟩
 ·obtain ⟨b, off, rfl, _, hc⟩ := hr.2 h0
  refine (Tryz.slices_Contains_int b off l.length c l x w (Nat.le_refl _) hn (fun j hj => hc j _ ?_)).mono fun e w' h => ⟨?_, h.2.symm⟩
  ·rw [ins, List.getElem?_map, List.getElem?_eq_getElem hj, List.getD_eq_getElem?_getD, List.getElem?_eq_getElem hj]; rfl
  ·rw [h.1, List.take_length]
theorem xV (s : ByteArray) (ld : Int) (A : Option Addr) (c : Nat) (l : List Int) (w : World) (hn : l.length ≤ 1000000) (hr : Rd w 1 A l.length (ins l)) :
  Calls Tryz.prog 142 #[.agg #[.string s, .int .i64 ld, .slice A l.length c]] w fun e w' => ∃ v, e = .returned v ∧ w'.ownsRow w.heap.size 3 1 v (l.length + 1) (ins (ld :: l)) ∧ Below w.heap.size w w' := by
 have hb1 := (Below.refl w.heap.size w).alloc (Nat.le_refl _) (.cells #[.string s, .int .i64 ld, .slice A l.length c] 142)
 have hr1 := hr.alloc (.cells #[.string s, .int .i64 ld, .slice A l.length c] 142)
 go_enter Tryz.func142, Tryz.ntmps142
 repeat' (fail_if_success (first|at_builtin|at_make));first|go_values|go_skip|go_guarded|go_step|go_upon|go_back
 have hs1 : (w.alloc (.cells #[.string s, .int .i64 ld, .slice A l.length c] 142)).heap.size = w.heap.size + 1 := World.size_alloc _ _
 generalize w.alloc (.cells #[.string s, .int .i64 ld, .slice A l.length c] 142) = w1 at *
 rw [← hs1]
 have ho : (w1.alloc (.cells #[.int .i64 ld] 3)).ownsRow w.heap.size 3 1 (.slice (some ⟨w1.heap.size, 0, none⟩) 1 1) 1 [.int .i64 ld] :=
  ⟨rfl, .inr ⟨w1.heap.size, 1, #[.int .i64 ld], rfl, hb1.size, World.alloc_heap_new w1 _, Nat.le_refl _, by simp [maxLen], rfl, rfl⟩⟩
 have hb2 := hb1.alloc hb1.size (.cells #[.int .i64 ld] 3)
 have hr2 := hr1.alloc (.cells #[.int .i64 ld] 3)
 refine zz rfl (.tmp 5) (.tmp 7) rfl XG (by rfl) ho (by rfl) hr2 (Kt l) (by omega) hb2.size ?_
 intro v3 w3 ho3 hg3 _
 have hb3 := zf hb2 ho (Nat.le_refl _) hg3
 rw [Nat.add_comm 1 l.length] at ho3
 repeat' (fail_if_success (first|at_builtin|at_make));first|go_values|go_skip|go_guarded|go_step|go_upon|go_back
 go_ret
 exact ⟨_, rfl, ho3, hb3⟩
theorem XI (s k : ByteArray) (ld : Int) (sl : Value) (gk : Nat) (w : World) (hk : w.cell? ⟨gk, 0, none⟩ = some (.string k)) (hg : gk < w.heap.size) :
  Calls Tryz.prog 153 #[.agg #[.string s, .int .i64 ld, sl], .pointer (some ⟨gk, 0, none⟩)] w fun e w' => e = .returned (.bool (s.toList == k.toList)) ∧ Below w.heap.size w w' := by
 have hb1 := (Below.refl w.heap.size w).alloc (Nat.le_refl _) (.cells #[.string s, .int .i64 ld, sl] 142)
 have hk1 : (w.alloc (.cells #[.string s, .int .i64 ld, sl] 142)).cell? ⟨gk, 0, none⟩ = some (.string k) := (World.cell?_alloc_lt w _ ⟨gk, 0, none⟩ hg).trans hk
 go_enter Tryz.func153, Tryz.ntmps153
 go_wp2_with fail
 go_ret
 exact ⟨rfl, hb1⟩
def fnd : Nat → List FlP → List UInt8 → Option Nat
 | _, [], _ => none
 | i, p :: r, k => if p.key = k then some i else fnd (i + 1) r k
set_option maxHeartbeats 2000000 in
theorem Uh (A : Option Addr) (c : Nat) (fs : List FlP) (k : ByteArray) (gq : Nat) (w : World) (hn : fs.length ≤ 1000000) (hf : Fls w A fs) (hk : w.cell? ⟨gq, 0, none⟩ = some (.string k)) (hg : gq < w.heap.size) :
  Calls Tryz.prog 152 #[.slice A fs.length c, .func (.func 153) #[] #[.pointer (some ⟨gq, 0, none⟩)]] w fun e w' =>
   e = .returned (.int .i64 (match fnd 0 fs k.data.toList with | some i => (i : Int) | none => -1)) ∧ Below w.heap.size w w' := by
 generalize hR : fnd 0 fs k.data.toList = R
 have HR := Lib.hid hR
 clear hR
 go_enter Tryz.func152, Tryz.ntmps152
 repeat' (fail_if_success (first|at_builtin|at_make));first|go_values|go_skip|go_guarded|go_step|go_upon|go_back
 go_loopg [5, 8] fs.length (fun gn u i wr => ∃ j : Nat, gn = fs.length - j ∧ i = .int .i64 j ∧ j ≤ fs.length ∧ fnd 0 fs k.data.toList = fnd j (fs.drop j) k.data.toList ∧ Below w.heap.size w wr)
 case atStart => exact ⟨0, rfl, rfl, by omega, rfl, Below.refl _ _⟩
 case round =>
  obtain ⟨j, hgk, rfl, hj, hfn, hbl⟩ := hrel
  have HGK := Lib.hid hgk
  clear hgk
  by_cases hlt : j < fs.length
  ·have hcc : decide (j < fs.length) = true := decide_eq_true hlt
   obtain ⟨b, off, B, cb, rfl, hbb, c0, c1, c2, _, _, _⟩ := (hf.below hbl).at_ j hlt
   have hj0 : (0 : Int) ≤ (j : Int) := by omega
   have hj1 : (j : Int) < (fs.length : Int) := by omega
   have hstep : fnd j (fs.drop j) k.data.toList = if fs[j].key = k.data.toList then some j else fnd (j + 1) (fs.drop (j + 1)) k.data.toList := by
    rw [List.drop_eq_getElem_cons hlt, fnd]
   obtain ⟨s, hs⟩ : ∃ s : ByteArray, s = ⟨fs[j].key.toArray⟩ := ⟨_, rfl⟩
   have hsd : s.data.toList = fs[j].key := by rw [hs]
   rw [← hs] at c0
   rw [← hsd] at hstep
   have HST := Lib.hid (hfn.trans hstep)
   generalize fs[j].lead = ld at *
   generalize fs[j].wait.length = wl at *
   have hkk := (hbl.cell (p := ⟨gq, 0, none⟩) hg).trans hk
   have hgg := Nat.lt_of_lt_of_le hg hbl.size
   clear hfn hstep hs hsd
   repeat' (fail_if_success (first|at_builtin|at_make));first|go_values|go_skip|go_guarded|go_step|go_upon|go_back
   refine ((XI s k ld (.slice B wl cb) gq wr hkk hgg)).mono ?_; rintro e_ w5 ⟨rfl, hb5⟩; dsimp only
   have hb05 := hbl.trans (hb5.mono hbl.size)
   by_cases he : s.data.toList = k.data.toList
   ·have e1 : (s.toList == k.toList) = true := by rw [ByteArray.toList_eq, ByteArray.toList_eq, he, beq_self_eq_true]
    have HF := Lib.hid (show R = some j from by rw [← HR.out, HST.out, if_pos he])
    rw [e1]
    clear he e1
    repeat' (fail_if_success (first|at_builtin|at_make));first|go_values|go_skip|go_guarded|go_step|go_upon|go_back
    go_ret
    rw [HF.out]
    exact ⟨rfl, hb05⟩
   ·have e1 : (s.toList == k.toList) = false := by rw [beq_eq_false_iff_ne, ByteArray.toList_eq, ByteArray.toList_eq]; exact he
    have HF := Lib.hid (show fnd 0 fs k.data.toList = fnd (j + 1) (fs.drop (j + 1)) k.data.toList from by rw [HST.out, if_neg he])
    rw [e1]
    clear he e1
    repeat' (fail_if_success (first|at_builtin|at_make));first|go_values|go_skip|go_guarded|go_step|go_upon|go_back
    go_roundg (fs.length - (j + 1))
    case measure => have := HGK.out; omega
    case rel => exact ⟨j + 1, rfl, by go_num, by omega, HF.out, hb05⟩
  ·obtain rfl : j = fs.length := by omega
   have hcc : decide (fs.length < fs.length) = false := by simp
   have HF := Lib.hid (show R = none from by rw [← HR.out, hfn, List.drop_length, fnd])
   clear hfn
   repeat' (fail_if_success (first|at_builtin|at_make));first|go_values|go_skip|go_guarded|go_step|go_upon|go_back
   go_ret
   rw [HF.out]
   exact ⟨rfl, hbl⟩
theorem qP (A : Option Addr) (c : Nat) (fs : List FlP) (k : ByteArray) (w : World) (hn : fs.length ≤ 1000000) (hf : Fls w A fs) :
  Calls Tryz.prog 103 #[.slice A fs.length c, .string k] w fun e w' => e = .returned (.tuple (match fnd 0 fs k.data.toList with | some i => #[.int .i64 (i : Int), .int .i64 0] | none => #[.int .i64 0, .int .i64 5])) ∧ Below w.heap.size w w' := by
 obtain ⟨w1, hw1⟩ : ∃ w1, w1 = w.alloc (.cells #[.string k] 9) := ⟨_, rfl⟩
 have hb1 : Below w.heap.size w w1 := by rw [hw1]; exact (Below.refl _ _).alloc (Nat.le_refl _) _
 have hk1 : w1.cell? ⟨w.heap.size, 0, none⟩ = some (.string k) := by rw [hw1]; exact (Arr.new w 9 [.string k]).cell (k := 0) rfl
 have hg1 : w.heap.size < w1.heap.size := by rw [hw1]; simp
 have HI := Lib.hid (Uh A c fs k w.heap.size w1 hn (hf.below hb1) hk1 hg1)
 have HW := Lib.hid hw1
 clear hw1 hk1 hf
 cases hfn : fnd 0 fs k.data.toList with
 | none =>
  have hi := HI.out
  rw [hfn] at hi
  dsimp only at hi
  clear HI hfn
  go_enter Tryz.func103, Tryz.ntmps103
  go_wp2_with fail
  rw [← HW.out]
  refine ((hi)).mono ?_; rintro e_ w2 ⟨rfl, hb2⟩; dsimp only
  go_wp2_with fail
  go_ret2
  exact ⟨rfl, hb1.trans (hb2.mono hb1.size)⟩
 | some i =>
  have hi := HI.out
  rw [hfn] at hi
  dsimp only at hi
  have hneg : decide ((i : Int) < 0) = false := decide_eq_false (by omega)
  clear HI hfn
  go_enter Tryz.func103, Tryz.ntmps103
  go_wp2_with fail
  rw [← HW.out]
  refine ((hi)).mono ?_; rintro e_ w2 ⟨rfl, hb2⟩; dsimp only
  go_wp2_with fail
  go_ret2
  exact ⟨rfl, hb1.trans (hb2.mono hb1.size)⟩
def CrewOk (l : List Int) : Prop := ∀ j (h : j < l.length), (1 ≤ l[j] ∧ l[j] ≤ 1000) ∧ (l.take j).contains l[j] = false
structure GoodF (fs : List FlP) : Prop where
 len : fs.length ≤ 6
 key : ∀ j (h : j < fs.length), hexC fs[j].key = 0 ∧ fs[j].key.length ≤ 1000
 one : ∀ j (h : j < fs.length), fnd 0 (fs.take j) fs[j].key = none
 few : ∀ j (h : j < fs.length), fs[j].wait.length ≤ 5
 crew : ∀ j (h : j < fs.length), CrewOk (fs[j].lead :: fs[j].wait)
theorem vH : ∀ (fs : List FlP) (As : List (Option Addr × Nat)) (k : Nat), As.length = fs.length →
  ((fs.zip As).flatMap fun x => qe x.1 x.2.1 x.2.2).take (k * 3) = ((fs.take k).zip (As.take k)).flatMap fun x => qe x.1 x.2.1 x.2.2
 | [], [], k, _ => by simp
 | f :: fs, a :: As, 0, _ => by simp
 | f :: fs, a :: As, k + 1, h => by
  rw [List.zip_cons_cons, List.flatMap_cons, List.take_succ_cons, List.take_succ_cons, List.zip_cons_cons, List.flatMap_cons,
   ← vH fs As k (by simpa using h), List.take_append, List.take_of_length_le (by simp [qe]; omega)]
  congr 2
  simp [qe]; omega
theorem Fls.take {w : World} {A : Option Addr} {fs : List FlP} (h : Fls w A fs) (k : Nat) (hk : k ≤ fs.length) : Fls w A (fs.take k) := by
 obtain ⟨As, h1, h2, h3⟩ := h
 refine ⟨As.take k, by rw [List.length_take, List.length_take, h1], ?_, fun j p a hp ha => ?_⟩
 ·have := h2.pre hk
  rw [vH fs As k h1] at this
  rw [List.length_take, Nat.min_eq_left hk]; exact this
 ·rw [List.getElem?_take] at hp ha
  split at hp
  ·rename_i hjk
   rw [if_pos hjk] at ha
   exact h3 j p a hp ha
  ·cases hp
set_option maxHeartbeats 4000000 in
theorem qC (A : Option Addr) (c : Nat) (fs : List FlP) (w : World) (hG : GoodF fs) (hf : Fls w A fs) (hc : fs.length ≤ c) (hm : c ≤ maxLen) :
  Calls Tryz.prog 90 #[.slice A fs.length c] w fun e w' => e = .returned (.int .i64 0) ∧ Below w.heap.size w w' := by
 have HG := Lib.hid hG
 have hn6 := hG.len
 have e6 : decide ((6 : Int) < (fs.length : Int)) = false := decide_eq_false (by omega)
 have e6' : decide (6 < fs.length) = false := decide_eq_false (by omega)
 have hcm : (c : Int) ≤ 9223372036854775807 := by unfold maxLen at hm; omega
 clear hG
 go_enter Tryz.func90, Tryz.ntmps90
 go_wp2_with fail
 go_loopg [3, 16, 4] fs.length (fun gn u i v wr => ∃ j : Nat, gn = fs.length - j ∧ i = .int .i64 j ∧ j ≤ fs.length ∧ Below w.heap.size w wr)
 case atStart => exact ⟨0, rfl, rfl, by omega, Below.refl _ _⟩
 case round =>
  obtain ⟨j, hgk, rfl, hj, hbl⟩ := hrel
  have HGK := Lib.hid hgk
  clear hgk
  by_cases hlt : j < fs.length
  ·have hcc : decide (j < fs.length) = true := decide_eq_true hlt
   have hfl := hf.below hbl
   obtain ⟨b, off, B, cb, rfl, hbb, c0, c1, c2, hrw, hwc, hcbm⟩ := hfl.at_ j hlt
   have hft := hfl.take j (by omega)
   have hk := HG.out.key j hlt
   have h1 := HG.out.one j hlt
   have hfw := HG.out.few j hlt
   have hcr := HG.out.crew j hlt
   have htl : (fs.take j).length = j := by rw [List.length_take]; omega
   obtain ⟨s, hs⟩ : ∃ s : ByteArray, s = ⟨fs[j].key.toArray⟩ := ⟨_, rfl⟩
   have hsd : s.data.toList = fs[j].key := by rw [hs]
   have hss : s.size ≤ 140737488351232 := by
    have h2 : s.data.toList.length = s.size := by rw [Array.length_toList]; rfl
    rw [hsd] at h2; omega
   rw [← hs] at c0
   rw [← hsd] at hk h1
   generalize fs[j].lead = ld at *
   generalize fs[j].wait = wt at *
   have hj0 : (0 : Int) ≤ (j : Int) := by omega
   have hj1 : (j : Int) < (fs.length : Int) := by omega
   have hjc : (j : Int) ≤ (c : Int) := by omega
   have HK := Lib.hid hk
   have HT := Lib.hid htl
   have H1 := Lib.hid h1
   have HCR := Lib.hid hcr
   have hP := Arr.new wr 142 [.string s, .int .i64 ld, .slice B wt.length cb]
   have hb1 := hbl.alloc hbl.size (.cells #[.string s, .int .i64 ld, .slice B wt.length cb] 142)
   have hft1 : Fls (wr.alloc (.cells #[.string s, .int .i64 ld, .slice B wt.length cb] 142)) (some ⟨b, off, none⟩) (fs.take j) := hft.below ((Below.refl _ _).alloc (Nat.le_refl _) _)
   have hrw1 := hrw.alloc (.cells #[.string s, .int .i64 ld, .slice B wt.length cb] 142)
   have hP' : Arr (wr.alloc (.cells #[.string s, .int .i64 ld, .slice B wt.length cb] 142)) wr.heap.size 142 [.string s, .int .i64 ld, .slice B wt.length cb] := hP
   clear hk h1 hcr hs hsd htl hft hrw hfl hP
   go_wp2_with fail
   generalize wr.alloc (.cells #[.string s, .int .i64 ld, .slice B wt.length cb] 142) = w1 at *
   generalize wr.heap.size = gp at *
   refine ((qU 0 rfl HK.out.1 w1 hss)).mono ?_; rintro e_ w2 ⟨rfl, hb2⟩; dsimp only
   have hb12 := hb1.trans (hb2.mono hb1.size)
   have hP2 := hP'.below hb2
   have hft2 := hft1.below hb2
   have hrw2 := hrw1.below hb2
   have f0 := hP2.cell (k := 0) rfl
   have f2 := hP2.cell (k := 2) rfl
   clear c0 c1 c2
   go_wp2_with fail
   refine wp_region_held_drew (S := (fun w' => w'.cell? ⟨gp, 0, none⟩ = some (.string s))) (by kernel_rfl) ?_ (fun hHeld => ?_)
   ·exact (hP2.drew).cell (k := 0) rfl
   have hB := (Below.refl w2.heap.size w2).drew
   generalize w2.drew = wn0 at *
   refine sqTH 0 ?_;try simp only [sqP]
   refine sqTH 1 ?_;try simp only [sqP]
   refine sqTH 2 ?_;try simp only [sqP]
   refine sqTH 3 ?_;try simp only [sqP]
   refine sqTH 4 ?_;try simp only [sqP]
   refine wpAnyH_ready (rs := [5]) (by kernel_rfl) (by simp) ?_
   refine AllReadyH.cons (o := _) rfl (fun K hK => ?_) ?_
   ·
    have hfi := qP (some ⟨b, off, none⟩) c (fs.take j) s wn0 (by rw [HT.out]; omega) (hft2.below hB)
    rw [H1.out, HT.out] at hfi
    go_simp
    refine (hfi).mono ?_
    rintro e5 w5 ⟨rfl, hb5⟩
    dsimp only
    refine qI hK ?_ (Below wn0.heap.size wn0) (fun W => True) ?_ ?_ (fun wn1 hHeld hst hnew => ?_)
    ·(exact ((hP2.below hB).below hb5).cell (k := 0) rfl)
    ·(exact hb5)
    ·(trivial)
    have hB := hB.trans (hst.mono hB.size)
    clear hst
    clear hK K
    try simp only [sqP]
    refine sqTH 6 ?_;try simp only [sqP]
    refine sqTH 7 ?_;try simp only [sqP]
    refine sqTH 8 ?_;try simp only [sqP]
    refine sqTH 9 ?_;try simp only [sqP]
    refine sqTH 10 ?_;try simp only [sqP]
    refine wpAnyH_done (by kernel_rfl) ?_ _
    clear hHeld
    have hP5 := hP2.below hB
    have hrw5 := hrw2.below hB
    have hb15 := hb12.trans (hB.mono hb12.size)
    have f0 := hP5.cell (k := 0) rfl
    have f1 := hP5.cell (k := 1) rfl
    have f2 := hP5.cell (k := 2) rfl
    have e5 : decide ((5 : Int) < (wt.length : Int)) = false := decide_eq_false (by omega)
    have e5' : decide (5 < wt.length) = false := decide_eq_false (by omega)
    clear hP2 hft2 hrw2 hb12 hB
    dsimp only [Exit.then]
    go_wp2_with fail
    refine ((xV s ld B cb wt wn1 (by omega) hrw5)).mono ?_; rintro e_ w6 ⟨v6, rfl, ho6, hb6⟩; dsimp only
    have hb16 := hb15.trans (hb6.mono hb15.size)
    obtain ⟨A6, c6, rfl, hc6, hr6⟩ := Rd.of_own' ho6
    have hl6 : (ld :: wt).length = wt.length + 1 := rfl
    obtain ⟨l6, hl6e⟩ : ∃ l6, l6 = ld :: wt := ⟨_, rfl⟩
    rw [← hl6e] at hr6 hl6
    have HCR6 := Lib.hid (show CrewOk l6 from by rw [hl6e]; exact HCR.out)
    have hcm6 : c6 ≤ maxLen := by
     rcases ho6.2 with ⟨h1, h2⟩ | ⟨_, cap, _, h1, _, _, _, h2, _⟩
     ·omega
     ·injection h1 with _ _ h3; subst h3; exact h2
    have hc63 : (c6 : Int) ≤ 9223372036854775807 := by unfold maxLen at hcm6; omega
    obtain ⟨m6, hm6⟩ : ∃ m6, m6 = wt.length + 1 := ⟨_, rfl⟩
    rw [← hm6] at hl6 hr6 hc6 ⊢
    have hm66 : m6 ≤ 6 := by omega
    clear ho6 hl6e hP5 hrw5 f0 f1 f2 hm6
    go_wp2_with fail
    go_loopg [9, 10, 46] m6 (fun gn a b i wr => ∃ q : Nat, gn = m6 - q ∧ i = .int .i64 q ∧ q ≤ m6 ∧ Below w6.heap.size w6 wr)
    case atStart => exact ⟨0, rfl, rfl, by omega, Below.refl _ _⟩
    case round =>
     obtain ⟨q, hgq, rfl, hq, hbq⟩ := hrel
     have HGQ := Lib.hid hgq
     clear hgq
     have hb1q := hb16.trans (hbq.mono hb16.size)
     by_cases hqt : q < m6
     ·have hqq : decide (q < m6) = true := decide_eq_true hqt
      have hql : q < l6.length := by omega
      obtain ⟨b6, off6, rfl, hbb6, hcell⟩ := (hr6.below hbq).2 (by omega)
      have cx := hcell q (.int .i64 l6[q]) (by rw [ins, List.getElem?_map, List.getElem?_eq_getElem hql]; rfl)
      obtain ⟨hw1, hw2⟩ := HCR6.out q hql
      have hrt := (hr6.below hbq).pre (k := q) (by omega)
      rw [Nat.mul_one, show (ins l6).take q = ins (l6.take q) by simp [ins]] at hrt
      have htq : (l6.take q).length = q := by rw [List.length_take]; omega
      have hwho := vU l6[q] wr
      rw [show decide (1 ≤ l6[q] ∧ l6[q] ≤ 1000) = true by simpa using hw1] at hwho
      have hcon := kg (some ⟨b6, off6, none⟩) c6 (l6.take q) l6[q] wr (by omega) (by rw [htq]; exact hrt)
      rw [hw2, htq] at hcon
      generalize l6[q] = z at *
      have HWH := Lib.hid hwho
      have HCO := Lib.hid hcon
      have hq0 : (0 : Int) ≤ (q : Int) := by omega
      have hq1 : (q : Int) < (m6 : Int) := by omega
      have hqc : (q : Int) ≤ (c6 : Int) := by omega
      clear hcell hw1 hw2 hrt htq hwho hcon
      go_wp2_with fail
      refine ((HWH.out)).mono ?_; rintro e_ _ ⟨rfl, rfl⟩; dsimp only
      go_wp2_with fail
      refine ((HCO.out)).mono ?_; rintro e_ _ ⟨rfl, rfl⟩; dsimp only
      go_wp2_with fail
      go_roundg (m6 - (q + 1))
      case measure => have := HGQ.out; omega
      case rel => exact ⟨q + 1, rfl, by go_num, by omega, hbq⟩
     ·obtain rfl : q = m6 := by omega
      have hqq : decide (q < q) = false := by simp
      go_wp2_with fail
      go_roundg (fs.length - (j + 1))
      case measure => have := HGK.out; omega
      case rel => exact ⟨j + 1, rfl, by go_num, by omega, hb1q⟩
   exact AllReadyH.nil
  ·obtain rfl : j = fs.length := by omega
   have hcc : decide (fs.length < fs.length) = false := by simp
   go_wp2_with fail
   go_ret
   exact ⟨rfl, hbl⟩
end Go.Proofs.YtpbacomdoddhdaaGreat
namespace Go.Proofs.YtpbacomdoddhdaaGreat
theorem kM : ∀ (fs gs : List FlP) (i : Nat) (k : List UInt8), fs.map (·.key) = gs.map (·.key) → fnd i fs k = fnd i gs k
 | [], [], i, k, _ => rfl
 | f :: fs, g :: gs, i, k, h => by
  simp only [List.map_cons, List.cons.injEq] at h
  rw [fnd, fnd, h.1, kM fs gs (i + 1) k h.2]
theorem CrewOk.snoc {l : List Int} {n : Int} (h : CrewOk l) (h1 : 1 ≤ n) (h2 : n ≤ 1000) (hn : l.contains n = false) : CrewOk (l ++ [n]) := fun j hj => by
 rw [List.length_append] at hj
 simp only [List.length_cons, List.length_nil] at hj
 by_cases hl : j < l.length
 ·rw [List.getElem_append_left hl, List.take_append_of_le_length (by omega)]
  exact h j hl
 ·have he : j = l.length := by omega
  subst he
  rw [List.getElem_append_right (Nat.le_refl _), List.take_left]
  simp only [Nat.sub_self, List.getElem_cons_zero]
  exact ⟨⟨h1, h2⟩, hn⟩
theorem CrewOk.one {n : Int} (h1 : 1 ≤ n) (h2 : n ≤ 1000) : CrewOk [n] := fun j hj => by
 have h0 : j = 0 := by simpa using hj
 subst h0
 exact ⟨⟨h1, h2⟩, rfl⟩
theorem GoodF.nil_ : GoodF [] := ⟨by simp, (fun j h => by cases h), (fun j h => by cases h), (fun j h => by cases h), (fun j h => by cases h)⟩
theorem GoodF.snoc {fs : List FlP} {k : List UInt8} {n : Int} (h : GoodF fs) (h6 : fs.length < 6) (hk : hexC k = 0) (hkl : k.length ≤ 1000) (hf : fnd 0 fs k = none) (h1 : 1 ≤ n) (h2 : n ≤ 1000) : GoodF (fs ++ [⟨k, n, []⟩]) := by
 have split : ∀ j, j < (fs ++ [(⟨k, n, []⟩ : FlP)]).length → j < fs.length ∨ j = fs.length := fun j hj => by
  rw [List.length_append] at hj; simp only [List.length_cons, List.length_nil] at hj; omega
 refine ⟨by rw [List.length_append]; simp only [List.length_cons, List.length_nil]; omega, fun j hj => ?_, fun j hj => ?_, fun j hj => ?_, fun j hj => ?_⟩
 ·rcases split j hj with hl | rfl
  ·rw [List.getElem_append_left hl]; exact h.key j hl
  ·rw [List.getElem_append_right (Nat.le_refl _)]; simp only [Nat.sub_self, List.getElem_cons_zero]; exact ⟨hk, hkl⟩
 ·rcases split j hj with hl | rfl
  ·rw [List.getElem_append_left hl, List.take_append_of_le_length (by omega)]; exact h.one j hl
  ·rw [List.getElem_append_right (Nat.le_refl _), List.take_left]; simp only [Nat.sub_self, List.getElem_cons_zero]; exact hf
 ·rcases split j hj with hl | rfl
  ·rw [List.getElem_append_left hl]; exact h.few j hl
  ·rw [List.getElem_append_right (Nat.le_refl _)]; simp only [Nat.sub_self, List.getElem_cons_zero]; exact Nat.zero_le _
 ·rcases split j hj with hl | rfl
  ·rw [List.getElem_append_left hl]; exact h.crew j hl
  ·rw [List.getElem_append_right (Nat.le_refl _)]; simp only [Nat.sub_self, List.getElem_cons_zero]; exact CrewOk.one h1 h2
theorem GoodF.set {fs : List FlP} {i : Nat} {n : Int} (h : GoodF fs) (hi : i < fs.length) (h1 : 1 ≤ n) (h2 : n ≤ 1000) (hin : (fs[i].lead :: fs[i].wait).contains n = false) (h5 : fs[i].wait.length < 5) :
  GoodF (fs.set i ⟨fs[i].key, fs[i].lead, fs[i].wait ++ [n]⟩) := by
 have hkeys : ∀ m, ((fs.set i ⟨fs[i].key, fs[i].lead, fs[i].wait ++ [n]⟩).take m).map (·.key) = (fs.take m).map (·.key) := fun m => by
  rw [List.map_take, List.map_take, List.map_set]
  congr 1
  apply List.ext_getElem
  ·simp
  ·intro j h1 h2
   rw [List.getElem_set]
   split
   ·rename_i e; subst e; simp
   ·rfl
 refine ⟨by rw [List.length_set]; exact h.len, fun j hj => ?_, fun j hj => ?_, fun j hj => ?_, fun j hj => ?_⟩
 all_goals
  rw [List.length_set] at hj
  by_cases e : i = j
  ·subst e
   first
    | (rw [List.getElem_set_self]; exact h.key i hi)
    | (rw [List.getElem_set_self, kM _ _ _ _ (hkeys i)]; exact h.one i hi)
    | (rw [List.getElem_set_self, List.length_append]; simp only [List.length_cons, List.length_nil]; omega)
    | (rw [List.getElem_set_self]; exact (h.crew i hi).snoc h1 h2 hin)
  ·first
    | (rw [List.getElem_set_ne e]; exact h.key j hj)
    | (rw [List.getElem_set_ne e, kM _ _ _ _ (hkeys j)]; exact h.one j hj)
    | (rw [List.getElem_set_ne e]; exact h.few j hj)
    | (rw [List.getElem_set_ne e]; exact h.crew j hj)
end Go.Proofs.YtpbacomdoddhdaaGreat
namespace Go.Proofs.YtpbacomdoddhdaaGreat
open Go.RowKit
theorem J7 : El Tryz.prog 56 142 3 48 := El.mk' (z := .agg #[.string ByteArray.empty, .int .i64 0, .slice none 0 0]) Tryz.underlying56 (by kernel_rfl) rfl (by omega) (by omega)
theorem ja (A : Option Addr) (c : Nat) (l : List Int) (w : World) (hb : l.length ≤ 1000000) (hr : Rd w 1 A l.length (ins l)) :
  Calls Tryz.prog 147 #[.slice A l.length c] w fun e w' => ∃ v, e = .returned v ∧ w'.ownsRow w.heap.size 3 1 v l.length (ins l) ∧ Below w.heap.size w w' := by
 have heq := fun W => Lib.run_eql_slice_nil (P := Tryz.prog) W 73 3 A l.length c 0 0 Tryz.underlying73
 cases A with
 | none =>
  have h0 : l.length = 0 := by
   rcases Nat.eq_zero_or_pos l.length with h | h
   ·exact h
   ·obtain ⟨_, _, h1, _⟩ := hr.2 h; cases h1
  obtain rfl : l = [] := List.eq_nil_of_length_eq_zero h0
  have heq := fun W => Lib.run_eql_slice_nil (P := Tryz.prog) W 73 3 none 0 c 0 0 Tryz.underlying73
  rw [List.length_nil]
  go_enter Tryz.func147, Tryz.ntmps147
  go_wp2_with fail
  go_ret
  exact ⟨_, rfl, World.ownsRow_nil _ _ _ _, Below.refl _ _⟩
 | some ad =>
  go_enter Tryz.func147, Tryz.ntmps147
  repeat' (fail_if_success (first|at_builtin|at_make));first|go_values|go_skip|go_guarded|go_step|go_upon|go_back
  refine zz rfl (.tmp 5) (.tmp 6) rfl XG (by rfl) (World.ownsRow_made (size := 1) w #[] 0 (Nat.le_refl _) (by simp [maxLen]) rfl) (by rfl) (hr.alloc _) (Kt l) (by omega) (by simp) ?_
  intro v1 w1 hown1 hg1 _
  have hb1 := zf ((Below.refl _ _).alloc (Nat.le_refl _) _) (World.ownsRow_made (size := 1) w #[] 0 (Nat.le_refl _) (by simp [maxLen]) rfl) (Nat.le_refl _) hg1
  go_wp2_with fail
  go_ret
  exact ⟨_, rfl, by simpa using hown1, hb1⟩
def qu (fs : List FlP) (As : List (Option Addr × Nat)) : List Value := (fs.zip As).flatMap fun x => qe x.1 x.2.1 x.2.2
def blk (a : Option Addr × Nat) : Option Nat := a.1.map (·.block)
theorem zV (a : Option Addr × Nat) (n : Nat) : (Value.slice a.1 n a.2).ownBlock = blk a := by
 obtain ⟨A, c⟩ := a
 cases A <;> rfl
def FlsO (w : World) (base : Nat) (v : Value) (fs : List FlP) : Prop :=
 ∃ (As : List (Option Addr × Nat)), As.length = fs.length ∧ w.ownsRow base 142 3 v fs.length (qu fs As) ∧
  (∀ (k : Nat) (p : FlP) (a : Option Addr × Nat), fs[k]? = some p → As[k]? = some a → w.ownsRow base 3 1 (.slice a.1 p.wait.length a.2) p.wait.length (ins p.wait) ∧ ∀ g, blk a = some g → v.ownBlock ≠ some g) ∧
  (∀ (k j : Nat) (a b : Option Addr × Nat), k < j → As[k]? = some a → As[j]? = some b → ∀ g, blk a = some g → blk b ≠ some g)
theorem Vk {w : World} {base n c : Nat} {A : Option Addr} {e : TypeId} {xs : List Value} (h : w.ownsRow base e 1 (.slice A n c) n xs) : n ≤ c ∧ c ≤ maxLen := by
 rcases h.2 with ⟨h1, h2⟩ | ⟨_, cap, _, h1, _, _, h2, h3, _⟩
 ·injection h1 with _ _ h3; subst h3; omega
 ·injection h1 with _ _ h4; subst h4; exact ⟨h2, h3⟩
theorem FlsO.fls {w : World} {base : Nat} {v : Value} {fs : List FlP} (h : FlsO w base v fs) : ∃ A c, v = .slice A fs.length c ∧ fs.length ≤ c ∧ Fls w A fs := by
 obtain ⟨As, h1, h2, h3, h4⟩ := h
 obtain ⟨A, c, rfl, hc, hr⟩ := Rd.of_own' h2
 refine ⟨A, c, rfl, hc, As, h1, hr, fun k p a hp ha => ?_⟩
 have ho := (h3 k p a hp ha).1
 exact ⟨Rd.of_own ho, Vk ho⟩
theorem FlsO.nil_ (w : World) (base : Nat) (v : Value) (h : w.ownsRow base 142 3 v 0 []) : FlsO w base v [] :=
 ⟨[], rfl, h, (fun k p a hp _ => by cases hp), (fun k j a b _ ha => by cases ha)⟩
theorem FlsO.below {w w' : World} {base : Nat} {v : Value} {fs : List FlP} (h : FlsO w base v fs) (hb : Below w.heap.size w w') : FlsO w' base v fs := by
 obtain ⟨As, h1, h2, h3, h4⟩ := h
 exact ⟨As, h1, zb h2 hb, (fun k p a hp ha => ⟨zb (h3 k p a hp ha).1 hb, (h3 k p a hp ha).2⟩), h4⟩
theorem FlsO.lower {w : World} {base b' : Nat} {v : Value} {fs : List FlP} (h : FlsO w base v fs) (hb : b' ≤ base) : FlsO w b' v fs := by
 obtain ⟨As, h1, h2, h3, h4⟩ := h
 exact ⟨As, h1, zd h2 hb, (fun k p a hp ha => ⟨zd (h3 k p a hp ha).1 hb, (h3 k p a hp ha).2⟩), h4⟩
theorem xr : ∀ (fs : List FlP) (As : List (Option Addr × Nat)) (p : FlP) (a : Option Addr × Nat), As.length = fs.length → qu (fs ++ [p]) (As ++ [a]) = qu fs As ++ qe p a.1 a.2
 | [], [], p, a, _ => by simp [qu]
 | f :: fs, b :: As, p, a, h => by
  have ih := xr fs As p a (by simpa using h)
  simp only [qu] at ih ⊢
  rw [List.cons_append, List.cons_append, List.zip_cons_cons, List.zip_cons_cons, List.flatMap_cons, List.flatMap_cons, ih, List.append_assoc]
theorem FlsO.snoc {w w' : World} {base : Nat} {v v' : Value} {fs : List FlP} {p : FlP} {B : Option Addr} {c : Nat} {As : List (Option Addr × Nat)} (h1 : As.length = fs.length)
  (h3 : ∀ (k : Nat) (p : FlP) (a : Option Addr × Nat), fs[k]? = some p → As[k]? = some a → w.ownsRow base 3 1 (.slice a.1 p.wait.length a.2) p.wait.length (ins p.wait) ∧ ∀ g, blk a = some g → v.ownBlock ≠ some g)
  (h4 : ∀ (k j : Nat) (a b : Option Addr × Nat), k < j → As[k]? = some a → As[j]? = some b → ∀ g, blk a = some g → blk b ≠ some g)
  (ho : w'.ownsRow base 142 3 v' (fs.length + 1) (qu fs As ++ qe p B c))
  (hg : w.grownBy w' v.ownBlock) (hv : v'.ownBlock = v.ownBlock ∨ ∃ g, v'.ownBlock = some g ∧ w.heap.size ≤ g)
  (hB : w.ownsRow base 3 1 (.slice B p.wait.length c) p.wait.length (ins p.wait)) (hne : ∀ g, blk (B, c) = some g → v.ownBlock ≠ some g)
  (hfr : ∀ (k : Nat) (a : Option Addr × Nat), As[k]? = some a → ∀ g, blk a = some g → blk (B, c) ≠ some g) : FlsO w' base v' (fs ++ [p]) := by
 have keep : ∀ (a : Option Addr × Nat) (l : List Int), w.ownsRow base 3 1 (.slice a.1 l.length a.2) l.length (ins l) → (∀ g, blk a = some g → v.ownBlock ≠ some g) →
   w'.ownsRow base 3 1 (.slice a.1 l.length a.2) l.length (ins l) ∧ ∀ g, blk a = some g → v'.ownBlock ≠ some g := fun a l hr hn => by
  refine ⟨hr.kept hg ?_, fun g e => ?_⟩
  ·rw [zV]
   cases hb : blk a with
   | none => exact .inl rfl
   | some g => exact .inr (fun h => hn g hb h.symm)
  ·rcases hv with h | ⟨g', h, hge⟩
   ·rw [h]; exact hn g e
   ·rw [h]
    have := (hr.lt g (by rw [zV]; exact e)).2
    intro h'; cases h'; omega
 refine ⟨As ++ [(B, c)], by simp [h1], ?_, fun k q a hq ha => ?_, fun k j a b hkj ha hb g hag => ?_⟩
 ·rw [xr fs As p (B, c) h1, List.length_append]; exact ho
 ·by_cases hk : k < fs.length
  ·rw [List.getElem?_append_left hk] at hq
   rw [List.getElem?_append_left (by omega)] at ha
   obtain ⟨i1, i2⟩ := h3 k q a hq ha
   exact keep a q.wait i1 i2
  ·rw [List.getElem?_append_right (by omega)] at hq ha
   have hk0 : k - fs.length = 0 := by
    have := (List.getElem?_eq_some_iff.1 hq).1; simp at this; exact this
   rw [h1, hk0] at ha
   rw [hk0] at hq
   simp only [List.getElem?_cons_zero, Option.some.injEq] at hq ha
   subst hq ha
   exact keep (B, c) p.wait hB hne
 ·have hjl := (List.getElem?_eq_some_iff.1 hb).1
  rw [List.length_append] at hjl
  simp only [List.length_cons, List.length_nil] at hjl
  rw [List.getElem?_append_left (by omega)] at ha
  by_cases hj : j < As.length
  ·rw [List.getElem?_append_left hj] at hb
   exact h4 k j a b hkj ha hb g hag
  ·rw [List.getElem?_append_right (by omega)] at hb
   have : j - As.length = 0 := by omega
   rw [this] at hb
   simp only [List.getElem?_cons_zero, Option.some.injEq] at hb
   subst hb
   exact hfr k a ha g hag
set_option maxHeartbeats 4000000 in
theorem qG (A : Option Addr) (c : Nat) (fs : List FlP) (w : World) (hn : fs.length ≤ 1000) (hw : ∀ p ∈ fs, p.wait.length ≤ 1000) (hf : Fls w A fs) (hc : fs.length ≤ c) :
  Calls Tryz.prog 93 #[.slice A fs.length c] w fun e w' => ∃ v, e = .returned v ∧ FlsO w' w.heap.size v fs ∧ Below w.heap.size w w' := by
 have HWT := Lib.hid hw
 clear hw
 go_enter Tryz.func93, Tryz.ntmps93
 repeat' (fail_if_success (first|at_builtin|at_make));first|go_values|go_skip|go_guarded|go_step|go_upon|go_back
 refine qV rfl _ _ rfl J7 fs.length rfl rfl (by omega) (by omega) ?_
 intro w1 g1 hown1 hb1
 have ho1 := FlsO.nil_ w1 w.heap.size _ hown1
 repeat' (fail_if_success (first|at_builtin|at_make));first|go_values|go_skip|go_guarded|go_step|go_upon|go_back
 go_loopg [3, 11, 5] fs.length (fun gn v i u wr => ∃ k : Nat, gn = fs.length - k ∧ i = .int .i64 k ∧ k ≤ fs.length ∧ FlsO wr w.heap.size v (fs.take k) ∧ Below w.heap.size w wr)
 case atStart => exact ⟨0, rfl, rfl, by omega, ho1, hb1⟩
 case round =>
  clear ho1 hown1 hb1
  obtain ⟨k, hgq, rfl, hk, ho, hbl⟩ := hrel
  have HGK := Lib.hid hgq
  clear hgq
  by_cases hlt : k < fs.length
  ·have hcc : decide (k < fs.length) = true := decide_eq_true hlt
   obtain ⟨b, off, B, cb, rfl, hbb, c0, c1, c2, hrw, hwc, hcbm⟩ := (hf.below hbl).at_ k hlt
   have hwl := HWT.out fs[k] (List.getElem_mem hlt)
   have HST := Lib.hid (show fs.take (k + 1) = fs.take k ++ [fs[k]] from List.take_succ_eq_append_getElem hlt)
   have htl : (fs.take k).length = k := by rw [List.length_take]; omega
   obtain ⟨p, hp⟩ : ∃ p, p = fs[k] := ⟨_, rfl⟩
   rw [← hp] at c0 c1 c2 hrw hwc hwl HST
   obtain ⟨s, hs⟩ : ∃ s : ByteArray, s = ⟨p.key.toArray⟩ := ⟨_, rfl⟩
   rw [← hs] at c0
   have HS := Lib.hid hs
   have HTL := Lib.hid htl
   have hk0 : (0 : Int) ≤ (k : Int) := by omega
   have hk1 : (k : Int) < (fs.length : Int) := by omega
   obtain ⟨ld, hld⟩ : ∃ x, x = p.lead := ⟨_, rfl⟩
   rw [← hld] at c1
   have HLD := Lib.hid hld
   have hP1 : Arr (wr.alloc (.cells #[.string s, .int .i64 ld, .slice B p.wait.length cb] 142)) wr.heap.size 142 [.string s, .int .i64 ld, .slice B p.wait.length cb] := Arr.new wr _ _
   have hbr1 := (Below.refl wr.heap.size wr).alloc (Nat.le_refl _) (.cells #[.string s, .int .i64 ld, .slice B p.wait.length cb] 142)
   have hs1 : (wr.alloc (.cells #[.string s, .int .i64 ld, .slice B p.wait.length cb] 142)).heap.size = wr.heap.size + 1 := World.size_alloc _ _
   have hrw1 := hrw.alloc (.cells #[.string s, .int .i64 ld, .slice B p.wait.length cb] 142)
   clear hs hp hld htl hrw
   repeat' (fail_if_success (first|at_builtin|at_make));first|go_values|go_skip|go_guarded|go_step|go_upon|go_back
   generalize wr.alloc (.cells #[.string s, .int .i64 ld, .slice B p.wait.length cb] 142) = w1 at *
   obtain ⟨gp, hgp⟩ : ∃ gp, gp = wr.heap.size := ⟨_, rfl⟩
   rw [← hgp] at hP1 ⊢
   have HGP := Lib.hid hgp
   clear hgp c0 c1 c2
   refine ((ja B cb p.wait w1 (by omega) hrw1)).mono ?_; rintro e_ w2 ⟨v2, rfl, ho2, hb2⟩; dsimp only
   have hbr2 := hbr1.trans (hb2.mono hbr1.size)
   have hP2 := hP1.below hb2
   have hrd2 : ∀ b, v2.ownBlock = some b → b ≠ gp := fun b h => by have := (ho2.lt b h).1; have := HGP.out; omega
   obtain ⟨A2, c2, rfl, hc2, hr2⟩ := Rd.of_own' ho2
   have hc2m : c2 ≤ maxLen := by
    rcases ho2.2 with ⟨h1, h2⟩ | ⟨_, cap, _, h1, _, _, _, h2, _⟩
    ·injection h1 with _ _ h3; subst h3; exact Nat.zero_le _
    ·injection h1 with _ _ h3; subst h3; exact h2
   have y2 := hP2.cell (k := 2) rfl
   have z2 := hP2.frozen 2
   have hP3 := hP2.set (k := 2) (by simp) (.slice A2 p.wait.length c2)
   have hbr3 : Below wr.heap.size wr (w2.setCell ⟨gp, 2, none⟩ (.slice A2 p.wait.length c2)) := Below.setCell hbr2 (by show wr.heap.size ≤ gp; have := HGP.out; omega) _
   have hr3 : Rd (w2.setCell ⟨gp, 2, none⟩ (.slice A2 p.wait.length c2)) 1 A2 p.wait.length (ins p.wait) := by
    refine ⟨hr2.1, fun h0 => ?_⟩
    obtain ⟨b', o', e', hb', hcc'⟩ := hr2.2 h0
    have hn' := hrd2 b' (by rw [e']; rfl)
    subst e'
    exact (hr2.other hn' _).2 h0
   have hbelow2 : True := trivial
   have f0 := hP3.cell (k := 0) rfl
   have f1 := hP3.cell (k := 1) rfl
   have f2 := hP3.cell (k := 2) rfl
   have hneA : ∀ b off, A2 = some ⟨b, off, none⟩ → 0 < p.wait.length → wr.heap.size ≤ b := fun b off e _ => by
    have := (ho2.lt b (by rw [e]; rfl)).1; omega
   have ho22 := zc (k := 2) (u := .slice A2 p.wait.length c2) ho2 (fun h => hrd2 gp h rfl)
   clear ho2 hr2 hrw1
   repeat' (fail_if_success (first|at_builtin|at_make));first|go_values|go_skip|go_guarded|go_step|go_upon|go_back
   have hsz : (w2.setCell ⟨gp, 2, none⟩ (.slice A2 p.wait.length c2)).heap.size = w2.heap.size := by simp [World.setCell]
   rw [← hsz]
   obtain ⟨w3, hw3⟩ : ∃ w3, w3 = w2.setCell ⟨gp, 2, none⟩ (.slice A2 p.wait.length c2) := ⟨_, rfl⟩
   rw [← hw3] at hbr3 hr3 ho22 ⊢
   clear f0 f1 f2 y2 z2 hP3 hw3 hsz
   obtain ⟨As, j1, j2, j3, j4⟩ := ho
   have i1 := j1
   have i2 := zb j2 hbr3
   have i3 := fun (k : Nat) (p : FlP) (a : Option Addr × Nat) hp ha => (⟨zb (j3 k p a hp ha).1 hbr3, (j3 k p a hp ha).2⟩ : _ ∧ _)
   have i4 := j4
   have OLD := Lib.hid (show ∀ k' a, As[k']? = some a → ∀ g, blk a = some g → g < wr.heap.size from fun k' a ha g hg => by
    have hkl := (List.getElem?_eq_some_iff.1 ha).1
    have hq : (fs.take k)[k']? = some ((fs.take k)[k']'(by omega)) := List.getElem?_eq_getElem _
    exact ((j3 k' _ a hq ha).1.lt g (by rw [zV]; exact hg)).2)
   have hfc : qe p A2 c2 = [.string s, .int .i64 ld, .slice A2 p.wait.length c2] := by rw [qe, ← HS.out, ← HLD.out]
   rw [HTL.out] at i2
   refine zn rfl (.tmp 19) (.tmp 21) rfl J7 (by rfl) i2 (us := [.string s, .int .i64 ld, .slice A2 p.wait.length c2]) (m := 1) (by rfl) rfl (by intro u hu; simp at hu; rcases hu with rfl | rfl | rfl <;> rfl) (by omega) (Nat.le_trans hbl.size hbr3.size) ?_
   intro v5 w5 ho5 hg5 hv5
   have hlt5 : ∀ g', v5.ownBlock = some g' → w.heap.size ≤ g' := fun g' h => (ho5.lt g' h).1
   have hbel5 : Below w.heap.size w w5 := (hbl.trans (hbr3.mono hbl.size)).grown hg5 (Nat.le_trans hbl.size hbr3.size) (fun k hk => (i2.lt k hk).1)
   rw [← hfc] at ho5
   have hlow : w.heap.size ≤ w1.heap.size := Nat.le_trans hbl.size hbr1.size
   have ho6 := FlsO.snoc (p := p) (B := A2) (c := c2) i1 i3 i4 (by rw [HTL.out]; exact ho5) hg5 hv5 (zd ho22 hlow) (fun g h h' => by
    have h1 := (ho22.lt g (by rw [zV (A2, c2)]; exact h)).1
    have := (j2.lt g h').2
    omega) (fun k' a ha g h h' => by
    have h1 := (ho22.lt g (by rw [zV (A2, c2)]; exact h')).1
    have := OLD.out k' a ha g h
    omega)
   rw [← HST.out] at ho6
   clear i1 i2 i3 i4 j1 j2 j3 j4 ho22 ho5 hg5 hv5 hr3 hbr3 hlt5
   repeat' (fail_if_success (first|at_builtin|at_make));first|go_values|go_skip|go_guarded|go_step|go_upon|go_back
   go_roundg (fs.length - (k + 1))
   case measure => have := HGK.out; omega
   case rel => exact ⟨k + 1, rfl, by go_num, by omega, ho6, hbel5⟩
  ·obtain rfl : k = fs.length := by omega
   have hcc : decide (fs.length < fs.length) = false := by simp
   rw [List.take_length] at ho
   obtain ⟨A5, c5, rfl, _, _⟩ := ho.fls
   repeat' (fail_if_success (first|at_builtin|at_make));first|go_values|go_skip|go_guarded|go_step|go_upon|go_back
   go_ret
   exact ⟨_, rfl, ho, hbl⟩
theorem vV (fs : List FlP) (As : List (Option Addr × Nat)) : ∀ u ∈ qu fs As, u.oneCell' = true := by
 intro u hu
 simp only [qu, List.mem_flatMap] at hu
 obtain ⟨x, _, hx⟩ := hu
 simp only [qe, List.mem_cons, List.not_mem_nil, or_false] at hx
 rcases hx with rfl | rfl | rfl <;> rfl
theorem Kl (v : Value) (base : Nat) (fs : List FlP) (w : World) (hn : fs.length ≤ 1000) (h0 : 0 < fs.length) (hbs : base ≤ w.heap.size) (h : FlsO w base v fs) :
  Calls Tryz.prog 146 #[v] w fun e w' => ∃ v', e = .returned v' ∧ FlsO w' base v' fs ∧ Below w.heap.size w w' := by
 obtain ⟨As, i1, i2, i3, i4⟩ := h
 obtain ⟨g, cap, cs, rfl, _, _, hcap, _, _, _⟩ := yQ i2 h0
 have hr := Rd.of_own i2
 have I3 := Lib.hid i3
 have I4 := Lib.hid i4
 have I1 := Lib.hid i1
 have heq := fun W => Lib.run_eql_slice_nil (P := Tryz.prog) W 56 142 (some ⟨g, 0, none⟩) fs.length cap 0 0 Tryz.underlying56
 clear i1 i2 i3 i4
 go_enter Tryz.func146, Tryz.ntmps146
 repeat' (fail_if_success (first|at_builtin|at_make));first|go_values|go_skip|go_guarded|go_step|go_upon|go_back
 refine zz rfl (.tmp 5) (.tmp 6) rfl J7 (by rfl) (World.ownsRow_made (size := 3) w #[] 0 (Nat.le_refl _) (by simp [maxLen]) rfl) (by rfl) (hr.alloc _) (vV fs As) (by omega) (by simp) ?_
 intro v1 w1 hown1 hg1 _
 have hb1 := zf ((Below.refl _ _).alloc (Nat.le_refl _) _) (World.ownsRow_made (size := 3) w #[] 0 (Nat.le_refl _) (by simp [maxLen]) rfl) (Nat.le_refl _) hg1
 rw [Nat.zero_add, List.nil_append] at hown1
 go_wp2_with fail
 go_ret
 refine ⟨_, rfl, ⟨As, I1.out, zd hown1 hbs, (fun k p a hp ha => ?_), I4.out⟩, hb1⟩
 obtain ⟨j1, _⟩ := I3.out k p a hp ha
 exact ⟨zb j1 hb1, fun g h h' => by
  have := (j1.lt g (by rw [zV]; exact h)).2
  have := (hown1.lt g h').1
  omega⟩
set_option maxHeartbeats 4000000 in
theorem Xq (A : Option Addr) (c : Nat) (fs : List FlP) (k : ByteArray) (n : Int) (w : World) (hG : GoodF fs) (hf : Fls w A fs) (hc : fs.length ≤ c) (hm : c ≤ maxLen) (hk : hexC k.data.toList = 0) (hks : k.size ≤ 140737488351232) (hn1 : 1 ≤ n) (hn2 : n ≤ 1000) (hfn : fnd 0 fs k.data.toList = none) (h6 : fs.length < 6) :
  Calls Tryz.prog 92 #[.slice A fs.length c, .string k, .int .i64 n] w fun e w' => ∃ v, e = .returned (.tuple #[v, .bool true, .int .i64 0]) ∧ FlsO w' w.heap.size v (fs ++ [⟨k.data.toList, n, []⟩]) ∧ Below w.heap.size w w' := by
 have HCK := Lib.hid (fun w' hf' => qC A c fs w' hG hf' hc hm)
 have HHX := Lib.hid (fun w' => qU (s := k) 0 rfl hk w' hks)
 have HWH := Lib.hid (fun w' => vU n w')
 have hwd : decide (1 ≤ n ∧ n ≤ 1000) = true := by simp [hn1, hn2]
 have HWD := Lib.hid hwd
 have HCP := Lib.hid (fun w' hf' => qG A c fs w' (by omega) (fun p hp => by
  obtain ⟨j, hj, rfl⟩ := List.mem_iff_getElem.1 hp
  have := hG.few j hj; omega) hf' hc)
 have HFI := Lib.hid (fun w' hf' => qP A c fs k w' (by omega) hf')
 have HF := Lib.hid hfn
 have e6 : ((fs.length : Int) == 6) = false := by rw [beq_eq_false_iff_ne]; omega
 have e6' : (fs.length == 6) = false := by rw [beq_eq_false_iff_ne]; omega
 clear hG hk hwd hfn
 go_enter Tryz.func92, Tryz.ntmps92
 repeat' (fail_if_success (first|at_builtin|at_make));first|go_values|go_skip|go_guarded|go_step|go_upon|go_back
 refine ((HCK.out w hf)).mono ?_; rintro e_ w1 ⟨rfl, hb1⟩; dsimp only
 have hf1 := hf.below hb1
 repeat' (fail_if_success (first|at_builtin|at_make));first|go_values|go_skip|go_guarded|go_step|go_upon|go_back
 refine ((HHX.out w1)).mono ?_; rintro e_ w2 ⟨rfl, hb2⟩; dsimp only
 have hb12 := hb1.trans (hb2.mono hb1.size)
 have hf2 := hf1.below hb2
 repeat' (fail_if_success (first|at_builtin|at_make));first|go_values|go_skip|go_guarded|go_step|go_upon|go_back
 refine ((HWH.out w2)).mono ?_; rintro e_ _ ⟨rfl, rfl⟩; dsimp only
 rw [HWD.out]
 repeat' (fail_if_success (first|at_builtin|at_make));first|go_values|go_skip|go_guarded|go_step|go_upon|go_back
 refine ((HCP.out w2 hf2)).mono ?_; rintro e_ w3 ⟨v3, rfl, ho3, hb3⟩; dsimp only
 have hb13 := hb12.trans (hb3.mono hb12.size)
 have hf3 := hf2.below hb3
 have hfi := HFI.out w3 hf3
 rw [HF.out] at hfi
 dsimp only at hfi
 have HFF := Lib.hid hfi
 clear hfi hf hf1 hf2
 repeat' (fail_if_success (first|at_builtin|at_make));first|go_values|go_skip|go_guarded|go_step|go_upon|go_back
 refine ((HFF.out)).mono ?_; rintro e_ w4 ⟨rfl, hb4⟩; dsimp only
 have hb14 := hb13.trans (hb4.mono hb13.size)
 have ho4 := ho3.below hb4
 clear ho3 hf3
 repeat' (fail_if_success (first|at_builtin|at_make));first|go_values|go_skip|go_guarded|go_step|go_upon|go_back
 obtain ⟨As, i1, i2, i3, i4⟩ := ho4
 refine zn rfl (.tmp 46) (.tmp 50) rfl J7 (by rfl) i2 (us := [.string k, .int .i64 n, .slice none 0 0]) (m := 1) (by rfl) rfl (by intro u hu; simp at hu; rcases hu with rfl | rfl | rfl <;> rfl) (by omega) (Nat.le_trans hb3.size hb4.size) ?_
 intro v5 w5 ho5 hg5 hv5
 have hbel5 : Below w.heap.size w w5 := hb14.grown hg5 hb14.size (fun k hk => Nat.le_trans hb12.size (i2.lt k hk).1)
 have ho6 := FlsO.snoc (p := ⟨k.data.toList, n, []⟩) (B := none) (c := 0) i1 i3 i4 ho5 hg5 hv5 (World.ownsRow_nil _ _ _ _) (fun g h => by cases h) (fun k' a _ g _ h => by cases h)
 have ho6 := ho6.lower hb12.size
 clear i1 i2 i3 i4 ho5 hg5 hv5
 have hlen : (fs ++ [(⟨k.data.toList, n, []⟩ : FlP)]).length ≤ 7 := by rw [List.length_append]; simp only [List.length_cons, List.length_nil]; omega
 have hpos : 0 < (fs ++ [(⟨k.data.toList, n, []⟩ : FlP)]).length := by rw [List.length_append]; simp
 generalize hgs : fs ++ [(⟨k.data.toList, n, []⟩ : FlP)] = gs at *
 have HGS := Lib.hid hgs
 clear hgs
 repeat' (fail_if_success (first|at_builtin|at_make));first|go_values|go_skip|go_guarded|go_step|go_upon|go_back
 refine ((Kl _ _ gs w5 (by omega) hpos hbel5.size ho6)).mono ?_; rintro e_ w6 ⟨v6, rfl, ho8, hb6⟩; dsimp only
 rw [← HGS.out] at ho8
 repeat' (fail_if_success (first|at_builtin|at_make));first|go_values|go_skip|go_guarded|go_step|go_upon|go_back
 go_ret3
 exact ⟨v6, rfl, ho8, hbel5.trans (hb6.mono hbel5.size)⟩
set_option maxHeartbeats 4000000 in
theorem KD (A : Option Addr) (c : Nat) (fs : List FlP) (k : ByteArray) (n : Int) (w : World) (hG : GoodF fs) (hf : Fls w A fs) (hc : fs.length ≤ c) (hm : c ≤ maxLen) (hk : hexC k.data.toList = 0) (hks : k.size ≤ 140737488351232) (hn1 : 1 ≤ n) (hn2 : n ≤ 1000) (hfn : fnd 0 fs k.data.toList = none) (h6 : fs.length = 6) :
  Calls Tryz.prog 92 #[.slice A fs.length c, .string k, .int .i64 n] w fun e w' => e = .returned (.tuple #[.slice none 0 0, .bool false, .int .i64 7]) ∧ Below w.heap.size w w' := by
 have e6 : ((fs.length : Int) == 6) = true := by rw [beq_iff_eq]; omega
 have H6 := Lib.hid h6
 have h66 : fs.length ≤ 6 := by omega
 clear h6
 have HCK := Lib.hid (fun w' hf' => qC A c fs w' hG hf' hc hm)
 have HHX := Lib.hid (fun w' => qU (s := k) 0 rfl hk w' hks)
 have HWH := Lib.hid (fun w' => vU n w')
 have hwd : decide (1 ≤ n ∧ n ≤ 1000) = true := by simp [hn1, hn2]
 have HWD := Lib.hid hwd
 have HCP := Lib.hid (fun w' hf' => qG A c fs w' (by omega) (fun p hp => by
  obtain ⟨j, hj, rfl⟩ := List.mem_iff_getElem.1 hp
  have := hG.few j hj; omega) hf' hc)
 have HFI := Lib.hid (fun w' hf' => qP A c fs k w' (by omega) hf')
 have HF := Lib.hid hfn
 clear hG hk hwd hfn
 go_enter Tryz.func92, Tryz.ntmps92
 go_wp2_with fail
 refine ((HCK.out w hf)).mono ?_; rintro e_ w1 ⟨rfl, hb1⟩; dsimp only
 have hf1 := hf.below hb1
 go_wp2_with fail
 refine ((HHX.out w1)).mono ?_; rintro e_ w2 ⟨rfl, hb2⟩; dsimp only
 have hb12 := hb1.trans (hb2.mono hb1.size)
 have hf2 := hf1.below hb2
 go_wp2_with fail
 refine ((HWH.out w2)).mono ?_; rintro e_ _ ⟨rfl, rfl⟩; dsimp only
 rw [HWD.out]
 go_wp2_with fail
 refine ((HCP.out w2 hf2)).mono ?_; rintro e_ w3 ⟨v3, rfl, ho3, hb3⟩; dsimp only
 have hb13 := hb12.trans (hb3.mono hb12.size)
 have hf3 := hf2.below hb3
 have hfi := HFI.out w3 hf3
 rw [HF.out] at hfi
 dsimp only at hfi
 have HFF := Lib.hid hfi
 clear hfi hf hf1 hf2
 go_wp2_with fail
 refine ((HFF.out)).mono ?_; rintro e_ w4 ⟨rfl, hb4⟩; dsimp only
 have hb14 := hb13.trans (hb4.mono hb13.size)
 go_wp2_with fail
 go_ret3
 exact ⟨rfl, hb14⟩
set_option maxHeartbeats 4000000 in
theorem VQ (A : Option Addr) (c : Nat) (fs : List FlP) (k : ByteArray) (n : Int) (i : Nat) (w : World) (hG : GoodF fs) (hf : Fls w A fs) (hc : fs.length ≤ c) (hm : c ≤ maxLen) (hk : hexC k.data.toList = 0) (hks : k.size ≤ 140737488351232) (hn1 : 1 ≤ n) (hn2 : n ≤ 1000) (hfn : fnd 0 fs k.data.toList = some i) (hi : i < fs.length) (hin : (fs[i].lead :: fs[i].wait).contains n = true) :
  Calls Tryz.prog 92 #[.slice A fs.length c, .string k, .int .i64 n] w fun e w' => e = .returned (.tuple #[.slice none 0 0, .bool false, .int .i64 6]) ∧ Below w.heap.size w w' := by
 have h66 : fs.length ≤ 6 := hG.len
 have hfew := hG.few i hi
 have HIN := Lib.hid hin
 have FF := Lib.hid hf
 clear hin
 have HCK := Lib.hid (fun w' hf' => qC A c fs w' hG hf' hc hm)
 have HHX := Lib.hid (fun w' => qU (s := k) 0 rfl hk w' hks)
 have HWH := Lib.hid (fun w' => vU n w')
 have hwd : decide (1 ≤ n ∧ n ≤ 1000) = true := by simp [hn1, hn2]
 have HWD := Lib.hid hwd
 have HCP := Lib.hid (fun w' hf' => qG A c fs w' (by omega) (fun p hp => by
  obtain ⟨j, hj, rfl⟩ := List.mem_iff_getElem.1 hp
  have := hG.few j hj; omega) hf' hc)
 have HFI := Lib.hid (fun w' hf' => qP A c fs k w' (by omega) hf')
 have HF := Lib.hid hfn
 clear hG hk hwd hfn
 go_enter Tryz.func92, Tryz.ntmps92
 go_wp2_with fail
 refine ((HCK.out w hf)).mono ?_; rintro e_ w1 ⟨rfl, hb1⟩; dsimp only
 have hf1 := hf.below hb1
 go_wp2_with fail
 refine ((HHX.out w1)).mono ?_; rintro e_ w2 ⟨rfl, hb2⟩; dsimp only
 have hb12 := hb1.trans (hb2.mono hb1.size)
 have hf2 := hf1.below hb2
 go_wp2_with fail
 refine ((HWH.out w2)).mono ?_; rintro e_ _ ⟨rfl, rfl⟩; dsimp only
 rw [HWD.out]
 go_wp2_with fail
 refine ((HCP.out w2 hf2)).mono ?_; rintro e_ w3 ⟨v3, rfl, ho3, hb3⟩; dsimp only
 have hb13 := hb12.trans (hb3.mono hb12.size)
 have hf3 := hf2.below hb3
 have hfi := HFI.out w3 hf3
 rw [HF.out] at hfi
 dsimp only at hfi
 have HFF := Lib.hid hfi
 clear hfi hf hf1 hf2
 go_wp2_with fail
 refine ((HFF.out)).mono ?_; rintro e_ w4 ⟨rfl, hb4⟩; dsimp only
 have hb14 := hb13.trans (hb4.mono hb13.size)
 obtain ⟨b, off, B, cb, rfl, hbb, c0, c1, c2, hrw, hwc, hcbm⟩ := (FF.out.below hb14).at_ i hi
 have i1 : (0 : Int) ≤ (i : Int) := by omega
 have i2 : (i : Int) < (fs.length : Int) := by omega
 obtain ⟨s, hs⟩ : ∃ s : ByteArray, s = ⟨fs[i].key.toArray⟩ := ⟨_, rfl⟩
 rw [← hs] at c0
 have HI2 := HIN.out
 generalize fs[i].lead = ld at *
 generalize fs[i].wait = wt at *
 have HI3 := Lib.hid HI2
 clear HI2 HIN hs
 go_wp2_with fail
 refine ((xV s ld B cb wt w4 (by omega) hrw)).mono ?_; rintro e_ w5 ⟨v5, rfl, ho5, hb5⟩; dsimp only
 have hb15 := hb14.trans (hb5.mono hb14.size)
 obtain ⟨A5, c5, rfl, hc5, hr5⟩ := Rd.of_own' ho5
 have hcon := kg A5 c5 (ld :: wt) n w5 (by simp only [List.length_cons]; omega) hr5
 rw [HI3.out] at hcon
 simp only [List.length_cons] at hcon
 have HCO := Lib.hid hcon
 clear hcon ho5 hr5 c0 c1 c2
 go_wp2_with fail
 refine ((HCO.out)).mono ?_; rintro e_ _ ⟨rfl, rfl⟩; dsimp only
 go_wp2_with fail
 go_ret3
 exact ⟨rfl, hb15⟩
set_option maxHeartbeats 4000000 in
theorem YE (A : Option Addr) (c : Nat) (fs : List FlP) (k : ByteArray) (n : Int) (i : Nat) (w : World) (hG : GoodF fs) (hf : Fls w A fs) (hc : fs.length ≤ c) (hm : c ≤ maxLen) (hk : hexC k.data.toList = 0) (hks : k.size ≤ 140737488351232) (hn1 : 1 ≤ n) (hn2 : n ≤ 1000) (hfn : fnd 0 fs k.data.toList = some i) (hi : i < fs.length) (hin : (fs[i].lead :: fs[i].wait).contains n = false) (h5 : fs[i].wait.length = 5) :
  Calls Tryz.prog 92 #[.slice A fs.length c, .string k, .int .i64 n] w fun e w' => e = .returned (.tuple #[.slice none 0 0, .bool false, .int .i64 7]) ∧ Below w.heap.size w w' := by
 have h66 : fs.length ≤ 6 := hG.len
 have hfew := hG.few i hi
 have H5 := Lib.hid h5
 clear h5
 have HIN := Lib.hid hin
 have FF := Lib.hid hf
 clear hin
 have HCK := Lib.hid (fun w' hf' => qC A c fs w' hG hf' hc hm)
 have HHX := Lib.hid (fun w' => qU (s := k) 0 rfl hk w' hks)
 have HWH := Lib.hid (fun w' => vU n w')
 have hwd : decide (1 ≤ n ∧ n ≤ 1000) = true := by simp [hn1, hn2]
 have HWD := Lib.hid hwd
 have HCP := Lib.hid (fun w' hf' => qG A c fs w' (by omega) (fun p hp => by
  obtain ⟨j, hj, rfl⟩ := List.mem_iff_getElem.1 hp
  have := hG.few j hj; omega) hf' hc)
 have HFI := Lib.hid (fun w' hf' => qP A c fs k w' (by omega) hf')
 have HF := Lib.hid hfn
 clear hG hk hwd hfn
 go_enter Tryz.func92, Tryz.ntmps92
 go_wp2_with fail
 refine ((HCK.out w hf)).mono ?_; rintro e_ w1 ⟨rfl, hb1⟩; dsimp only
 have hf1 := hf.below hb1
 go_wp2_with fail
 refine ((HHX.out w1)).mono ?_; rintro e_ w2 ⟨rfl, hb2⟩; dsimp only
 have hb12 := hb1.trans (hb2.mono hb1.size)
 have hf2 := hf1.below hb2
 go_wp2_with fail
 refine ((HWH.out w2)).mono ?_; rintro e_ _ ⟨rfl, rfl⟩; dsimp only
 rw [HWD.out]
 go_wp2_with fail
 refine ((HCP.out w2 hf2)).mono ?_; rintro e_ w3 ⟨v3, rfl, ho3, hb3⟩; dsimp only
 have hb13 := hb12.trans (hb3.mono hb12.size)
 have hf3 := hf2.below hb3
 have hfi := HFI.out w3 hf3
 rw [HF.out] at hfi
 dsimp only at hfi
 have HFF := Lib.hid hfi
 clear hfi hf hf1 hf2
 go_wp2_with fail
 refine ((HFF.out)).mono ?_; rintro e_ w4 ⟨rfl, hb4⟩; dsimp only
 have hb14 := hb13.trans (hb4.mono hb13.size)
 obtain ⟨b, off, B, cb, rfl, hbb, c0, c1, c2, hrw, hwc, hcbm⟩ := (FF.out.below hb14).at_ i hi
 have i1 : (0 : Int) ≤ (i : Int) := by omega
 have i2 : (i : Int) < (fs.length : Int) := by omega
 obtain ⟨s, hs⟩ : ∃ s : ByteArray, s = ⟨fs[i].key.toArray⟩ := ⟨_, rfl⟩
 rw [← hs] at c0
 have HI2 := HIN.out
 generalize fs[i].lead = ld at *
 generalize fs[i].wait = wt at *
 have HI3 := Lib.hid HI2
 have H55 := H5.out
 have e5 : ((wt.length : Int) == 5) = true := by rw [beq_iff_eq]; omega
 have e5' : (wt.length == 5) = true := by rw [beq_iff_eq]; omega
 clear HI2 HIN hs H55
 go_wp2_with fail
 refine ((xV s ld B cb wt w4 (by omega) hrw)).mono ?_; rintro e_ w5 ⟨v5, rfl, ho5, hb5⟩; dsimp only
 have hb15 := hb14.trans (hb5.mono hb14.size)
 obtain ⟨A5, c5, rfl, hc5, hr5⟩ := Rd.of_own' ho5
 have hcon := kg A5 c5 (ld :: wt) n w5 (by simp only [List.length_cons]; omega) hr5
 rw [HI3.out] at hcon
 simp only [List.length_cons] at hcon
 have HCO := Lib.hid hcon
 have d2 := (hb5.cell (p := ⟨b, off + i * 3 + 2, none⟩) hbb).trans c2
 clear hcon ho5 hr5 c0 c1 c2
 go_wp2_with fail
 refine ((HCO.out)).mono ?_; rintro e_ _ ⟨rfl, rfl⟩; dsimp only
 go_wp2_with fail
 go_ret3
 exact ⟨rfl, hb15⟩
end Go.Proofs.YtpbacomdoddhdaaGreat
