/- index.Drop; entries one by one; stores that are the same; IndexAges, IndexBack walked. Conditions: the sizes. -/
import Derived.Test.YtooohfckhepcmaaIxP
import Derived.Test.YtooohfckhepcmaaStore
import Derived.Test.YtooohfckhepcmaaOld
namespace Go.Proofs.Ytooohfckhepcmaa
open Go.RowKit
set_option linter.unusedVariables false
set_option linter.unusedSimpArgs false
set_option maxRecDepth 100000

/-- a closure that holds nothing -/
def TellsE0 (w : World) (l : List EntP) (f : FuncId) (p : EntP → Bool) : Prop :=
  (∀ args W, (callFunc f args).run Try.prog W = .ok (.enter f args) W) ∧ ∀ (b : EntP) (B : Option Addr) (cb : Nat) (W : World), b ∈ l → Below w.heap.size w W → Sl W 3 B b.parts.length cb (pcs b.parts) →
    Calls Try.prog f #[.agg #[.string ⟨b.key.toArray⟩, .slice B b.parts.length cb, .int .i64 (b.pins : Int), .int .i64 (b.stamp : Int)]] W fun e w' => e = .returned (.bool (p b)) ∧ Below W.heap.size W w'
set_option maxHeartbeats 4000000 in
theorem IdxE0_ok (A : Option Addr) (c : Nat) (l : List EntP) (f : FuncId) (p : EntP → Bool) (w : World) (hl : l.length ≤ 1000000) (hA : Rw EntS w A l) (HC : TellsE0 w l f p) :
    Calls Try.prog 97 #[.slice A l.length c, .func (.func f) #[] #[]] w fun e w' => e = .returned (.int .i64 (plc (l.findIdx? p))) ∧ Below w.heap.size w w' := by
  obtain ⟨hcf, hcc0⟩ := HC
  have HCC := Lib.hid hcc0
  clear hcc0
  generalize hR : l.findIdx? p = R
  have HR := Lib.hid hR
  clear hR
  go_enter Try.func97, Try.ntmps97
  repeat' ((fail_if_success at_builtin); (fail_if_success at_make); (first | go_values | go_skip | go_guarded | go_step | go_upon | go_back))
  go_loopg [5, 8] l.length (fun gn u i wr => ∃ j : Nat, gn = l.length - j ∧ i = .int .i64 j ∧ j ≤ l.length ∧ (∀ k (h : k < l.length), k < j → p l[k] = false) ∧ Below w.heap.size w wr)
  case atStart => exact ⟨0, rfl, rfl, by omega, fun k _ h => absurd h (by omega), Below.refl _ _⟩
  case round =>
    obtain ⟨j, hgk, rfl, hj, hno, hbl⟩ := hrel
    have HGK := Lib.hid hgk
    have HNO := Lib.hid hno
    clear hgk hno
    by_cases hlt : j < l.length
    · have hcc : decide (j < l.length) = true := decide_eq_true hlt
      obtain ⟨b, off, B, cb, rfl, hbb, c0, c1, c2, c3, hs⟩ := (hA.below hbl).ent_at j hlt
      have hcl := HCC.out l[j] B cb wr (List.getElem_mem hlt) hbl hs
      have hj0 : (0 : Int) ≤ (j : Int) := by omega
      have hj1 : (j : Int) < (l.length : Int) := by omega
      cases hp : p l[j] with
      | true =>
        have HF := Lib.hid (show R = some j by
          rw [← HR.out, List.findIdx?_eq_some_iff_getElem]
          exact ⟨hlt, hp, fun k hk => by rw [HNO.out k (by omega) hk]; simp⟩)
        rw [hp] at hcl
        have HCL := Lib.hid hcl
        clear hp hs hcl
        generalize l[j] = bl at *
        repeat' ((fail_if_success at_builtin); (fail_if_success at_make); (first | go_values | go_skip | go_guarded | go_step | go_upon | go_back))
        refine ((HCL.out)).mono ?_; rintro e_ w5 ⟨rfl, hb5⟩; dsimp only
        have hb05 := hbl.trans (hb5.mono hbl.size)
        repeat' ((fail_if_success at_builtin); (fail_if_success at_make); (first | go_values | go_skip | go_guarded | go_step | go_upon | go_back))
        go_ret
        rw [HF.out]
        exact ⟨rfl, hb05⟩
      | false =>
        have HN := Lib.hid (show ∀ k (h : k < l.length), k < j + 1 → p l[k] = false from fun k h hk => by
          rcases Nat.lt_or_ge k j with h1 | h1
          · exact HNO.out k h h1
          · have : k = j := by omega
            subst this; exact hp)
        rw [hp] at hcl
        have HCL := Lib.hid hcl
        clear hp hs hcl
        generalize l[j] = bl at *
        repeat' ((fail_if_success at_builtin); (fail_if_success at_make); (first | go_values | go_skip | go_guarded | go_step | go_upon | go_back))
        refine ((HCL.out)).mono ?_; rintro e_ w5 ⟨rfl, hb5⟩; dsimp only
        have hb05 := hbl.trans (hb5.mono hbl.size)
        repeat' ((fail_if_success at_builtin); (fail_if_success at_make); (first | go_values | go_skip | go_guarded | go_step | go_upon | go_back))
        go_roundg (l.length - (j + 1))
        case measure => have := HGK.out; omega
        case rel => exact ⟨j + 1, rfl, by go_num, by omega, HN.out, hb05⟩
    · obtain rfl : j = l.length := by omega
      have hcc : decide (l.length < l.length) = false := by simp
      have HF := Lib.hid (show R = none by
        rw [← HR.out, List.findIdx?_eq_none_iff]
        intro x hx
        obtain ⟨k, hk, rfl⟩ := List.mem_iff_getElem.1 hx
        exact HNO.out k hk hk)
      repeat' ((fail_if_success at_builtin); (fail_if_success at_make); (first | go_values | go_skip | go_guarded | go_step | go_upon | go_back))
      go_ret
      rw [HF.out]
      exact ⟨rfl, hbl⟩
theorem CntE0_ok (A : Option Addr) (c : Nat) (l : List EntP) (f : FuncId) (p : EntP → Bool) (w : World) (hl : l.length ≤ 1000000) (hA : Rw EntS w A l) (HC : TellsE0 w l f p) :
    Calls Try.prog 46 #[.slice A l.length c, .func (.func f) #[] #[]] w fun e w' => e = .returned (.bool (l.any p)) ∧ Below w.heap.size w w' := by
  have hI := IdxE0_ok A c l f p w hl hA HC
  clear HC
  have HI := Lib.hid hI
  clear hI
  have hany : l.any p = (l.findIdx? p).isSome := by rw [List.findIdx?_isSome]
  rw [hany]
  cases hf : l.findIdx? p with
  | none =>
    rw [hf] at HI
    go_enter Try.func46, Try.ntmps46
    repeat' ((fail_if_success at_builtin); (fail_if_success at_make); (first | go_values | go_skip | go_guarded | go_step | go_upon | go_back))
    refine ((HI.out)).mono ?_; rintro e_ w1 ⟨rfl, hb1⟩; dsimp only
    repeat' ((fail_if_success at_builtin); (fail_if_success at_make); (first | go_values | go_skip | go_guarded | go_step | go_upon | go_back))
    go_ret
    exact ⟨rfl, hb1⟩
  | some i =>
    rw [hf] at HI
    have hi : decide ((i : Int) ≥ 0) = true := decide_eq_true (by omega)
    have hi2 : decide ((0 : Int) ≤ (i : Int)) = true := decide_eq_true (by omega)
    go_enter Try.func46, Try.ntmps46
    repeat' ((fail_if_success at_builtin); (fail_if_success at_make); (first | go_values | go_skip | go_guarded | go_step | go_upon | go_back))
    refine ((HI.out)).mono ?_; rintro e_ w1 ⟨rfl, hb1⟩; dsimp only
    repeat' ((fail_if_success at_builtin); (fail_if_success at_make); (first | go_values | go_skip | go_guarded | go_step | go_upon | go_back))
    go_ret
    exact ⟨rfl, hb1⟩
theorem Free_tells (l : List EntP) (w : World) : TellsE0 w l 47 (fun x => (x.pins : Int) == 0) := by
  refine ⟨fun _ _ => by kernel_rfl, fun b B cb W hb hbel hs => ?_⟩
  have hb1 := (Below.refl W.heap.size W).alloc (Nat.le_refl _) (.cells #[.string ⟨b.key.toArray⟩, .slice B b.parts.length cb, .int .i64 (b.pins : Int), .int .i64 (b.stamp : Int)] 53)
  dsimp only
  go_enter Try.func47, Try.ntmps47
  repeat' ((fail_if_success at_builtin); (fail_if_success at_make); (first | go_values | go_skip | go_guarded | go_step | go_upon | go_back))
  go_ret
  exact ⟨by first | rfl | simp, hb1⟩
set_option maxHeartbeats 4000000 in
theorem DropE_ok (A : Option Addr) (c : Nat) (l : List EntP) (d : List UInt8) (i : Nat) (w : World) (hg : GoodE l) (hi : i < l.length) (hk : l[i].key = d) (hp : l[i].pins = 0) (hA : Rw EntS w A l) :
    Calls Try.prog 45 #[.slice A l.length c, .string ⟨d.toArray⟩] w fun e w' =>
      ∃ g, e = .returned (.tuple #[.slice (some ⟨g, 0, none⟩) (l.eraseIdx i).length l.length, .int .i64 0]) ∧ RwX EntS 53 w' w.heap.size (.slice (some ⟨g, 0, none⟩) (l.eraseIdx i).length l.length) (l.eraseIdx i) (fun b => b < w.heap.size) ∧ Below w.heap.size w w' := by
  have hl : l.length ≤ 10 := hg.len
  have hf : l.findIdx? (fun x => x.key == d) = some i := by
    rw [List.findIdx?_eq_some_iff_getElem]
    refine ⟨hi, by simp [hk], fun k hk' => ?_⟩
    have := List.pairwise_iff_getElem.1 hg.ris k i (by omega) hi hk'
    rw [← hk]
    simpa using bl_ne this
  have HF := Lib.hid hf
  have HC := Lib.hid (CheckE_ok A c l w hg hA)
  have HPL := Lib.hid (show ∀ y ∈ l, y.parts.length ≤ 1000000 from fun y hy => by have := (chk_zero (hg.one y hy).2.1).1; omega)
  have HP := Lib.hid hp
  have hi0 : (0 : Int) ≤ (i : Int) := by omega
  have hi1 : (i : Int) < (l.length : Int) := by omega
  obtain ⟨sd, hsd⟩ : ∃ s : ByteArray, s = ⟨d.toArray⟩ := ⟨_, rfl⟩
  rw [← hsd]
  have HSD := Lib.hid hsd
  clear hf hg hk hp hsd
  go_enter Try.func45, Try.ntmps45
  repeat' ((fail_if_success at_builtin); (fail_if_success at_make); (first | go_values | go_skip | go_guarded | go_step | go_upon | go_back))
  refine ((HC.out)).mono ?_; rintro e_ w1 ⟨rfl, hb1⟩; dsimp only
  have hA1 := hA.below hb1
  have HFN := FindE_ok A c l d w1 (by omega) hA1
  rw [HF.out, ← HSD.out] at HFN
  have HFN := Lib.hid HFN
  repeat' ((fail_if_success at_builtin); (fail_if_success at_make); (first | go_values | go_skip | go_guarded | go_step | go_upon | go_back))
  refine ((HFN.out)).mono ?_; rintro e_ w2 ⟨rfl, hb2⟩; dsimp only
  rw [fndR]
  have hb12 := hb1.trans (hb2.mono hb1.size)
  have hA2 := hA1.below hb2
  obtain ⟨b, off, B, cb, e1, hbb, d0, d1, d2, d3, _⟩ := hA2.ent_at i hi
  rw [HP.out] at d2
  have HCP := Lib.hid (CopyE_ok A c l w2 (by omega) (fun y hy => HPL.out y hy) hA2)
  clear hA hA1 hA2 hb1 hb2 d0 d1 d3
  subst e1
  repeat' ((fail_if_success at_builtin); (fail_if_success at_make); (first | go_values | go_skip | go_guarded | go_step | go_upon | go_back))
  refine ((HCP.out)).mono ?_; rintro e_ w3 ⟨g, rfl, hx3, hb3⟩; dsimp only
  have hb13 := hb12.trans (hb3.mono hb12.size)
  have HDL := Lib.hid (DelE_ok g i l _ l.length w3 _ hi hx3)
  have hg3 : w2.heap.size ≤ g := (hx3.rwo.blk rfl).1
  have hw2 : w.heap.size ≤ w2.heap.size := hb12.size
  clear hx3 hb3 d2
  repeat' ((fail_if_success at_builtin); (fail_if_success at_make); (first | go_values | go_skip | go_guarded | go_step | go_upon | go_back))
  refine ((HDL.out)).mono ?_; rintro e_ w4 ⟨rfl, hx4, hg4⟩; dsimp only
  have hb14 := hb13.grown hg4 hb13.size (fun k hk => by cases hk; exact Nat.le_trans hw2 hg3)
  have hx5 := (hx4.lower hw2).wider (N' := fun b => b < w.heap.size) (fun b hb => .inl (Nat.lt_of_lt_of_le hb hw2))
  clear hx4 hg4 hb13
  repeat' ((fail_if_success at_builtin); (fail_if_success at_make); (first | go_values | go_skip | go_guarded | go_step | go_upon | go_back))
  go_ret2
  exact ⟨g, rfl, hx5, hb14⟩
theorem indexed_ok (w : World) : Calls Try.prog 42 #[] w fun e w' => e = .returned (.bool true) ∧ Below w.heap.size w w' := by
  have HK := Lib.hid (Key_ok 1 w (by omega) (by omega))
  have hgx : GoodE1 ⟨keyS (pk 1 7), [], 0, 3⟩ := ⟨hexC_sha _, rfl, by show 0 ≤ 5; omega, by show 3 ≤ 1099511627776; omega⟩
  have HPT := Lib.hid (fun W => PutE_ok none 0 [] ⟨keyS (pk 1 7), [], 0, 3⟩ none 0 W ⟨by simp, by simp, List.Pairwise.nil⟩ hgx (by simp) Rw.nil_ (Sl.nil_ _ _))
  have HPE := Lib.hid (show putE [] ⟨keyS (pk 1 7), [], 0, 3⟩ = [⟨keyS (pk 1 7), [], 0, 3⟩] from (List.perm_singleton.1 (srt_perm _ _)))
  clear hgx
  go_enter Try.func42, Try.ntmps42
  repeat' ((fail_if_success at_builtin); (fail_if_success at_make); (first | go_values | go_skip | go_guarded | go_step | go_upon | go_back))
  refine ((HK.out)).mono ?_; rintro e_ w1 ⟨rfl, hb1⟩; dsimp only
  generalize keyS (pk 1 7) = K at *
  repeat' ((fail_if_success at_builtin); (fail_if_success at_make); (first | go_values | go_skip | go_guarded | go_step | go_upon | go_back))
  refine ((HPT.out w1)).mono ?_; rintro e_ w2 ⟨v, rfl, hx, hb2⟩; dsimp only
  rw [HPE.out] at hx
  have hb12 := hb1.trans (hb2.mono hb1.size)
  obtain ⟨A, c, rfl, hc1, hc2, hR⟩ := hx.rwo.rows
  obtain ⟨b, off, B, cb, rfl, hbb, d0, d1, d2, d3, _⟩ := hR.ent_at 0 (by simp)
  clear hx hb1 hb2 hR
  simp only [List.length_cons, List.length_nil, List.getElem_cons_zero, Nat.zero_add, Nat.zero_mul, Nat.add_zero] at *
  repeat' ((fail_if_success at_builtin); (fail_if_success at_make); (first | go_values | go_skip | go_guarded | go_step | go_upon | go_back))
  go_ret
  exact ⟨rfl, hb12⟩
theorem goodE_erase {l : List EntP} (h : GoodE l) (i : Nat) : GoodE (l.eraseIdx i) :=
  ⟨Nat.le_trans (List.length_eraseIdx_le _ _) h.len, fun x hx => h.one x (List.mem_of_mem_eraseIdx hx), h.ris.sublist (List.eraseIdx_sublist _ _)⟩
set_option maxHeartbeats 8000000 in
theorem IndexAges_walk (A : Option Addr) (n c : Nat) (l : List RawP) (w : World) (hl : l.length = n) (hc : n ≤ c) (hm : c ≤ maxLen) (hok : ∀ r ∈ l, RawOk r) (hr : Rd w 4 A n (rcs l)) :
    Calls Try.prog 13 #[.slice A n c] w fun e w' => e = .returned (.bool true) ∧ Below w.heap.size w w' := by
  have HS := Lib.hid (Store_ok A n c l w hl hc hm hok hr)
  have hge := (sto_good l).e
  have hlen := hge.len
  have HGE := Lib.hid hge
  clear hok hl hr hge
  generalize (sto l).blobs = bl at *
  generalize (sto l).ents = el at *
  generalize (sto l).room = rm at *
  generalize (sto l).clock = ck at *
  go_enter Try.func13, Try.ntmps13
  repeat' ((fail_if_success at_builtin); (fail_if_success at_make); (first | go_values | go_skip | go_guarded | go_step | go_upon | go_back))
  refine ((HS.out)).mono ?_; rintro e_ w1 ⟨v1, v2, rfl, hb, he, hb1⟩; dsimp only
  obtain ⟨Ab, cb, rfl, _, _, _⟩ := hb.rows
  obtain ⟨Ae, ce, rfl, hce1, hce2, hRe⟩ := he.rows
  have hfl := fld_ents Ab Ae bl.length el.length cb ce (rm : Int) (ck : Int) w1
  clear hb he
  repeat' ((fail_if_success at_builtin); (fail_if_success at_make); (first | go_values | go_skip | go_guarded | go_step | go_upon | go_back))
  clear hfl
  go_loopg [3, 4, 12] 12 (fun gn u v i wr => ∃ (k : Nat) (es : List EntP) (Ar : Option Addr) (cr : Nat) (L : Int), gn = 12 - k ∧ i = .int .i64 k ∧ k ≤ 10 ∧ es.length + k ≤ 10 ∧ u = .slice Ar es.length cr ∧ v = .int .i64 L ∧ -1 ≤ L ∧ L ≤ 1099511627776 ∧ (∀ x ∈ es, x.pins = 0 → L ≤ (x.stamp : Int)) ∧ GoodE es ∧ Rw EntS wr Ar es ∧ Below w.heap.size w wr)
  case atStart => exact ⟨0, el, Ae, ce, -1, rfl, rfl, by omega, by omega, rfl, rfl, by omega, by omega, fun x _ _ => by omega, HGE.out, hRe, hb1⟩
  case round =>
    clear hRe HGE hlen
    obtain ⟨k, es, Ar, cr, L, hgk, rfl, hk, hke, rfl, rfl, hL0, hL1, hLx, hge, hR, hbl⟩ := hrel
    have HGK := Lib.hid hgk
    have hcc : decide ((k : Int) < 12) = true := decide_eq_true (by omega)
    have hcd : decide (k < 12) = true := decide_eq_true (by omega)
    have HO := Lib.hid (Oldest_ok Ar cr es wr (by omega) hR)
    have HLX := Lib.hid hLx
    have HGE := Lib.hid hge
    clear hgk hLx hge
    cases ho : oldK es es.length with
    | none =>
      have HON := Lib.hid (oldK_none es es.length ho)
      rw [ho] at HO
      clear ho
      repeat' ((fail_if_success at_builtin); (fail_if_success at_make); (first | go_values | go_skip | go_guarded | go_step | go_upon | go_back))
      refine ((HO.out)).mono ?_; rintro e_ w2 ⟨rfl, hb2⟩; dsimp only
      rw [fndR]
      have hb12 := hbl.trans (hb2.mono hbl.size)
      have HIX := Lib.hid (indexed_ok w2)
      have HR2 := Lib.hid (hR.below hb2)
      have hany : es.any (fun x => (x.pins : Int) == 0) = false := by
        rw [List.any_eq_false]
        intro x hx
        obtain ⟨j, hj, rfl⟩ := List.mem_iff_getElem.1 hx
        have := HON.out j hj hj
        simp; omega
      have HAN := Lib.hid hany
      clear hany hb2 hR
      repeat' ((fail_if_success at_builtin); (fail_if_success at_make); (first | go_values | go_skip | go_guarded | go_step | go_upon | go_back))
      refine ((HIX.out)).mono ?_; rintro e_ w3 ⟨rfl, hb3⟩; dsimp only
      have hb13 := hb12.trans (hb3.mono hb12.size)
      have HCN := CntE0_ok Ar cr es _ _ w3 (by omega) (HR2.out.below hb3) (Free_tells es w3)
      rw [HAN.out] at HCN
      have HCN := Lib.hid HCN
      clear hb3 hb12
      repeat' ((fail_if_success at_builtin); (fail_if_success at_make); (first | go_values | go_skip | go_guarded | go_step | go_upon | go_back))
      refine ((HCN.out)).mono ?_; rintro e_ w4 ⟨rfl, hb4⟩; dsimp only
      have hb14 := hb13.trans (hb4.mono hb13.size)
      repeat' ((fail_if_success at_builtin); (fail_if_success at_make); (first | go_values | go_skip | go_guarded | go_step | go_upon | go_back))
      go_ret
      exact ⟨rfl, hb14⟩
    | some i0 =>
      have hi := (oldK_lt es _ _ ho).2
      have hpz := oldK_pin es _ _ hi ho
      have HLE := Lib.hid (oldK_le es _ _ hi ho)
      rw [ho] at HO
      clear ho
      repeat' ((fail_if_success at_builtin); (fail_if_success at_make); (first | go_values | go_skip | go_guarded | go_step | go_upon | go_back))
      refine ((HO.out)).mono ?_; rintro e_ w2 ⟨rfl, hb2⟩; dsimp only
      rw [fndR]
      have hb12 := hbl.trans (hb2.mono hbl.size)
      have hR2 := hR.below hb2
      obtain ⟨b, off, B, cc, e9, hbb, d0, d1, d2, d3, _⟩ := hR2.ent_at i0 hi
      have hi0 : (0 : Int) ≤ (i0 : Int) := by omega
      have hi1 : (i0 : Int) < (es.length : Int) := by omega
      have hst := HLX.out es[i0] (List.getElem_mem hi) hpz
      have hsm := (HGE.out.one es[i0] (List.getElem_mem hi)).2.2.2
      have s1 : decide ((es[i0].stamp : Int) < L) = false := decide_eq_false (by omega)
      have HDR := DropE_ok Ar cr es es[i0].key i0 w2 HGE.out hi rfl hpz hR2
      have HNX := Lib.hid (show ∀ x ∈ es.eraseIdx i0, x.pins = 0 → (es[i0].stamp : Int) ≤ (x.stamp : Int) from fun x hx hp => by
        obtain ⟨j, hj, rfl⟩ := List.mem_iff_getElem.1 (List.mem_of_mem_eraseIdx hx)
        have := HLE.out j hj hj hp
        omega)
      have hlx : (es.eraseIdx i0).length = es.length - 1 := List.length_eraseIdx_of_lt hi
      have hcast : ((es.length - 1 : Nat) : Int) = (es.length : Int) - 1 := by omega
      obtain ⟨sk, hsk⟩ : ∃ s : ByteArray, s = ⟨es[i0].key.toArray⟩ := ⟨_, rfl⟩
      rw [← hsk] at d0 HDR
      rw [hlx] at HDR
      have HDR := Lib.hid HDR
      subst e9
      clear d1 d2 hsk hpz hb2 hbl hR hR2
      generalize es[i0].stamp = st at *
      have hne : (((es.length - 1 : Nat) : Int) != (es.length : Int) - 1) = false := by rw [hcast]; simp
      have hne2 : (((es.length : Int) - 1) != (es.length : Int) - 1) = false := by simp
      repeat' ((fail_if_success at_builtin); (fail_if_success at_make); (first | go_values | go_skip | go_guarded | go_step | go_upon | go_back))
      refine ((HDR.out)).mono ?_; rintro e_ w3 ⟨g, rfl, hx3, hb3⟩; dsimp only
      have hb13 := hb12.trans (hb3.mono hb12.size)
      repeat' ((fail_if_success at_builtin); (fail_if_success at_make); (first | go_values | go_skip | go_guarded | go_step | go_upon | go_back))
      go_roundg (12 - (k + 1))
      case measure => have := HGK.out; omega
      case rel =>
        obtain ⟨A', c', e1, _, _, hR'⟩ := hx3.rwo.rows
        injection e1 with e2 _ e3
        subst e2
        exact ⟨k + 1, es.eraseIdx i0, _, es.length, (st : Int), rfl, by go_num, by omega, by omega, by rw [hlx], rfl, by omega, by omega, HNX.out, goodE_erase HGE.out i0, hR', hb13⟩
end Go.Proofs.Ytooohfckhepcmaa
