/- BlobBack walked. Conditions: the slice's size. -/
import Derived.Test.YtjldpfijekpddaaGreatBlP
import Derived.Test.YtjldpfijekpddaaGreatSmS
import Derived.Test.YtjldpfijekpddaaGreatStore
import Derived.Test.YtjldpfijekpddaaGreatRawV
import Derived.Test.YtjldpfijekpddaaGreatLRf
namespace Go.Proofs.YtjldpfijekpddaaGreat
open Go.RowKit
set_option linter.unusedVariables false
set_option linter.unusedSimpArgs false
set_option maxRecDepth 100000

theorem putB_one (D : List UInt8) : putB [] D = [⟨shaS D, D, 0, false⟩] := List.perm_singleton.1 (srt_perm _ _)
set_option maxHeartbeats 4000000 in
theorem stored_ok (w : World) : Calls Tryz.prog 15 #[] w fun e w' => e = .returned (.bool true) ∧ Below w.heap.size w w' := by
  obtain ⟨A, hA⟩ : ∃ A : List UInt8, A = [97, 98, 99] := ⟨_, rfl⟩
  have hAL : A.length = 3 := by rw [hA]; rfl
  have HAL := Lib.hid hAL
  have HA := Lib.hid hA
  have hkc := fun (w : World) (C : Array Value) (n c : Nat) => Lib.run_convert_bytes_const (P := Tryz.prog) w 30 5 C n c Tryz.underlying30 Tryz.underlying5
  have hz : ∀ W : World, OwnZ (W.alloc (.cells #[.int .u8 97, .int .u8 98, .int .u8 99] 5 (3, 4))) W.heap.size (some ⟨W.heap.size, 0, none⟩) 3 A := fun W => by
    rw [hA]; exact ⟨W.heap.size, [], (3, 4), rfl, Nat.le_refl _, World.alloc_heap_new W _, rfl, by simp [maxLen], .inr (Nat.le_refl _)⟩
  have HZ := Lib.hid hz
  have hsl := (hz w).sl.1
  have hpt := PutB_ok none 0 [] A (some ⟨w.heap.size, 0, none⟩) 3 _ ⟨by simp, by simp, List.Pairwise.nil⟩ (by omega) (.inl (by simp)) Rw.nil_ hsl
  rw [hAL, putB_one] at hpt
  obtain ⟨sd, hsd⟩ : ∃ x : ByteArray, x = ⟨(shaS A).toArray⟩ := ⟨_, rfl⟩
  rw [← hsd] at hpt
  have HPT := Lib.hid hpt
  have HSD := Lib.hid hsd
  have hba := (Below.refl w.heap.size w).alloc (Nat.le_refl _) (.cells #[.int .u8 97, .int .u8 98, .int .u8 99] 5 (3, 4))
  clear hA hAL hz hsl hpt hsd
  go_enter Tryz.func15, Tryz.ntmps15
  repeat' ((fail_if_success at_builtin); (fail_if_success at_make); (first | go_values | go_skip | go_guarded | go_step | go_upon | go_back))
  refine ((HPT.out)).mono ?_; rintro e_ w2 ⟨v2, rfl, hx2, hb2⟩; dsimp only
  have hb02 := hba.trans (hb2.mono hba.size)
  obtain ⟨A2, c2, rfl, _, _, hR2⟩ := hx2.rwo.rows
  obtain ⟨b, off, B, cb, e1, hbb, d0, d1, d2, d3, hs⟩ := hR2.blob_at 0 (by simp)
  subst e1
  have hcv : (convert 30 9 (.slice B A.length cb)).run Tryz.prog w2 = .ok (.string ⟨#[97, 98, 99]⟩) w2 := by
    have := run_str (n := A.length) (c := cb) Tryz.underlying30 Tryz.underlying5 Tryz.underlying9 rfl hs.rd
    rw [this, HA.out]
  simp only [List.length_cons, List.length_nil, List.getElem_cons_zero, Nat.zero_add, Nat.zero_mul, Nat.add_zero] at d0 d1
  rw [← HSD.out] at d0
  have hr2 := (HZ.out w2).rd
  rw [HAL.out] at hr2
  have HDG := Digest_ok (some ⟨w2.heap.size, 0, none⟩) 3 3 A _ HAL.out (by omega) (by omega) hr2
  rw [← HSD.out] at HDG
  have HDG := Lib.hid HDG
  have hbc := (Below.refl w2.heap.size w2).alloc (Nat.le_refl _) (.cells #[.int .u8 97, .int .u8 98, .int .u8 99] 5 (3, 4))
  have hb03 := hb02.trans (hbc.mono hb02.size)
  have hss : (sd.toList == sd.toList) = true := by simp
  clear hx2 hb2 hR2 d2 d3 hs hr2 hbc hb02 hba
  repeat' ((fail_if_success at_builtin); (fail_if_success at_make); (first | go_values | go_skip | go_guarded | go_step | go_upon | go_back))
  generalize w2.alloc (.cells #[.int .u8 97, .int .u8 98, .int .u8 99] 5 (3, 4)) = w3 at *
  clear d0 d1 hcv
  refine ((HDG.out)).mono ?_; rintro e_ w4 ⟨rfl, hb4⟩; dsimp only
  have hb04 := hb03.trans (hb4.mono hb03.size)
  repeat' ((fail_if_success at_builtin); (fail_if_success at_make); (first | go_values | go_skip | go_guarded | go_step | go_upon | go_back))
  go_ret
  exact ⟨rfl, hb04⟩
theorem erase_permG {α : Type} {m : List α} {i : Nat} (hi : i < m.length) : (m[i] :: m.eraseIdx i).Perm m := by
  have h := (List.perm_middle (a := m[i]) (l₁ := m.take i) (l₂ := m.drop (i + 1))).symm
  rw [← List.drop_eq_getElem_cons hi, List.take_append_drop] at h
  rw [List.eraseIdx_eq_take_drop_succ]
  exact h
/-- what was put in is taken out again -/
theorem srt_backB {l : List BlobP} {x : BlobP} (hr : RisesBy (·.dig) l) (hn : ∀ y ∈ l, y.dig ≠ x.dig) : ∃ i, ∃ h : i < (srt (·.dig) (x :: l)).length, (srt (·.dig) (x :: l))[i] = x ∧ (srt (·.dig) (x :: l)).eraseIdx i = l := by
  have hp := srt_perm (fun e : BlobP => e.dig) (x :: l)
  have hf : l.findIdx? (fun y => y.dig == x.dig) = none := by
    rw [List.findIdx?_eq_none_iff]
    intro y hy; simp [hn y hy]
  have hs := srt_ok (f := fun e : BlobP => e.dig) hr hf
  obtain ⟨i, hi, he⟩ := List.mem_iff_getElem.1 (hp.mem_iff.2 (List.mem_cons_self (a := x) (l := l)))
  refine ⟨i, hi, he, ?_⟩
  have h1 := (erase_permG hi).trans hp
  rw [he] at h1
  exact RisesBy.perm (hs.sublist (List.eraseIdx_sublist _ _)) hr h1.cons_inv
theorem putB_fnd {l : List BlobP} {D : List UInt8} {i : Nat} (h : l.findIdx? (fun b => b.dig == shaS D) = some i) : putB l D = l := by unfold putB; rw [h]
set_option maxHeartbeats 4000000 in
theorem BlobBack_walk (A : Option Addr) (n c : Nat) (l : List RawP) (r : RawP) (w : World) (hl : l.length = n) (hc : n ≤ c) (hm : c ≤ maxLen) (hok : ∀ r ∈ l, RawOk r) (hr : Rd w 4 A n (rcs l)) (hro : RawOk r) :
    Calls Tryz.prog 3 #[.slice A n c, rval r] w fun e w' => e = .returned (.bool true) ∧ Below w.heap.size w w' := by
  have hsg := (sto_good l).b
  have hlen : (sto l).blobs.length ≤ 12 := by
    have pb : ((sto l).blobs).Perm (stAcc l).blobs := srt_perm _ _
    rw [pb.length_eq]; exact (acc_ok l).blen
  obtain ⟨T, hT⟩ : ∃ T, T = datL r 60 := ⟨_, rfl⟩
  have hTl : T.length ≤ 60 := by rw [hT]; exact datL_len r 60
  have HDT := Data_ok r 60 60 rfl (by omega) hro
  rw [← hT] at HDT
  have HDT := Lib.hid HDT
  obtain ⟨rk, ra, rb, rt⟩ := r
  unfold rval at HDT ⊢
  obtain ⟨w0, hw0⟩ : ∃ w0, w0 = w.alloc (.cells #[.int .i64 rk, .int .i64 ra, .int .i64 rb, .string rt] 24) := ⟨_, rfl⟩
  have hb0 : Below w.heap.size w w0 := by rw [hw0]; exact (Below.refl _ _).alloc (Nat.le_refl _) _
  obtain ⟨gr, hgr⟩ : ∃ g, g = w.heap.size := ⟨_, rfl⟩
  have hRb : Arr w0 gr 24 [.int .i64 rk, .int .i64 ra, .int .i64 rb, .string rt] := by rw [hw0, hgr]; exact Arr.new w 24 _
  have HS := Lib.hid (Store_ok A n c l w0 hl hc hm hok (hr.below hb0))
  rw [← hgr] at hb0 ⊢
  have hgl : gr < w0.heap.size := hRb.lt
  have HSG := Lib.hid hsg
  clear hT hok hl hr hro hsg
  generalize (sto l).blobs = bl at *
  generalize (sto l).ents = el at *
  generalize (sto l).room = rm at *
  generalize (sto l).clock = ck at *
  have HBD := Lib.hid (show ∀ b ∈ bl, b.data.length ≤ 1000000 from fun b hb => by have := (HSG.out.one b hb).2.1; omega)
  go_enter Tryz.func3, Tryz.ntmps3
  repeat' ((fail_if_success at_builtin); (fail_if_success at_make); (first | go_values | go_skip | go_guarded | go_step | go_upon | go_back))
  rw [← hw0, ← hgr]
  clear hw0 hgr
  refine ((HS.out)).mono ?_; rintro e_ w1 ⟨v1, v2, rfl, hb, he, hb1⟩; dsimp only
  obtain ⟨As, cs, rfl, hc1, hc2, hRs⟩ := hb.rows
  obtain ⟨Bs, ds, rfl, hd1, hd2, hEs⟩ := he.rows
  have hfl := fld_blobs As Bs bl.length el.length cs ds (rm : Int) (ck : Int) w1
  have hb01 := hb0.trans (hb1.mono (Nat.le_of_lt hgl))
  have hRb1 := hRb.below hb1
  have hg1 : gr < w1.heap.size := hRb1.lt
  have x0 := hRb1.cell (k := 0) rfl
  have x1 := hRb1.cell (k := 1) rfl
  have x2 := hRb1.cell (k := 2) rfl
  have x3 := hRb1.cell (k := 3) rfl
  clear hb he hEs hRb hb0 hb1
  repeat' ((fail_if_success at_builtin); (fail_if_success at_make); (first | go_values | go_skip | go_guarded | go_step | go_upon | go_back))
  clear x0 x1 x2 x3 hfl
  refine ((HDT.out w1)).mono ?_; rintro e_ w2 ⟨A2, c2, rfl, hz2, hb2⟩; dsimp only
  repeat' ((fail_if_success at_builtin); (fail_if_success at_make); (first | go_values | go_skip | go_guarded | go_step | go_upon | go_back))
  refine wpList_apZ rfl (.tmp 21) (.const (.string ⟨#[110, 101, 119, 32, 97, 110, 100, 32, 110, 101, 118, 101, 114, 32, 101, 108, 115, 101]⟩)) rfl (by rfl) hz2 rfl (Src.str Tryz.underlying9 _) (by show _ + 18 ≤ _; omega) hb2.size ?_
  intro A3 c3 w3 hz3 hb3
  have hc3 := hb2.trans hb3
  have hDl : (T ++ (⟨#[110, 101, 119, 32, 97, 110, 100, 32, 110, 101, 118, 101, 114, 32, 101, 108, 115, 101]⟩ : ByteArray).data.toList).length ≤ 78 := by rw [List.length_append]; show _ + 18 ≤ _; omega
  generalize (T ++ (⟨#[110, 101, 119, 32, 97, 110, 100, 32, 110, 101, 118, 101, 114, 32, 101, 108, 115, 101]⟩ : ByteArray).data.toList) = D at *
  have hsl3 := hz3.sl.1
  have hRs3 := hRs.below hc3
  have HDG := Digest_ok A3 D.length c3 D w3 rfl hz3.cap.1 (by omega) hz3.rd
  have HLX := Lib.hid (show ∃ L, L = shaS D from ⟨_, rfl⟩)
  obtain ⟨sL, hsL⟩ : ∃ x : ByteArray, x = ⟨(shaS D).toArray⟩ := ⟨_, rfl⟩
  rw [← hsL] at HDG
  have HDG := Lib.hid HDG
  have HSL := Lib.hid hsL
  have hb03 := hb01.trans (hc3.mono (Nat.le_of_lt hg1))
  have hg3 : gr ≤ w3.heap.size := by have := hc3.size; omega
  clear hz2 hz3 hb2 hb3 hc3 hsL hRb1 hRs hb01
  repeat' ((fail_if_success at_builtin); (fail_if_success at_make); (first | go_values | go_skip | go_guarded | go_step | go_upon | go_back))
  refine ((HDG.out)).mono ?_; rintro e_ w4 ⟨rfl, hb4⟩; dsimp only
  have hRs4 := hRs3.below hb4
  have hsl4 := hsl3.below hb4
  have hb04 := hb03.trans (hb4.mono hg3)
  have hg4 : gr ≤ w4.heap.size := Nat.le_trans hg3 hb4.size
  have HHS := Has_ok As cs bl (shaS D) w4 (by omega) hRs4
  rw [← HSL.out] at HHS
  clear hRs3 hsl3 hb03 hb4
  cases hany : bl.any (fun x => x.dig == shaS D) with
  | true =>
    rw [hany] at HHS
    have HHS := Lib.hid HHS
    clear hany
    repeat' ((fail_if_success at_builtin); (fail_if_success at_make); (first | go_values | go_skip | go_guarded | go_step | go_upon | go_back))
    refine ((HHS.out)).mono ?_; rintro e_ w5 ⟨rfl, hb5⟩; dsimp only
    have hb05 := hb04.trans (hb5.mono hg4)
    have hg5 : gr ≤ w5.heap.size := Nat.le_trans hg4 hb5.size
    have HST := Lib.hid (stored_ok w5)
    clear hRs4 hsl4 hb5 hb04
    repeat' ((fail_if_success at_builtin); (fail_if_success at_make); (first | go_values | go_skip | go_guarded | go_step | go_upon | go_back))
    refine ((HST.out)).mono ?_; rintro e_ w6 ⟨rfl, hb6⟩; dsimp only
    have hb06 := hb05.trans (hb6.mono hg5)
    repeat' ((fail_if_success at_builtin); (fail_if_success at_make); (first | go_values | go_skip | go_guarded | go_step | go_upon | go_back))
    go_ret
    exact ⟨rfl, hb06⟩
  | false =>
    rw [hany] at HHS
    have HHS := Lib.hid HHS
    have hno : ∀ b ∈ bl, b.dig ≠ shaS D := fun b hb e => by
      have := List.any_eq_false.1 hany b hb
      simp [e] at this
    have hpe : putB bl D = srt (·.dig) (⟨shaS D, D, 0, false⟩ :: bl) := by
      unfold putB
      rw [show bl.findIdx? (fun b => b.dig == shaS D) = none by
        rw [List.findIdx?_eq_none_iff]; intro y hy; simp [hno y hy]]
    obtain ⟨i, hi, hix, hie⟩ := srt_backB (x := ⟨shaS D, D, 0, false⟩) HSG.out.ris hno
    rw [← hpe] at hie
    have hi' : i < (putB bl D).length := by rw [hpe]; exact hi
    have hix' : (putB bl D)[i] = ⟨shaS D, D, 0, false⟩ := by
      have h : (putB bl D)[i]? = some ⟨shaS D, D, 0, false⟩ := by rw [hpe, List.getElem?_eq_getElem hi, hix]
      exact (List.getElem?_eq_some_iff.1 h).2
    have hgx := putB_good HSG.out (d := D) (by omega) (by omega)
    have hlx : (putB bl D).length ≤ 13 := by rw [hpe, (srt_perm _ _).length_eq]; show bl.length + 1 ≤ 13; omega
    have HNO := Lib.hid hno
    have HIX := Lib.hid hix'
    have HIE := Lib.hid hie
    have HGX := Lib.hid hgx
    have HXD := Lib.hid (show ∀ b ∈ putB bl D, b.data.length ≤ 1000000 from fun b hb => by have := (HGX.out.one b hb).2.1; omega)
    have HP2 := Lib.hid (show putB (putB bl D) D = putB bl D from putB_fnd (fB_at HGX.out.ris hi' (by rw [HIX.out])))
    clear hno hpe hie hix hix' hgx hany hi
    repeat' ((fail_if_success at_builtin); (fail_if_success at_make); (first | go_values | go_skip | go_guarded | go_step | go_upon | go_back))
    refine ((HHS.out)).mono ?_; rintro e_ w5 ⟨rfl, hb5⟩; dsimp only
    have hRs5 := hRs4.below hb5
    have hsl5 := hsl4.below hb5
    have hb05 := hb04.trans (hb5.mono hg4)
    have hg5 : gr ≤ w5.heap.size := Nat.le_trans hg4 hb5.size
    have hpt := PutB_ok As cs bl D A3 c3 w5 HSG.out (by omega) (.inl (by omega)) hRs5 hsl5
    rw [← HSL.out] at hpt
    have HPT := Lib.hid hpt
    clear hpt hRs4 hsl4 hb04 hb5
    repeat' ((fail_if_success at_builtin); (fail_if_success at_make); (first | go_values | go_skip | go_guarded | go_step | go_upon | go_back))
    refine ((HPT.out)).mono ?_; rintro e_ w6 ⟨v6, rfl, hx6, hb6⟩; dsimp only
    obtain ⟨A6, c6, rfl, _, _, hR6⟩ := hx6.rwo.rows
    have hRs6 := hRs5.below hb6
    have hsl6 := hsl5.below hb6
    have hb06 := hb05.trans (hb6.mono hg5)
    have hg6 : gr ≤ w6.heap.size := Nat.le_trans hg5 hb6.size
    have hpt := PutB_ok A6 c6 (putB bl D) D A3 c3 w6 HGX.out (by omega) (.inl (by omega)) hR6 hsl6
    rw [← HSL.out, HP2.out] at hpt
    have HPT2 := Lib.hid hpt
    clear hpt hx6 hRs5 hsl5 hb05 hb6 HPT
    repeat' ((fail_if_success at_builtin); (fail_if_success at_make); (first | go_values | go_skip | go_guarded | go_step | go_upon | go_back))
    refine ((HPT2.out)).mono ?_; rintro e_ w7 ⟨v7, rfl, hx7, hb7⟩; dsimp only
    obtain ⟨A7, c7, rfl, _, _, hR7⟩ := hx7.rwo.rows
    have hRs7 := hRs6.below hb7
    have hR67 := hR6.below hb7
    have hb07 := hb06.trans (hb7.mono hg6)
    have hg7 : gr ≤ w7.heap.size := Nat.le_trans hg6 hb7.size
    have hdr := DropB_ok A6 c6 (putB bl D) (shaS D) i w7 HGX.out hi' (by rw [HIX.out]) (by rw [HIX.out]) hR67
    rw [← HSL.out, HIE.out] at hdr
    have HDR := Lib.hid hdr
    clear hdr hx7 hRs6 hsl6 hb06 hb7 HPT2 hR6
    repeat' ((fail_if_success at_builtin); (fail_if_success at_make); (first | go_values | go_skip | go_guarded | go_step | go_upon | go_back))
    refine ((HDR.out)).mono ?_; rintro e_ w8 ⟨g8, rfl, hx8, hb8⟩; dsimp only
    obtain ⟨A8, c8, e8, _, _, hR8⟩ := hx8.rwo.rows
    have hR8' : Rw BlobS w8 (some ⟨g8, 0, none⟩) bl := by cases e8; exact hR8
    have hRs8 := hRs7.below hb8
    have hR68 := hR67.below hb8
    have hR78 := hR7.below hb8
    have hb08 := hb07.trans (hb8.mono hg7)
    have hg8 : gr ≤ w8.heap.size := Nat.le_trans hg7 hb8.size
    have hdn := DropB_none (some ⟨g8, 0, none⟩) (putB bl D).length bl (shaS D) w8 HSG.out HNO.out hR8'
    rw [← HSL.out] at hdn
    have HDN := Lib.hid hdn
    clear hdn hx8 e8 hR8 hRs7 hR67 hR7 hb07 hb8 HDR
    repeat' ((fail_if_success at_builtin); (fail_if_success at_make); (first | go_values | go_skip | go_guarded | go_step | go_upon | go_back))
    refine ((HDN.out)).mono ?_; rintro e_ w9 ⟨rfl, hb9⟩; dsimp only
    have hRs9 := hRs8.below hb9
    have hR69 := hR68.below hb9
    have hR79 := hR78.below hb9
    have hR89 := hR8'.below hb9
    have hb09 := hb08.trans (hb9.mono hg8)
    have hg9 : gr ≤ w9.heap.size := Nat.le_trans hg8 hb9.size
    have HST := Lib.hid (stored_ok w9)
    clear hRs8 hR68 hR78 hR8' hb08 hb9 HDN
    repeat' ((fail_if_success at_builtin); (fail_if_success at_make); (first | go_values | go_skip | go_guarded | go_step | go_upon | go_back))
    refine ((HST.out)).mono ?_; rintro e_ w10 ⟨rfl, hb10⟩; dsimp only
    have hRs10 := hRs9.below hb10
    have hR610 := hR69.below hb10
    have hR710 := hR79.below hb10
    have hR810 := hR89.below hb10
    have hb010 := hb09.trans (hb10.mono hg9)
    have hg10 : gr ≤ w10.heap.size := Nat.le_trans hg9 hb10.size
    have hs1 := SameBlobs_ok A6 A7 c6 c7 (putB bl D) (putB bl D) w10 (by omega) (by omega) HXD.out HXD.out hR610 hR710
    rw [sameBL_refl] at hs1
    have HS1 := Lib.hid hs1
    clear hs1 hRs9 hR69 hR79 hR89 hb09 hb10 hR610 hR710
    repeat' ((fail_if_success at_builtin); (fail_if_success at_make); (first | go_values | go_skip | go_guarded | go_step | go_upon | go_back))
    refine ((HS1.out)).mono ?_; rintro e_ w11 ⟨rfl, hb11⟩; dsimp only
    have hb011 := hb010.trans (hb11.mono hg10)
    have hg11 : gr ≤ w11.heap.size := Nat.le_trans hg10 hb11.size
    have hs2 := SameBlobs_ok (some ⟨g8, 0, none⟩) As (putB bl D).length cs bl bl w11 (by omega) (by omega) HBD.out HBD.out (hR810.below hb11) (hRs10.below hb11)
    rw [sameBL_refl] at hs2
    have HS2 := Lib.hid hs2
    clear hs2 hRs10 hR810 hb010 hb11
    repeat' ((fail_if_success at_builtin); (fail_if_success at_make); (first | go_values | go_skip | go_guarded | go_step | go_upon | go_back))
    refine ((HS2.out)).mono ?_; rintro e_ w12 ⟨rfl, hb12⟩; dsimp only
    have hb012 := hb011.trans (hb12.mono hg11)
    repeat' ((fail_if_success at_builtin); (fail_if_success at_make); (first | go_values | go_skip | go_guarded | go_step | go_upon | go_back))
    go_ret
    exact ⟨rfl, hb012⟩
end Go.Proofs.YtjldpfijekpddaaGreat
