/- blob.Find, blob.Put, blob.Drop. Conditions: blobs that may be. -/
import Derived.Test.YtdpedkgdobfemaaGreatBsf
import Derived.Test.YtdpedkgdobfemaaGreatBsL
import Derived.Test.YtdpedkgdobfemaaGreatChk
import Derived.Test.YtdpedkgdobfemaaGreatCpy
import Derived.Test.YtdpedkgdobfemaaGreatNxt
import Derived.Test.YtdpedkgdobfemaaGreatDel4
namespace Go.Proofs.YtdpedkgdobfemaaGreat
open Go.RowKit
set_option linter.unusedVariables false
set_option linter.unusedSimpArgs false
set_option maxRecDepth 100000

theorem putB_len0 (l : List BlobP) (d : List UInt8) : (putB l d).length ≤ l.length + 1 := by
  unfold putB
  cases hf : l.findIdx? (fun b => b.dig == shaS d) with
  | none => show (srt _ _).length ≤ _; rw [(srt_perm _ _).length_eq]; simp
  | some i => show l.length ≤ _; omega
theorem FndB_tells (gk : Nat) (d : List UInt8) (l : List BlobP) (w : World) (hk : w.cell? ⟨gk, 0, none⟩ = some (.string ⟨d.toArray⟩)) (hg : gk < w.heap.size) : TellsB w l 134 (.pointer (some ⟨gk, 0, none⟩)) (fun b => b.dig == d) := by
  refine ⟨fun _ _ => by kernel_rfl, fun b B cb W hb hbel hs => ?_⟩
  have hg1 : gk < W.heap.size := Nat.lt_of_lt_of_le hg hbel.size
  have hk0 : W.cell? ⟨gk, 0, none⟩ = some (.string ⟨d.toArray⟩) := (hbel.cell (p := ⟨gk, 0, none⟩) hg).trans hk
  generalize hs1 : (⟨b.dig.toArray⟩ : ByteArray) = s
  generalize hs2 : (⟨d.toArray⟩ : ByteArray) = t at hk0
  have hst : (b.dig == d) = (s.toList == t.toList) := by
    rw [← hs1, ← hs2, ByteArray.toList_eq, ByteArray.toList_eq]
  dsimp only
  rw [hst]
  have hb1 := (Below.refl W.heap.size W).alloc (Nat.le_refl _) (.cells #[.string s, .slice B b.data.length cb, .int .i64 (b.pins : Int), (.bool b.mark)] 38)
  have hk1 : (W.alloc (.cells #[.string s, .slice B b.data.length cb, .int .i64 (b.pins : Int), (.bool b.mark)] 38)).cell? ⟨gk, 0, none⟩ = some (.string t) := (World.cell?_alloc_lt W _ ⟨gk, 0, none⟩ hg1).trans hk0
  clear hst hs1 hs2
  go_enter Tryz.func134, Tryz.ntmps134
  repeat' ((fail_if_success at_builtin); (fail_if_success at_make); (first | go_values | go_skip | go_guarded | go_step | go_upon | go_back))
  go_ret
  exact ⟨rfl, hb1⟩
theorem FindB_ok (A : Option Addr) (c : Nat) (l : List BlobP) (d : List UInt8) (w : World) (hl : l.length ≤ 1000000) (hA : Rw BlobS w A l) :
    Calls Tryz.prog 79 #[.slice A l.length c, .string ⟨d.toArray⟩] w fun e w' => e = .returned (fndR (l.findIdx? (fun x => x.dig == d))) ∧ Below w.heap.size w w' := by
  obtain ⟨s, hs⟩ : ∃ s : ByteArray, s = ⟨d.toArray⟩ := ⟨_, rfl⟩
  rw [← hs]
  have hA1 := Arr.new w 9 [.string s]
  have hb1 := (Below.refl w.heap.size w).alloc (Nat.le_refl _) (.cells #[.string s] 9)
  have hA1' : Arr (w.alloc (.cells #[.string s] 9)) w.heap.size 9 [.string s] := hA1
  have hk := hA1'.cell (k := 0) rfl
  have HI := IdxB_ok A c l _ (.pointer (some ⟨w.heap.size, 0, none⟩)) (fun x => x.dig == d) (w.alloc (.cells #[.string s] 9)) hl (hA.below hb1) (FndB_tells w.heap.size d l _ (by rw [hk, hs]) hA1'.lt)
  clear hs hA hA1 hA1' hk
  cases hf : l.findIdx? (fun x => x.dig == d) with
  | none =>
    rw [hf] at HI
    have HI := Lib.hid HI
    go_enter Tryz.func79, Tryz.ntmps79
    repeat' ((fail_if_success at_builtin); (fail_if_success at_make); (first | go_values | go_skip | go_guarded | go_step | go_upon | go_back))
    refine ((HI.out)).mono ?_; rintro e_ w2 ⟨rfl, hb2⟩; dsimp only
    have hb12 := hb1.trans (hb2.mono hb1.size)
    repeat' ((fail_if_success at_builtin); (fail_if_success at_make); (first | go_values | go_skip | go_guarded | go_step | go_upon | go_back))
    go_ret2
    exact ⟨rfl, hb12⟩
  | some i =>
    rw [hf] at HI
    have HI := Lib.hid HI
    have hi : decide ((i : Int) < 0) = false := decide_eq_false (by omega)
    go_enter Tryz.func79, Tryz.ntmps79
    repeat' ((fail_if_success at_builtin); (fail_if_success at_make); (first | go_values | go_skip | go_guarded | go_step | go_upon | go_back))
    refine ((HI.out)).mono ?_; rintro e_ w2 ⟨rfl, hb2⟩; dsimp only
    have hb12 := hb1.trans (hb2.mono hb1.size)
    repeat' ((fail_if_success at_builtin); (fail_if_success at_make); (first | go_values | go_skip | go_guarded | go_step | go_upon | go_back))
    go_ret2
    exact ⟨rfl, hb12⟩

set_option maxHeartbeats 8000000 in
theorem PutB_ok (A : Option Addr) (c : Nat) (l : List BlobP) (D : List UInt8) (DA : Option Addr) (dc : Nat) (w : World) (hg : GoodB l) (hd : D.length ≤ 300) (hlen : l.length < 24 ∨ (l.findIdx? (fun b => b.dig == shaS D)).isSome = true) (hA : Rw BlobS w A l) (hD : Sl w 1 DA D.length dc (bys D)) :
    Calls Tryz.prog 53 #[.slice A l.length c, .slice DA D.length dc] w fun e w' =>
      ∃ v, e = .returned (.tuple #[v, .string ⟨(shaS D).toArray⟩, .int .i64 0]) ∧ RwX BlobS 38 w' w.heap.size v (putB l D) (fun b => b < w.heap.size) ∧ Below w.heap.size w w' := by
  have hgl : l.length ≤ 24 := hg.len
  have HPL := Lib.hid (show ∀ b ∈ l, b.data.length ≤ 1000000 from fun b hb => by have := (hg.one b hb).2.1; omega)
  have HC1 := Lib.hid (CheckB_ok A c l w hg hA)
  have HG1 := Lib.hid hg.ris
  have HLN := Lib.hid hlen
  have s1 : decide ((D.length : Int) > 300) = false := decide_eq_false (by omega)
  have s2 : decide ((300 : Int) < (D.length : Int)) = false := decide_eq_false (by omega)
  have s3 : decide (300 < D.length) = false := decide_eq_false (by omega)
  have hpl : (putB l D).length ≤ 25 := by have := putB_len0 l D; omega
  obtain ⟨sd, hsd⟩ : ∃ s : ByteArray, s = ⟨(shaS D).toArray⟩ := ⟨_, rfl⟩
  rw [← hsd]
  have HSD := Lib.hid hsd
  clear hg hlen hsd
  go_enter Tryz.func53, Tryz.ntmps53
  repeat' ((fail_if_success at_builtin); (fail_if_success at_make); (first | go_values | go_skip | go_guarded | go_step | go_upon | go_back))
  refine ((HC1.out)).mono ?_; rintro e_ w1 ⟨rfl, hb1⟩; dsimp only
  have hA1 := hA.below hb1
  have hD1 := hD.below hb1
  have HSM := Sum_ok DA D.length dc D w1 rfl (by omega) hD1.cap hD1.rd
  rw [← HSD.out] at HSM
  have HSM := Lib.hid HSM
  clear hA hD
  repeat' ((fail_if_success at_builtin); (fail_if_success at_make); (first | go_values | go_skip | go_guarded | go_step | go_upon | go_back))
  refine ((HSM.out)).mono ?_; rintro e_ w2 ⟨rfl, hb2⟩; dsimp only
  have hb12 := hb1.trans (hb2.mono hb1.size)
  have hA2 := hA1.below hb2
  have hD2 := hD1.below hb2
  have HBS := BsB_ok A c l (shaS D) w2 (by omega) HG1.out hA2
  rw [← HSD.out] at HBS
  have HBS := Lib.hid HBS
  clear hA1 hD1 hb1 hb2
  repeat' ((fail_if_success at_builtin); (fail_if_success at_make); (first | go_values | go_skip | go_guarded | go_step | go_upon | go_back))
  refine ((HBS.out)).mono ?_; rintro e_ w3 ⟨i, f, rfl, hil, P1, P2, hf, hb3⟩; dsimp only
  have hb13 := hb12.trans (hb3.mono hb12.size)
  have hA3 := hA2.below hb3
  have hD3 := hD2.below hb3
  have HF := Lib.hid hf
  have HP1 := Lib.hid P1
  have HP2 := Lib.hid P2
  have HCP := Lib.hid (CopyB_ok A c l w3 (by omega) (fun y hy => HPL.out y hy) hA3)
  clear hA2 hD2 hf P1 P2 hb12 hb3
  repeat' ((fail_if_success at_builtin); (fail_if_success at_make); (first | go_values | go_skip | go_guarded | go_step | go_upon | go_back))
  refine ((HCP.out)).mono ?_; rintro e_ w4 ⟨g, rfl, hx4, hb4⟩; dsimp only
  have hb14 := hb13.trans (hb4.mono hb13.size)
  have hD4 := hD3.below hb4
  have hw03 : w.heap.size ≤ w3.heap.size := hb13.size
  have hw34 : w3.heap.size ≤ w4.heap.size := hb4.size
  have hg3 : w3.heap.size ≤ g ∧ g < w4.heap.size := hx4.rwo.blk rfl
  clear hA3 hD3 hb13 hb4
  cases f with
  | true =>
    obtain ⟨hi, he⟩ := HF.out.1 rfl
    have HPE := Lib.hid (show putB l D = l by
      unfold putB; rw [bs_found (f := fun y : BlobP => y.dig) HP1.out hi he])
    have hx5 := (hx4.lower hw03).wider (N' := fun b => b < w.heap.size) (fun b hb => .inl (Nat.lt_of_lt_of_le hb hw03))
    clear he hx4
    repeat' ((fail_if_success at_builtin); (fail_if_success at_make); (first | go_values | go_skip | go_guarded | go_step | go_upon | go_back))
    go_ret3
    rw [HPE.out]
    exact ⟨_, rfl, hx5, hb14⟩
  | false =>
    have hn : ¬ ∃ h : i < l.length, l[i].dig = shaS D := fun h => by have := HF.out.2 h; cases this
    have hno := bs_idx (f := fun y : BlobP => y.dig) HG1.out HP1.out HP2.out hn
    have hlt24 : l.length < 24 := by
      rcases HLN.out with h | h
      · exact h
      · rw [hno] at h; cases h
    have HPE := Lib.hid (show putB l D = l.take i ++ ⟨shaS D, D, 0, false⟩ :: l.drop i by
      unfold putB; rw [hno]
      exact (bs_srt (f := fun y : BlobP => y.dig) (x := ⟨shaS D, D, 0, false⟩) HG1.out HP1.out HP2.out hn rfl).symm)
    have t1 : decide ((l.length : Int) ≥ 24) = false := decide_eq_false (by omega)
    have t2 : decide ((24 : Int) ≤ (l.length : Int)) = false := decide_eq_false (by omega)
    have t3 : decide (24 ≤ l.length) = false := decide_eq_false (by omega)
    have HCN := Lib.hid (Clone_ok DA D.length dc D w4 rfl hD4.cap (by omega) hD4.rd)
    clear hn HF hno
    repeat' ((fail_if_success at_builtin); (fail_if_success at_make); (first | go_values | go_skip | go_guarded | go_step | go_upon | go_back))
    refine ((HCN.out)).mono ?_; rintro e_ w5 ⟨v5, rfl, ho5, hb5⟩; dsimp only
    obtain ⟨A5, c5, rfl, hs5, hl5⟩ := OwnSl ho5
    have hb15 := hb14.trans (hb5.mono hb14.size)
    have hx5 := hx4.below hb5
    have hsz5 : w4.heap.size ≤ w5.heap.size := hb5.size
    have hV : Arr (w5.alloc (.cells #[.string sd, .slice A5 D.length c5, .int .i64 0, .bool false] 38)) w5.heap.size 38 (blcell ⟨shaS D, D, 0, false⟩ A5 c5) := by
      rw [blcell, ← HSD.out]; exact Arr.new w5 38 _
    have hba := (Below.refl w5.heap.size w5).alloc (Nat.le_refl _) (.cells #[.string sd, .slice A5 D.length c5, .int .i64 0, .bool false] 38)
    have hx6 := hx5.below hba
    have hs6 := hs5.below hba
    have hb06 := hb15.trans (hba.mono hb15.size)
    have hbs6 : w3.heap.size ≤ (w5.alloc (.cells #[.string sd, .slice A5 D.length c5, .int .i64 0, .bool false] 38)).heap.size := by rw [World.size_alloc]; omega
    clear hx4 hx5 hs5 ho5 hb5 hb15 hb14 hba hD4
    repeat' ((fail_if_success at_builtin); (fail_if_success at_make); (first | go_values | go_skip | go_guarded | go_step | go_upon | go_back))
    generalize w5.alloc (.cells #[.string sd, .slice A5 D.length c5, .int .i64 0, .bool false] 38) = w6 at *
    have HIN := Lib.hid (InsertB_ok l g i ⟨shaS D, D, 0, false⟩ A5 c5 w5.heap.size 1 w6 w3.heap.size (fun b => b < w3.heap.size) hil (by omega) hbs6 hx6 hV ⟨A5, c5, rfl, hs6⟩ (fun b hb hle => by
      obtain ⟨a, e1, e2⟩ := blc_leads hle
      have := hl5 a e1
      rcases hb with hb | hb <;> omega))
    clear hV hx6 hs6 hbs6
    refine ((HIN.out)).mono ?_; rintro e_ w8 ⟨v8, rfl, hx8, hg8⟩; dsimp only
    have hb08 := hb06.grown hg8 hb06.size (fun k hk => by cases hk; exact Nat.le_trans hw03 hg3.1)
    rw [show l.take i ++ ⟨shaS D, D, 0, false⟩ :: l.drop i = putB l D from HPE.out.symm] at hx8
    have HCL := Lib.hid (CloneB_ok v8 (putB l D) w8 w3.heap.size _ (by omega) hx8)
    obtain ⟨A8, c8, rfl, _, _, _⟩ := hx8.rwo.rows
    clear hx8 hg8 hb06
    repeat' ((fail_if_success at_builtin); (fail_if_success at_make); (first | go_values | go_skip | go_guarded | go_step | go_upon | go_back))
    refine ((HCL.out)).mono ?_; rintro e_ w9 ⟨v9, rfl, hx9, hb9⟩; dsimp only
    have hb09 := hb08.trans (hb9.mono hb08.size)
    have hw8 : w.heap.size ≤ w8.heap.size := hb08.size
    have hx10 := (hx9.lower hw8).wider (N' := fun b => b < w.heap.size) (fun b hb => .inl (Nat.lt_of_lt_of_le hb hw03))
    clear hx9 hb9 hb08
    repeat' ((fail_if_success at_builtin); (fail_if_success at_make); (first | go_values | go_skip | go_guarded | go_step | go_upon | go_back))
    go_ret3
    exact ⟨_, rfl, hx10, hb09⟩
end Go.Proofs.YtdpedkgdobfemaaGreat
