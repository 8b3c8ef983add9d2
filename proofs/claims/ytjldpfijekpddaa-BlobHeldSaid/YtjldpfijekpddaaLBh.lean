/- BlobHeld walked. Conditions: the slice's size. -/
import Derived.Test.YtjldpfijekpddaaStd
import Derived.Test.YtjldpfijekpddaaStore
namespace Go.Proofs.Ytjldpfijekpddaa
open Go.RowKit
set_option linter.unusedVariables false
set_option linter.unusedSimpArgs false
set_option maxRecDepth 100000

theorem erase_noB {l : List BlobP} {i : Nat} (hr : RisesBy (·.dig) l) (hi : i < l.length) : (l.eraseIdx i).any (fun x => x.dig == l[i].dig) = false := by
  rw [List.any_eq_false]
  intro x hx
  have h1 : ((l.eraseIdx i).map (·.dig)).Nodup ∧ l[i].dig ∉ (l.eraseIdx i).map (·.dig) := by
    have hp : ((l[i] :: l.eraseIdx i).map (·.dig)).Perm (l.map (·.dig)) := by
      have h := (List.perm_middle (a := l[i]) (l₁ := l.take i) (l₂ := l.drop (i + 1))).symm
      rw [← List.drop_eq_getElem_cons hi, List.take_append_drop] at h
      rw [List.eraseIdx_eq_take_drop_succ]
      exact h.map _
    have := hp.nodup_iff.2 (Rises.nodup hr.map)
    rw [List.map_cons, List.nodup_cons] at this
    exact ⟨this.2, this.1⟩
  intro e
  exact h1.2 (List.mem_map.2 ⟨x, hx, by simpa using e⟩)
set_option maxHeartbeats 4000000 in
theorem BlobHeld_walk (A : Option Addr) (n c : Nat) (l : List RawP) (w : World) (hl : l.length = n) (hc : n ≤ c) (hm : c ≤ maxLen) (hok : ∀ r ∈ l, RawOk r) (hr : Rd w 4 A n (rcs l)) :
    Calls Try.prog 3 #[.slice A n c] w fun e w' => e = .returned (.bool true) ∧ Below w.heap.size w w' := by
  have HS := Lib.hid (Store_ok A n c l w hl hc hm hok hr)
  have HGB := Lib.hid (sto_good l).b
  have hlb : (sto l).blobs.length ≤ 24 := HGB.out.len
  clear hok hl hr
  generalize (sto l).blobs = bl at *
  generalize (sto l).ents = el at *
  generalize (sto l).room = rm at *
  generalize (sto l).clock = ck at *
  go_enter Try.func3, Try.ntmps3
  repeat' ((fail_if_success at_builtin); (fail_if_success at_make); (first | go_values | go_skip | go_guarded | go_step | go_upon | go_back))
  refine ((HS.out)).mono ?_; rintro e_ w1 ⟨v1, v2, rfl, hb, he, hb1⟩; dsimp only
  obtain ⟨Ab, cb, rfl, hcb1, hcb2, hRb⟩ := hb.rows
  obtain ⟨Ae, ce, rfl, _, _, _⟩ := he.rows
  have hfl := fld_blobs Ab Ae bl.length el.length cb ce (rm : Int) (ck : Int) w1
  clear hb he
  repeat' ((fail_if_success at_builtin); (fail_if_success at_make); (first | go_values | go_skip | go_guarded | go_step | go_upon | go_back))
  clear hfl
  go_loopg [13] bl.length (fun gn i wr => ∃ j : Nat, gn = bl.length - j ∧ i = .int .i64 j ∧ j ≤ bl.length ∧ Below w1.heap.size w1 wr)
  case atStart => exact ⟨0, rfl, rfl, by omega, Below.refl _ _⟩
  case round =>
    obtain ⟨j, hgk, rfl, hj, hbl⟩ := hrel
    have HGK := Lib.hid hgk
    clear hgk
    by_cases hlt : j < bl.length
    · have hcc : decide (j < bl.length) = true := decide_eq_true hlt
      have hR1 := hRb.below hbl
      obtain ⟨b, off, B, xb, e1, hbb, c0, c1, c2, c3, _⟩ := hR1.blob_at j hlt
      have hj0 : (0 : Int) ≤ (j : Int) := by omega
      have hj1 : (j : Int) < (bl.length : Int) := by omega
      have HNO := Lib.hid (erase_noB HGB.out.ris hlt)
      have hlx : (bl.eraseIdx j).length = bl.length - 1 := List.length_eraseIdx_of_lt hlt
      have HLX := Lib.hid hlx
      obtain ⟨sx, hsx⟩ : ∃ s : ByteArray, s = ⟨bl[j].dig.toArray⟩ := ⟨_, rfl⟩
      rw [← hsx] at c0
      have HSX := Lib.hid hsx
      have hX : Arr (wr.alloc (.cells #[.string sx, .slice B bl[j].data.length xb, .int .i64 (bl[j].pins : Int), .bool bl[j].mark] 30)) wr.heap.size 30 [.string sx, .slice B bl[j].data.length xb, .int .i64 (bl[j].pins : Int), .bool bl[j].mark] := Arr.new wr 30 _
      have hba := (Below.refl wr.heap.size wr).alloc (Nat.le_refl _) (.cells #[.string sx, .slice B bl[j].data.length xb, .int .i64 (bl[j].pins : Int), .bool bl[j].mark] 30)
      have hbl2 := hbl.trans (hba.mono hbl.size)
      have hR2 := hR1.below hba
      by_cases hp : bl[j].pins = 0
      · have hdr := DropB_ok Ab cb bl bl[j].dig j _ HGB.out hlt rfl hp hR2
        rw [← hsx] at hdr
        have HDR := Lib.hid hdr
        rw [hp] at c2 hX HDR hR2
        rw [hp] at hba hbl2
        have HPZ := Lib.hid hp
        clear hsx hdr hp hlx hbl
        generalize bl[j].data.length = m at *
        generalize bl[j].mark = mk at *
        have x0 := hX.cell (k := 0) rfl
        subst e1
        repeat' ((fail_if_success at_builtin); (fail_if_success at_make); (first | go_values | go_skip | go_guarded | go_step | go_upon | go_back))
        rw [show ((0 : Nat) : Int) = 0 from rfl] at *
        generalize wr.alloc (.cells #[.string sx, .slice B m xb, .int .i64 0, .bool mk] 30) = w2 at *
        generalize wr.heap.size = gx at *
        clear c0 c1 c2 c3 x0
        refine ((HDR.out)).mono ?_; rintro e_ w3 ⟨g, rfl, hx3, hb3⟩; dsimp only
        have hX3 := hX.below hb3
        have hbl3 := hbl2.trans (hb3.mono hbl2.size)
        obtain ⟨A3, c3, e3, _, _, hR3⟩ := hx3.rwo.rows
        have hR3' : Rw BlobS w3 (some ⟨g, 0, none⟩) (bl.eraseIdx j) := by cases e3; exact hR3
        have hhs := Has_ok (some ⟨g, 0, none⟩) bl.length (bl.eraseIdx j) bl[j].dig w3 (by have := HLX.out; omega) hR3'
        rw [HNO.out, ← HSX.out, HLX.out] at hhs
        have HHS := Lib.hid hhs
        have y0 := hX3.cell (k := 0) rfl
        have y2 := hX3.cell (k := 2) rfl
        have hw1 : IntKind.i64.wrap ((bl.length : Int) - 1) = (bl.length : Int) - 1 := IntWalk.i64_in _ (by omega)
        have hcs : ((bl.length - 1 : Nat) : Int) = (bl.length : Int) - 1 := by omega
        have hne : (((bl.length - 1 : Nat) : Int) != (bl.length : Int) - 1) = false := by rw [hcs]; simp
        have hne2 : (((bl.length : Int) - 1) != (bl.length : Int) - 1) = false := by simp
        rw [HLX.out]
        clear hx3 hb3 hX hX3 hbl2 hR2 hR1 hhs hR3 hR3' e3 hcs
        repeat' ((fail_if_success at_builtin); (fail_if_success at_make); (first | go_values | go_skip | go_guarded | go_step | go_upon | go_back))
        clear y0 y2
        refine ((HHS.out)).mono ?_; rintro e_ w4 ⟨rfl, hb4⟩; dsimp only
        have hbl4 := hbl3.trans (hb4.mono hbl3.size)
        repeat' ((fail_if_success at_builtin); (fail_if_success at_make); (first | go_values | go_skip | go_guarded | go_step | go_upon | go_back))
        go_roundg (bl.length - (j + 1))
        case measure => have := HGK.out; omega
        case rel => exact ⟨j + 1, rfl, by go_num, by omega, hbl4⟩
      · have hdr := DropB_held Ab cb bl bl[j].dig j _ HGB.out hlt rfl (by omega) hR2
        rw [← hsx] at hdr
        have HDR := Lib.hid hdr
        have p1 : decide ((bl[j].pins : Int) > 0) = true := decide_eq_true (by omega)
        have p2 : decide ((0 : Int) < (bl[j].pins : Int)) = true := decide_eq_true (by omega)
        have p3 : decide (0 < bl[j].pins) = true := decide_eq_true (by omega)
        have p4 : ((bl[j].pins : Int) == 0) = false := by rw [beq_eq_false_iff_ne]; omega
        clear hsx hdr hp hlx hbl
        generalize bl[j].data.length = m at *
        generalize bl[j].mark = mk at *
        generalize bl[j].pins = pn at *
        have x0 := hX.cell (k := 0) rfl
        subst e1
        repeat' ((fail_if_success at_builtin); (fail_if_success at_make); (first | go_values | go_skip | go_guarded | go_step | go_upon | go_back))
        generalize wr.alloc (.cells #[.string sx, .slice B m xb, .int .i64 (pn : Int), .bool mk] 30) = w2 at *
        generalize wr.heap.size = gx at *
        clear c0 c1 c2 c3 x0
        refine ((HDR.out)).mono ?_; rintro e_ w3 ⟨rfl, hb3⟩; dsimp only
        have hX3 := hX.below hb3
        have hbl3 := hbl2.trans (hb3.mono hbl2.size)
        have y0 := hX3.cell (k := 0) rfl
        have y2 := hX3.cell (k := 2) rfl
        clear hb3 hX hX3 hbl2 hR2 hR1
        repeat' ((fail_if_success at_builtin); (fail_if_success at_make); (first | go_values | go_skip | go_guarded | go_step | go_upon | go_back))
        go_roundg (bl.length - (j + 1))
        case measure => have := HGK.out; omega
        case rel => exact ⟨j + 1, rfl, by go_num, by omega, hbl3⟩
    · obtain rfl : j = bl.length := by omega
      have hcc : decide (bl.length < bl.length) = false := by simp
      have HST := Lib.hid (stored_ok wr)
      repeat' ((fail_if_success at_builtin); (fail_if_success at_make); (first | go_values | go_skip | go_guarded | go_step | go_upon | go_back))
      refine ((HST.out)).mono ?_; rintro e_ w4 ⟨rfl, hb4⟩; dsimp only
      repeat' ((fail_if_success at_builtin); (fail_if_success at_make); (first | go_values | go_skip | go_guarded | go_step | go_upon | go_back))
      go_ret
      have h1 := hb1.trans (hbl.mono hb1.size)
      exact ⟨rfl, h1.trans (hb4.mono h1.size)⟩
end Go.Proofs.Ytjldpfijekpddaa
