/- keep.Turned: one byte is another one. Conditions: the sizes. -/
import Derived.Test.YtdpedkgdobfemaaDig
import Derived.Test.YtdpedkgdobfemaaPart
namespace Go.Proofs.Ytdpedkgdobfemaa
open Go.RowKit
set_option linter.unusedVariables false
set_option linter.unusedSimpArgs false
set_option maxRecDepth 100000

/-! Turned -/
def turn1 (l : List UInt8) (k : Nat) (x : UInt8) : List UInt8 := l.set k ((l[k]?.getD 0) ^^^ x)
theorem turn1_len (l : List UInt8) (k : Nat) (x : UInt8) : (turn1 l k x).length = l.length := by simp [turn1]
theorem turn1_ne (l : List UInt8) (k : Nat) (x : UInt8) (hk : k < l.length) (hx : x ≠ 0) : turn1 l k x ≠ l := by
  intro h
  have h1 := congrArg (fun l => l[k]?) h
  simp only [turn1, List.getElem?_set_self hk, List.getElem?_eq_getElem hk, Option.getD_some, Option.some.injEq] at h1
  apply hx
  have h2 : l[k] ^^^ (l[k] ^^^ x) = l[k] ^^^ l[k] := by rw [h1]
  rw [← UInt8.xor_assoc, UInt8.xor_self, UInt8.zero_xor] at h2
  exact h2
theorem bits_xor8 (a b : UInt8) : bits .xor .u8 (a.toNat : Int) (b.toNat : Int) = ((a ^^^ b).toNat : Int) := by
  have key : ∀ a b : Fin 256, bits .xor .u8 (a.val : Int) (b.val : Int) = ((UInt8.ofNat a.val ^^^ UInt8.ofNat b.val).toNat : Int) := by decide +kernel
  have h := key ⟨a.toNat, a.toNat_lt⟩ ⟨b.toNat, b.toNat_lt⟩
  simpa using h
theorem own_exb {w : World} {base : Nat} {e : TypeId} {v : Value} {n : Nat} {xs : List Value} (h : w.ownsRow base e 1 v n xs) (h0 : 0 < n) :
    ∃ g cap cs, v = .slice (some ⟨g, 0, none⟩) n cap ∧ base ≤ g ∧ Arr w g e cs ∧ n ≤ cap ∧ cap ≤ maxLen ∧ cs.length = cap ∧ cs.take n = xs := by
  rcases h.2 with ⟨_, hz⟩ | ⟨g, cap, cur, rfl, hb, hg, hn, hm, hs, ht⟩
  · omega
  · exact ⟨g, cap, cur.toList, rfl, hb, by simpa [Arr] using hg, hn, hm, by simpa using hs, by simpa using ht⟩
theorem Turned_ok (A : Option Addr) (n c : Nat) (l : List UInt8) (at_ : Int) (x : UInt8) (w : World) (hl : l.length = n) (h0 : 0 < n) (hc : n ≤ c) (hm : n ≤ 140737488353280) (hr : Rd w 1 A n (bys l)) (ha0 : -9223372036854775808 ≤ at_) (ha1 : at_ ≤ 9223372036854775807) :
    Calls Try.prog 12 #[.slice A n c, .int .i64 at_, .int .u8 (x.toNat : Int)] w fun e w' => ∃ A' c', e = .returned (.slice A' n c') ∧ n ≤ c' ∧ c' ≤ maxLen ∧ Rd w' 1 A' n (bys (turn1 l (pk at_ n) (max x 1))) ∧ Below w.heap.size w w' := by
  have HP := Lib.hid (fun w' => Picked_ok at_ n (n : Int) rfl w' ha0 ha1 h0 (by omega))
  have hk := pk_lt at_ h0
  generalize pk at_ n = k at *
  obtain ⟨y, hy⟩ : ∃ y, l[k]? = some y := ⟨l[k], List.getElem?_eq_getElem (by omega)⟩
  have HC := Lib.hid (SClone_ok A n c l w hl hc hm hr)
  have ht : turn1 l k (max x 1) = l.set k (y ^^^ max x 1) := by rw [turn1, hy]; rfl
  rw [ht]
  have hmx : (max (x.toNat : Int) 1) = ((max x 1).toNat : Int) := by
    have key : ∀ x : Fin 256, max ((UInt8.ofNat x.val).toNat : Int) 1 = ((max (UInt8.ofNat x.val) 1).toNat : Int) := by decide +kernel
    have h := key ⟨x.toNat, x.toNat_lt⟩
    simpa using h
  have hx := bits_xor8 y (max x 1)
  generalize max x 1 = z at *
  have HL := Lib.hid hl
  have HY := Lib.hid hy
  clear hl hy ht hr
  go_enter Try.func12, Try.ntmps12
  repeat' ((fail_if_success at_builtin); (fail_if_success at_make); (first | go_values | go_skip | go_guarded | go_step | go_upon | go_back))
  refine ((HC.out)).mono ?_; rintro e_ w1 ⟨v, rfl, ho1, hb1⟩; dsimp only
  obtain ⟨g, cap, cs, rfl, hgb, hA1, hcap, hcm, hcl, hct⟩ := own_exb ho1 h0
  have qc : w1.cell? ⟨g, k, none⟩ = some (.int .u8 (y.toNat : Int)) := by
    refine hA1.cell ?_
    have h : (bys l)[k]? = some (.int .u8 (y.toNat : Int)) := by rw [bys, List.getElem?_map, HY.out]; rfl
    rw [← hct, List.getElem?_take, if_pos (by omega)] at h
    exact h
  have qf := hA1.frozen k
  have hA2 := hA1.set (k := k) (by omega) (.int .u8 ((y ^^^ z).toNat : Int))
  have hr2 : Rd (w1.setCell ⟨g, k, none⟩ (.int .u8 ((y ^^^ z).toNat : Int))) 1 (some ⟨g, 0, none⟩) n (bys (l.set k (y ^^^ z))) := by
    refine ⟨by rw [bys_len, List.length_set, HL.out, Nat.mul_one], fun _ => ⟨g, 0, rfl, hA2.lt, fun j u hu => ?_⟩⟩
    rw [Nat.zero_add]
    refine hA2.cell ?_
    rw [bys, List.map_set, ← bys, ← hct, ← List.take_set, List.getElem?_take] at hu
    split at hu
    · exact hu
    · cases hu
  have hb2 := Below.setCell (p := ⟨g, k, none⟩) hb1 hgb (.int .u8 ((y ^^^ z).toNat : Int))
  have i0 : decide ((0 : Int) < (n : Int)) = true := by simp; omega
  have i1 : (0 : Int) ≤ (k : Int) := by omega
  have i2 : (k : Int) < (n : Int) := by omega
  repeat' ((fail_if_success at_builtin); (fail_if_success at_make); (first | go_values | go_skip | go_guarded | go_step | go_upon | go_back))
  refine ((HP.out _)).mono ?_; rintro e_ _ ⟨rfl, rfl⟩; dsimp only
  repeat' ((fail_if_success at_builtin); (fail_if_success at_make); (first | go_values | go_skip | go_guarded | go_step | go_upon | go_back))
  go_ret
  exact ⟨_, _, rfl, hcap, hcm, hr2, hb2⟩
end Go.Proofs.Ytdpedkgdobfemaa
