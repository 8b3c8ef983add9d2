/- Parts as cells; listed, plain. No condition. -/
import Derived.Test.YtefhbgbhknobjaaRaw
import Derived.Test.YtefhbgbhknobjaaDig
import Derived.Test.YtefhbgbhknobjaaPk
namespace Go.Proofs.Ytefhbgbhknobjaa
open Go.RowKit
set_option linter.unusedVariables false
set_option linter.unusedSimpArgs false

/-- a part -/
structure PartP where
  name : List UInt8
  dig : List UInt8
  size : Nat
def pcell (p : PartP) : List Value := [.string ⟨p.name.toArray⟩, .string ⟨p.dig.toArray⟩, .int .i64 (p.size : Int)]
def pcs (l : List PartP) : List Value := l.flatMap pcell
theorem pcs_len (l : List PartP) : (pcs l).length = l.length * 3 := by
  induction l with
  | nil => rfl
  | cons x l ih => simp only [pcs, List.flatMap_cons, List.length_append, List.length_cons] at *; rw [ih]; simp [pcell]; omega
theorem pcs_app (l m : List PartP) : pcs (l ++ m) = pcs l ++ pcs m := by simp [pcs]
theorem pcs_at : ∀ (l : List PartP) (k j : Nat) (h : k < l.length) (hj : j < 3), (pcs l)[k * 3 + j]? = (pcell l[k])[j]?
  | x :: l, 0, j, h, hj => by
    show (pcell x ++ pcs l)[0 * 3 + j]? = (pcell x)[j]?
    rw [Nat.zero_mul, Nat.zero_add, List.getElem?_append_left (by simpa [pcell] using hj)]
  | x :: l, k + 1, j, h, hj => by
    show (pcell x ++ pcs l)[(k + 1) * 3 + j]? = _
    rw [List.getElem?_append_right (by simp [pcell]; omega), show (k + 1) * 3 + j - (pcell x).length = k * 3 + j by simp [pcell]; omega, pcs_at l k j (by simpa using h) hj]
    rfl
theorem pcs_one (l : List PartP) : ∀ u ∈ pcs l, u.oneCell' = true := by
  intro u hu
  simp only [pcs, List.mem_flatMap] at hu
  obtain ⟨r, _, hu⟩ := hu
  simp only [pcell, List.mem_cons, List.not_mem_nil, or_false] at hu
  rcases hu with rfl | rfl | rfl <;> rfl
theorem pcs_take (l : List PartP) (k : Nat) : (pcs l).take (k * 3) = pcs (l.take k) := by
  induction l generalizing k with
  | nil => simp [pcs]
  | cons x l ih =>
    cases k with
    | zero => simp [pcs]
    | succ k =>
      show (pcell x ++ pcs l).take ((k + 1) * 3) = pcell x ++ pcs (l.take k)
      rw [← ih k, List.take_append, List.take_of_length_le (by simp [pcell]; omega), show (k + 1) * 3 - (pcell x).length = k * 3 by simp [pcell]; omega]
theorem pcs_drop (l : List PartP) (k : Nat) : (pcs l).drop (k * 3) = pcs (l.drop k) := by
  induction l generalizing k with
  | nil => simp [pcs]
  | cons x l ih =>
    cases k with
    | zero => simp [pcs]
    | succ k =>
      show (pcell x ++ pcs l).drop ((k + 1) * 3) = pcs (l.drop k)
      rw [← ih k, List.drop_append, List.drop_eq_nil_of_le (by simp [pcell]; omega), show (k + 1) * 3 - (pcell x).length = k * 3 by simp [pcell]; omega, List.nil_append]
theorem elPart : El Try.prog 85 90 3 40 := El.mk' (z := .agg #[.string ByteArray.empty, .string ByteArray.empty, .int .i64 0]) Try.underlying85 (by kernel_rfl) rfl (by omega) (by omega)

/-! listed -/
def partOf (i : Nat) (r : RawP) : PartP := ⟨[110, UInt8.ofNat (97 + i)], shaS r.text.data.toList, pk r.a 301⟩
def lstGo : Nat → List RawP → List PartP
  | _, [] => []
  | i, r :: l => if i < 8 then partOf i r :: lstGo (i + 1) l else []
def lst (l : List RawP) : List PartP := lstGo 0 l
theorem lstGo_snoc (r : RawP) : ∀ (l : List RawP) (i : Nat), lstGo i (l ++ [r]) = lstGo i l ++ (if i + l.length < 8 then [partOf (i + l.length) r] else [])
  | [], i => by simp [lstGo]
  | x :: l, i => by
    simp only [List.cons_append, lstGo, lstGo_snoc r l (i + 1), List.length_cons]
    rw [show i + 1 + l.length = i + (l.length + 1) by omega]
    split
    · rfl
    · rw [if_neg (by omega)]; rfl
theorem lst_snoc (l : List RawP) (k : Nat) (h : k < l.length) : lst (l.take (k + 1)) = lst (l.take k) ++ (if k < 8 then [partOf k l[k]] else []) := by
  rw [List.take_succ_eq_append_getElem h, lst, lstGo_snoc, List.length_take, Nat.min_eq_left (Nat.le_of_lt h), Nat.zero_add]; rfl
theorem lstGo_len : ∀ (l : List RawP) (i : Nat), (lstGo i l).length = min l.length (8 - i)
  | [], i => by simp [lstGo]
  | x :: l, i => by
    simp only [lstGo]
    split
    · simp only [List.length_cons, lstGo_len l (i + 1)]; omega
    · simp only [List.length_nil]; omega
theorem lst_len (l : List RawP) : (lst l).length = min l.length 8 := by rw [lst, lstGo_len]
theorem lst_le (l : List RawP) : (lst l).length ≤ 8 := by rw [lst_len]; omega
end Go.Proofs.Ytefhbgbhknobjaa
