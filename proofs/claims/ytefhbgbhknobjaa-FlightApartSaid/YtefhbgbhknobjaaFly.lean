/- Flights: keys, their cells, Find. Conditions: the sizes. -/
import Derived.Test.YtefhbgbhknobjaaList
import Derived.Test.YtefhbgbhknobjaaShelf
namespace Go.Proofs.Ytefhbgbhknobjaa
open Go.RowKit
set_option linter.unusedVariables false
set_option linter.unusedSimpArgs false
set_option maxRecDepth 100000

/-- the digest of a key's number -/
def keyS (k : Nat) : List UInt8 := shaS [107, UInt8.ofNat k]
theorem Key_ok (n : Int) (w : World) (h0 : -9223372036854775808 ≤ n) (h1 : n ≤ 9223372036854775807) :
    Calls Try.prog 14 #[.int .i64 n] w fun e w' => e = .returned (.string ⟨(keyS (pk n 7)).toArray⟩) ∧ Below w.heap.size w w' := by
  have HP := Lib.hid (fun w' => Picked_ok n 7 7 rfl w' h0 h1 (by omega) (by omega))
  have hk := pk_lt n (m := 7) (by omega)
  generalize pk n 7 = k at *
  obtain ⟨b, hb⟩ : ∃ b, b = UInt8.ofNat k := ⟨_, rfl⟩
  have hw : IntKind.u8.wrap (k : Int) = (b.toNat : Int) := by rw [hb, IntKind.wrap_u8, UInt8.toNat_ofNat']; omega
  have HK := Lib.hid (show keyS k = shaS [107, b] from by rw [keyS, hb])
  have hr : Rd (w.alloc (.cells #[.int .u8 107, .int .u8 (b.toNat : Int)] 5)) 1 (some ⟨w.heap.size, 0, none⟩) 2 (bys [107, b]) := Rd.newN (w := w) (e := 5) (size := 1) (m := 2) (bys [107, b]) rfl
  have hb1 := (Below.refl w.heap.size w).alloc (Nat.le_refl _) (.cells #[.int .u8 107, .int .u8 (b.toNat : Int)] 5)
  have HD := Lib.hid (Digest_ok (some ⟨w.heap.size, 0, none⟩) 2 2 [107, b] _ rfl (by omega) (by omega) hr)
  clear hb hr
  go_enter Try.func14, Try.ntmps14
  repeat' ((fail_if_success at_builtin); (fail_if_success at_make); (first | go_values | go_skip | go_guarded | go_step | go_upon | go_back))
  refine ((HP.out _)).mono ?_; rintro e_ _ ⟨rfl, rfl⟩; dsimp only
  repeat' ((fail_if_success at_builtin); (fail_if_success at_make); (first | go_values | go_skip | go_guarded | go_step | go_upon | go_back))
  refine ((HD.out)).mono ?_; rintro e_ w2 ⟨rfl, hb2⟩; dsimp only
  repeat' ((fail_if_success at_builtin); (fail_if_success at_make); (first | go_values | go_skip | go_guarded | go_step | go_upon | go_back))
  go_ret
  rw [HK.out]
  exact ⟨rfl, hb1.trans (hb2.mono hb1.size)⟩

/-- a flight -/
structure FlP where
  key : List UInt8
  lead : Int
  wait : List Int
/-- a flight's cells, its waiters at A with room for c -/
def fcell (p : FlP) (A : Option Addr) (c : Nat) : List Value := [.string ⟨p.key.toArray⟩, .int .i64 p.lead, .slice A p.wait.length c]
def ins (l : List Int) : List Value := l.map (.int .i64 ·)
/-- a slice of flights reads so: each one's waiters read, too -/
def Fls (w : World) (A : Option Addr) (fs : List FlP) : Prop :=
  ∃ (As : List (Option Addr × Nat)), As.length = fs.length ∧ Rd w 3 A fs.length ((fs.zip As).flatMap fun x => fcell x.1 x.2.1 x.2.2) ∧
    ∀ (k : Nat) (p : FlP) (a : Option Addr × Nat), fs[k]? = some p → As[k]? = some a → Rd w 1 a.1 p.wait.length (ins p.wait) ∧ p.wait.length ≤ a.2 ∧ a.2 ≤ maxLen
theorem Fls.below {w w' : World} {A : Option Addr} {fs : List FlP} (h : Fls w A fs) (hb : Below w.heap.size w w') : Fls w' A fs := by
  obtain ⟨As, h1, h2, h3⟩ := h
  exact ⟨As, h1, h2.below hb, fun k p a hp ha => ⟨(h3 k p a hp ha).1.below hb, (h3 k p a hp ha).2⟩⟩
theorem fcells_at : ∀ (fs : List FlP) (As : List (Option Addr × Nat)) (k j : Nat) (p : FlP) (a : Option Addr × Nat), fs[k]? = some p → As[k]? = some a → j < 3 →
    ((fs.zip As).flatMap fun x => fcell x.1 x.2.1 x.2.2)[k * 3 + j]? = (fcell p a.1 a.2)[j]?
  | f :: fs, a' :: As, 0, j, p, a, hp, ha, hj => by
    simp only [List.getElem?_cons_zero, Option.some.injEq] at hp ha
    subst hp ha
    rw [List.zip_cons_cons, List.flatMap_cons, Nat.zero_mul, Nat.zero_add, List.getElem?_append_left (by simpa [fcell] using hj)]
  | f :: fs, a' :: As, k + 1, j, p, a, hp, ha, hj => by
    rw [List.zip_cons_cons, List.flatMap_cons, List.getElem?_append_right (by simp [fcell]; omega)]
    rw [show (k + 1) * 3 + j - (fcell f a'.1 a'.2).length = k * 3 + j by simp [fcell]; omega]
    exact fcells_at fs As k j p a (by simpa using hp) (by simpa using ha) hj
/-- one flight of a slice -/
theorem Fls.at_ {w : World} {A : Option Addr} {fs : List FlP} (h : Fls w A fs) (k : Nat) (hk : k < fs.length) :
    ∃ b off B c, A = some ⟨b, off, none⟩ ∧ b < w.heap.size ∧ w.cell? ⟨b, off + k * 3, none⟩ = some (.string ⟨fs[k].key.toArray⟩) ∧ w.cell? ⟨b, off + k * 3 + 1, none⟩ = some (.int .i64 fs[k].lead) ∧
      w.cell? ⟨b, off + k * 3 + 2, none⟩ = some (.slice B fs[k].wait.length c) ∧ Rd w 1 B fs[k].wait.length (ins fs[k].wait) ∧ fs[k].wait.length ≤ c ∧ c ≤ maxLen := by
  obtain ⟨As, h1, h2, h3⟩ := h
  obtain ⟨b, off, rfl, hb, hc⟩ := h2.2 (by omega)
  have hp : fs[k]? = some fs[k] := List.getElem?_eq_getElem hk
  have hka : k < As.length := by omega
  have ha : As[k]? = some As[k] := List.getElem?_eq_getElem hka
  have hat := fun j hj => fcells_at fs As k j fs[k] As[k] hp ha hj
  obtain ⟨h4, h5, h6⟩ := h3 k _ _ hp ha
  have c0 := hc (k * 3 + 0) _ ((hat 0 (by omega)).trans rfl)
  have c1 := hc (k * 3 + 1) _ ((hat 1 (by omega)).trans rfl)
  have c2 := hc (k * 3 + 2) _ ((hat 2 (by omega)).trans rfl)
  refine ⟨b, off, As[k].1, As[k].2, rfl, hb, c0, ?_, ?_, h4, h5, h6⟩
  · rw [← c1]; congr 2
  · rw [← c2]; congr 2
end Go.Proofs.Ytefhbgbhknobjaa
