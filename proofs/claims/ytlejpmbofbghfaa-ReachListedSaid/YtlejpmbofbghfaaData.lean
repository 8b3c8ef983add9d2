/- keep.Data. Conditions: the sizes. -/
import Derived.Test.YtlejpmbofbghfaaZ
import Derived.Test.YtlejpmbofbghfaaRaw
namespace Go.Proofs.Ytlejpmbofbghfaa
open Go.RowKit
set_option linter.unusedVariables false
set_option linter.unusedSimpArgs false
set_option maxRecDepth 100000

def u8 (a : Int) : UInt8 := UInt8.ofNat (a % 256).toNat
theorem u8_wrap (a : Int) : IntKind.u8.wrap a = ((u8 a).toNat : Int) := by
  rw [IntKind.wrap_u8, u8, UInt8.toNat_ofNat']
  omega
def rval (r : RawP) : Value := .agg #[.int .i64 r.kind, .int .i64 r.a, .int .i64 r.b, .string r.text]
def datL (r : RawP) (most : Nat) : List UInt8 := (r.text.data.toList ++ [u8 r.a, u8 r.b]).take most
theorem datL_len (r : RawP) (most : Nat) : (datL r most).length ≤ most := by rw [datL, List.length_take]; omega

theorem Data_ok (r : RawP) (most : Nat) (M : Int) (hM : (most : Int) = M) (hmo : most ≤ 1000) (ho : RawOk r) (w : World) :
    Calls Try.prog 14 #[rval r, .int .i64 M] w fun e w' => ∃ A c, e = .returned (.slice A (datL r most).length c) ∧ OwnZ w' w.heap.size A c (datL r most) ∧ Below w.heap.size w w' := by
  subst hM
  obtain ⟨k, a, b, t⟩ := r
  have ht := ho.t
  have ua := u8_wrap a
  have ub := u8_wrap b
  unfold rval
  simp only [datL]
  generalize u8 a = x at *
  generalize u8 b = y at *
  dsimp only at ht ⊢
  have hsz : t.data.toList.length = t.size := by rw [Array.length_toList]; rfl
  obtain ⟨w1, hw1⟩ : ∃ w1, w1 = w.alloc (.cells #[.int .i64 k, .int .i64 a, .int .i64 b, .string t] 23) := ⟨_, rfl⟩
  have s1 : w1.heap.size = w.heap.size + 1 := by rw [hw1, World.size_alloc]
  have hb1 : Below w.heap.size w w1 := by rw [hw1]; exact (Below.refl _ _).alloc (Nat.le_refl _) _
  have hr : Rd (w1.alloc (.cells #[.int .u8 (x.toNat : Int), .int .u8 (y.toNat : Int)] 5)) 1 (some ⟨w.heap.size + 1, 0, none⟩) 2 (bys [x, y]) := by
    have := Rd.newN (w := w1) (e := 5) (size := 1) (m := 2) (bys [x, y]) rfl
    rw [s1] at this; exact this
  have hb2 : Below w.heap.size w (w1.alloc (.cells #[.int .u8 (x.toNat : Int), .int .u8 (y.toNat : Int)] 5)) := hb1.alloc (by omega) _
  have qs := run_str (P := Try.prog) (c := 2) (src := 24) (dst := 9) Try.underlying24 Try.underlying5 Try.underlying9 (n := 2) (l := [x, y]) rfl hr
  obtain ⟨S, hS⟩ : ∃ S : ByteArray, S = t ++ ⟨[x, y].toArray⟩ := ⟨_, rfl⟩
  have qa := fun w' => run_string_add_sum (P := Try.prog) (w := w') t ⟨[x, y].toArray⟩ (by show t.size + 2 ≤ _; omega)
  have hSl : S.data.toList = t.data.toList ++ [x, y] := by rw [hS, ByteArray.data_append, Array.toList_append]
  have hSs : S.size = t.size + 2 := by
    have h := congrArg List.length hSl
    rw [Array.length_toList, List.length_append, hsz] at h; exact h
  rw [← hS] at qa
  rw [← hSl]
  obtain ⟨E, hE⟩ : ∃ E : ByteArray, E = S.extract 0 (min ((t.size : Int) + 2) (most : Int)).toNat := ⟨_, rfl⟩
  have hEl : S.data.toList.take most = E.data.toList := by
    have hl := congrArg List.length hSl
    rw [List.length_append, hsz] at hl
    rw [hE, ByteArray.data_extract, Array.toList_extract, List.extract_eq_take_drop, List.drop_zero, Nat.sub_zero]
    rcases Nat.le_total (t.size + 2) most with h | h
    · rw [List.take_of_length_le (by rw [hl]; exact h), List.take_of_length_le (by rw [hl]; simp only [List.length_cons, List.length_nil]; omega)]
    · congr 1; omega
  have hEs : E.size ≤ maxLen := by
    have h := congrArg List.length hEl
    rw [List.length_take] at h
    have h2 : E.data.toList.length = E.size := by rw [Array.length_toList]; rfl
    simp only [maxLen]; omega
  rw [hEl]
  obtain ⟨w3, qz, hz, hb3⟩ := conv_Z E (w1.alloc (.cells #[.int .u8 (x.toNat : Int), .int .u8 (y.toNat : Int)] 5)) hEs
  have hz := hz.lower hb2.size
  have hb23 := hb2.trans (hb3.mono hb2.size)
  generalize grownCap (w1.alloc (.cells #[.int .u8 (x.toNat : Int), .int .u8 (y.toNat : Int)] 5)) E.size 0 5 = c at qz hz
  generalize (w1.alloc (.cells #[.int .u8 (x.toNat : Int), .int .u8 (y.toNat : Int)] 5)).heap.size = g at qz hz
  generalize E.data.toList = L at qz hz ⊢
  rw [hE] at qz
  rw [hw1] at qz qs
  clear hr hS hSl hb1 hw1 s1 hE hEl hEs hb2 hb3
  go_enter Try.func14, Try.ntmps14
  repeat' ((fail_if_success at_builtin); (fail_if_success at_make); (first | go_values | go_skip | go_guarded | go_step | go_upon | go_back))
  go_ret
  exact ⟨_, _, rfl, hz, hb23⟩
end Go.Proofs.Ytlejpmbofbghfaa
