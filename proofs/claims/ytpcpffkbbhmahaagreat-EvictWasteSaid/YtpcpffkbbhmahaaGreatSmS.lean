/- SameBlobs, SameStore, by what they compare. Conditions: the sizes. -/
import Derived.Test.YtpcpffkbbhmahaaGreatIxP
import Derived.Test.YtpcpffkbbhmahaaGreatEqP
namespace Go.Proofs.YtpcpffkbbhmahaaGreat
open Go.RowKit
set_option linter.unusedVariables false
set_option linter.unusedSimpArgs false
set_option maxRecDepth 100000

instance : DecidableEq PartP := fun a b =>
  if h : a.name = b.name ∧ a.dig = b.dig ∧ a.size = b.size then isTrue (by obtain ⟨x, y, z⟩ := a; obtain ⟨u, v, t⟩ := b; obtain ⟨h1, h2, h3⟩ := h; simp only at h1 h2 h3; subst h1; subst h2; subst h3; rfl)
  else isFalse (fun e => h (by subst e; exact ⟨rfl, rfl, rfl⟩))
def sameB (x y : BlobP) : Bool := x.dig == y.dig && (x.data == y.data && x.pins == y.pins)
def sameE (x y : EntP) : Bool := x.key == y.key && (decide (x.parts = y.parts) && (x.pins == y.pins && x.stamp == y.stamp))
def sameBL : List BlobP → List BlobP → Bool
  | [], [] => true
  | x :: l, y :: m => sameB x y && sameBL l m
  | _, _ => false
def sameEL : List EntP → List EntP → Bool
  | [], [] => true
  | x :: l, y :: m => sameE x y && sameEL l m
  | _, _ => false
theorem sameBL_len : ∀ {l m : List BlobP}, l.length ≠ m.length → sameBL l m = false
  | [], [], h => absurd rfl h
  | [], _ :: _, _ => rfl
  | _ :: _, [], _ => rfl
  | x :: l, y :: m, h => by rw [sameBL, sameBL_len (l := l) (m := m) (by simpa using h), Bool.and_false]
theorem sameEL_len : ∀ {l m : List EntP}, l.length ≠ m.length → sameEL l m = false
  | [], [], h => absurd rfl h
  | [], _ :: _, _ => rfl
  | _ :: _, [], _ => rfl
  | x :: l, y :: m, h => by rw [sameEL, sameEL_len (l := l) (m := m) (by simpa using h), Bool.and_false]
theorem sameB_iff {x y : BlobP} : sameB x y = true ↔ x.dig = y.dig ∧ x.data = y.data ∧ x.pins = y.pins := by
  simp [sameB]
theorem sameE_iff {x y : EntP} : sameE x y = true ↔ x.key = y.key ∧ x.parts = y.parts ∧ x.pins = y.pins ∧ x.stamp = y.stamp := by
  simp [sameE]
theorem sameBL_iff : ∀ {l m : List BlobP}, sameBL l m = true ↔ l.map (fun b => (b.dig, b.data, b.pins)) = m.map (fun b => (b.dig, b.data, b.pins))
  | [], [] => by simp [sameBL]
  | [], _ :: _ => by simp [sameBL]
  | _ :: _, [] => by simp [sameBL]
  | x :: l, y :: m => by rw [sameBL, Bool.and_eq_true, sameB_iff, sameBL_iff (l := l) (m := m)]; simp
theorem sameEL_iff : ∀ {l m : List EntP}, sameEL l m = true ↔ l.map (fun b => (b.key, b.parts, b.pins, b.stamp)) = m.map (fun b => (b.key, b.parts, b.pins, b.stamp))
  | [], [] => by simp [sameEL]
  | [], _ :: _ => by simp [sameEL]
  | _ :: _, [] => by simp [sameEL]
  | x :: l, y :: m => by rw [sameEL, Bool.and_eq_true, sameE_iff, sameEL_iff (l := l) (m := m)]; simp
theorem sameBL_refl (l : List BlobP) : sameBL l l = true := sameBL_iff.2 rfl
theorem sameEL_refl (l : List EntP) : sameEL l l = true := sameEL_iff.2 rfl
end Go.Proofs.YtpcpffkbbhmahaaGreat
