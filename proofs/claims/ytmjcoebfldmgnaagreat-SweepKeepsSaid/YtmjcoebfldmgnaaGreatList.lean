/- The walk of listed. Conditions: the slice's size. -/
import Derived.Test.YtmjcoebfldmgnaaGreatPart
import Derived.Deep.RegionHeld3
import Derived.StillTactics
import Derived.Laws.IdiomStrings
import Derived.Deep.DrawnRows
namespace Go.Proofs.YtmjcoebfldmgnaaGreat
open Go.RowKit
set_option linter.unusedVariables false
set_option linter.unusedSimpArgs false
set_option maxRecDepth 20000

attribute [local go_sem ↓] Go.wp_at_zero Go.wp_at_succ
theorem bcell {W w1 : World} (hb : Below W.heap.size W w1) : (∀ b o, b < W.heap.size → w1.cell? ⟨b, o, none⟩ = W.cell? ⟨b, o, none⟩) ∧ (∀ b o, b < W.heap.size → w1.frozen? ⟨b, o, none⟩ = W.frozen? ⟨b, o, none⟩) :=
  ⟨fun b o h => hb.cell (p := ⟨b, o, none⟩) h, fun b o h => hb.frozen (p := ⟨b, o, none⟩) h⟩
theorem conv_one (x : Int) (w : World) (g : Nat) (h : w.cell? ⟨g, 0, none⟩ = some (.int .u8 x)) (h0 : 0 ≤ x) (h1 : x < 256) :
    (convert 49 9 (.slice (some ⟨g, 0, none⟩) 1 1)).run Tryz.prog w = .ok (.string ⟨#[UInt8.ofNat x.toNat]⟩) w :=
  run_convert_bytes_back w 49 9 5 ⟨g, 0, none⟩ 1 [UInt8.ofNat x.toNat] Tryz.underlying49 Tryz.underlying5 Tryz.underlying9 (fun j hj => by
    have : j = 0 := by simpa using hj
    subst this
    simp only [List.getElem_cons_zero]
    have e : ((UInt8.ofNat x.toNat).toNat : Int) = x := by rw [UInt8.toNat_ofNat']; omega
    rw [e]
    exact h)
theorem Rd_bytes (w : World) (s : ByteArray) (cap : Nat) (e : TypeId) (fr : Nat × Nat) : Rd (w.alloc (.cells (bytesRow s cap) e fr)) 1 (some ⟨w.heap.size, 0, none⟩) s.size (bys s.data.toList) := by
  have hsz : s.data.toList.length = s.size := by rw [Array.length_toList]; rfl
  refine ⟨by rw [bys_len, hsz]; omega, fun _ => ⟨_, 0, rfl, by simp, fun j u hu => ?_⟩⟩
  have hj := (List.getElem?_eq_some_iff.1 hu).1
  rw [bys_len, hsz] at hj
  rw [← hu, Nat.zero_add]
  have h1 : (w.alloc (.cells (bytesRow s cap) e fr)).heap[w.heap.size]? = some (.cells (bytesRow s cap) e fr) := World.alloc_heap_new w _
  simp only [World.cell?, h1, Option.isSome_none, Bool.false_eq_true, if_false]
  simp [bytesRow, bys, Array.getElem?_append, hj]
theorem cellAt {w W : World} {g o : Nat} {v : Value} (hst : Below w.heap.size w W) (hl : g < w.heap.size) (h : w.cell? ⟨g, o, none⟩ = some v) : W.cell? ⟨g, o, none⟩ = some v := (hst.cell (p := ⟨g, o, none⟩) hl).trans h
theorem outG {P : Program} {md : Region.Mode} {ops : Array Oper} {Q : Exit → Act → World → Prop} {S : World → Prop} {fuel : Nat} {listed : Array Bool} {K : Act → World → Prop}
    (hK : Shut (∀ a w, S w → (S w → wpAnyH P md ops Q S fuel listed a w) → K a w)) {a : Act} {w : World} (hS : S w) (A B : World → Prop) (ha : A w) (hb : B w) (h : ∀ W, S W → A W → B W → wpAnyH P md ops Q S fuel listed a W) : K a w :=
  hK.out _ _ hS (fun h' => h w h' ha hb)
theorem Rd.drewR {w : World} {size n : Nat} {A : Option Addr} {xs : List Value} (h : Rd w size A n xs) : Rd w.drew size A n xs := h
theorem Digest_q (s : ByteArray) (A : Option Addr) (c : Nat) (W : World) (hc : s.size ≤ c) (hm : s.size ≤ 140737488351232) (hr : Rd W 1 A s.size (bys s.data.toList)) :
    Calls Tryz.prog 46 #[.slice A s.size c] W fun e w' => e = .returned (.string ⟨(shaS s.data.toList).toArray⟩) ∧ Below W.heap.size W w' :=
  Digest_ok A s.size c s.data.toList W (by rw [Array.length_toList]; rfl) hc hm hr

end Go.Proofs.YtmjcoebfldmgnaaGreat
