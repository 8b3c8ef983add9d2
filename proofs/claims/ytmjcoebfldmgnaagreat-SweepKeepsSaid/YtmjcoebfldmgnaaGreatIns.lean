/- slices.Insert of one element ahead of the end, where there is no room. Conditions: the sizes. -/
import Derived.Test.YtmjcoebfldmgnaaGreatApR
import Derived.Shelf.Spec.SlicesInsertGrow
namespace Go.Proofs.YtmjcoebfldmgnaaGreat
open Go.RowKit
set_option linter.unusedVariables false
set_option linter.unusedSimpArgs false
set_option maxRecDepth 100000

theorem run_copy_cellsN {P : Program} (w : World) (dT sT ty elem : TypeId) (i : TypeInfo) (b o dLen dCap : Nat) (a : Addr) (sLen sCap : Nat) (cs : List Value) (k : Nat)
    (hu : P.underlying dT = some (.slice elem)) (hi : P.info? elem = some i) (hn : Nat.min sLen dLen = k) (hl : cs.length = k * i.size)
    (hsrc : ∀ j v, cs[j]? = some v → w.cell? (a.add j) = some v) (hc : ∀ j, j < cs.length → (w.cell? ⟨b, o + j, none⟩).isSome = true) (hf : ∀ j, j < cs.length → w.frozen? ⟨b, o + j, none⟩ = false) (h1 : ∀ v ∈ cs, v.oneCell' = true) :
    (Builtin.copy_ #[dT, sT] ty #[.slice (some ⟨b, o, none⟩) dLen dCap, .slice (some a) sLen sCap]).run P w = .ok (goInt k) (w.setCells b o cs) := by
  have hl' := run_firstCells_some (P := P) (w := w) i.size k a sLen sCap cs hl hsrc
  have hst := run_storeCells_cells (P := P) b o cs 0 w (by simpa using hc) (by simpa using hf) h1
  simp [Builtin.copy_, run_underlying hu, Builtin.lenOf, sizeOf, typeInfo, hi, hn, hl', hst]
theorem zeroCells_size (z : Array Value) (k : Nat) : (Builtin.zeroCells z k).size = k * z.size := by
  simp [Builtin.zeroCells]
theorem ins_row {W : World} {g i n G : Nat} {e : TypeId} {cs vs R : List Value} (hcl : cs.length = n * 4) (hvl : vs.length = 4) (hi : i < n) (hR : R.length = G * 4) (hG : n + 1 ≤ G) (hRt : R.take (i * 4) = cs.take (i * 4)) (hA : Arr W g e R) :
    ∃ R', Arr ((W.setCells g (i * 4) vs).drew.setCells g ((i + 1) * 4) (cs.drop (i * 4))) g e R' ∧ R'.length = G * 4 ∧ R'.take ((n + 1) * 4) = cs.take (i * 4) ++ vs ++ cs.drop (i * 4) := by
  have hti : (cs.take (i * 4)).length = i * 4 := by rw [List.length_take]; omega
  have hdl : (cs.drop (i * 4)).length = (n - i) * 4 := by rw [List.length_drop, hcl]; omega
  have e1 : R = cs.take (i * 4) ++ ((R.drop (i * 4)).take 4 ++ R.drop (i * 4 + 4)) := by
    rw [← hRt, ← List.drop_drop, List.take_append_drop, List.take_append_drop]
  rw [e1] at hA
  have hA1 := Arr.setsMid vs _ (cs.take (i * 4)) _ _ hA (by rw [List.length_take, List.length_drop, hvl]; omega)
  rw [hti] at hA1
  have e2 : cs.take (i * 4) ++ (vs ++ R.drop (i * 4 + 4)) = (cs.take (i * 4) ++ vs) ++ ((R.drop (i * 4 + 4)).take ((n - i) * 4) ++ (R.drop (i * 4 + 4)).drop ((n - i) * 4)) := by
    rw [List.take_append_drop, List.append_assoc]
  rw [e2] at hA1
  have hA2 := Arr.setsMid (cs.drop (i * 4)) _ (cs.take (i * 4) ++ vs) _ _ hA1.drew (by rw [List.length_take, List.length_drop, List.length_drop, hcl, hR]; omega)
  rw [show (cs.take (i * 4) ++ vs).length = (i + 1) * 4 by rw [List.length_append, hti, hvl]; omega] at hA2
  refine ⟨_, hA2, ?_, ?_⟩
  · simp only [List.length_append, hti, hvl, hdl, List.length_drop, hR]; omega
  · rw [← List.append_assoc, List.take_append_of_le_length (by simp only [List.length_append, hti, hvl, hdl]; omega), List.take_of_length_le (by simp only [List.length_append, hti, hvl, hdl]; omega)]

theorem RwX.anew {α : Type} {S : Shp α} {e : TypeId} {w w' : World} {v' : Value} {N : Nat → Prop} (ps : Cel α) (h2 : Reads S w ps) (hN : ∀ p ∈ ps, ∀ b, N b → ¬ leads b p.2) (ho : w'.ownsRow w.heap.size e S.size v' ps.length (cls ps)) (hb : Below w.heap.size w w') : RwX S e w' w.heap.size v' (ps.map (·.1)) N :=
  ⟨ps, rfl, h2.below hb, by rw [List.length_map]; exact ho, fun p hp b hb' hl => by
    rcases hb' with e1 | e1
    · have h1 := (ho.lt b e1).1
      have h3 := S.live (h2 p hp) b hl
      omega
    · exact hN p hp b e1 hl⟩
theorem RwX.lower {α : Type} {S : Shp α} {e : TypeId} {w : World} {v : Value} {N : Nat → Prop} {base base' : Nat} {l : List α} (h : RwX S e w base v l N) (hb : base' ≤ base) : RwX S e w base' v l N := by
  obtain ⟨ps, h1, h2, h3, h4⟩ := h
  exact ⟨ps, h1, h2, own_lower h3 hb, h4⟩
end Go.Proofs.YtmjcoebfldmgnaaGreat
