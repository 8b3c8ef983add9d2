/- A Raw thing that came in, as a value. No condition. -/
import Derived.Test.YtjldpfijekpddaaGreatZ
namespace Go.Proofs.YtjldpfijekpddaaGreat
open Go.ChangeShapes Go.WideShapes Go.ChangeAt Go.RowKit
open Go.WideMaps Go.WideElems Go.Deep
set_option linter.unusedVariables false
set_option linter.unusedSimpArgs false
set_option maxRecDepth 100000
section
variable {H : Type} {enc : TypeId × Value → H}
theorem raw_cells {w : World} {n : Nat} {cs : List Value} {x : DataW H × List MemPlace} (hlen : cs.length = 4) (h : DataW.trod enc Tryz.prog w 0 (fun _ => true) true n 24 cs = some x) :
    ∃ r : RawP, cs = rcell r ∧ r.text.size ∈ x.1.weights Tryz.prog 24 ∧
      ((Lit.int .i64 r.kind).wf = true ∧ (Lit.int .i64 r.a).wf = true ∧ (Lit.int .i64 r.b).wf = true) := by
  obtain ⟨xs, m, _, hx, _, hxl, hf⟩ := DataW.trod_struct Tryz.underlying24 h
  match cs, hlen with
  | [c0, c1, c2, c3], _ =>
    match xs, hxl with
    | [y0, y1, y2, y3], _ =>
      have hci : Tryz.prog.cellsOf 3 = 1 := by kernel_rfl
      have hcs : Tryz.prog.cellsOf 9 = 1 := by kernel_rfl
      have h0 : DataW.trod enc Tryz.prog w 0 (fun _ => true) true m 3 (([c0, c1, c2, c3].drop 0).take (Tryz.prog.cellsOf 3)) = some y0 := hf 0 _ rfl
      have h1 : DataW.trod enc Tryz.prog w 0 (fun _ => true) true m 3 (([c0, c1, c2, c3].drop 1).take (Tryz.prog.cellsOf 3)) = some y1 := hf 1 _ rfl
      have h2 : DataW.trod enc Tryz.prog w 0 (fun _ => true) true m 3 (([c0, c1, c2, c3].drop 2).take (Tryz.prog.cellsOf 3)) = some y2 := hf 2 _ rfl
      have h3 : DataW.trod enc Tryz.prog w 0 (fun _ => true) true m 9 (([c0, c1, c2, c3].drop 3).take (Tryz.prog.cellsOf 9)) = some y3 := hf 3 _ rfl
      rw [hci] at h0 h1 h2
      rw [hcs] at h3
      obtain ⟨n0, e0, f0, g0⟩ := DataW.trod_int (k := .i64) Tryz.underlying3 h0
      obtain ⟨n1, e1, f1, g1⟩ := DataW.trod_int (k := .i64) Tryz.underlying3 h1
      obtain ⟨n2, e2, f2, g2⟩ := DataW.trod_int (k := .i64) Tryz.underlying3 h2
      obtain ⟨s3, e3, f3, g3⟩ := DataW.trod_string Tryz.underlying9 h3
      have e0' : c0 = .int .i64 n0 := by simpa using e0
      have e1' : c1 = .int .i64 n1 := by simpa using e1
      have e2' : c2 = .int .i64 n2 := by simpa using e2
      have e3' : c3 = .string s3 := by simpa using e3
      subst e0' e1' e2' e3'
      refine ⟨⟨n0, n1, n2, s3⟩, rfl, ?_, g0, g1, g2⟩
      rw [hx, f0, f1, f2, f3]
      show s3.size ∈ DataW.weights Tryz.prog 24 (.agg [_, _, _, _])
      rw [DataW.weights, Tryz.underlying24]
      simp [DataW.weightsEach, DataW.weights]


variable {w : World} {ts : List TypeId} {ds : List (DataW H)} {ps : List MemPlace} {r : Reach} {b0 : Nat}
theorem open_raw {v : Value} {d : DataW H} {j : Nat} (hval : Value.okWide Tryz.prog w r b0 24 v) (hd : DataW.Trod enc Tryz.prog w 0 (fun _ => true) true 24 v d ps)
    (hsz : (DataW.weightsEach Tryz.prog ts ds).all (· ≤ reachBytes) = true) (hj : ts[j]? = some 24) (hdj : ds[j]? = some d) :
    ∃ z : RawP, v = rval z ∧ RawOk z := by
  obtain ⟨cs, rfl, hcs⟩ := okWide_struct Tryz.underlying24 hval
  rw [show Tryz.prog.cellsOf 24 = 4 by kernel_rfl] at hcs
  obtain ⟨fuel, hf⟩ := hd
  have hf' : DataW.trod enc Tryz.prog w 0 (fun _ => true) true fuel 24 cs.toList = some (d, ps) := hf
  obtain ⟨z, hz, hw, hk, ha, hb⟩ := raw_cells (by rw [Array.length_toList]; exact hcs) hf'
  have hle := List.all_eq_true.1 hsz _ (DataW.weights_mem_each hj hdj _ hw)
  have hk' := wf_i64 hk
  have ha' := wf_i64 ha
  have hb' := wf_i64 hb
  refine ⟨z, ?_, ⟨hk'.1, hk'.2, ha'.1, ha'.2, hb'.1, hb'.2, by simpa [reachBytes] using of_decide_eq_true hle⟩⟩
  rw [rval, show cs = (rcell z).toArray by rw [← hz]]
  rfl
end
end Go.Proofs.YtjldpfijekpddaaGreat
