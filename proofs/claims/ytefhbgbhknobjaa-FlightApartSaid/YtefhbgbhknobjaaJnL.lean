/- A look-up in a map whose keys are strings answers alike in every world that has that map. No condition. -/
import Derived.Test.YtefhbgbhknobjaaJnP
namespace Go.Proofs.Ytefhbgbhknobjaa
open Go.RowKit Go.Maps Go.WideMaps
set_option linter.unusedVariables false
set_option linter.unusedSimpArgs false

section
variable {P : Program} {t k E e : TypeId} {q : IntKind} {w : World} {base b n : Nat} {D : DataW Unit}
theorem findNow_str (s : ByteArray) : ∀ (es : List MapEntry) (i : Nat), (∀ x ∈ es, ∃ s' : ByteArray, x.key = .string s') → ∃ r, Instr.findNow .string (.string s) es i = some r
  | [], i, _ => ⟨none, rfl⟩
  | x :: es, i, h => by
    obtain ⟨s', hs'⟩ := h x (by simp)
    obtain ⟨r, hr⟩ := findNow_str s es (i + 1) fun y hy => h y (by simp [hy])
    rw [Instr.findNow, hs', Instr.sameNow]
    cases s == s'
    · exact ⟨r, hr⟩
    · exact ⟨_, rfl⟩
theorem look_any (hk : P.underlying k = some .string) (K : Keyed P k) (ht : P.underlying t = some (.map k E)) {z : Value} (hz : ∀ W, (zeroValue E).run P W = .ok z W) (h : w.ownsGroups P k base e q b n D) {key : Value} {kl : Lit} (hkey : keyOf P k key = some kl) :
    ∃ v, ∀ W : World, W.heap[b]? = w.heap[b]? → (Instr.lookup t (.map (some b)) key false).run P W = .ok v W := by
  obtain ⟨es, clock, hb, F, _⟩ := h
  obtain ⟨s, rfl, _, _⟩ := string_of_keyOf hk hkey
  have hstr : ∀ x ∈ es.toList, ∃ s' : ByteArray, x.key = .string s' := fun x hx => by
    obtain ⟨y, hy⟩ := F.reads x hx
    obtain ⟨s', h1, _⟩ := string_of_keyOf hk (Go.WideElems.rd_key hy)
    exact ⟨s', h1⟩
  obtain ⟨r, hr⟩ := findNow_str s es.toList 0 hstr
  have hf : ∀ W, (Instr.findKey k (.string s) es.toList).run P W = .ok r W := fun W => by
    simp [Instr.findKey, run_underlying hk, hr, Result.andThen]
  refine ⟨match r with | none => z | some p => p.2, fun W hW => ?_⟩
  rw [hb] at hW
  cases r with
  | none => simp [Instr.lookup, run_underlying ht, MapKept.run_getObj_map hW, K.check W _ hkey, hf W, hz W, Result.andThen]
  | some p => simp [Instr.lookup, run_underlying ht, MapKept.run_getObj_map hW, K.check W _ hkey, hf W, Result.andThen]
/-- the look-up, in whatever world has the map; its slice among the elder blocks -/
theorem groups_look (hk : P.underlying k = some .string) (K : Keyed P k) (ht : P.underlying t = some (.map k E)) (hz : ∀ W, (zeroValue E).run P W = .ok (.slice none 0 0) W) (h : w.ownsGroups P k base e q b n D) (hn : n < maxLen) {key : Value} {kl : Lit} (hkey : keyOf P k key = some kl) :
    ∃ v zs, (∀ W : World, W.heap[b]? = w.heap[b]? → (Instr.lookup t (.map (some b)) key false).run P W = .ok v W) ∧ D.atKey kl .nil = rowDatum q v zs ∧ w.ownsInts base e q v zs ∧ zs.length ≤ n := by
  obtain ⟨v, hv⟩ := look_any hk K ht hz h hkey
  obtain ⟨v', zs, h1, h2, h3, h4, _⟩ := groups_at h (Below.refl _ _) K ht (hz w) hn hkey
  have := (hv w rfl).symm.trans h1
  injection this with e1
  subst e1
  exact ⟨v, zs, hv, h2, h3, h4⟩
theorem groups_lt (h : w.ownsGroups P k base e q b n D) : b < w.heap.size := by
  obtain ⟨es, clock, hb, _⟩ := h
  exact (Array.getElem?_eq_some_iff.1 hb).1
end
end Go.Proofs.Ytefhbgbhknobjaa
