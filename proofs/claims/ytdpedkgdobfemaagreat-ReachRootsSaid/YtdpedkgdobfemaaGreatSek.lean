/- What is come to from digests: in plain words; sets of strings as maps; seek, From walked. Conditions: the sizes. -/
import Derived.Test.YtdpedkgdobfemaaGreatReach
import Derived.Test.YtdpedkgdobfemaaGreatBlP
import Derived.Maps.OwnSet
import Derived.Sort.KeysCollected
namespace Go.Proofs.YtdpedkgdobfemaaGreat
open Go.RowKit
set_option linter.unusedVariables false
set_option linter.unusedSimpArgs false

/-- the digests that a blob's manifest names -/
def kids (bl : List BlobP) (x : List UInt8) : List (List UInt8) :=
  match bl.findIdx? (fun b => b.dig == x) with
  | some i => match bl[i]? with
    | some b => (decL b.data).1.map (·.dig)
    | none => []
  | none => []
def InB (bl : List BlobP) (x : List UInt8) : Prop := ∃ b ∈ bl, b.dig = x
theorem inB_idx {bl : List BlobP} {x : List UInt8} : InB bl x ↔ (bl.findIdx? (fun b => b.dig == x)).isSome = true := by
  rw [List.findIdx?_isSome, List.any_eq_true]
  constructor
  · rintro ⟨b, hb, rfl⟩; exact ⟨b, hb, by simp⟩
  · rintro ⟨b, hb, h⟩; exact ⟨b, hb, by simpa using h⟩
/-- come to from digests -/
inductive Rch (bl : List BlobP) (ds : List (List UInt8)) : List UInt8 → Prop where
  | root {x} : x ∈ ds → InB bl x → Rch bl ds x
  | step {x y} : Rch bl ds x → y ∈ kids bl x → InB bl y → Rch bl ds y
theorem Rch.inB {bl : List BlobP} {ds : List (List UInt8)} {x : List UInt8} (h : Rch bl ds x) : InB bl x := by
  cases h <;> assumption
theorem Rch.mono {bl : List BlobP} {ds es : List (List UInt8)} {x : List UInt8} (h : Rch bl ds x) (hd : ∀ y ∈ ds, InB bl y → Rch bl es y) : Rch bl es x := by
  induction h with
  | root h1 h2 => exact hd _ h1 h2
  | step _ h2 h3 ih => exact .step ih h2 h3
/-- blobs not met yet -/
def unmet (bl : List BlobP) (M : List (List UInt8)) : Nat := (bl.filter fun b => !M.contains b.dig).length
theorem filter_le {α : Type} {p q : α → Bool} : ∀ (l : List α), (∀ x ∈ l, p x = true → q x = true) → (l.filter p).length ≤ (l.filter q).length
  | [], _ => Nat.le_refl _
  | x :: l, h => by
    have ih := filter_le l (fun y hy => h y (by simp [hy]))
    by_cases hp : p x = true
    · rw [List.filter_cons_of_pos hp, List.filter_cons_of_pos (h x (by simp) hp)]; simpa using ih
    · rw [List.filter_cons_of_neg hp]
      by_cases hq : q x = true
      · rw [List.filter_cons_of_pos hq]; simp only [List.length_cons]; omega
      · rw [List.filter_cons_of_neg hq]; exact ih
theorem filter_lt {α : Type} {p q : α → Bool} : ∀ (l : List α), (∀ x ∈ l, p x = true → q x = true) → (∃ x ∈ l, p x = false ∧ q x = true) → (l.filter p).length < (l.filter q).length
  | [], _, h => by obtain ⟨x, hx, _⟩ := h; cases hx
  | x :: l, h, h2 => by
    have hl := fun y hy => h y (List.mem_cons_of_mem x hy)
    by_cases hp : p x = true
    · rw [List.filter_cons_of_pos hp, List.filter_cons_of_pos (h x (by simp) hp)]
      obtain ⟨y, hy, h3, h4⟩ := h2
      rcases List.mem_cons.1 hy with rfl | hy
      · rw [hp] at h3; cases h3
      · have := filter_lt l hl ⟨y, hy, h3, h4⟩; simpa using this
    · rw [List.filter_cons_of_neg hp]
      by_cases hq : q x = true
      · rw [List.filter_cons_of_pos hq]; have := filter_le l hl; simp only [List.length_cons]; omega
      · rw [List.filter_cons_of_neg hq]
        obtain ⟨y, hy, h3, h4⟩ := h2
        rcases List.mem_cons.1 hy with rfl | hy
        · exact absurd h4 hq
        · exact filter_lt l hl ⟨y, hy, h3, h4⟩
theorem unmet_mono {bl : List BlobP} {M M' : List (List UInt8)} (h : ∀ x ∈ M, x ∈ M') : unmet bl M' ≤ unmet bl M := by
  refine filter_le _ fun b _ hb => ?_
  simp only [Bool.not_eq_true', List.contains_eq_mem, decide_eq_false_iff_not] at hb ⊢
  exact fun h2 => hb (h _ h2)
theorem unmet_lt {bl : List BlobP} {M : List (List UInt8)} {d : List UInt8} (hi : InB bl d) (hd : d ∉ M) : unmet bl (M ++ [d]) < unmet bl M := by
  obtain ⟨b, hb, rfl⟩ := hi
  refine filter_lt _ (fun x _ hx => ?_) ⟨b, hb, by simp, by simp [hd]⟩
  simp only [Bool.not_eq_true', List.contains_eq_mem, decide_eq_false_iff_not, List.mem_append, not_or] at hx ⊢
  exact hx.1
theorem unmet_nil (bl : List BlobP) : unmet bl [] ≤ bl.length := List.length_filter_le _ _
/-- what seek makes of what is met -/
structure SeekR (bl : List BlobP) (M ds M' : List (List UInt8)) : Prop where
  sub : ∀ x ∈ M, x ∈ M'
  hit : ∀ d ∈ ds, InB bl d → d ∈ M'
  come : ∀ x ∈ M', x ∈ M ∨ Rch bl ds x
  clo : ∀ x ∈ M', x ∉ M → ∀ y ∈ kids bl x, InB bl y → y ∈ M'
  len : M'.length + unmet bl M' ≤ M.length + unmet bl M
theorem SeekR.nil (bl : List BlobP) (M : List (List UInt8)) : SeekR bl M [] M := ⟨fun _ h => h, fun _ h => absurd h (by simp), fun _ h => .inl h, fun _ h h2 => absurd h h2, Nat.le_refl _⟩
theorem SeekR.none_ {bl : List BlobP} {M : List (List UInt8)} {d : List UInt8} (h : ¬ InB bl d) : SeekR bl M [d] M :=
  ⟨fun _ h => h, fun x h1 h2 => absurd h2 (by rw [List.mem_singleton.1 h1]; exact h), fun _ h => .inl h, fun _ h h2 => absurd h h2, Nat.le_refl _⟩
theorem SeekR.met {bl : List BlobP} {M : List (List UInt8)} {d : List UInt8} (h : d ∈ M) : SeekR bl M [d] M :=
  ⟨fun _ h => h, fun x h1 _ => by rw [List.mem_singleton.1 h1]; exact h, fun _ h => .inl h, fun _ h h2 => absurd h h2, Nat.le_refl _⟩
theorem SeekR.snoc {bl : List BlobP} {M M1 M2 ds : List (List UInt8)} {d : List UInt8} (h1 : SeekR bl M ds M1) (h2 : SeekR bl M1 [d] M2) : SeekR bl M (ds ++ [d]) M2 := by
  refine ⟨fun x h => h2.sub x (h1.sub x h), fun x h hi => ?_, fun x h => ?_, fun x h hn y hy hi => ?_, Nat.le_trans h2.len h1.len⟩
  · rcases List.mem_append.1 h with h | h
    · exact h2.sub x (h1.hit x h hi)
    · exact h2.hit x h hi
  · rcases h2.come x h with h3 | h3
    · rcases h1.come x h3 with h4 | h4
      · exact .inl h4
      · exact .inr (h4.mono fun y hy hi => .root (by simp [hy]) hi)
    · exact .inr (h3.mono fun y hy hi => .root (by simp [List.mem_singleton.1 hy]) hi)
  · by_cases h3 : x ∈ M1
    · exact h2.sub y (h1.clo x h3 hn y hy hi)
    · exact h2.clo x h h3 y hy hi
theorem SeekR.into {bl : List BlobP} {M M' : List (List UInt8)} {d : List UInt8} (hi : InB bl d) (hd : d ∉ M) (h : SeekR bl (M ++ [d]) (kids bl d) M') : SeekR bl M [d] M' := by
  have hroot : Rch bl [d] d := .root (by simp) hi
  have hdm : d ∈ M' := h.sub d (by simp)
  have hl := unmet_lt hi hd
  refine ⟨fun x hx => h.sub x (by simp [hx]), fun x hx _ => by rw [List.mem_singleton.1 hx]; exact hdm, fun x hx => ?_, fun x hx hn y hy hiy => ?_, by have := h.len; rw [List.length_append] at this; simp only [List.length_cons, List.length_nil] at this; omega⟩
  · rcases h.come x hx with h1 | h1
    · rcases List.mem_append.1 h1 with h1 | h1
      · exact .inl h1
      · exact .inr (by rw [List.mem_singleton.1 h1]; exact hroot)
    · exact .inr (h1.mono fun y hy hiy => .step hroot hy hiy)
  · by_cases hxd : x = d
    · subst hxd; exact h.hit y hy hiy
    · exact h.clo x hx (by simp [hn, hxd]) y hy hiy
/-- all that is met is what is come to -/
theorem SeekR.all {bl : List BlobP} {ds M' : List (List UInt8)} (h : SeekR bl [] ds M') (x : List UInt8) : x ∈ M' ↔ Rch bl ds x := by
  constructor
  · intro hx
    rcases h.come x hx with h1 | h1
    · cases h1
    · exact h1
  · intro hx
    induction hx with
    | root h1 h2 => exact h.hit _ h1 h2
    | step h1 h2 h3 ih => exact h.clo _ ih (by simp) _ h2 h3
end Go.Proofs.YtdpedkgdobfemaaGreat
/-! Sets of strings, as maps. No condition -/
namespace Go.Proofs.YtdpedkgdobfemaaGreat
open Go.RowKit Go.Maps
set_option linter.unusedVariables false
set_option linter.unusedSimpArgs false
set_option maxRecDepth 100000

def tt : DataW Unit := .lit (.bool true)
/-- block b is the set of these strings -/
def SetM (w : World) (b : Nat) (M : List (List UInt8)) : Prop := w.ownsMap Tryz.prog 9 (plainElem Tryz.prog 4) b M.length (setOf tt (M.map Lit.string))
theorem sKey : Keyed Tryz.prog 9 := string_keyed Tryz.underlying9
theorem key_str (d : List UInt8) (hd : d.length ≤ maxLen) : keyOf Tryz.prog 9 (.string ⟨d.toArray⟩) = some (.string d) := by
  simp [keyOf, Tryz.underlying9, mapKey, ByteArray.size, hd]
theorem keys_lit (M : List (List UInt8)) : ∀ x ∈ M.map Lit.string, WideAt.IsKeyLit x := by
  intro x hx; obtain ⟨s, _, rfl⟩ := List.mem_map.1 hx; trivial
theorem same_str (a b : List UInt8) : (Lit.string a).sameKey (.string b) = decide (a = b) := by
  by_cases h : a = b
  · subst h; simp [Lit.sameKey]
  · simp [Lit.sameKey, h]
theorem has_set (M : List (List UInt8)) (d : List UInt8) : has (setOf tt (M.map Lit.string)) (.string d) = decide (d ∈ M) := by
  rw [has_setOf _ _ _ (keys_lit M), List.any_map]
  by_cases h : d ∈ M
  · rw [decide_eq_true h, List.any_eq_true]; exact ⟨d, h, by simp [same_str]⟩
  · rw [decide_eq_false h, List.any_eq_false]; intro x hx
    simp only [Function.comp_def, same_str, decide_eq_true_eq]
    rintro rfl; exact h hx
theorem atKey_set (d : List UInt8) (z : DataW Unit) : ∀ (n : Nat) (M : List (List UInt8)), M.length = n → (setOf tt (M.map Lit.string)).atKey (.string d) z = if d ∈ M then tt else z
  | 0, M, h => by
    obtain rfl := List.eq_nil_of_length_eq_zero h
    rfl
  | n + 1, M, h => by
    obtain ⟨M0, x, rfl⟩ : ∃ M0 x, M = M0 ++ [x] := ⟨M.dropLast, M.getLast (by intro e; simp [e] at h), (List.dropLast_concat_getLast _).symm⟩
    have h0 : M0.length = n := by simpa using h
    rw [List.map_append, List.map_cons, List.map_nil, setOf_snoc]
    by_cases hx : d = x
    · subst hx
      rw [atKey_put_same (tidy_setOf _ _ (keys_lit M0)).isMap (show WideAt.IsKeyLit (.string d) from trivial), if_pos (by simp)]
    · rw [atKey_put_other (by intro e; injection e with e; exact hx e), atKey_set d z n M0 h0]
      by_cases hm : d ∈ M0
      · rw [if_pos hm, if_pos (by simp [hm])]
      · rw [if_neg hm, if_neg (by simp [hm, hx])]
theorem plainB (x : Bool) : plainElem (H := Unit) Tryz.prog 4 (.bool x) = some (.lit (.bool x), []) := plainElem_bool Tryz.underlying4 x
theorem plainB_inv {v : Value} {y : Bool} {ps : List MemPlace} (h : plainElem (H := Unit) Tryz.prog 4 v = some (.lit (.bool y), ps)) : v = .bool y := by
  unfold plainElem at h
  cases v <;> simp [Tryz.underlying4] at h
  all_goals first | (obtain ⟨rfl, _⟩ := h; rfl) | simp_all
theorem SetM.look {w : World} {b : Nat} {M : List (List UInt8)} (h : SetM w b M) (d : List UInt8) (hd : d.length ≤ maxLen) :
    (Instr.lookup 82 (.map (some b)) (.string ⟨d.toArray⟩) false).run Tryz.prog w = .ok (.bool (decide (d ∈ M))) w := by
  obtain ⟨v, ps, hrun, hv⟩ := World.ownsMap.lookup h sKey Tryz.underlying82 (z := .bool false) (by rfl) (plainB false) (key_str d hd)
  rw [atKey_set d _ _ M rfl] at hv
  rw [hrun]
  by_cases hm : d ∈ M
  · rw [if_pos hm] at hv
    rw [decide_eq_true hm, plainB_inv hv]
  · rw [if_neg hm] at hv
    rw [decide_eq_false hm, plainB_inv hv]
theorem SetM.put {w : World} {b : Nat} {M : List (List UInt8)} (h : SetM w b M) (d : List UInt8) (hd : d.length ≤ maxLen) (hn : M.length < maxLen) :
    ∃ w', (Instr.mapUpdate 82 (.map (some b)) (.string ⟨d.toArray⟩) (.bool true)).run Tryz.prog w = .ok () w' ∧ SetM w' b (M ++ [d]) ∧ w.grownBy w' (some b) := by
  obtain ⟨w', hrun, h1, h2⟩ := World.ownsMap.update h sKey Tryz.underlying82 hn (key_str d hd) (plainB true)
  refine ⟨w', hrun, ?_, h2⟩
  unfold SetM
  rw [List.map_append, List.map_cons, List.map_nil, setOf_snoc, List.length_append]
  exact h1
theorem SetM.made (w : World) : SetM (w.alloc (.map #[] 0)) w.heap.size [] := World.ownsMap_made w _ _ _
theorem SetM.lt {w : World} {b : Nat} {M : List (List UInt8)} (h : SetM w b M) : b < w.heap.size := World.ownsMap.lt h
theorem SetM.kept {w w' : World} {b : Nat} {row : Option Nat} {M : List (List UInt8)} (h : SetM w b M) (hg : w.grownBy w' row) (hne : some b ≠ row) : SetM w' b M := World.ownsMap.kept h hg hne
theorem SetM.below {w w' : World} {b : Nat} {M : List (List UInt8)} (h : SetM w b M) (hb : Below w.heap.size w w') : SetM w' b M := h.kept ⟨hb.os, hb.tape, hb.output, hb.size, fun k hk _ => hb.block k hk⟩ (row := none) (by simp)
/-- sorted, each once -/
structure StrL (L : List (List UInt8)) (p : List UInt8 → Prop) : Prop where
  nd : L.Nodup
  le : L.Pairwise (fun x y => leB x y = true)
  mem : ∀ x, x ∈ L ↔ p x
theorem StrL.uniq {L L' : List (List UInt8)} {p : List UInt8 → Prop} (h : StrL L p) (h' : StrL L' p) : L = L' := by
  have hp : L.Perm L' := (List.perm_ext_iff_of_nodup h.nd h'.nd).2 fun x => by rw [h.mem, h'.mem]
  refine List.Perm.eq_of_pairwise (le := fun a b => leB a b = true) (fun a b _ _ h1 h2 => ?_) h.le h'.le hp
  simp only [leB, decide_eq_true_eq] at h1 h2
  exact List.le_antisymm h1 h2
def nub : List (List UInt8) → List (List UInt8)
  | [] => []
  | x :: l => if x ∈ l then nub l else x :: nub l
theorem mem_nub (x : List UInt8) : ∀ l, x ∈ nub l ↔ x ∈ l
  | [] => Iff.rfl
  | y :: l => by
    rw [nub]
    split
    · rename_i h
      rw [mem_nub x l, List.mem_cons]
      exact ⟨.inr, fun h2 => h2.elim (fun e => e ▸ h) id⟩
    · rw [List.mem_cons, mem_nub x l, List.mem_cons]
theorem nub_nd : ∀ l, (nub l).Nodup
  | [] => List.nodup_nil
  | y :: l => by
    rw [nub]
    split
    · exact nub_nd l
    · rename_i h
      exact List.nodup_cons.2 ⟨fun h2 => h ((mem_nub y l).1 h2), nub_nd l⟩
theorem keys_perm {w : World} {b : Nat} {M ss : List (List UInt8)} (hs : SetM w b M) (h : ss.Perm (strKeys (setOf tt (M.map Lit.string)))) : StrL (ss.mergeSort leB) (fun x => x ∈ M) := by
  obtain ⟨es, he, hp⟩ := tidy_setOf tt (M.map Lit.string) (keys_lit M)
  obtain ⟨es', he', hk'⟩ := World.ownsMap.keysOf hs
  have e1 : es = es' := by rw [he] at he'; injection he'
  subst e1
  have hk : ∀ p ∈ es, ∃ x, p.1 = .string x := fun p hp' => by
    obtain ⟨v, hv⟩ := hk' p hp'
    obtain ⟨x, _, e, _⟩ := Maps.keyOf_str Tryz.underlying9 hv
    exact ⟨x, e⟩
  have h1 := perm_strKeys hp hk (nub_nd M) (fun x => by rw [mem_nub, ← he, has_set]; simp)
  rw [he] at h
  have h2 := h.trans h1.symm
  have h3 := (List.mergeSort_perm ss leB).trans h2
  have tr : ∀ a b c : List UInt8, leB a b = true → leB b c = true → leB a c = true := fun a b c h1 h2 => by simp only [leB, decide_eq_true_eq] at *; exact List.le_trans h1 h2
  have to : ∀ a b : List UInt8, (leB a b || leB b a) = true := fun a b => by simp only [leB, Bool.or_eq_true, decide_eq_true_eq]; exact List.le_total a b
  exact ⟨h3.nodup_iff.2 (nub_nd M), List.pairwise_mergeSort tr to ss, fun x => by rw [h3.mem_iff, mem_nub]⟩
end Go.Proofs.YtdpedkgdobfemaaGreat
