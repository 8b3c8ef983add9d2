/- keep.small, kept. No condition. -/
import Derived.Test.YtpcpffkbbhmahaaGreatSmS
import Derived.Test.YtpcpffkbbhmahaaGreatSWh
import Derived.Test.YtpcpffkbbhmahaaGreatStore
import Derived.Test.YtpcpffkbbhmahaaGreatMan
namespace Go.Proofs.YtpcpffkbbhmahaaGreat
open Go.RowKit
set_option linter.unusedVariables false
set_option linter.unusedSimpArgs false
set_option maxRecDepth 100000

/-- small: of two bytes' rows, and a key -/
def smlOf (A M K : List UInt8) : StoP := ⟨srt (·.dig) [⟨shaS A, A, 0, false⟩, ⟨shaS M, M, 0, false⟩], [⟨K, [⟨[109], shaS M, M.length⟩], 0, 1⟩], 200, 1⟩
theorem sml_ne {A M : List UInt8} (hA : A = [97, 98, 99]) (hM : M = enc [⟨[120], shaS A, 3⟩]) : shaS A ≠ shaS M := by
  subst hA; subst hM; decide +kernel
theorem sml_len {A M : List UInt8} (hA : A = [97, 98, 99]) (hM : M = enc [⟨[120], shaS A, 3⟩]) : M.length = 39 := by
  subst hA; subst hM; decide +kernel
theorem sml_perm (A M K : List UInt8) : (smlOf A M K).blobs.Perm [⟨shaS A, A, 0, false⟩, ⟨shaS M, M, 0, false⟩] := srt_perm _ _
theorem sml_good {A M K : List UInt8} (hA : A.length = 3) (hM : M.length = 39) (hne : shaS A ≠ shaS M) (hK : hexC K = 0) : GoodS (smlOf A M K) := by
  have hm : ∀ b ∈ (smlOf A M K).blobs, b = ⟨shaS A, A, 0, false⟩ ∨ b = ⟨shaS M, M, 0, false⟩ := fun b hb => by simpa using (sml_perm A M K).mem_iff.1 hb
  have h1 := hexC_sha A
  have h2 := hexC_sha M
  refine ⟨⟨by rw [(sml_perm A M K).length_eq]; show 2 ≤ 24; omega, fun b hb => ?_, srt_rises ?_⟩, ⟨by show 1 ≤ 10; omega, fun x hx => ?_, List.pairwise_singleton _ _⟩, by show 200 ≤ 4000; omega, ?_, by show 1 ≤ 1099511627776; omega, fun x hx => ?_⟩
  · rcases hm b hb with rfl | rfl
    · exact ⟨rfl, by show A.length ≤ 300; omega, by show 0 ≤ 5; omega⟩
    · exact ⟨rfl, by show M.length ≤ 300; omega, by show 0 ≤ 5; omega⟩
  · show [shaS A, shaS M].Nodup
    rw [List.nodup_cons]
    exact ⟨by simp [hne], by simp⟩
  · obtain rfl := List.mem_singleton.1 hx
    refine ⟨hK, ?_, by show 0 ≤ 5; omega, by show 1 ≤ 1099511627776; omega⟩
    show chk [⟨[109], shaS M, M.length⟩] = 0
    rw [chk, if_neg (by show ¬ 1 > 8; omega), chkGo_step (show nameC [109] = 0 by decide) (fun m hm => by cases hm) h2 (by show M.length ≤ 300; omega)]
    rfl
  · show usd (smlOf A M K).blobs ≤ 200
    rw [usd_perm (sml_perm A M K)]
    show A.length + (M.length + 0) ≤ 200
    omega
  · obtain rfl := List.mem_singleton.1 hx
    refine ⟨Nat.le_refl _, fun p hp => ?_⟩
    obtain rfl := List.mem_singleton.1 hp
    exact ⟨⟨shaS M, M, 0, false⟩, (sml_perm A M K).mem_iff.2 (by simp), rfl, rfl⟩
theorem RwX.sets4 {α : Type} {S : Shp α} {w : World} {e : TypeId} {base g : Nat} {v : Value} {l : List α} {N : Nat → Prop} (h : RwX S e w base v l N) (hN : N g) (hv : v.ownBlock ≠ some g) (a b c d : Value) :
    RwX S e ((((w.setCell ⟨g, 0, none⟩ a).setCell ⟨g, 1, none⟩ b).setCell ⟨g, 2, none⟩ c).setCell ⟨g, 3, none⟩ d) base v l N := by
  have e1 : ∀ x, some g = some x → v.ownBlock ≠ some x := fun x e => by rw [← e]; exact hv
  have e2 : ∀ x, some g = some x → N x := fun x e => by cases e; exact hN
  exact (((h.other (grown_set _ g 0 a) e1 e2).other (grown_set _ g 1 b) e1 e2).other (grown_set _ g 2 c) e1 e2).other (grown_set _ g 3 d) e1 e2
end Go.Proofs.YtpcpffkbbhmahaaGreat
