/- The walk of ReachRoots. Conditions: the sizes. -/
import Derived.Test.YtpcpffkbbhmahaaGreatRch
import Derived.Test.YtpcpffkbbhmahaaGreatStore
namespace Go.Proofs.YtpcpffkbbhmahaaGreat
open Go.RowKit Go.Maps
set_option linter.unusedVariables false
set_option linter.unusedSimpArgs false
set_option maxRecDepth 100000

theorem mem_rtsE {s : StoP} {x : EntP} (hx : x ∈ s.ents) {q : PartP} (hq : q ∈ x.parts) : q.dig ∈ rts s :=
  List.mem_append.2 (.inl (List.mem_flatMap.2 ⟨x, hx, List.mem_map.2 ⟨q, hq, rfl⟩⟩))
theorem mem_rtsB {s : StoP} {b : BlobP} (hb : b ∈ s.blobs) (hp : 0 < b.pins) : b.dig ∈ rts s :=
  List.mem_append.2 (.inr (List.mem_map.2 ⟨b, List.mem_filter.2 ⟨hb, by simpa using hp⟩, rfl⟩))
end Go.Proofs.YtpcpffkbbhmahaaGreat
