/-
  No cell of these rows narrows 'for every input' (looked for: loops, veiled, ifaces, maps, wideKeys, modest, calm, conditions, laid).
  DERIVED. THE GIVEN ROWS OF THIS SEAT. 11 by the template 'for every input the law returns true; each argument reads behind the call as it read before'; 0 by the template 'total and deterministic' (their statements: YtlejpmbofbghfaaTotals.lean).
  GIVEN WITH THE SEED: the statements are not yours to turn. If you find one false, say at which input.
  Laid BY PROGRAM, IN A SANDBOX (cutbox-rows.mjs): the forced cells as the released guide's own fill.sh prints them over the translation 37fa54cc4dd94d8f… (all of the seat's roots in one cut). By AI agents, Wed Nov 11 2026. No macro, syntax, notation, axiom, sorry.
-/
import Derived.Test.YtlejpmbofbghfaaChecked
import GoSem.Claim
import GoSem.ClaimJoined
import GoSem.ClaimMapViews
import Derived.JoinedTies
import Derived.KernelRfl
namespace Go.Proofs.Ytlejpmbofbghfaa
/- THE CELL 'sum', in the pinned program and in every row, IS THE sha256 OF THE DUMP (.gsa) THAT YtlejpmbofbghfaaProg.lean LOADS. Nothing in Lean hashes anything: it is a label: what it is worth is what the hold of that sum in a sandbox is worth. -/
noncomputable def Try.pinned : Pinned := { name := "ytlejpmbofbghfaa", sum := "37fa54cc4dd94d8f488520a7d545a346d3a1d51fdc4248242e4817d3158e44c8", checked := Try.checked }
namespace Rows
def none {H : Type} : Left H := { results := [], args := [] }

/-- 'appleloftkeep.BlobTrue': WHATEVER THE INPUT: true; the input reads as it did. -/
def blobTrueSpec : ChangeSpec := { name := "blobTrue", fn := fun _ => fun
  | [d1, d2] => { results := [.lit (.bool true)], args := [d1, d2] }
  | _ => none }
def blobTrueRow : OpenClaim := { program := "ytlejpmbofbghfaa", sum := "37fa54cc4dd94d8f488520a7d545a346d3a1d51fdc4248242e4817d3158e44c8", func := "appleloft/appleloftkeep.BlobTrue", spec := "blobTrue", inPlace := ["internal/bytealg.IndexByteString", "internal/abi.NoEscape"], apart := false }
def BlobTrueSaid : Prop := blobTrueRow.holds Try.pinned (OpenSpec.ofChange blobTrueSpec)

/-- ITS FALSE NEIGHBOUR: 'it returns false'. Refute it at one input. -/
def blobTrueWrong : ChangeSpec := { name := "blobTrue", fn := fun _ => fun
  | [d1, d2] => { results := [.lit (.bool false)], args := [d1, d2] }
  | _ => none }
def BlobTrueWrongFalsely : Prop := blobTrueRow.holds Try.pinned (OpenSpec.ofChange blobTrueWrong)

/-- 'appleloftkeep.ReachListed': WHATEVER THE INPUT: true; the input reads as it did. -/
def reachListedSpec : ChangeSpec := { name := "reachListed", fn := fun _ => fun
  | [d1, d2] => { results := [.lit (.bool true)], args := [d1, d2] }
  | _ => none }
def reachListedRow : OpenClaim := { program := "ytlejpmbofbghfaa", sum := "37fa54cc4dd94d8f488520a7d545a346d3a1d51fdc4248242e4817d3158e44c8", func := "appleloft/appleloftkeep.ReachListed", spec := "reachListed", inPlace := ["internal/bytealg.IndexByteString", "internal/abi.NoEscape"], apart := false }
def ReachListedSaid : Prop := reachListedRow.holds Try.pinned (OpenSpec.ofChange reachListedSpec)

/-- ITS FALSE NEIGHBOUR: 'it returns false'. Refute it at one input. -/
def reachListedWrong : ChangeSpec := { name := "reachListed", fn := fun _ => fun
  | [d1, d2] => { results := [.lit (.bool false)], args := [d1, d2] }
  | _ => none }
def ReachListedWrongFalsely : Prop := reachListedRow.holds Try.pinned (OpenSpec.ofChange reachListedWrong)

/-- 'appleloftkeep.ManifestTorn': WHATEVER THE INPUT: true; the input reads as it did. -/
def manifestTornSpec : ChangeSpec := { name := "manifestTorn", fn := fun _ => fun
  | [d1, d2, d3] => { results := [.lit (.bool true)], args := [d1, d2, d3] }
  | _ => none }
def manifestTornRow : OpenClaim := { program := "ytlejpmbofbghfaa", sum := "37fa54cc4dd94d8f488520a7d545a346d3a1d51fdc4248242e4817d3158e44c8", func := "appleloft/appleloftkeep.ManifestTorn", spec := "manifestTorn", inPlace := ["internal/bytealg.IndexByteString", "internal/abi.NoEscape"], unfollowed := true, recurses := true, apart := false }
def ManifestTornSaid : Prop := manifestTornRow.holds Try.pinned (OpenSpec.ofChange manifestTornSpec)

/-- ITS FALSE NEIGHBOUR: 'it returns false'. Refute it at one input. -/
def manifestTornWrong : ChangeSpec := { name := "manifestTorn", fn := fun _ => fun
  | [d1, d2, d3] => { results := [.lit (.bool false)], args := [d1, d2, d3] }
  | _ => none }
def ManifestTornWrongFalsely : Prop := manifestTornRow.holds Try.pinned (OpenSpec.ofChange manifestTornWrong)

/-- 'appleloftkeep.ManifestBack': WHATEVER THE INPUT: true; the input reads as it did. -/
def manifestBackSpec : ChangeSpec := { name := "manifestBack", fn := fun _ => fun
  | [d] => { results := [.lit (.bool true)], args := [d] }
  | _ => none }
def manifestBackRow : OpenClaim := { program := "ytlejpmbofbghfaa", sum := "37fa54cc4dd94d8f488520a7d545a346d3a1d51fdc4248242e4817d3158e44c8", func := "appleloft/appleloftkeep.ManifestBack", spec := "manifestBack", inPlace := ["internal/bytealg.IndexByteString", "internal/abi.NoEscape"], unfollowed := true, recurses := true, apart := false }
def ManifestBackSaid : Prop := manifestBackRow.holds Try.pinned (OpenSpec.ofChange manifestBackSpec)

/-- ITS FALSE NEIGHBOUR: 'it returns false'. Refute it at one input. -/
def manifestBackWrong : ChangeSpec := { name := "manifestBack", fn := fun _ => fun
  | [d] => { results := [.lit (.bool false)], args := [d] }
  | _ => none }
def ManifestBackWrongFalsely : Prop := manifestBackRow.holds Try.pinned (OpenSpec.ofChange manifestBackWrong)

/-- 'appleloftkeep.ManifestTurns': WHATEVER THE INPUT: true; the input reads as it did. -/
def manifestTurnsSpec : ChangeSpec := { name := "manifestTurns", fn := fun _ => fun
  | [d1, d2, d3] => { results := [.lit (.bool true)], args := [d1, d2, d3] }
  | _ => none }
def manifestTurnsRow : OpenClaim := { program := "ytlejpmbofbghfaa", sum := "37fa54cc4dd94d8f488520a7d545a346d3a1d51fdc4248242e4817d3158e44c8", func := "appleloft/appleloftkeep.ManifestTurns", spec := "manifestTurns", inPlace := ["internal/bytealg.IndexByteString", "internal/abi.NoEscape"], unfollowed := true, recurses := true, apart := false }
def ManifestTurnsSaid : Prop := manifestTurnsRow.holds Try.pinned (OpenSpec.ofChange manifestTurnsSpec)

/-- ITS FALSE NEIGHBOUR: 'it returns false'. Refute it at one input. -/
def manifestTurnsWrong : ChangeSpec := { name := "manifestTurns", fn := fun _ => fun
  | [d1, d2, d3] => { results := [.lit (.bool false)], args := [d1, d2, d3] }
  | _ => none }
def ManifestTurnsWrongFalsely : Prop := manifestTurnsRow.holds Try.pinned (OpenSpec.ofChange manifestTurnsWrong)

/-- 'appleloftkeep.OrderTorn': WHATEVER THE INPUT: true; the input reads as it did. -/
def orderTornSpec : ChangeSpec := { name := "orderTorn", fn := fun _ => fun
  | [d1, d2, d3] => { results := [.lit (.bool true)], args := [d1, d2, d3] }
  | _ => none }
def orderTornRow : OpenClaim := { program := "ytlejpmbofbghfaa", sum := "37fa54cc4dd94d8f488520a7d545a346d3a1d51fdc4248242e4817d3158e44c8", func := "appleloft/appleloftkeep.OrderTorn", spec := "orderTorn", inPlace := ["internal/bytealg.IndexByteString", "internal/abi.NoEscape"], unfollowed := true, recurses := true, apart := false }
def OrderTornSaid : Prop := orderTornRow.holds Try.pinned (OpenSpec.ofChange orderTornSpec)

/-- ITS FALSE NEIGHBOUR: 'it returns false'. Refute it at one input. -/
def orderTornWrong : ChangeSpec := { name := "orderTorn", fn := fun _ => fun
  | [d1, d2, d3] => { results := [.lit (.bool false)], args := [d1, d2, d3] }
  | _ => none }
def OrderTornWrongFalsely : Prop := orderTornRow.holds Try.pinned (OpenSpec.ofChange orderTornWrong)

/-- 'appleloftkeep.OrderTurns': WHATEVER THE INPUT: true; the input reads as it did. -/
def orderTurnsSpec : ChangeSpec := { name := "orderTurns", fn := fun _ => fun
  | [d1, d2, d3] => { results := [.lit (.bool true)], args := [d1, d2, d3] }
  | _ => none }
def orderTurnsRow : OpenClaim := { program := "ytlejpmbofbghfaa", sum := "37fa54cc4dd94d8f488520a7d545a346d3a1d51fdc4248242e4817d3158e44c8", func := "appleloft/appleloftkeep.OrderTurns", spec := "orderTurns", inPlace := ["internal/bytealg.IndexByteString", "internal/abi.NoEscape"], unfollowed := true, recurses := true, apart := false }
def OrderTurnsSaid : Prop := orderTurnsRow.holds Try.pinned (OpenSpec.ofChange orderTurnsSpec)

/-- ITS FALSE NEIGHBOUR: 'it returns false'. Refute it at one input. -/
def orderTurnsWrong : ChangeSpec := { name := "orderTurns", fn := fun _ => fun
  | [d1, d2, d3] => { results := [.lit (.bool false)], args := [d1, d2, d3] }
  | _ => none }
def OrderTurnsWrongFalsely : Prop := orderTurnsRow.holds Try.pinned (OpenSpec.ofChange orderTurnsWrong)

/-- 'appleloftkeep.OrderBack': WHATEVER THE INPUT: true; the input reads as it did. -/
def orderBackSpec : ChangeSpec := { name := "orderBack", fn := fun _ => fun
  | [d] => { results := [.lit (.bool true)], args := [d] }
  | _ => none }
def orderBackRow : OpenClaim := { program := "ytlejpmbofbghfaa", sum := "37fa54cc4dd94d8f488520a7d545a346d3a1d51fdc4248242e4817d3158e44c8", func := "appleloft/appleloftkeep.OrderBack", spec := "orderBack", inPlace := ["internal/bytealg.IndexByteString", "internal/abi.NoEscape"], unfollowed := true, recurses := true, apart := false }
def OrderBackSaid : Prop := orderBackRow.holds Try.pinned (OpenSpec.ofChange orderBackSpec)

/-- ITS FALSE NEIGHBOUR: 'it returns false'. Refute it at one input. -/
def orderBackWrong : ChangeSpec := { name := "orderBack", fn := fun _ => fun
  | [d] => { results := [.lit (.bool false)], args := [d] }
  | _ => none }
def OrderBackWrongFalsely : Prop := orderBackRow.holds Try.pinned (OpenSpec.ofChange orderBackWrong)

/-- 'appleloftkeep.SweepRises': WHATEVER THE INPUT: true; the input reads as it did. -/
def sweepRisesSpec : ChangeSpec := { name := "sweepRises", fn := fun _ => fun
  | [d] => { results := [.lit (.bool true)], args := [d] }
  | _ => none }
def sweepRisesRow : OpenClaim := { program := "ytlejpmbofbghfaa", sum := "37fa54cc4dd94d8f488520a7d545a346d3a1d51fdc4248242e4817d3158e44c8", func := "appleloft/appleloftkeep.SweepRises", spec := "sweepRises", inPlace := ["internal/bytealg.IndexByteString", "internal/bytealg.abigen_runtime_cmpstring"], unfollowed := true, recurses := true, apart := false }
def SweepRisesSaid : Prop := sweepRisesRow.holds Try.pinned (OpenSpec.ofChange sweepRisesSpec)

/-- ITS FALSE NEIGHBOUR: 'it returns false'. Refute it at one input. -/
def sweepRisesWrong : ChangeSpec := { name := "sweepRises", fn := fun _ => fun
  | [d] => { results := [.lit (.bool false)], args := [d] }
  | _ => none }
def SweepRisesWrongFalsely : Prop := sweepRisesRow.holds Try.pinned (OpenSpec.ofChange sweepRisesWrong)

/-- 'appleloftkeep.IndexOldest': WHATEVER THE INPUT: true; the input reads as it did. -/
def indexOldestSpec : ChangeSpec := { name := "indexOldest", fn := fun _ => fun
  | [d] => { results := [.lit (.bool true)], args := [d] }
  | _ => none }
def indexOldestRow : OpenClaim := { program := "ytlejpmbofbghfaa", sum := "37fa54cc4dd94d8f488520a7d545a346d3a1d51fdc4248242e4817d3158e44c8", func := "appleloft/appleloftkeep.IndexOldest", spec := "indexOldest", inPlace := ["internal/bytealg.IndexByteString", "internal/bytealg.abigen_runtime_cmpstring"], unfollowed := true, recurses := true, apart := false }
def IndexOldestSaid : Prop := indexOldestRow.holds Try.pinned (OpenSpec.ofChange indexOldestSpec)

/-- ITS FALSE NEIGHBOUR: 'it returns false'. Refute it at one input. -/
def indexOldestWrong : ChangeSpec := { name := "indexOldest", fn := fun _ => fun
  | [d] => { results := [.lit (.bool false)], args := [d] }
  | _ => none }
def IndexOldestWrongFalsely : Prop := indexOldestRow.holds Try.pinned (OpenSpec.ofChange indexOldestWrong)

/-- 'appleloftkeep.RoomMore': WHATEVER THE INPUT: true; the input reads as it did. -/
def roomMoreSpec : ChangeSpec := { name := "roomMore", fn := fun _ => fun
  | [d1, d2, d3] => { results := [.lit (.bool true)], args := [d1, d2, d3] }
  | _ => none }
def roomMoreRow : OpenClaim := { program := "ytlejpmbofbghfaa", sum := "37fa54cc4dd94d8f488520a7d545a346d3a1d51fdc4248242e4817d3158e44c8", func := "appleloft/appleloftkeep.RoomMore", spec := "roomMore", inPlace := ["internal/bytealg.IndexByteString", "internal/bytealg.abigen_runtime_cmpstring"], unfollowed := true, recurses := true, apart := false }
def RoomMoreSaid : Prop := roomMoreRow.holds Try.pinned (OpenSpec.ofChange roomMoreSpec)

/-- ITS FALSE NEIGHBOUR: 'it returns false'. Refute it at one input. -/
def roomMoreWrong : ChangeSpec := { name := "roomMore", fn := fun _ => fun
  | [d1, d2, d3] => { results := [.lit (.bool false)], args := [d1, d2, d3] }
  | _ => none }
def RoomMoreWrongFalsely : Prop := roomMoreRow.holds Try.pinned (OpenSpec.ofChange roomMoreWrong)

/- THE SECOND FORM. 'bulk': how many values and letters a reading holds, each counted each time it is reached (what is shared counts as often as it is met; a slice's spare places count too). A statement '..UptoSaid' is the law's where the arguments, and the package variables that the reading takes, are together of bulk at most 1048576: NARROWER than '..Said'. Prove '..Said' where nothing that the law and all that it calls make is longer than what came in: it says more and counts as full. Else prove '..UptoSaid'. A law counts once. -/
mutual
def uptoBulk {H : Type} : DataW H → Nat
  | .lit (.string bytes) => bytes.length + 1
  | .lit _ => 1
  | .nil => 1
  | .ptr d => uptoBulk d + 1
  | .slice elems spare => uptoBulkAll elems + uptoBulkAll spare + 1
  | .agg parts => uptoBulkAll parts + 1
  | .iface _ d => uptoBulk d + 1
  | .map entries => uptoBulkEntries entries + 1
  | .held _ => 1
def uptoBulkAll {H : Type} : List (DataW H) → Nat
  | [] => 0
  | d :: r => uptoBulk d + uptoBulkAll r
def uptoBulkEntries {H : Type} : List (Lit × DataW H) → Nat
  | [] => 0
  | x :: r => uptoBulkEntry x + uptoBulkEntries r
def uptoBulkEntry {H : Type} : Lit × DataW H → Nat
  | (.string bytes, d) => bytes.length + uptoBulk d + 1
  | (_, d) => uptoBulk d + 1
 end
def uptoSmall : (H : Type) → List (DataW H) → Bool := fun _ ds => decide (uptoBulkAll ds ≤ 1048576)
def OpenSpec.upto (s : _root_.Go.ChangeSpec) : _root_.Go.OpenSpec := { _root_.Go.OpenSpec.ofChange s with cond := some uptoSmall }

/-- 'appleloftkeep.BlobTrue', WHERE WHAT IT READS IS OF BULK AT MOST 1048576: true; the input reads as it did. -/
def blobTrueUptoRow : OpenClaim := { program := "ytlejpmbofbghfaa", sum := "37fa54cc4dd94d8f488520a7d545a346d3a1d51fdc4248242e4817d3158e44c8", func := "appleloft/appleloftkeep.BlobTrue", spec := "blobTrue", inPlace := ["internal/bytealg.IndexByteString", "internal/abi.NoEscape"], apart := false, narrowed := true }
def BlobTrueUptoSaid : Prop := blobTrueUptoRow.holds Try.pinned (OpenSpec.upto blobTrueSpec)

/-- 'appleloftkeep.ReachListed', WHERE WHAT IT READS IS OF BULK AT MOST 1048576: true; the input reads as it did. -/
def reachListedUptoRow : OpenClaim := { program := "ytlejpmbofbghfaa", sum := "37fa54cc4dd94d8f488520a7d545a346d3a1d51fdc4248242e4817d3158e44c8", func := "appleloft/appleloftkeep.ReachListed", spec := "reachListed", inPlace := ["internal/bytealg.IndexByteString", "internal/abi.NoEscape"], apart := false, narrowed := true }
def ReachListedUptoSaid : Prop := reachListedUptoRow.holds Try.pinned (OpenSpec.upto reachListedSpec)

/-- 'appleloftkeep.ManifestTorn', WHERE WHAT IT READS IS OF BULK AT MOST 1048576: true; the input reads as it did. -/
def manifestTornUptoRow : OpenClaim := { program := "ytlejpmbofbghfaa", sum := "37fa54cc4dd94d8f488520a7d545a346d3a1d51fdc4248242e4817d3158e44c8", func := "appleloft/appleloftkeep.ManifestTorn", spec := "manifestTorn", inPlace := ["internal/bytealg.IndexByteString", "internal/abi.NoEscape"], unfollowed := true, recurses := true, apart := false, narrowed := true }
def ManifestTornUptoSaid : Prop := manifestTornUptoRow.holds Try.pinned (OpenSpec.upto manifestTornSpec)

/-- 'appleloftkeep.ManifestBack', WHERE WHAT IT READS IS OF BULK AT MOST 1048576: true; the input reads as it did. -/
def manifestBackUptoRow : OpenClaim := { program := "ytlejpmbofbghfaa", sum := "37fa54cc4dd94d8f488520a7d545a346d3a1d51fdc4248242e4817d3158e44c8", func := "appleloft/appleloftkeep.ManifestBack", spec := "manifestBack", inPlace := ["internal/bytealg.IndexByteString", "internal/abi.NoEscape"], unfollowed := true, recurses := true, apart := false, narrowed := true }
def ManifestBackUptoSaid : Prop := manifestBackUptoRow.holds Try.pinned (OpenSpec.upto manifestBackSpec)

/-- 'appleloftkeep.ManifestTurns', WHERE WHAT IT READS IS OF BULK AT MOST 1048576: true; the input reads as it did. -/
def manifestTurnsUptoRow : OpenClaim := { program := "ytlejpmbofbghfaa", sum := "37fa54cc4dd94d8f488520a7d545a346d3a1d51fdc4248242e4817d3158e44c8", func := "appleloft/appleloftkeep.ManifestTurns", spec := "manifestTurns", inPlace := ["internal/bytealg.IndexByteString", "internal/abi.NoEscape"], unfollowed := true, recurses := true, apart := false, narrowed := true }
def ManifestTurnsUptoSaid : Prop := manifestTurnsUptoRow.holds Try.pinned (OpenSpec.upto manifestTurnsSpec)

/-- 'appleloftkeep.OrderTorn', WHERE WHAT IT READS IS OF BULK AT MOST 1048576: true; the input reads as it did. -/
def orderTornUptoRow : OpenClaim := { program := "ytlejpmbofbghfaa", sum := "37fa54cc4dd94d8f488520a7d545a346d3a1d51fdc4248242e4817d3158e44c8", func := "appleloft/appleloftkeep.OrderTorn", spec := "orderTorn", inPlace := ["internal/bytealg.IndexByteString", "internal/abi.NoEscape"], unfollowed := true, recurses := true, apart := false, narrowed := true }
def OrderTornUptoSaid : Prop := orderTornUptoRow.holds Try.pinned (OpenSpec.upto orderTornSpec)

/-- 'appleloftkeep.OrderTurns', WHERE WHAT IT READS IS OF BULK AT MOST 1048576: true; the input reads as it did. -/
def orderTurnsUptoRow : OpenClaim := { program := "ytlejpmbofbghfaa", sum := "37fa54cc4dd94d8f488520a7d545a346d3a1d51fdc4248242e4817d3158e44c8", func := "appleloft/appleloftkeep.OrderTurns", spec := "orderTurns", inPlace := ["internal/bytealg.IndexByteString", "internal/abi.NoEscape"], unfollowed := true, recurses := true, apart := false, narrowed := true }
def OrderTurnsUptoSaid : Prop := orderTurnsUptoRow.holds Try.pinned (OpenSpec.upto orderTurnsSpec)

/-- 'appleloftkeep.OrderBack', WHERE WHAT IT READS IS OF BULK AT MOST 1048576: true; the input reads as it did. -/
def orderBackUptoRow : OpenClaim := { program := "ytlejpmbofbghfaa", sum := "37fa54cc4dd94d8f488520a7d545a346d3a1d51fdc4248242e4817d3158e44c8", func := "appleloft/appleloftkeep.OrderBack", spec := "orderBack", inPlace := ["internal/bytealg.IndexByteString", "internal/abi.NoEscape"], unfollowed := true, recurses := true, apart := false, narrowed := true }
def OrderBackUptoSaid : Prop := orderBackUptoRow.holds Try.pinned (OpenSpec.upto orderBackSpec)

/-- 'appleloftkeep.SweepRises', WHERE WHAT IT READS IS OF BULK AT MOST 1048576: true; the input reads as it did. -/
def sweepRisesUptoRow : OpenClaim := { program := "ytlejpmbofbghfaa", sum := "37fa54cc4dd94d8f488520a7d545a346d3a1d51fdc4248242e4817d3158e44c8", func := "appleloft/appleloftkeep.SweepRises", spec := "sweepRises", inPlace := ["internal/bytealg.IndexByteString", "internal/bytealg.abigen_runtime_cmpstring"], unfollowed := true, recurses := true, apart := false, narrowed := true }
def SweepRisesUptoSaid : Prop := sweepRisesUptoRow.holds Try.pinned (OpenSpec.upto sweepRisesSpec)

/-- 'appleloftkeep.IndexOldest', WHERE WHAT IT READS IS OF BULK AT MOST 1048576: true; the input reads as it did. -/
def indexOldestUptoRow : OpenClaim := { program := "ytlejpmbofbghfaa", sum := "37fa54cc4dd94d8f488520a7d545a346d3a1d51fdc4248242e4817d3158e44c8", func := "appleloft/appleloftkeep.IndexOldest", spec := "indexOldest", inPlace := ["internal/bytealg.IndexByteString", "internal/bytealg.abigen_runtime_cmpstring"], unfollowed := true, recurses := true, apart := false, narrowed := true }
def IndexOldestUptoSaid : Prop := indexOldestUptoRow.holds Try.pinned (OpenSpec.upto indexOldestSpec)

/-- 'appleloftkeep.RoomMore', WHERE WHAT IT READS IS OF BULK AT MOST 1048576: true; the input reads as it did. -/
def roomMoreUptoRow : OpenClaim := { program := "ytlejpmbofbghfaa", sum := "37fa54cc4dd94d8f488520a7d545a346d3a1d51fdc4248242e4817d3158e44c8", func := "appleloft/appleloftkeep.RoomMore", spec := "roomMore", inPlace := ["internal/bytealg.IndexByteString", "internal/bytealg.abigen_runtime_cmpstring"], unfollowed := true, recurses := true, apart := false, narrowed := true }
def RoomMoreUptoSaid : Prop := roomMoreUptoRow.holds Try.pinned (OpenSpec.upto roomMoreSpec)

end Rows
end Go.Proofs.Ytlejpmbofbghfaa
