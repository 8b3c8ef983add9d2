/-
  No cell of these rows narrows 'for every input' (looked for: loops, veiled, ifaces, maps, wideKeys, modest, calm, conditions, laid).
  DERIVED. THE GIVEN ROWS OF THIS SEAT. 12 by the template 'for every input the law returns true; each argument reads behind the call as it read before'; 0 by the template 'total and deterministic' (their statements: YtooohfckhepcmaaTotals.lean).
  GIVEN WITH THE SEED: the statements are not yours to turn. If you find one false, say at which input.
  Laid BY PROGRAM, IN A SANDBOX (cutbox-rows.mjs): the forced cells as the released guide's own fill.sh prints them over the translation 4d18380328a69ed3… (all of the seat's roots in one cut). By AI agents, Wed Nov 11 2026. No macro, syntax, notation, axiom, sorry.
-/
import Derived.Test.YtooohfckhepcmaaChecked
import GoSem.Claim
import GoSem.ClaimJoined
import GoSem.ClaimMapViews
import Derived.JoinedTies
import Derived.KernelRfl
namespace Go.Proofs.Ytooohfckhepcmaa
/- THE CELL 'sum', in the pinned program and in every row, IS THE sha256 OF THE DUMP (.gsa) THAT YtooohfckhepcmaaProg.lean LOADS. Nothing in Lean hashes anything: it is a label: what it is worth is what the hold of that sum in a sandbox is worth. -/
noncomputable def Try.pinned : Pinned := { name := "ytooohfckhepcmaa", sum := "4d18380328a69ed339d147c1da8d1e2d42fb682e02c640e3e068be98f56f2301", checked := Try.checked }
namespace Rows
def none {H : Type} : Left H := { results := [], args := [] }

/-- 'appleloftkeep.OrderTorn': WHATEVER THE INPUT: true; the input reads as it did. -/
def orderTornSpec : ChangeSpec := { name := "orderTorn", fn := fun _ => fun
  | [d1, d2, d3] => { results := [.lit (.bool true)], args := [d1, d2, d3] }
  | _ => none }
def orderTornRow : OpenClaim := { program := "ytooohfckhepcmaa", sum := "4d18380328a69ed339d147c1da8d1e2d42fb682e02c640e3e068be98f56f2301", func := "appleloft/appleloftkeep.OrderTorn", spec := "orderTorn", inPlace := ["internal/bytealg.IndexByteString", "internal/abi.NoEscape"], unfollowed := true, recurses := true, apart := false }
def OrderTornSaid : Prop := orderTornRow.holds Try.pinned (OpenSpec.ofChange orderTornSpec)

/-- ITS FALSE NEIGHBOUR: 'it returns false'. Refute it at one input. -/
def orderTornWrong : ChangeSpec := { name := "orderTorn", fn := fun _ => fun
  | [d1, d2, d3] => { results := [.lit (.bool false)], args := [d1, d2, d3] }
  | _ => none }
def OrderTornWrongFalsely : Prop := orderTornRow.holds Try.pinned (OpenSpec.ofChange orderTornWrong)

/-- 'appleloftkeep.OrderTurns': WHATEVER THE INPUT: true; the input reads as it did. -/
def orderTurnsSpec : ChangeSpec := { name := "orderTurns", fn := fun _ => fun
  | [d1, d2, d3] => { results := [.lit (.bool true)], args := [d1, d2, d3] }
  | _ => none }
def orderTurnsRow : OpenClaim := { program := "ytooohfckhepcmaa", sum := "4d18380328a69ed339d147c1da8d1e2d42fb682e02c640e3e068be98f56f2301", func := "appleloft/appleloftkeep.OrderTurns", spec := "orderTurns", inPlace := ["internal/bytealg.IndexByteString", "internal/abi.NoEscape"], unfollowed := true, recurses := true, apart := false }
def OrderTurnsSaid : Prop := orderTurnsRow.holds Try.pinned (OpenSpec.ofChange orderTurnsSpec)

/-- ITS FALSE NEIGHBOUR: 'it returns false'. Refute it at one input. -/
def orderTurnsWrong : ChangeSpec := { name := "orderTurns", fn := fun _ => fun
  | [d1, d2, d3] => { results := [.lit (.bool false)], args := [d1, d2, d3] }
  | _ => none }
def OrderTurnsWrongFalsely : Prop := orderTurnsRow.holds Try.pinned (OpenSpec.ofChange orderTurnsWrong)

/-- 'appleloftkeep.OrderBack': WHATEVER THE INPUT: true; the input reads as it did. -/
def orderBackSpec : ChangeSpec := { name := "orderBack", fn := fun _ => fun
  | [d] => { results := [.lit (.bool true)], args := [d] }
  | _ => none }
def orderBackRow : OpenClaim := { program := "ytooohfckhepcmaa", sum := "4d18380328a69ed339d147c1da8d1e2d42fb682e02c640e3e068be98f56f2301", func := "appleloft/appleloftkeep.OrderBack", spec := "orderBack", inPlace := ["internal/bytealg.IndexByteString", "internal/abi.NoEscape"], unfollowed := true, recurses := true, apart := false }
def OrderBackSaid : Prop := orderBackRow.holds Try.pinned (OpenSpec.ofChange orderBackSpec)

/-- ITS FALSE NEIGHBOUR: 'it returns false'. Refute it at one input. -/
def orderBackWrong : ChangeSpec := { name := "orderBack", fn := fun _ => fun
  | [d] => { results := [.lit (.bool false)], args := [d] }
  | _ => none }
def OrderBackWrongFalsely : Prop := orderBackRow.holds Try.pinned (OpenSpec.ofChange orderBackWrong)

/-- 'appleloftkeep.SweepRises': WHATEVER THE INPUT: true; the input reads as it did. -/
def sweepRisesSpec : ChangeSpec := { name := "sweepRises", fn := fun _ => fun
  | [d] => { results := [.lit (.bool true)], args := [d] }
  | _ => none }
def sweepRisesRow : OpenClaim := { program := "ytooohfckhepcmaa", sum := "4d18380328a69ed339d147c1da8d1e2d42fb682e02c640e3e068be98f56f2301", func := "appleloft/appleloftkeep.SweepRises", spec := "sweepRises", inPlace := ["internal/bytealg.IndexByteString", "internal/bytealg.abigen_runtime_cmpstring"], unfollowed := true, recurses := true, apart := false }
def SweepRisesSaid : Prop := sweepRisesRow.holds Try.pinned (OpenSpec.ofChange sweepRisesSpec)

/-- ITS FALSE NEIGHBOUR: 'it returns false'. Refute it at one input. -/
def sweepRisesWrong : ChangeSpec := { name := "sweepRises", fn := fun _ => fun
  | [d] => { results := [.lit (.bool false)], args := [d] }
  | _ => none }
def SweepRisesWrongFalsely : Prop := sweepRisesRow.holds Try.pinned (OpenSpec.ofChange sweepRisesWrong)

/-- 'appleloftkeep.IndexOldest': WHATEVER THE INPUT: true; the input reads as it did. -/
def indexOldestSpec : ChangeSpec := { name := "indexOldest", fn := fun _ => fun
  | [d] => { results := [.lit (.bool true)], args := [d] }
  | _ => none }
def indexOldestRow : OpenClaim := { program := "ytooohfckhepcmaa", sum := "4d18380328a69ed339d147c1da8d1e2d42fb682e02c640e3e068be98f56f2301", func := "appleloft/appleloftkeep.IndexOldest", spec := "indexOldest", inPlace := ["internal/bytealg.IndexByteString", "internal/bytealg.abigen_runtime_cmpstring"], unfollowed := true, recurses := true, apart := false }
def IndexOldestSaid : Prop := indexOldestRow.holds Try.pinned (OpenSpec.ofChange indexOldestSpec)

/-- ITS FALSE NEIGHBOUR: 'it returns false'. Refute it at one input. -/
def indexOldestWrong : ChangeSpec := { name := "indexOldest", fn := fun _ => fun
  | [d] => { results := [.lit (.bool false)], args := [d] }
  | _ => none }
def IndexOldestWrongFalsely : Prop := indexOldestRow.holds Try.pinned (OpenSpec.ofChange indexOldestWrong)

/-- 'appleloftkeep.RoomMore': WHATEVER THE INPUT: true; the input reads as it did. -/
def roomMoreSpec : ChangeSpec := { name := "roomMore", fn := fun _ => fun
  | [d1, d2, d3] => { results := [.lit (.bool true)], args := [d1, d2, d3] }
  | _ => none }
def roomMoreRow : OpenClaim := { program := "ytooohfckhepcmaa", sum := "4d18380328a69ed339d147c1da8d1e2d42fb682e02c640e3e068be98f56f2301", func := "appleloft/appleloftkeep.RoomMore", spec := "roomMore", inPlace := ["internal/bytealg.IndexByteString", "internal/bytealg.abigen_runtime_cmpstring"], unfollowed := true, recurses := true, apart := false }
def RoomMoreSaid : Prop := roomMoreRow.holds Try.pinned (OpenSpec.ofChange roomMoreSpec)

/-- ITS FALSE NEIGHBOUR: 'it returns false'. Refute it at one input. -/
def roomMoreWrong : ChangeSpec := { name := "roomMore", fn := fun _ => fun
  | [d1, d2, d3] => { results := [.lit (.bool false)], args := [d1, d2, d3] }
  | _ => none }
def RoomMoreWrongFalsely : Prop := roomMoreRow.holds Try.pinned (OpenSpec.ofChange roomMoreWrong)

/-- 'appleloftkeep.RoomAdds': WHATEVER THE INPUT: true; the input reads as it did. -/
def roomAddsSpec : ChangeSpec := { name := "roomAdds", fn := fun _ => fun
  | [d1, d2, d3] => { results := [.lit (.bool true)], args := [d1, d2, d3] }
  | _ => none }
def roomAddsRow : OpenClaim := { program := "ytooohfckhepcmaa", sum := "4d18380328a69ed339d147c1da8d1e2d42fb682e02c640e3e068be98f56f2301", func := "appleloft/appleloftkeep.RoomAdds", spec := "roomAdds", inPlace := ["internal/bytealg.IndexByteString", "internal/bytealg.abigen_runtime_cmpstring"], unfollowed := true, recurses := true, apart := false }
def RoomAddsSaid : Prop := roomAddsRow.holds Try.pinned (OpenSpec.ofChange roomAddsSpec)

/-- ITS FALSE NEIGHBOUR: 'it returns false'. Refute it at one input. -/
def roomAddsWrong : ChangeSpec := { name := "roomAdds", fn := fun _ => fun
  | [d1, d2, d3] => { results := [.lit (.bool false)], args := [d1, d2, d3] }
  | _ => none }
def RoomAddsWrongFalsely : Prop := roomAddsRow.holds Try.pinned (OpenSpec.ofChange roomAddsWrong)

/-- 'appleloftkeep.BlobAny': WHATEVER THE INPUT: true; the input reads as it did. -/
def blobAnySpec : ChangeSpec := { name := "blobAny", fn := fun _ => fun
  | [d] => { results := [.lit (.bool true)], args := [d] }
  | _ => none }
def blobAnyRow : OpenClaim := { program := "ytooohfckhepcmaa", sum := "4d18380328a69ed339d147c1da8d1e2d42fb682e02c640e3e068be98f56f2301", func := "appleloft/appleloftkeep.BlobAny", spec := "blobAny", inPlace := ["internal/bytealg.IndexByteString", "internal/abi.NoEscape", "internal/bytealg.abigen_runtime_cmpstring", "slices.overlaps[appleloft/api.Blob]"], unfollowed := true, recurses := true, apart := false }
def BlobAnySaid : Prop := blobAnyRow.holds Try.pinned (OpenSpec.ofChange blobAnySpec)

/-- ITS FALSE NEIGHBOUR: 'it returns false'. Refute it at one input. -/
def blobAnyWrong : ChangeSpec := { name := "blobAny", fn := fun _ => fun
  | [d] => { results := [.lit (.bool false)], args := [d] }
  | _ => none }
def BlobAnyWrongFalsely : Prop := blobAnyRow.holds Try.pinned (OpenSpec.ofChange blobAnyWrong)

/-- 'appleloftkeep.MarkAdds': WHATEVER THE INPUT: true; the input reads as it did. -/
def markAddsSpec : ChangeSpec := { name := "markAdds", fn := fun _ => fun
  | [d1, d2] => { results := [.lit (.bool true)], args := [d1, d2] }
  | _ => none }
def markAddsRow : OpenClaim := { program := "ytooohfckhepcmaa", sum := "4d18380328a69ed339d147c1da8d1e2d42fb682e02c640e3e068be98f56f2301", func := "appleloft/appleloftkeep.MarkAdds", spec := "markAdds", recurses := true, apart := false }
def MarkAddsSaid : Prop := markAddsRow.holds Try.pinned (OpenSpec.ofChange markAddsSpec)

/-- ITS FALSE NEIGHBOUR: 'it returns false'. Refute it at one input. -/
def markAddsWrong : ChangeSpec := { name := "markAdds", fn := fun _ => fun
  | [d1, d2] => { results := [.lit (.bool false)], args := [d1, d2] }
  | _ => none }
def MarkAddsWrongFalsely : Prop := markAddsRow.holds Try.pinned (OpenSpec.ofChange markAddsWrong)

/-- 'appleloftkeep.IndexFound': WHATEVER THE INPUT: true; the input reads as it did. -/
def indexFoundSpec : ChangeSpec := { name := "indexFound", fn := fun _ => fun
  | [d1, d2] => { results := [.lit (.bool true)], args := [d1, d2] }
  | _ => none }
def indexFoundRow : OpenClaim := { program := "ytooohfckhepcmaa", sum := "4d18380328a69ed339d147c1da8d1e2d42fb682e02c640e3e068be98f56f2301", func := "appleloft/appleloftkeep.IndexFound", spec := "indexFound", inPlace := ["internal/bytealg.IndexByteString", "internal/bytealg.abigen_runtime_cmpstring", "slices.overlaps[appleloft/api.Entry]"], unfollowed := true, recurses := true, apart := false }
def IndexFoundSaid : Prop := indexFoundRow.holds Try.pinned (OpenSpec.ofChange indexFoundSpec)

/-- ITS FALSE NEIGHBOUR: 'it returns false'. Refute it at one input. -/
def indexFoundWrong : ChangeSpec := { name := "indexFound", fn := fun _ => fun
  | [d1, d2] => { results := [.lit (.bool false)], args := [d1, d2] }
  | _ => none }
def IndexFoundWrongFalsely : Prop := indexFoundRow.holds Try.pinned (OpenSpec.ofChange indexFoundWrong)

/-- 'appleloftkeep.IndexAges': WHATEVER THE INPUT: true; the input reads as it did. -/
def indexAgesSpec : ChangeSpec := { name := "indexAges", fn := fun _ => fun
  | [d] => { results := [.lit (.bool true)], args := [d] }
  | _ => none }
def indexAgesRow : OpenClaim := { program := "ytooohfckhepcmaa", sum := "4d18380328a69ed339d147c1da8d1e2d42fb682e02c640e3e068be98f56f2301", func := "appleloft/appleloftkeep.IndexAges", spec := "indexAges", inPlace := ["internal/bytealg.IndexByteString", "internal/bytealg.abigen_runtime_cmpstring", "slices.overlaps[appleloft/api.Entry]"], unfollowed := true, recurses := true, apart := false }
def IndexAgesSaid : Prop := indexAgesRow.holds Try.pinned (OpenSpec.ofChange indexAgesSpec)

/-- ITS FALSE NEIGHBOUR: 'it returns false'. Refute it at one input. -/
def indexAgesWrong : ChangeSpec := { name := "indexAges", fn := fun _ => fun
  | [d] => { results := [.lit (.bool false)], args := [d] }
  | _ => none }
def IndexAgesWrongFalsely : Prop := indexAgesRow.holds Try.pinned (OpenSpec.ofChange indexAgesWrong)

/-- 'appleloftkeep.IndexBack': WHATEVER THE INPUT: true; the input reads as it did. -/
def indexBackSpec : ChangeSpec := { name := "indexBack", fn := fun _ => fun
  | [d] => { results := [.lit (.bool true)], args := [d] }
  | _ => none }
def indexBackRow : OpenClaim := { program := "ytooohfckhepcmaa", sum := "4d18380328a69ed339d147c1da8d1e2d42fb682e02c640e3e068be98f56f2301", func := "appleloft/appleloftkeep.IndexBack", spec := "indexBack", inPlace := ["internal/bytealg.IndexByteString", "internal/bytealg.abigen_runtime_cmpstring", "slices.overlaps[appleloft/api.Entry]"], unfollowed := true, recurses := true, apart := false }
def IndexBackSaid : Prop := indexBackRow.holds Try.pinned (OpenSpec.ofChange indexBackSpec)

/-- ITS FALSE NEIGHBOUR: 'it returns false'. Refute it at one input. -/
def indexBackWrong : ChangeSpec := { name := "indexBack", fn := fun _ => fun
  | [d] => { results := [.lit (.bool false)], args := [d] }
  | _ => none }
def IndexBackWrongFalsely : Prop := indexBackRow.holds Try.pinned (OpenSpec.ofChange indexBackWrong)

/- THE SECOND FORM. 'bulk': how many values and letters a reading holds, each counted each time it is reached (what is shared counts as often as it is met; a slice's spare places count too). A statement '..UptoSaid' is the law's where the arguments, and the package variables that the reading takes, are together of bulk at most 1048576: NARROWER than '..Said'. Prove '..Said' where nothing that the law and all that it calls make is longer than what came in: it says more and counts as full. Else prove '..UptoSaid'. A law counts once. -/
mutual
def uptoBulk {H : Type} : DataW H → Nat
  | .lit (.string bytes) => bytes.length + 1
  | .lit _ => 1
  | .nil => 1
  | .ptr d => uptoBulk d + 1
  | .slice elems spare => uptoBulkAll elems + uptoBulkAll spare + 1
  | .agg parts => uptoBulkAll parts + 1
  | .iface _ d => uptoBulk d + 1
  | .map entries => uptoBulkEntries entries + 1
  | .held _ => 1
def uptoBulkAll {H : Type} : List (DataW H) → Nat
  | [] => 0
  | d :: r => uptoBulk d + uptoBulkAll r
def uptoBulkEntries {H : Type} : List (Lit × DataW H) → Nat
  | [] => 0
  | x :: r => uptoBulkEntry x + uptoBulkEntries r
def uptoBulkEntry {H : Type} : Lit × DataW H → Nat
  | (.string bytes, d) => bytes.length + uptoBulk d + 1
  | (_, d) => uptoBulk d + 1
 end
def uptoSmall : (H : Type) → List (DataW H) → Bool := fun _ ds => decide (uptoBulkAll ds ≤ 1048576)
def OpenSpec.upto (s : _root_.Go.ChangeSpec) : _root_.Go.OpenSpec := { _root_.Go.OpenSpec.ofChange s with cond := some uptoSmall }

/-- 'appleloftkeep.OrderTorn', WHERE WHAT IT READS IS OF BULK AT MOST 1048576: true; the input reads as it did. -/
def orderTornUptoRow : OpenClaim := { program := "ytooohfckhepcmaa", sum := "4d18380328a69ed339d147c1da8d1e2d42fb682e02c640e3e068be98f56f2301", func := "appleloft/appleloftkeep.OrderTorn", spec := "orderTorn", inPlace := ["internal/bytealg.IndexByteString", "internal/abi.NoEscape"], unfollowed := true, recurses := true, apart := false, narrowed := true }
def OrderTornUptoSaid : Prop := orderTornUptoRow.holds Try.pinned (OpenSpec.upto orderTornSpec)

/-- 'appleloftkeep.OrderTurns', WHERE WHAT IT READS IS OF BULK AT MOST 1048576: true; the input reads as it did. -/
def orderTurnsUptoRow : OpenClaim := { program := "ytooohfckhepcmaa", sum := "4d18380328a69ed339d147c1da8d1e2d42fb682e02c640e3e068be98f56f2301", func := "appleloft/appleloftkeep.OrderTurns", spec := "orderTurns", inPlace := ["internal/bytealg.IndexByteString", "internal/abi.NoEscape"], unfollowed := true, recurses := true, apart := false, narrowed := true }
def OrderTurnsUptoSaid : Prop := orderTurnsUptoRow.holds Try.pinned (OpenSpec.upto orderTurnsSpec)

/-- 'appleloftkeep.OrderBack', WHERE WHAT IT READS IS OF BULK AT MOST 1048576: true; the input reads as it did. -/
def orderBackUptoRow : OpenClaim := { program := "ytooohfckhepcmaa", sum := "4d18380328a69ed339d147c1da8d1e2d42fb682e02c640e3e068be98f56f2301", func := "appleloft/appleloftkeep.OrderBack", spec := "orderBack", inPlace := ["internal/bytealg.IndexByteString", "internal/abi.NoEscape"], unfollowed := true, recurses := true, apart := false, narrowed := true }
def OrderBackUptoSaid : Prop := orderBackUptoRow.holds Try.pinned (OpenSpec.upto orderBackSpec)

/-- 'appleloftkeep.SweepRises', WHERE WHAT IT READS IS OF BULK AT MOST 1048576: true; the input reads as it did. -/
def sweepRisesUptoRow : OpenClaim := { program := "ytooohfckhepcmaa", sum := "4d18380328a69ed339d147c1da8d1e2d42fb682e02c640e3e068be98f56f2301", func := "appleloft/appleloftkeep.SweepRises", spec := "sweepRises", inPlace := ["internal/bytealg.IndexByteString", "internal/bytealg.abigen_runtime_cmpstring"], unfollowed := true, recurses := true, apart := false, narrowed := true }
def SweepRisesUptoSaid : Prop := sweepRisesUptoRow.holds Try.pinned (OpenSpec.upto sweepRisesSpec)

/-- 'appleloftkeep.IndexOldest', WHERE WHAT IT READS IS OF BULK AT MOST 1048576: true; the input reads as it did. -/
def indexOldestUptoRow : OpenClaim := { program := "ytooohfckhepcmaa", sum := "4d18380328a69ed339d147c1da8d1e2d42fb682e02c640e3e068be98f56f2301", func := "appleloft/appleloftkeep.IndexOldest", spec := "indexOldest", inPlace := ["internal/bytealg.IndexByteString", "internal/bytealg.abigen_runtime_cmpstring"], unfollowed := true, recurses := true, apart := false, narrowed := true }
def IndexOldestUptoSaid : Prop := indexOldestUptoRow.holds Try.pinned (OpenSpec.upto indexOldestSpec)

/-- 'appleloftkeep.RoomMore', WHERE WHAT IT READS IS OF BULK AT MOST 1048576: true; the input reads as it did. -/
def roomMoreUptoRow : OpenClaim := { program := "ytooohfckhepcmaa", sum := "4d18380328a69ed339d147c1da8d1e2d42fb682e02c640e3e068be98f56f2301", func := "appleloft/appleloftkeep.RoomMore", spec := "roomMore", inPlace := ["internal/bytealg.IndexByteString", "internal/bytealg.abigen_runtime_cmpstring"], unfollowed := true, recurses := true, apart := false, narrowed := true }
def RoomMoreUptoSaid : Prop := roomMoreUptoRow.holds Try.pinned (OpenSpec.upto roomMoreSpec)

/-- 'appleloftkeep.RoomAdds', WHERE WHAT IT READS IS OF BULK AT MOST 1048576: true; the input reads as it did. -/
def roomAddsUptoRow : OpenClaim := { program := "ytooohfckhepcmaa", sum := "4d18380328a69ed339d147c1da8d1e2d42fb682e02c640e3e068be98f56f2301", func := "appleloft/appleloftkeep.RoomAdds", spec := "roomAdds", inPlace := ["internal/bytealg.IndexByteString", "internal/bytealg.abigen_runtime_cmpstring"], unfollowed := true, recurses := true, apart := false, narrowed := true }
def RoomAddsUptoSaid : Prop := roomAddsUptoRow.holds Try.pinned (OpenSpec.upto roomAddsSpec)

/-- 'appleloftkeep.BlobAny', WHERE WHAT IT READS IS OF BULK AT MOST 1048576: true; the input reads as it did. -/
def blobAnyUptoRow : OpenClaim := { program := "ytooohfckhepcmaa", sum := "4d18380328a69ed339d147c1da8d1e2d42fb682e02c640e3e068be98f56f2301", func := "appleloft/appleloftkeep.BlobAny", spec := "blobAny", inPlace := ["internal/bytealg.IndexByteString", "internal/abi.NoEscape", "internal/bytealg.abigen_runtime_cmpstring", "slices.overlaps[appleloft/api.Blob]"], unfollowed := true, recurses := true, apart := false, narrowed := true }
def BlobAnyUptoSaid : Prop := blobAnyUptoRow.holds Try.pinned (OpenSpec.upto blobAnySpec)

/-- 'appleloftkeep.MarkAdds', WHERE WHAT IT READS IS OF BULK AT MOST 1048576: true; the input reads as it did. -/
def markAddsUptoRow : OpenClaim := { program := "ytooohfckhepcmaa", sum := "4d18380328a69ed339d147c1da8d1e2d42fb682e02c640e3e068be98f56f2301", func := "appleloft/appleloftkeep.MarkAdds", spec := "markAdds", recurses := true, apart := false, narrowed := true }
def MarkAddsUptoSaid : Prop := markAddsUptoRow.holds Try.pinned (OpenSpec.upto markAddsSpec)

/-- 'appleloftkeep.IndexFound', WHERE WHAT IT READS IS OF BULK AT MOST 1048576: true; the input reads as it did. -/
def indexFoundUptoRow : OpenClaim := { program := "ytooohfckhepcmaa", sum := "4d18380328a69ed339d147c1da8d1e2d42fb682e02c640e3e068be98f56f2301", func := "appleloft/appleloftkeep.IndexFound", spec := "indexFound", inPlace := ["internal/bytealg.IndexByteString", "internal/bytealg.abigen_runtime_cmpstring", "slices.overlaps[appleloft/api.Entry]"], unfollowed := true, recurses := true, apart := false, narrowed := true }
def IndexFoundUptoSaid : Prop := indexFoundUptoRow.holds Try.pinned (OpenSpec.upto indexFoundSpec)

/-- 'appleloftkeep.IndexAges', WHERE WHAT IT READS IS OF BULK AT MOST 1048576: true; the input reads as it did. -/
def indexAgesUptoRow : OpenClaim := { program := "ytooohfckhepcmaa", sum := "4d18380328a69ed339d147c1da8d1e2d42fb682e02c640e3e068be98f56f2301", func := "appleloft/appleloftkeep.IndexAges", spec := "indexAges", inPlace := ["internal/bytealg.IndexByteString", "internal/bytealg.abigen_runtime_cmpstring", "slices.overlaps[appleloft/api.Entry]"], unfollowed := true, recurses := true, apart := false, narrowed := true }
def IndexAgesUptoSaid : Prop := indexAgesUptoRow.holds Try.pinned (OpenSpec.upto indexAgesSpec)

/-- 'appleloftkeep.IndexBack', WHERE WHAT IT READS IS OF BULK AT MOST 1048576: true; the input reads as it did. -/
def indexBackUptoRow : OpenClaim := { program := "ytooohfckhepcmaa", sum := "4d18380328a69ed339d147c1da8d1e2d42fb682e02c640e3e068be98f56f2301", func := "appleloft/appleloftkeep.IndexBack", spec := "indexBack", inPlace := ["internal/bytealg.IndexByteString", "internal/bytealg.abigen_runtime_cmpstring", "slices.overlaps[appleloft/api.Entry]"], unfollowed := true, recurses := true, apart := false, narrowed := true }
def IndexBackUptoSaid : Prop := indexBackUptoRow.holds Try.pinned (OpenSpec.upto indexBackSpec)

end Rows
end Go.Proofs.Ytooohfckhepcmaa
