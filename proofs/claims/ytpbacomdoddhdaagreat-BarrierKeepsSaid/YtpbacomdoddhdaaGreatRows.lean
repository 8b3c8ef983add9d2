/-
  No cell of these rows narrows 'for every input' (looked for: loops, veiled, ifaces, maps, wideKeys, modest, calm, conditions, laid).
  DERIVED. THE GIVEN ROWS OF THIS SEAT. 9 by the template 'for every input the law returns true; each argument reads behind the call as it read before'; 0 by the template 'total and deterministic' (their statements: YtpbacomdoddhdaaGreatTotals.lean).
  GIVEN WITH THE SEED: the statements are not yours to turn. If you find one false, say at which input.
  Laid BY PROGRAM, IN A SANDBOX (cutbox-rows.mjs): the forced cells as the released guide's own fill.sh prints them over the translation 8a73dff768746596… (all of the seat's roots in one cut). By AI agents, Wed Nov 11 2026. No macro, syntax, notation, axiom, sorry.
-/
import Derived.Test.YtpbacomdoddhdaaGreatChecked
import GoSem.Claim
import GoSem.ClaimJoined
import GoSem.ClaimMapViews
import Derived.JoinedTies
import Derived.KernelRfl
namespace Go.Proofs.YtpbacomdoddhdaaGreat
/- THE CELL 'sum', in the pinned program and in every row, IS THE sha256 OF THE DUMP (.gsa) THAT YtpbacomdoddhdaaGreatProg.lean LOADS. Nothing in Lean hashes anything: it is a label: what it is worth is what the hold of that sum in a sandbox is worth. -/
noncomputable def Tryz.pinned : Pinned := { name := "ytpbacomdoddhdaagreat", sum := "8a73dff768746596c2b9bece1224048c6b4aeb10d6529c1d1088117e63193d60", checked := Tryz.checked }
namespace Rows
def none {H : Type} : Left H := { results := [], args := [] }

/-- 'appleloftkeep.BarrierGood': WHATEVER THE INPUT: true; the input reads as it did. -/
def barrierGoodSpec : ChangeSpec := { name := "barrierGood", fn := fun _ => fun
  | [d1, d2] => { results := [.lit (.bool true)], args := [d1, d2] }
  | _ => none }
def barrierGoodRow : OpenClaim := { program := "ytpbacomdoddhdaagreat", sum := "8a73dff768746596c2b9bece1224048c6b4aeb10d6529c1d1088117e63193d60", func := "appleloft/appleloftkeep.BarrierGood", spec := "barrierGood", inPlace := ["internal/bytealg.IndexByteString", "internal/bytealg.abigen_runtime_cmpstring", "internal/abi.NoEscape", "slices.overlaps[appleloft/api.Blob]", "slices.overlaps[appleloft/api.Entry]"], unfollowed := true, recurses := true, apart := false }
def BarrierGoodSaid : Prop := barrierGoodRow.holds Tryz.pinned (OpenSpec.ofChange barrierGoodSpec)

/-- ITS FALSE NEIGHBOUR: 'it returns false'. Refute it at one input. -/
def barrierGoodWrong : ChangeSpec := { name := "barrierGood", fn := fun _ => fun
  | [d1, d2] => { results := [.lit (.bool false)], args := [d1, d2] }
  | _ => none }
def BarrierGoodWrongFalsely : Prop := barrierGoodRow.holds Tryz.pinned (OpenSpec.ofChange barrierGoodWrong)

/-- 'appleloftkeep.BarrierKeeps': WHATEVER THE INPUT: true; the input reads as it did. -/
def barrierKeepsSpec : ChangeSpec := { name := "barrierKeeps", fn := fun _ => fun
  | [d1, d2, d3] => { results := [.lit (.bool true)], args := [d1, d2, d3] }
  | _ => none }
def barrierKeepsRow : OpenClaim := { program := "ytpbacomdoddhdaagreat", sum := "8a73dff768746596c2b9bece1224048c6b4aeb10d6529c1d1088117e63193d60", func := "appleloft/appleloftkeep.BarrierKeeps", spec := "barrierKeeps", inPlace := ["internal/bytealg.IndexByteString", "internal/bytealg.abigen_runtime_cmpstring", "internal/abi.NoEscape", "slices.overlaps[appleloft/api.Blob]", "slices.overlaps[appleloft/api.Entry]"], unfollowed := true, recurses := true, apart := false }
def BarrierKeepsSaid : Prop := barrierKeepsRow.holds Tryz.pinned (OpenSpec.ofChange barrierKeepsSpec)

/-- ITS FALSE NEIGHBOUR: 'it returns false'. Refute it at one input. -/
def barrierKeepsWrong : ChangeSpec := { name := "barrierKeeps", fn := fun _ => fun
  | [d1, d2, d3] => { results := [.lit (.bool false)], args := [d1, d2, d3] }
  | _ => none }
def BarrierKeepsWrongFalsely : Prop := barrierKeepsRow.holds Tryz.pinned (OpenSpec.ofChange barrierKeepsWrong)

/-- 'appleloftkeep.BarrierEnds': WHATEVER THE INPUT: true; the input reads as it did. -/
def barrierEndsSpec : ChangeSpec := { name := "barrierEnds", fn := fun _ => fun
  | [d1, d2] => { results := [.lit (.bool true)], args := [d1, d2] }
  | _ => none }
def barrierEndsRow : OpenClaim := { program := "ytpbacomdoddhdaagreat", sum := "8a73dff768746596c2b9bece1224048c6b4aeb10d6529c1d1088117e63193d60", func := "appleloft/appleloftkeep.BarrierEnds", spec := "barrierEnds", inPlace := ["internal/bytealg.IndexByteString", "internal/bytealg.abigen_runtime_cmpstring", "internal/abi.NoEscape", "slices.overlaps[appleloft/api.Blob]", "slices.overlaps[appleloft/api.Entry]"], unfollowed := true, recurses := true, apart := false }
def BarrierEndsSaid : Prop := barrierEndsRow.holds Tryz.pinned (OpenSpec.ofChange barrierEndsSpec)

/-- ITS FALSE NEIGHBOUR: 'it returns false'. Refute it at one input. -/
def barrierEndsWrong : ChangeSpec := { name := "barrierEnds", fn := fun _ => fun
  | [d1, d2] => { results := [.lit (.bool false)], args := [d1, d2] }
  | _ => none }
def BarrierEndsWrongFalsely : Prop := barrierEndsRow.holds Tryz.pinned (OpenSpec.ofChange barrierEndsWrong)

/-- 'appleloftkeep.ExecHits': WHATEVER THE INPUT: true; the input reads as it did. -/
def execHitsSpec : ChangeSpec := { name := "execHits", fn := fun _ => fun
  | [d1, d2, d3] => { results := [.lit (.bool true)], args := [d1, d2, d3] }
  | _ => none }
def execHitsRow : OpenClaim := { program := "ytpbacomdoddhdaagreat", sum := "8a73dff768746596c2b9bece1224048c6b4aeb10d6529c1d1088117e63193d60", func := "appleloft/appleloftkeep.ExecHits", spec := "execHits", inPlace := ["internal/bytealg.IndexByteString", "internal/bytealg.abigen_runtime_cmpstring", "internal/abi.NoEscape"], unfollowed := true, recurses := true, apart := false }
def ExecHitsSaid : Prop := execHitsRow.holds Tryz.pinned (OpenSpec.ofChange execHitsSpec)

/-- ITS FALSE NEIGHBOUR: 'it returns false'. Refute it at one input. -/
def execHitsWrong : ChangeSpec := { name := "execHits", fn := fun _ => fun
  | [d1, d2, d3] => { results := [.lit (.bool false)], args := [d1, d2, d3] }
  | _ => none }
def ExecHitsWrongFalsely : Prop := execHitsRow.holds Tryz.pinned (OpenSpec.ofChange execHitsWrong)

/-- 'appleloftkeep.ExecFailed': WHATEVER THE INPUT: true; the input reads as it did. -/
def execFailedSpec : ChangeSpec := { name := "execFailed", fn := fun _ => fun
  | [d1, d2, d3] => { results := [.lit (.bool true)], args := [d1, d2, d3] }
  | _ => none }
def execFailedRow : OpenClaim := { program := "ytpbacomdoddhdaagreat", sum := "8a73dff768746596c2b9bece1224048c6b4aeb10d6529c1d1088117e63193d60", func := "appleloft/appleloftkeep.ExecFailed", spec := "execFailed", inPlace := ["internal/bytealg.IndexByteString", "internal/bytealg.abigen_runtime_cmpstring", "internal/abi.NoEscape"], unfollowed := true, recurses := true, apart := false }
def ExecFailedSaid : Prop := execFailedRow.holds Tryz.pinned (OpenSpec.ofChange execFailedSpec)

/-- ITS FALSE NEIGHBOUR: 'it returns false'. Refute it at one input. -/
def execFailedWrong : ChangeSpec := { name := "execFailed", fn := fun _ => fun
  | [d1, d2, d3] => { results := [.lit (.bool false)], args := [d1, d2, d3] }
  | _ => none }
def ExecFailedWrongFalsely : Prop := execFailedRow.holds Tryz.pinned (OpenSpec.ofChange execFailedWrong)

/-- 'appleloftkeep.ExecHeld': WHATEVER THE INPUT: true; the input reads as it did. -/
def execHeldSpec : ChangeSpec := { name := "execHeld", fn := fun _ => fun
  | [d1, d2] => { results := [.lit (.bool true)], args := [d1, d2] }
  | _ => none }
def execHeldRow : OpenClaim := { program := "ytpbacomdoddhdaagreat", sum := "8a73dff768746596c2b9bece1224048c6b4aeb10d6529c1d1088117e63193d60", func := "appleloft/appleloftkeep.ExecHeld", spec := "execHeld", inPlace := ["internal/bytealg.IndexByteString", "internal/bytealg.abigen_runtime_cmpstring", "internal/abi.NoEscape", "slices.overlaps[appleloft/api.Entry]"], unfollowed := true, recurses := true, apart := false }
def ExecHeldSaid : Prop := execHeldRow.holds Tryz.pinned (OpenSpec.ofChange execHeldSpec)

/-- ITS FALSE NEIGHBOUR: 'it returns false'. Refute it at one input. -/
def execHeldWrong : ChangeSpec := { name := "execHeld", fn := fun _ => fun
  | [d1, d2] => { results := [.lit (.bool false)], args := [d1, d2] }
  | _ => none }
def ExecHeldWrongFalsely : Prop := execHeldRow.holds Tryz.pinned (OpenSpec.ofChange execHeldWrong)

/-- 'appleloftkeep.ExecOnce': WHATEVER THE INPUT: true; the input reads as it did. -/
def execOnceSpec : ChangeSpec := { name := "execOnce", fn := fun _ => fun
  | [d1, d2, d3] => { results := [.lit (.bool true)], args := [d1, d2, d3] }
  | _ => none }
def execOnceRow : OpenClaim := { program := "ytpbacomdoddhdaagreat", sum := "8a73dff768746596c2b9bece1224048c6b4aeb10d6529c1d1088117e63193d60", func := "appleloft/appleloftkeep.ExecOnce", spec := "execOnce", inPlace := ["internal/bytealg.IndexByteString", "internal/bytealg.abigen_runtime_cmpstring", "internal/abi.NoEscape", "slices.overlaps[appleloft/api.Entry]"], unfollowed := true, recurses := true, apart := false }
def ExecOnceSaid : Prop := execOnceRow.holds Tryz.pinned (OpenSpec.ofChange execOnceSpec)

/-- ITS FALSE NEIGHBOUR: 'it returns false'. Refute it at one input. -/
def execOnceWrong : ChangeSpec := { name := "execOnce", fn := fun _ => fun
  | [d1, d2, d3] => { results := [.lit (.bool false)], args := [d1, d2, d3] }
  | _ => none }
def ExecOnceWrongFalsely : Prop := execOnceRow.holds Tryz.pinned (OpenSpec.ofChange execOnceWrong)

/-- 'appleloftkeep.EvictAges': WHATEVER THE INPUT: true; the input reads as it did. -/
def evictAgesSpec : ChangeSpec := { name := "evictAges", fn := fun _ => fun
  | [d1, d2] => { results := [.lit (.bool true)], args := [d1, d2] }
  | _ => none }
def evictAgesRow : OpenClaim := { program := "ytpbacomdoddhdaagreat", sum := "8a73dff768746596c2b9bece1224048c6b4aeb10d6529c1d1088117e63193d60", func := "appleloft/appleloftkeep.EvictAges", spec := "evictAges", inPlace := ["internal/bytealg.IndexByteString", "internal/bytealg.abigen_runtime_cmpstring", "internal/abi.NoEscape"], unfollowed := true, recurses := true, apart := false }
def EvictAgesSaid : Prop := evictAgesRow.holds Tryz.pinned (OpenSpec.ofChange evictAgesSpec)

/-- ITS FALSE NEIGHBOUR: 'it returns false'. Refute it at one input. -/
def evictAgesWrong : ChangeSpec := { name := "evictAges", fn := fun _ => fun
  | [d1, d2] => { results := [.lit (.bool false)], args := [d1, d2] }
  | _ => none }
def EvictAgesWrongFalsely : Prop := evictAgesRow.holds Tryz.pinned (OpenSpec.ofChange evictAgesWrong)

/-- 'appleloftkeep.StoreOwn': WHATEVER THE INPUT: true; the input reads as it did. -/
def storeOwnSpec : ChangeSpec := { name := "storeOwn", fn := fun _ => fun
  | [d1, d2] => { results := [.lit (.bool true)], args := [d1, d2] }
  | _ => none }
def storeOwnRow : OpenClaim := { program := "ytpbacomdoddhdaagreat", sum := "8a73dff768746596c2b9bece1224048c6b4aeb10d6529c1d1088117e63193d60", func := "appleloft/appleloftkeep.StoreOwn", spec := "storeOwn", inPlace := ["internal/bytealg.IndexByteString", "internal/bytealg.abigen_runtime_cmpstring", "internal/abi.NoEscape", "slices.overlaps[appleloft/api.Blob]", "slices.overlaps[appleloft/api.Entry]"], unfollowed := true, recurses := true, apart := false }
def StoreOwnSaid : Prop := storeOwnRow.holds Tryz.pinned (OpenSpec.ofChange storeOwnSpec)

/-- ITS FALSE NEIGHBOUR: 'it returns false'. Refute it at one input. -/
def storeOwnWrong : ChangeSpec := { name := "storeOwn", fn := fun _ => fun
  | [d1, d2] => { results := [.lit (.bool false)], args := [d1, d2] }
  | _ => none }
def StoreOwnWrongFalsely : Prop := storeOwnRow.holds Tryz.pinned (OpenSpec.ofChange storeOwnWrong)

/- THE SECOND FORM. 'bulk': how many values and letters a reading holds, each counted each time it is reached (what is shared counts as often as it is met; a slice's spare places count too). A statement '..UptoSaid' is the law's where the arguments, and the package variables that the reading takes, are together of bulk at most 1048576: NARROWER than '..Said'. Prove '..Said' where nothing that the law and all that it calls make is longer than what came in: it says more and counts as full. Else prove '..UptoSaid'. A law counts once. -/
mutual
def uptoBulk {H : Type} : DataW H → Nat
  | .lit (.string bytes) => bytes.length + 1
  | .lit _ => 1
  | .nil => 1
  | .ptr d => uptoBulk d + 1
  | .slice elems spare => uptoBulkAll elems + uptoBulkAll spare + 1
  | .agg parts => uptoBulkAll parts + 1
  | .iface _ d => uptoBulk d + 1
  | .map entries => uptoBulkEntries entries + 1
  | .held _ => 1
def uptoBulkAll {H : Type} : List (DataW H) → Nat
  | [] => 0
  | d :: r => uptoBulk d + uptoBulkAll r
def uptoBulkEntries {H : Type} : List (Lit × DataW H) → Nat
  | [] => 0
  | x :: r => uptoBulkEntry x + uptoBulkEntries r
def uptoBulkEntry {H : Type} : Lit × DataW H → Nat
  | (.string bytes, d) => bytes.length + uptoBulk d + 1
  | (_, d) => uptoBulk d + 1
 end
def uptoSmall : (H : Type) → List (DataW H) → Bool := fun _ ds => decide (uptoBulkAll ds ≤ 1048576)
def OpenSpec.upto (s : _root_.Go.ChangeSpec) : _root_.Go.OpenSpec := { _root_.Go.OpenSpec.ofChange s with cond := some uptoSmall }

/-- 'appleloftkeep.BarrierGood', WHERE WHAT IT READS IS OF BULK AT MOST 1048576: true; the input reads as it did. -/
def barrierGoodUptoRow : OpenClaim := { program := "ytpbacomdoddhdaagreat", sum := "8a73dff768746596c2b9bece1224048c6b4aeb10d6529c1d1088117e63193d60", func := "appleloft/appleloftkeep.BarrierGood", spec := "barrierGood", inPlace := ["internal/bytealg.IndexByteString", "internal/bytealg.abigen_runtime_cmpstring", "internal/abi.NoEscape", "slices.overlaps[appleloft/api.Blob]", "slices.overlaps[appleloft/api.Entry]"], unfollowed := true, recurses := true, apart := false, narrowed := true }
def BarrierGoodUptoSaid : Prop := barrierGoodUptoRow.holds Tryz.pinned (OpenSpec.upto barrierGoodSpec)

/-- 'appleloftkeep.BarrierKeeps', WHERE WHAT IT READS IS OF BULK AT MOST 1048576: true; the input reads as it did. -/
def barrierKeepsUptoRow : OpenClaim := { program := "ytpbacomdoddhdaagreat", sum := "8a73dff768746596c2b9bece1224048c6b4aeb10d6529c1d1088117e63193d60", func := "appleloft/appleloftkeep.BarrierKeeps", spec := "barrierKeeps", inPlace := ["internal/bytealg.IndexByteString", "internal/bytealg.abigen_runtime_cmpstring", "internal/abi.NoEscape", "slices.overlaps[appleloft/api.Blob]", "slices.overlaps[appleloft/api.Entry]"], unfollowed := true, recurses := true, apart := false, narrowed := true }
def BarrierKeepsUptoSaid : Prop := barrierKeepsUptoRow.holds Tryz.pinned (OpenSpec.upto barrierKeepsSpec)

/-- 'appleloftkeep.BarrierEnds', WHERE WHAT IT READS IS OF BULK AT MOST 1048576: true; the input reads as it did. -/
def barrierEndsUptoRow : OpenClaim := { program := "ytpbacomdoddhdaagreat", sum := "8a73dff768746596c2b9bece1224048c6b4aeb10d6529c1d1088117e63193d60", func := "appleloft/appleloftkeep.BarrierEnds", spec := "barrierEnds", inPlace := ["internal/bytealg.IndexByteString", "internal/bytealg.abigen_runtime_cmpstring", "internal/abi.NoEscape", "slices.overlaps[appleloft/api.Blob]", "slices.overlaps[appleloft/api.Entry]"], unfollowed := true, recurses := true, apart := false, narrowed := true }
def BarrierEndsUptoSaid : Prop := barrierEndsUptoRow.holds Tryz.pinned (OpenSpec.upto barrierEndsSpec)

/-- 'appleloftkeep.ExecHits', WHERE WHAT IT READS IS OF BULK AT MOST 1048576: true; the input reads as it did. -/
def execHitsUptoRow : OpenClaim := { program := "ytpbacomdoddhdaagreat", sum := "8a73dff768746596c2b9bece1224048c6b4aeb10d6529c1d1088117e63193d60", func := "appleloft/appleloftkeep.ExecHits", spec := "execHits", inPlace := ["internal/bytealg.IndexByteString", "internal/bytealg.abigen_runtime_cmpstring", "internal/abi.NoEscape"], unfollowed := true, recurses := true, apart := false, narrowed := true }
def ExecHitsUptoSaid : Prop := execHitsUptoRow.holds Tryz.pinned (OpenSpec.upto execHitsSpec)

/-- 'appleloftkeep.ExecFailed', WHERE WHAT IT READS IS OF BULK AT MOST 1048576: true; the input reads as it did. -/
def execFailedUptoRow : OpenClaim := { program := "ytpbacomdoddhdaagreat", sum := "8a73dff768746596c2b9bece1224048c6b4aeb10d6529c1d1088117e63193d60", func := "appleloft/appleloftkeep.ExecFailed", spec := "execFailed", inPlace := ["internal/bytealg.IndexByteString", "internal/bytealg.abigen_runtime_cmpstring", "internal/abi.NoEscape"], unfollowed := true, recurses := true, apart := false, narrowed := true }
def ExecFailedUptoSaid : Prop := execFailedUptoRow.holds Tryz.pinned (OpenSpec.upto execFailedSpec)

/-- 'appleloftkeep.ExecHeld', WHERE WHAT IT READS IS OF BULK AT MOST 1048576: true; the input reads as it did. -/
def execHeldUptoRow : OpenClaim := { program := "ytpbacomdoddhdaagreat", sum := "8a73dff768746596c2b9bece1224048c6b4aeb10d6529c1d1088117e63193d60", func := "appleloft/appleloftkeep.ExecHeld", spec := "execHeld", inPlace := ["internal/bytealg.IndexByteString", "internal/bytealg.abigen_runtime_cmpstring", "internal/abi.NoEscape", "slices.overlaps[appleloft/api.Entry]"], unfollowed := true, recurses := true, apart := false, narrowed := true }
def ExecHeldUptoSaid : Prop := execHeldUptoRow.holds Tryz.pinned (OpenSpec.upto execHeldSpec)

/-- 'appleloftkeep.ExecOnce', WHERE WHAT IT READS IS OF BULK AT MOST 1048576: true; the input reads as it did. -/
def execOnceUptoRow : OpenClaim := { program := "ytpbacomdoddhdaagreat", sum := "8a73dff768746596c2b9bece1224048c6b4aeb10d6529c1d1088117e63193d60", func := "appleloft/appleloftkeep.ExecOnce", spec := "execOnce", inPlace := ["internal/bytealg.IndexByteString", "internal/bytealg.abigen_runtime_cmpstring", "internal/abi.NoEscape", "slices.overlaps[appleloft/api.Entry]"], unfollowed := true, recurses := true, apart := false, narrowed := true }
def ExecOnceUptoSaid : Prop := execOnceUptoRow.holds Tryz.pinned (OpenSpec.upto execOnceSpec)

/-- 'appleloftkeep.EvictAges', WHERE WHAT IT READS IS OF BULK AT MOST 1048576: true; the input reads as it did. -/
def evictAgesUptoRow : OpenClaim := { program := "ytpbacomdoddhdaagreat", sum := "8a73dff768746596c2b9bece1224048c6b4aeb10d6529c1d1088117e63193d60", func := "appleloft/appleloftkeep.EvictAges", spec := "evictAges", inPlace := ["internal/bytealg.IndexByteString", "internal/bytealg.abigen_runtime_cmpstring", "internal/abi.NoEscape"], unfollowed := true, recurses := true, apart := false, narrowed := true }
def EvictAgesUptoSaid : Prop := evictAgesUptoRow.holds Tryz.pinned (OpenSpec.upto evictAgesSpec)

/-- 'appleloftkeep.StoreOwn', WHERE WHAT IT READS IS OF BULK AT MOST 1048576: true; the input reads as it did. -/
def storeOwnUptoRow : OpenClaim := { program := "ytpbacomdoddhdaagreat", sum := "8a73dff768746596c2b9bece1224048c6b4aeb10d6529c1d1088117e63193d60", func := "appleloft/appleloftkeep.StoreOwn", spec := "storeOwn", inPlace := ["internal/bytealg.IndexByteString", "internal/bytealg.abigen_runtime_cmpstring", "internal/abi.NoEscape", "slices.overlaps[appleloft/api.Blob]", "slices.overlaps[appleloft/api.Entry]"], unfollowed := true, recurses := true, apart := false, narrowed := true }
def StoreOwnUptoSaid : Prop := storeOwnUptoRow.holds Tryz.pinned (OpenSpec.upto storeOwnSpec)

end Rows
end Go.Proofs.YtpbacomdoddhdaaGreat
