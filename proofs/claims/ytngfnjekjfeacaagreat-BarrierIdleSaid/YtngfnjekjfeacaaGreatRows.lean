/-
  No cell of these rows narrows 'for every input' (looked for: loops, veiled, ifaces, maps, wideKeys, modest, calm, conditions, laid).
  DERIVED. THE GIVEN ROWS OF THIS SEAT. 11 by the template 'for every input the law returns true; each argument reads behind the call as it read before'; 0 by the template 'total and deterministic' (their statements: YtngfnjekjfeacaaGreatTotals.lean).
  GIVEN WITH THE SEED: the statements are not yours to turn. If you find one false, say at which input.
  Laid BY PROGRAM, IN A SANDBOX (cutbox-rows.mjs): the forced cells as the released guide's own fill.sh prints them over the translation 883d3482fb9f271c… (all of the seat's roots in one cut). By AI agents, Wed Nov 11 2026. No macro, syntax, notation, axiom, sorry.
-/
import Derived.Test.YtngfnjekjfeacaaGreatChecked
import GoSem.Claim
import GoSem.ClaimJoined
import GoSem.ClaimMapViews
import Derived.JoinedTies
import Derived.KernelRfl
namespace Go.Proofs.YtngfnjekjfeacaaGreat
/- THE CELL 'sum', in the pinned program and in every row, IS THE sha256 OF THE DUMP (.gsa) THAT YtngfnjekjfeacaaGreatProg.lean LOADS. Nothing in Lean hashes anything: it is a label: what it is worth is what the hold of that sum in a sandbox is worth. -/
noncomputable def Tryz.pinned : Pinned := { name := "ytngfnjekjfeacaagreat", sum := "883d3482fb9f271c293396a942291df543f3672d92abf9d11197510403436a88", checked := Tryz.checked }
namespace Rows
def none {H : Type} : Left H := { results := [], args := [] }

/-- 'appleloftkeep.EvictAges': WHATEVER THE INPUT: true; the input reads as it did. -/
def evictAgesSpec : ChangeSpec := { name := "evictAges", fn := fun _ => fun
  | [d1, d2] => { results := [.lit (.bool true)], args := [d1, d2] }
  | _ => none }
def evictAgesRow : OpenClaim := { program := "ytngfnjekjfeacaagreat", sum := "883d3482fb9f271c293396a942291df543f3672d92abf9d11197510403436a88", func := "appleloft/appleloftkeep.EvictAges", spec := "evictAges", inPlace := ["internal/bytealg.IndexByteString", "internal/bytealg.abigen_runtime_cmpstring", "internal/abi.NoEscape"], unfollowed := true, recurses := true, apart := false }
def EvictAgesSaid : Prop := evictAgesRow.holds Tryz.pinned (OpenSpec.ofChange evictAgesSpec)

/-- ITS FALSE NEIGHBOUR: 'it returns false'. Refute it at one input. -/
def evictAgesWrong : ChangeSpec := { name := "evictAges", fn := fun _ => fun
  | [d1, d2] => { results := [.lit (.bool false)], args := [d1, d2] }
  | _ => none }
def EvictAgesWrongFalsely : Prop := evictAgesRow.holds Tryz.pinned (OpenSpec.ofChange evictAgesWrong)

/-- 'appleloftkeep.StoreOwn': WHATEVER THE INPUT: true; the input reads as it did. -/
def storeOwnSpec : ChangeSpec := { name := "storeOwn", fn := fun _ => fun
  | [d1, d2] => { results := [.lit (.bool true)], args := [d1, d2] }
  | _ => none }
def storeOwnRow : OpenClaim := { program := "ytngfnjekjfeacaagreat", sum := "883d3482fb9f271c293396a942291df543f3672d92abf9d11197510403436a88", func := "appleloft/appleloftkeep.StoreOwn", spec := "storeOwn", inPlace := ["internal/bytealg.IndexByteString", "internal/bytealg.abigen_runtime_cmpstring", "internal/abi.NoEscape", "slices.overlaps[appleloft/api.Blob]", "slices.overlaps[appleloft/api.Entry]"], unfollowed := true, recurses := true, apart := false }
def StoreOwnSaid : Prop := storeOwnRow.holds Tryz.pinned (OpenSpec.ofChange storeOwnSpec)

/-- ITS FALSE NEIGHBOUR: 'it returns false'. Refute it at one input. -/
def storeOwnWrong : ChangeSpec := { name := "storeOwn", fn := fun _ => fun
  | [d1, d2] => { results := [.lit (.bool false)], args := [d1, d2] }
  | _ => none }
def StoreOwnWrongFalsely : Prop := storeOwnRow.holds Tryz.pinned (OpenSpec.ofChange storeOwnWrong)

/-- 'appleloftkeep.CollectGood': WHATEVER THE INPUT: true; the input reads as it did. -/
def collectGoodSpec : ChangeSpec := { name := "collectGood", fn := fun _ => fun
  | [d] => { results := [.lit (.bool true)], args := [d] }
  | _ => none }
def collectGoodRow : OpenClaim := { program := "ytngfnjekjfeacaagreat", sum := "883d3482fb9f271c293396a942291df543f3672d92abf9d11197510403436a88", func := "appleloft/appleloftkeep.CollectGood", spec := "collectGood", inPlace := ["internal/bytealg.IndexByteString", "internal/bytealg.abigen_runtime_cmpstring", "internal/abi.NoEscape"], unfollowed := true, recurses := true, apart := false }
def CollectGoodSaid : Prop := collectGoodRow.holds Tryz.pinned (OpenSpec.ofChange collectGoodSpec)

/-- ITS FALSE NEIGHBOUR: 'it returns false'. Refute it at one input. -/
def collectGoodWrong : ChangeSpec := { name := "collectGood", fn := fun _ => fun
  | [d] => { results := [.lit (.bool false)], args := [d] }
  | _ => none }
def CollectGoodWrongFalsely : Prop := collectGoodRow.holds Tryz.pinned (OpenSpec.ofChange collectGoodWrong)

/-- 'appleloftkeep.CollectWhole': WHATEVER THE INPUT: true; the input reads as it did. -/
def collectWholeSpec : ChangeSpec := { name := "collectWhole", fn := fun _ => fun
  | [d1, d2] => { results := [.lit (.bool true)], args := [d1, d2] }
  | _ => none }
def collectWholeRow : OpenClaim := { program := "ytngfnjekjfeacaagreat", sum := "883d3482fb9f271c293396a942291df543f3672d92abf9d11197510403436a88", func := "appleloft/appleloftkeep.CollectWhole", spec := "collectWhole", inPlace := ["internal/bytealg.IndexByteString", "internal/bytealg.abigen_runtime_cmpstring", "internal/abi.NoEscape"], unfollowed := true, recurses := true, apart := false }
def CollectWholeSaid : Prop := collectWholeRow.holds Tryz.pinned (OpenSpec.ofChange collectWholeSpec)

/-- ITS FALSE NEIGHBOUR: 'it returns false'. Refute it at one input. -/
def collectWholeWrong : ChangeSpec := { name := "collectWhole", fn := fun _ => fun
  | [d1, d2] => { results := [.lit (.bool false)], args := [d1, d2] }
  | _ => none }
def CollectWholeWrongFalsely : Prop := collectWholeRow.holds Tryz.pinned (OpenSpec.ofChange collectWholeWrong)

/-- 'appleloftkeep.ExecHits': WHATEVER THE INPUT: true; the input reads as it did. -/
def execHitsSpec : ChangeSpec := { name := "execHits", fn := fun _ => fun
  | [d1, d2, d3] => { results := [.lit (.bool true)], args := [d1, d2, d3] }
  | _ => none }
def execHitsRow : OpenClaim := { program := "ytngfnjekjfeacaagreat", sum := "883d3482fb9f271c293396a942291df543f3672d92abf9d11197510403436a88", func := "appleloft/appleloftkeep.ExecHits", spec := "execHits", inPlace := ["internal/bytealg.IndexByteString", "internal/bytealg.abigen_runtime_cmpstring", "internal/abi.NoEscape"], unfollowed := true, recurses := true, apart := false }
def ExecHitsSaid : Prop := execHitsRow.holds Tryz.pinned (OpenSpec.ofChange execHitsSpec)

/-- ITS FALSE NEIGHBOUR: 'it returns false'. Refute it at one input. -/
def execHitsWrong : ChangeSpec := { name := "execHits", fn := fun _ => fun
  | [d1, d2, d3] => { results := [.lit (.bool false)], args := [d1, d2, d3] }
  | _ => none }
def ExecHitsWrongFalsely : Prop := execHitsRow.holds Tryz.pinned (OpenSpec.ofChange execHitsWrong)

/-- 'appleloftkeep.CollectExact': WHATEVER THE INPUT: true; the input reads as it did. -/
def collectExactSpec : ChangeSpec := { name := "collectExact", fn := fun _ => fun
  | [d] => { results := [.lit (.bool true)], args := [d] }
  | _ => none }
def collectExactRow : OpenClaim := { program := "ytngfnjekjfeacaagreat", sum := "883d3482fb9f271c293396a942291df543f3672d92abf9d11197510403436a88", func := "appleloft/appleloftkeep.CollectExact", spec := "collectExact", inPlace := ["internal/bytealg.IndexByteString", "internal/bytealg.abigen_runtime_cmpstring", "internal/abi.NoEscape"], unfollowed := true, recurses := true, apart := false }
def CollectExactSaid : Prop := collectExactRow.holds Tryz.pinned (OpenSpec.ofChange collectExactSpec)

/-- ITS FALSE NEIGHBOUR: 'it returns false'. Refute it at one input. -/
def collectExactWrong : ChangeSpec := { name := "collectExact", fn := fun _ => fun
  | [d] => { results := [.lit (.bool false)], args := [d] }
  | _ => none }
def CollectExactWrongFalsely : Prop := collectExactRow.holds Tryz.pinned (OpenSpec.ofChange collectExactWrong)

/-- 'appleloftkeep.ExecFailed': WHATEVER THE INPUT: true; the input reads as it did. -/
def execFailedSpec : ChangeSpec := { name := "execFailed", fn := fun _ => fun
  | [d1, d2, d3] => { results := [.lit (.bool true)], args := [d1, d2, d3] }
  | _ => none }
def execFailedRow : OpenClaim := { program := "ytngfnjekjfeacaagreat", sum := "883d3482fb9f271c293396a942291df543f3672d92abf9d11197510403436a88", func := "appleloft/appleloftkeep.ExecFailed", spec := "execFailed", inPlace := ["internal/bytealg.IndexByteString", "internal/bytealg.abigen_runtime_cmpstring", "internal/abi.NoEscape"], unfollowed := true, recurses := true, apart := false }
def ExecFailedSaid : Prop := execFailedRow.holds Tryz.pinned (OpenSpec.ofChange execFailedSpec)

/-- ITS FALSE NEIGHBOUR: 'it returns false'. Refute it at one input. -/
def execFailedWrong : ChangeSpec := { name := "execFailed", fn := fun _ => fun
  | [d1, d2, d3] => { results := [.lit (.bool false)], args := [d1, d2, d3] }
  | _ => none }
def ExecFailedWrongFalsely : Prop := execFailedRow.holds Tryz.pinned (OpenSpec.ofChange execFailedWrong)

/-- 'appleloftkeep.BarrierIdle': WHATEVER THE INPUT: true; the input reads as it did. -/
def barrierIdleSpec : ChangeSpec := { name := "barrierIdle", fn := fun _ => fun
  | [d1, d2] => { results := [.lit (.bool true)], args := [d1, d2] }
  | _ => none }
def barrierIdleRow : OpenClaim := { program := "ytngfnjekjfeacaagreat", sum := "883d3482fb9f271c293396a942291df543f3672d92abf9d11197510403436a88", func := "appleloft/appleloftkeep.BarrierIdle", spec := "barrierIdle", inPlace := ["internal/bytealg.IndexByteString", "internal/bytealg.abigen_runtime_cmpstring", "internal/abi.NoEscape", "slices.overlaps[appleloft/api.Blob]", "slices.overlaps[appleloft/api.Entry]"], unfollowed := true, recurses := true, apart := false }
def BarrierIdleSaid : Prop := barrierIdleRow.holds Tryz.pinned (OpenSpec.ofChange barrierIdleSpec)

/-- ITS FALSE NEIGHBOUR: 'it returns false'. Refute it at one input. -/
def barrierIdleWrong : ChangeSpec := { name := "barrierIdle", fn := fun _ => fun
  | [d1, d2] => { results := [.lit (.bool false)], args := [d1, d2] }
  | _ => none }
def BarrierIdleWrongFalsely : Prop := barrierIdleRow.holds Tryz.pinned (OpenSpec.ofChange barrierIdleWrong)

/-- 'appleloftkeep.ExecHeld': WHATEVER THE INPUT: true; the input reads as it did. -/
def execHeldSpec : ChangeSpec := { name := "execHeld", fn := fun _ => fun
  | [d1, d2] => { results := [.lit (.bool true)], args := [d1, d2] }
  | _ => none }
def execHeldRow : OpenClaim := { program := "ytngfnjekjfeacaagreat", sum := "883d3482fb9f271c293396a942291df543f3672d92abf9d11197510403436a88", func := "appleloft/appleloftkeep.ExecHeld", spec := "execHeld", inPlace := ["internal/bytealg.IndexByteString", "internal/bytealg.abigen_runtime_cmpstring", "internal/abi.NoEscape", "slices.overlaps[appleloft/api.Entry]"], unfollowed := true, recurses := true, apart := false }
def ExecHeldSaid : Prop := execHeldRow.holds Tryz.pinned (OpenSpec.ofChange execHeldSpec)

/-- ITS FALSE NEIGHBOUR: 'it returns false'. Refute it at one input. -/
def execHeldWrong : ChangeSpec := { name := "execHeld", fn := fun _ => fun
  | [d1, d2] => { results := [.lit (.bool false)], args := [d1, d2] }
  | _ => none }
def ExecHeldWrongFalsely : Prop := execHeldRow.holds Tryz.pinned (OpenSpec.ofChange execHeldWrong)

/-- 'appleloftkeep.BarrierGood': WHATEVER THE INPUT: true; the input reads as it did. -/
def barrierGoodSpec : ChangeSpec := { name := "barrierGood", fn := fun _ => fun
  | [d1, d2] => { results := [.lit (.bool true)], args := [d1, d2] }
  | _ => none }
def barrierGoodRow : OpenClaim := { program := "ytngfnjekjfeacaagreat", sum := "883d3482fb9f271c293396a942291df543f3672d92abf9d11197510403436a88", func := "appleloft/appleloftkeep.BarrierGood", spec := "barrierGood", inPlace := ["internal/bytealg.IndexByteString", "internal/bytealg.abigen_runtime_cmpstring", "internal/abi.NoEscape", "slices.overlaps[appleloft/api.Blob]", "slices.overlaps[appleloft/api.Entry]"], unfollowed := true, recurses := true, apart := false }
def BarrierGoodSaid : Prop := barrierGoodRow.holds Tryz.pinned (OpenSpec.ofChange barrierGoodSpec)

/-- ITS FALSE NEIGHBOUR: 'it returns false'. Refute it at one input. -/
def barrierGoodWrong : ChangeSpec := { name := "barrierGood", fn := fun _ => fun
  | [d1, d2] => { results := [.lit (.bool false)], args := [d1, d2] }
  | _ => none }
def BarrierGoodWrongFalsely : Prop := barrierGoodRow.holds Tryz.pinned (OpenSpec.ofChange barrierGoodWrong)

/-- 'appleloftkeep.ExecOnce': WHATEVER THE INPUT: true; the input reads as it did. -/
def execOnceSpec : ChangeSpec := { name := "execOnce", fn := fun _ => fun
  | [d1, d2, d3] => { results := [.lit (.bool true)], args := [d1, d2, d3] }
  | _ => none }
def execOnceRow : OpenClaim := { program := "ytngfnjekjfeacaagreat", sum := "883d3482fb9f271c293396a942291df543f3672d92abf9d11197510403436a88", func := "appleloft/appleloftkeep.ExecOnce", spec := "execOnce", inPlace := ["internal/bytealg.IndexByteString", "internal/bytealg.abigen_runtime_cmpstring", "internal/abi.NoEscape", "slices.overlaps[appleloft/api.Entry]"], unfollowed := true, recurses := true, apart := false }
def ExecOnceSaid : Prop := execOnceRow.holds Tryz.pinned (OpenSpec.ofChange execOnceSpec)

/-- ITS FALSE NEIGHBOUR: 'it returns false'. Refute it at one input. -/
def execOnceWrong : ChangeSpec := { name := "execOnce", fn := fun _ => fun
  | [d1, d2, d3] => { results := [.lit (.bool false)], args := [d1, d2, d3] }
  | _ => none }
def ExecOnceWrongFalsely : Prop := execOnceRow.holds Tryz.pinned (OpenSpec.ofChange execOnceWrong)

/- THE SECOND FORM. 'bulk': how many values and letters a reading holds, each counted each time it is reached (what is shared counts as often as it is met; a slice's spare places count too). A statement '..UptoSaid' is the law's where the arguments, and the package variables that the reading takes, are together of bulk at most 1048576: NARROWER than '..Said'. Prove '..Said' where nothing that the law and all that it calls make is longer than what came in: it says more and counts as full. Else prove '..UptoSaid'. A law counts once. -/
mutual
def uptoBulk {H : Type} : DataW H → Nat
  | .lit (.string bytes) => bytes.length + 1
  | .lit _ => 1
  | .nil => 1
  | .ptr d => uptoBulk d + 1
  | .slice elems spare => uptoBulkAll elems + uptoBulkAll spare + 1
  | .agg parts => uptoBulkAll parts + 1
  | .iface _ d => uptoBulk d + 1
  | .map entries => uptoBulkEntries entries + 1
  | .held _ => 1
def uptoBulkAll {H : Type} : List (DataW H) → Nat
  | [] => 0
  | d :: r => uptoBulk d + uptoBulkAll r
def uptoBulkEntries {H : Type} : List (Lit × DataW H) → Nat
  | [] => 0
  | x :: r => uptoBulkEntry x + uptoBulkEntries r
def uptoBulkEntry {H : Type} : Lit × DataW H → Nat
  | (.string bytes, d) => bytes.length + uptoBulk d + 1
  | (_, d) => uptoBulk d + 1
 end
def uptoSmall : (H : Type) → List (DataW H) → Bool := fun _ ds => decide (uptoBulkAll ds ≤ 1048576)
def OpenSpec.upto (s : _root_.Go.ChangeSpec) : _root_.Go.OpenSpec := { _root_.Go.OpenSpec.ofChange s with cond := some uptoSmall }

/-- 'appleloftkeep.EvictAges', WHERE WHAT IT READS IS OF BULK AT MOST 1048576: true; the input reads as it did. -/
def evictAgesUptoRow : OpenClaim := { program := "ytngfnjekjfeacaagreat", sum := "883d3482fb9f271c293396a942291df543f3672d92abf9d11197510403436a88", func := "appleloft/appleloftkeep.EvictAges", spec := "evictAges", inPlace := ["internal/bytealg.IndexByteString", "internal/bytealg.abigen_runtime_cmpstring", "internal/abi.NoEscape"], unfollowed := true, recurses := true, apart := false, narrowed := true }
def EvictAgesUptoSaid : Prop := evictAgesUptoRow.holds Tryz.pinned (OpenSpec.upto evictAgesSpec)

/-- 'appleloftkeep.StoreOwn', WHERE WHAT IT READS IS OF BULK AT MOST 1048576: true; the input reads as it did. -/
def storeOwnUptoRow : OpenClaim := { program := "ytngfnjekjfeacaagreat", sum := "883d3482fb9f271c293396a942291df543f3672d92abf9d11197510403436a88", func := "appleloft/appleloftkeep.StoreOwn", spec := "storeOwn", inPlace := ["internal/bytealg.IndexByteString", "internal/bytealg.abigen_runtime_cmpstring", "internal/abi.NoEscape", "slices.overlaps[appleloft/api.Blob]", "slices.overlaps[appleloft/api.Entry]"], unfollowed := true, recurses := true, apart := false, narrowed := true }
def StoreOwnUptoSaid : Prop := storeOwnUptoRow.holds Tryz.pinned (OpenSpec.upto storeOwnSpec)

/-- 'appleloftkeep.CollectGood', WHERE WHAT IT READS IS OF BULK AT MOST 1048576: true; the input reads as it did. -/
def collectGoodUptoRow : OpenClaim := { program := "ytngfnjekjfeacaagreat", sum := "883d3482fb9f271c293396a942291df543f3672d92abf9d11197510403436a88", func := "appleloft/appleloftkeep.CollectGood", spec := "collectGood", inPlace := ["internal/bytealg.IndexByteString", "internal/bytealg.abigen_runtime_cmpstring", "internal/abi.NoEscape"], unfollowed := true, recurses := true, apart := false, narrowed := true }
def CollectGoodUptoSaid : Prop := collectGoodUptoRow.holds Tryz.pinned (OpenSpec.upto collectGoodSpec)

/-- 'appleloftkeep.CollectWhole', WHERE WHAT IT READS IS OF BULK AT MOST 1048576: true; the input reads as it did. -/
def collectWholeUptoRow : OpenClaim := { program := "ytngfnjekjfeacaagreat", sum := "883d3482fb9f271c293396a942291df543f3672d92abf9d11197510403436a88", func := "appleloft/appleloftkeep.CollectWhole", spec := "collectWhole", inPlace := ["internal/bytealg.IndexByteString", "internal/bytealg.abigen_runtime_cmpstring", "internal/abi.NoEscape"], unfollowed := true, recurses := true, apart := false, narrowed := true }
def CollectWholeUptoSaid : Prop := collectWholeUptoRow.holds Tryz.pinned (OpenSpec.upto collectWholeSpec)

/-- 'appleloftkeep.ExecHits', WHERE WHAT IT READS IS OF BULK AT MOST 1048576: true; the input reads as it did. -/
def execHitsUptoRow : OpenClaim := { program := "ytngfnjekjfeacaagreat", sum := "883d3482fb9f271c293396a942291df543f3672d92abf9d11197510403436a88", func := "appleloft/appleloftkeep.ExecHits", spec := "execHits", inPlace := ["internal/bytealg.IndexByteString", "internal/bytealg.abigen_runtime_cmpstring", "internal/abi.NoEscape"], unfollowed := true, recurses := true, apart := false, narrowed := true }
def ExecHitsUptoSaid : Prop := execHitsUptoRow.holds Tryz.pinned (OpenSpec.upto execHitsSpec)

/-- 'appleloftkeep.CollectExact', WHERE WHAT IT READS IS OF BULK AT MOST 1048576: true; the input reads as it did. -/
def collectExactUptoRow : OpenClaim := { program := "ytngfnjekjfeacaagreat", sum := "883d3482fb9f271c293396a942291df543f3672d92abf9d11197510403436a88", func := "appleloft/appleloftkeep.CollectExact", spec := "collectExact", inPlace := ["internal/bytealg.IndexByteString", "internal/bytealg.abigen_runtime_cmpstring", "internal/abi.NoEscape"], unfollowed := true, recurses := true, apart := false, narrowed := true }
def CollectExactUptoSaid : Prop := collectExactUptoRow.holds Tryz.pinned (OpenSpec.upto collectExactSpec)

/-- 'appleloftkeep.ExecFailed', WHERE WHAT IT READS IS OF BULK AT MOST 1048576: true; the input reads as it did. -/
def execFailedUptoRow : OpenClaim := { program := "ytngfnjekjfeacaagreat", sum := "883d3482fb9f271c293396a942291df543f3672d92abf9d11197510403436a88", func := "appleloft/appleloftkeep.ExecFailed", spec := "execFailed", inPlace := ["internal/bytealg.IndexByteString", "internal/bytealg.abigen_runtime_cmpstring", "internal/abi.NoEscape"], unfollowed := true, recurses := true, apart := false, narrowed := true }
def ExecFailedUptoSaid : Prop := execFailedUptoRow.holds Tryz.pinned (OpenSpec.upto execFailedSpec)

/-- 'appleloftkeep.BarrierIdle', WHERE WHAT IT READS IS OF BULK AT MOST 1048576: true; the input reads as it did. -/
def barrierIdleUptoRow : OpenClaim := { program := "ytngfnjekjfeacaagreat", sum := "883d3482fb9f271c293396a942291df543f3672d92abf9d11197510403436a88", func := "appleloft/appleloftkeep.BarrierIdle", spec := "barrierIdle", inPlace := ["internal/bytealg.IndexByteString", "internal/bytealg.abigen_runtime_cmpstring", "internal/abi.NoEscape", "slices.overlaps[appleloft/api.Blob]", "slices.overlaps[appleloft/api.Entry]"], unfollowed := true, recurses := true, apart := false, narrowed := true }
def BarrierIdleUptoSaid : Prop := barrierIdleUptoRow.holds Tryz.pinned (OpenSpec.upto barrierIdleSpec)

/-- 'appleloftkeep.ExecHeld', WHERE WHAT IT READS IS OF BULK AT MOST 1048576: true; the input reads as it did. -/
def execHeldUptoRow : OpenClaim := { program := "ytngfnjekjfeacaagreat", sum := "883d3482fb9f271c293396a942291df543f3672d92abf9d11197510403436a88", func := "appleloft/appleloftkeep.ExecHeld", spec := "execHeld", inPlace := ["internal/bytealg.IndexByteString", "internal/bytealg.abigen_runtime_cmpstring", "internal/abi.NoEscape", "slices.overlaps[appleloft/api.Entry]"], unfollowed := true, recurses := true, apart := false, narrowed := true }
def ExecHeldUptoSaid : Prop := execHeldUptoRow.holds Tryz.pinned (OpenSpec.upto execHeldSpec)

/-- 'appleloftkeep.BarrierGood', WHERE WHAT IT READS IS OF BULK AT MOST 1048576: true; the input reads as it did. -/
def barrierGoodUptoRow : OpenClaim := { program := "ytngfnjekjfeacaagreat", sum := "883d3482fb9f271c293396a942291df543f3672d92abf9d11197510403436a88", func := "appleloft/appleloftkeep.BarrierGood", spec := "barrierGood", inPlace := ["internal/bytealg.IndexByteString", "internal/bytealg.abigen_runtime_cmpstring", "internal/abi.NoEscape", "slices.overlaps[appleloft/api.Blob]", "slices.overlaps[appleloft/api.Entry]"], unfollowed := true, recurses := true, apart := false, narrowed := true }
def BarrierGoodUptoSaid : Prop := barrierGoodUptoRow.holds Tryz.pinned (OpenSpec.upto barrierGoodSpec)

/-- 'appleloftkeep.ExecOnce', WHERE WHAT IT READS IS OF BULK AT MOST 1048576: true; the input reads as it did. -/
def execOnceUptoRow : OpenClaim := { program := "ytngfnjekjfeacaagreat", sum := "883d3482fb9f271c293396a942291df543f3672d92abf9d11197510403436a88", func := "appleloft/appleloftkeep.ExecOnce", spec := "execOnce", inPlace := ["internal/bytealg.IndexByteString", "internal/bytealg.abigen_runtime_cmpstring", "internal/abi.NoEscape", "slices.overlaps[appleloft/api.Entry]"], unfollowed := true, recurses := true, apart := false, narrowed := true }
def ExecOnceUptoSaid : Prop := execOnceUptoRow.holds Tryz.pinned (OpenSpec.upto execOnceSpec)

end Rows
end Go.Proofs.YtngfnjekjfeacaaGreat
