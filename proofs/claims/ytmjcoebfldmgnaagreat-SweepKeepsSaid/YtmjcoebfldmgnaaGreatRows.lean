/-
  No cell of these rows narrows 'for every input' (looked for: loops, veiled, ifaces, maps, wideKeys, modest, calm, conditions, laid).
  DERIVED. THE GIVEN ROWS OF THIS SEAT. 12 by the template 'for every input the law returns true; each argument reads behind the call as it read before'; 0 by the template 'total and deterministic' (their statements: YtmjcoebfldmgnaaGreatTotals.lean).
  GIVEN WITH THE SEED: the statements are not yours to turn. If you find one false, say at which input.
  Laid BY PROGRAM, IN A SANDBOX (cutbox-rows.mjs): the forced cells as the released guide's own fill.sh prints them over the translation ef41a1459635a572… (all of the seat's roots in one cut). By AI agents, Wed Nov 11 2026. No macro, syntax, notation, axiom, sorry.
-/
import Derived.Test.YtmjcoebfldmgnaaGreatChecked
import GoSem.Claim
import GoSem.ClaimJoined
import GoSem.ClaimMapViews
import Derived.JoinedTies
import Derived.KernelRfl
namespace Go.Proofs.YtmjcoebfldmgnaaGreat
/- THE CELL 'sum', in the pinned program and in every row, IS THE sha256 OF THE DUMP (.gsa) THAT YtmjcoebfldmgnaaGreatProg.lean LOADS. Nothing in Lean hashes anything: it is a label: what it is worth is what the hold of that sum in a sandbox is worth. -/
noncomputable def Tryz.pinned : Pinned := { name := "ytmjcoebfldmgnaagreat", sum := "ef41a1459635a572fcc8c2479345259d2f60f1e6ad2620ab2598b8c7419a6ac3", checked := Tryz.checked }
namespace Rows
def none {H : Type} : Left H := { results := [], args := [] }

/-- 'appleloftkeep.EvictCleans': WHATEVER THE INPUT: true; the input reads as it did. -/
def evictCleansSpec : ChangeSpec := { name := "evictCleans", fn := fun _ => fun
  | [d] => { results := [.lit (.bool true)], args := [d] }
  | _ => none }
def evictCleansRow : OpenClaim := { program := "ytmjcoebfldmgnaagreat", sum := "ef41a1459635a572fcc8c2479345259d2f60f1e6ad2620ab2598b8c7419a6ac3", func := "appleloft/appleloftkeep.EvictCleans", spec := "evictCleans", inPlace := ["internal/bytealg.IndexByteString", "internal/bytealg.abigen_runtime_cmpstring", "internal/abi.NoEscape"], unfollowed := true, recurses := true, apart := false }
def EvictCleansSaid : Prop := evictCleansRow.holds Tryz.pinned (OpenSpec.ofChange evictCleansSpec)

/-- ITS FALSE NEIGHBOUR: 'it returns false'. Refute it at one input. -/
def evictCleansWrong : ChangeSpec := { name := "evictCleans", fn := fun _ => fun
  | [d] => { results := [.lit (.bool false)], args := [d] }
  | _ => none }
def EvictCleansWrongFalsely : Prop := evictCleansRow.holds Tryz.pinned (OpenSpec.ofChange evictCleansWrong)

/-- 'appleloftkeep.EvictFits': WHATEVER THE INPUT: true; the input reads as it did. -/
def evictFitsSpec : ChangeSpec := { name := "evictFits", fn := fun _ => fun
  | [d1, d2] => { results := [.lit (.bool true)], args := [d1, d2] }
  | _ => none }
def evictFitsRow : OpenClaim := { program := "ytmjcoebfldmgnaagreat", sum := "ef41a1459635a572fcc8c2479345259d2f60f1e6ad2620ab2598b8c7419a6ac3", func := "appleloft/appleloftkeep.EvictFits", spec := "evictFits", inPlace := ["internal/bytealg.IndexByteString", "internal/bytealg.abigen_runtime_cmpstring", "internal/abi.NoEscape"], unfollowed := true, recurses := true, apart := false }
def EvictFitsSaid : Prop := evictFitsRow.holds Tryz.pinned (OpenSpec.ofChange evictFitsSpec)

/-- ITS FALSE NEIGHBOUR: 'it returns false'. Refute it at one input. -/
def evictFitsWrong : ChangeSpec := { name := "evictFits", fn := fun _ => fun
  | [d1, d2] => { results := [.lit (.bool false)], args := [d1, d2] }
  | _ => none }
def EvictFitsWrongFalsely : Prop := evictFitsRow.holds Tryz.pinned (OpenSpec.ofChange evictFitsWrong)

/-- 'appleloftkeep.EvictHeld': WHATEVER THE INPUT: true; the input reads as it did. -/
def evictHeldSpec : ChangeSpec := { name := "evictHeld", fn := fun _ => fun
  | [d1, d2] => { results := [.lit (.bool true)], args := [d1, d2] }
  | _ => none }
def evictHeldRow : OpenClaim := { program := "ytmjcoebfldmgnaagreat", sum := "ef41a1459635a572fcc8c2479345259d2f60f1e6ad2620ab2598b8c7419a6ac3", func := "appleloft/appleloftkeep.EvictHeld", spec := "evictHeld", inPlace := ["internal/bytealg.IndexByteString", "internal/bytealg.abigen_runtime_cmpstring", "internal/abi.NoEscape"], unfollowed := true, recurses := true, apart := false }
def EvictHeldSaid : Prop := evictHeldRow.holds Tryz.pinned (OpenSpec.ofChange evictHeldSpec)

/-- ITS FALSE NEIGHBOUR: 'it returns false'. Refute it at one input. -/
def evictHeldWrong : ChangeSpec := { name := "evictHeld", fn := fun _ => fun
  | [d1, d2] => { results := [.lit (.bool false)], args := [d1, d2] }
  | _ => none }
def EvictHeldWrongFalsely : Prop := evictHeldRow.holds Tryz.pinned (OpenSpec.ofChange evictHeldWrong)

/-- 'appleloftkeep.EvictAges': WHATEVER THE INPUT: true; the input reads as it did. -/
def evictAgesSpec : ChangeSpec := { name := "evictAges", fn := fun _ => fun
  | [d1, d2] => { results := [.lit (.bool true)], args := [d1, d2] }
  | _ => none }
def evictAgesRow : OpenClaim := { program := "ytmjcoebfldmgnaagreat", sum := "ef41a1459635a572fcc8c2479345259d2f60f1e6ad2620ab2598b8c7419a6ac3", func := "appleloft/appleloftkeep.EvictAges", spec := "evictAges", inPlace := ["internal/bytealg.IndexByteString", "internal/bytealg.abigen_runtime_cmpstring", "internal/abi.NoEscape"], unfollowed := true, recurses := true, apart := false }
def EvictAgesSaid : Prop := evictAgesRow.holds Tryz.pinned (OpenSpec.ofChange evictAgesSpec)

/-- ITS FALSE NEIGHBOUR: 'it returns false'. Refute it at one input. -/
def evictAgesWrong : ChangeSpec := { name := "evictAges", fn := fun _ => fun
  | [d1, d2] => { results := [.lit (.bool false)], args := [d1, d2] }
  | _ => none }
def EvictAgesWrongFalsely : Prop := evictAgesRow.holds Tryz.pinned (OpenSpec.ofChange evictAgesWrong)

/-- 'appleloftkeep.EvictMore': WHATEVER THE INPUT: true; the input reads as it did. -/
def evictMoreSpec : ChangeSpec := { name := "evictMore", fn := fun _ => fun
  | [d1, d2, d3] => { results := [.lit (.bool true)], args := [d1, d2, d3] }
  | _ => none }
def evictMoreRow : OpenClaim := { program := "ytmjcoebfldmgnaagreat", sum := "ef41a1459635a572fcc8c2479345259d2f60f1e6ad2620ab2598b8c7419a6ac3", func := "appleloft/appleloftkeep.EvictMore", spec := "evictMore", inPlace := ["internal/bytealg.IndexByteString", "internal/bytealg.abigen_runtime_cmpstring", "internal/abi.NoEscape"], unfollowed := true, recurses := true, apart := false }
def EvictMoreSaid : Prop := evictMoreRow.holds Tryz.pinned (OpenSpec.ofChange evictMoreSpec)

/-- ITS FALSE NEIGHBOUR: 'it returns false'. Refute it at one input. -/
def evictMoreWrong : ChangeSpec := { name := "evictMore", fn := fun _ => fun
  | [d1, d2, d3] => { results := [.lit (.bool false)], args := [d1, d2, d3] }
  | _ => none }
def EvictMoreWrongFalsely : Prop := evictMoreRow.holds Tryz.pinned (OpenSpec.ofChange evictMoreWrong)

/-- 'appleloftkeep.EvictTwice': WHATEVER THE INPUT: true; the input reads as it did. -/
def evictTwiceSpec : ChangeSpec := { name := "evictTwice", fn := fun _ => fun
  | [d1, d2] => { results := [.lit (.bool true)], args := [d1, d2] }
  | _ => none }
def evictTwiceRow : OpenClaim := { program := "ytmjcoebfldmgnaagreat", sum := "ef41a1459635a572fcc8c2479345259d2f60f1e6ad2620ab2598b8c7419a6ac3", func := "appleloft/appleloftkeep.EvictTwice", spec := "evictTwice", inPlace := ["internal/bytealg.IndexByteString", "internal/bytealg.abigen_runtime_cmpstring", "internal/abi.NoEscape"], unfollowed := true, recurses := true, apart := false }
def EvictTwiceSaid : Prop := evictTwiceRow.holds Tryz.pinned (OpenSpec.ofChange evictTwiceSpec)

/-- ITS FALSE NEIGHBOUR: 'it returns false'. Refute it at one input. -/
def evictTwiceWrong : ChangeSpec := { name := "evictTwice", fn := fun _ => fun
  | [d1, d2] => { results := [.lit (.bool false)], args := [d1, d2] }
  | _ => none }
def EvictTwiceWrongFalsely : Prop := evictTwiceRow.holds Tryz.pinned (OpenSpec.ofChange evictTwiceWrong)

/-- 'appleloftkeep.MarkComes': WHATEVER THE INPUT: true; the input reads as it did. -/
def markComesSpec : ChangeSpec := { name := "markComes", fn := fun _ => fun
  | [d] => { results := [.lit (.bool true)], args := [d] }
  | _ => none }
def markComesRow : OpenClaim := { program := "ytmjcoebfldmgnaagreat", sum := "ef41a1459635a572fcc8c2479345259d2f60f1e6ad2620ab2598b8c7419a6ac3", func := "appleloft/appleloftkeep.MarkComes", spec := "markComes", inPlace := ["internal/bytealg.IndexByteString", "internal/bytealg.abigen_runtime_cmpstring", "internal/abi.NoEscape"], unfollowed := true, recurses := true, apart := false }
def MarkComesSaid : Prop := markComesRow.holds Tryz.pinned (OpenSpec.ofChange markComesSpec)

/-- ITS FALSE NEIGHBOUR: 'it returns false'. Refute it at one input. -/
def markComesWrong : ChangeSpec := { name := "markComes", fn := fun _ => fun
  | [d] => { results := [.lit (.bool false)], args := [d] }
  | _ => none }
def MarkComesWrongFalsely : Prop := markComesRow.holds Tryz.pinned (OpenSpec.ofChange markComesWrong)

/-- 'appleloftkeep.MarkAll': WHATEVER THE INPUT: true; the input reads as it did. -/
def markAllSpec : ChangeSpec := { name := "markAll", fn := fun _ => fun
  | [d1, d2] => { results := [.lit (.bool true)], args := [d1, d2] }
  | _ => none }
def markAllRow : OpenClaim := { program := "ytmjcoebfldmgnaagreat", sum := "ef41a1459635a572fcc8c2479345259d2f60f1e6ad2620ab2598b8c7419a6ac3", func := "appleloft/appleloftkeep.MarkAll", spec := "markAll", inPlace := ["internal/bytealg.IndexByteString", "internal/bytealg.abigen_runtime_cmpstring", "internal/abi.NoEscape"], unfollowed := true, recurses := true, apart := false }
def MarkAllSaid : Prop := markAllRow.holds Tryz.pinned (OpenSpec.ofChange markAllSpec)

/-- ITS FALSE NEIGHBOUR: 'it returns false'. Refute it at one input. -/
def markAllWrong : ChangeSpec := { name := "markAll", fn := fun _ => fun
  | [d1, d2] => { results := [.lit (.bool false)], args := [d1, d2] }
  | _ => none }
def MarkAllWrongFalsely : Prop := markAllRow.holds Tryz.pinned (OpenSpec.ofChange markAllWrong)

/-- 'appleloftkeep.SweepKeeps': WHATEVER THE INPUT: true; the input reads as it did. -/
def sweepKeepsSpec : ChangeSpec := { name := "sweepKeeps", fn := fun _ => fun
  | [d] => { results := [.lit (.bool true)], args := [d] }
  | _ => none }
def sweepKeepsRow : OpenClaim := { program := "ytmjcoebfldmgnaagreat", sum := "ef41a1459635a572fcc8c2479345259d2f60f1e6ad2620ab2598b8c7419a6ac3", func := "appleloft/appleloftkeep.SweepKeeps", spec := "sweepKeeps", inPlace := ["internal/bytealg.IndexByteString", "internal/bytealg.abigen_runtime_cmpstring", "internal/abi.NoEscape"], unfollowed := true, recurses := true, apart := false }
def SweepKeepsSaid : Prop := sweepKeepsRow.holds Tryz.pinned (OpenSpec.ofChange sweepKeepsSpec)

/-- ITS FALSE NEIGHBOUR: 'it returns false'. Refute it at one input. -/
def sweepKeepsWrong : ChangeSpec := { name := "sweepKeeps", fn := fun _ => fun
  | [d] => { results := [.lit (.bool false)], args := [d] }
  | _ => none }
def SweepKeepsWrongFalsely : Prop := sweepKeepsRow.holds Tryz.pinned (OpenSpec.ofChange sweepKeepsWrong)

/-- 'appleloftkeep.CollectGood': WHATEVER THE INPUT: true; the input reads as it did. -/
def collectGoodSpec : ChangeSpec := { name := "collectGood", fn := fun _ => fun
  | [d] => { results := [.lit (.bool true)], args := [d] }
  | _ => none }
def collectGoodRow : OpenClaim := { program := "ytmjcoebfldmgnaagreat", sum := "ef41a1459635a572fcc8c2479345259d2f60f1e6ad2620ab2598b8c7419a6ac3", func := "appleloft/appleloftkeep.CollectGood", spec := "collectGood", inPlace := ["internal/bytealg.IndexByteString", "internal/bytealg.abigen_runtime_cmpstring", "internal/abi.NoEscape"], unfollowed := true, recurses := true, apart := false }
def CollectGoodSaid : Prop := collectGoodRow.holds Tryz.pinned (OpenSpec.ofChange collectGoodSpec)

/-- ITS FALSE NEIGHBOUR: 'it returns false'. Refute it at one input. -/
def collectGoodWrong : ChangeSpec := { name := "collectGood", fn := fun _ => fun
  | [d] => { results := [.lit (.bool false)], args := [d] }
  | _ => none }
def CollectGoodWrongFalsely : Prop := collectGoodRow.holds Tryz.pinned (OpenSpec.ofChange collectGoodWrong)

/-- 'appleloftkeep.CollectWhole': WHATEVER THE INPUT: true; the input reads as it did. -/
def collectWholeSpec : ChangeSpec := { name := "collectWhole", fn := fun _ => fun
  | [d1, d2] => { results := [.lit (.bool true)], args := [d1, d2] }
  | _ => none }
def collectWholeRow : OpenClaim := { program := "ytmjcoebfldmgnaagreat", sum := "ef41a1459635a572fcc8c2479345259d2f60f1e6ad2620ab2598b8c7419a6ac3", func := "appleloft/appleloftkeep.CollectWhole", spec := "collectWhole", inPlace := ["internal/bytealg.IndexByteString", "internal/bytealg.abigen_runtime_cmpstring", "internal/abi.NoEscape"], unfollowed := true, recurses := true, apart := false }
def CollectWholeSaid : Prop := collectWholeRow.holds Tryz.pinned (OpenSpec.ofChange collectWholeSpec)

/-- ITS FALSE NEIGHBOUR: 'it returns false'. Refute it at one input. -/
def collectWholeWrong : ChangeSpec := { name := "collectWhole", fn := fun _ => fun
  | [d1, d2] => { results := [.lit (.bool false)], args := [d1, d2] }
  | _ => none }
def CollectWholeWrongFalsely : Prop := collectWholeRow.holds Tryz.pinned (OpenSpec.ofChange collectWholeWrong)

/-- 'appleloftkeep.CollectExact': WHATEVER THE INPUT: true; the input reads as it did. -/
def collectExactSpec : ChangeSpec := { name := "collectExact", fn := fun _ => fun
  | [d] => { results := [.lit (.bool true)], args := [d] }
  | _ => none }
def collectExactRow : OpenClaim := { program := "ytmjcoebfldmgnaagreat", sum := "ef41a1459635a572fcc8c2479345259d2f60f1e6ad2620ab2598b8c7419a6ac3", func := "appleloft/appleloftkeep.CollectExact", spec := "collectExact", inPlace := ["internal/bytealg.IndexByteString", "internal/bytealg.abigen_runtime_cmpstring", "internal/abi.NoEscape"], unfollowed := true, recurses := true, apart := false }
def CollectExactSaid : Prop := collectExactRow.holds Tryz.pinned (OpenSpec.ofChange collectExactSpec)

/-- ITS FALSE NEIGHBOUR: 'it returns false'. Refute it at one input. -/
def collectExactWrong : ChangeSpec := { name := "collectExact", fn := fun _ => fun
  | [d] => { results := [.lit (.bool false)], args := [d] }
  | _ => none }
def CollectExactWrongFalsely : Prop := collectExactRow.holds Tryz.pinned (OpenSpec.ofChange collectExactWrong)

/- THE SECOND FORM. 'bulk': how many values and letters a reading holds, each counted each time it is reached (what is shared counts as often as it is met; a slice's spare places count too). A statement '..UptoSaid' is the law's where the arguments, and the package variables that the reading takes, are together of bulk at most 1048576: NARROWER than '..Said'. Prove '..Said' where nothing that the law and all that it calls make is longer than what came in: it says more and counts as full. Else prove '..UptoSaid'. A law counts once. -/
mutual
def uptoBulk {H : Type} : DataW H → Nat
  | .lit (.string bytes) => bytes.length + 1
  | .lit _ => 1
  | .nil => 1
  | .ptr d => uptoBulk d + 1
  | .slice elems spare => uptoBulkAll elems + uptoBulkAll spare + 1
  | .agg parts => uptoBulkAll parts + 1
  | .iface _ d => uptoBulk d + 1
  | .map entries => uptoBulkEntries entries + 1
  | .held _ => 1
def uptoBulkAll {H : Type} : List (DataW H) → Nat
  | [] => 0
  | d :: r => uptoBulk d + uptoBulkAll r
def uptoBulkEntries {H : Type} : List (Lit × DataW H) → Nat
  | [] => 0
  | x :: r => uptoBulkEntry x + uptoBulkEntries r
def uptoBulkEntry {H : Type} : Lit × DataW H → Nat
  | (.string bytes, d) => bytes.length + uptoBulk d + 1
  | (_, d) => uptoBulk d + 1
 end
def uptoSmall : (H : Type) → List (DataW H) → Bool := fun _ ds => decide (uptoBulkAll ds ≤ 1048576)
def OpenSpec.upto (s : _root_.Go.ChangeSpec) : _root_.Go.OpenSpec := { _root_.Go.OpenSpec.ofChange s with cond := some uptoSmall }

/-- 'appleloftkeep.EvictCleans', WHERE WHAT IT READS IS OF BULK AT MOST 1048576: true; the input reads as it did. -/
def evictCleansUptoRow : OpenClaim := { program := "ytmjcoebfldmgnaagreat", sum := "ef41a1459635a572fcc8c2479345259d2f60f1e6ad2620ab2598b8c7419a6ac3", func := "appleloft/appleloftkeep.EvictCleans", spec := "evictCleans", inPlace := ["internal/bytealg.IndexByteString", "internal/bytealg.abigen_runtime_cmpstring", "internal/abi.NoEscape"], unfollowed := true, recurses := true, apart := false, narrowed := true }
def EvictCleansUptoSaid : Prop := evictCleansUptoRow.holds Tryz.pinned (OpenSpec.upto evictCleansSpec)

/-- 'appleloftkeep.EvictFits', WHERE WHAT IT READS IS OF BULK AT MOST 1048576: true; the input reads as it did. -/
def evictFitsUptoRow : OpenClaim := { program := "ytmjcoebfldmgnaagreat", sum := "ef41a1459635a572fcc8c2479345259d2f60f1e6ad2620ab2598b8c7419a6ac3", func := "appleloft/appleloftkeep.EvictFits", spec := "evictFits", inPlace := ["internal/bytealg.IndexByteString", "internal/bytealg.abigen_runtime_cmpstring", "internal/abi.NoEscape"], unfollowed := true, recurses := true, apart := false, narrowed := true }
def EvictFitsUptoSaid : Prop := evictFitsUptoRow.holds Tryz.pinned (OpenSpec.upto evictFitsSpec)

/-- 'appleloftkeep.EvictHeld', WHERE WHAT IT READS IS OF BULK AT MOST 1048576: true; the input reads as it did. -/
def evictHeldUptoRow : OpenClaim := { program := "ytmjcoebfldmgnaagreat", sum := "ef41a1459635a572fcc8c2479345259d2f60f1e6ad2620ab2598b8c7419a6ac3", func := "appleloft/appleloftkeep.EvictHeld", spec := "evictHeld", inPlace := ["internal/bytealg.IndexByteString", "internal/bytealg.abigen_runtime_cmpstring", "internal/abi.NoEscape"], unfollowed := true, recurses := true, apart := false, narrowed := true }
def EvictHeldUptoSaid : Prop := evictHeldUptoRow.holds Tryz.pinned (OpenSpec.upto evictHeldSpec)

/-- 'appleloftkeep.EvictAges', WHERE WHAT IT READS IS OF BULK AT MOST 1048576: true; the input reads as it did. -/
def evictAgesUptoRow : OpenClaim := { program := "ytmjcoebfldmgnaagreat", sum := "ef41a1459635a572fcc8c2479345259d2f60f1e6ad2620ab2598b8c7419a6ac3", func := "appleloft/appleloftkeep.EvictAges", spec := "evictAges", inPlace := ["internal/bytealg.IndexByteString", "internal/bytealg.abigen_runtime_cmpstring", "internal/abi.NoEscape"], unfollowed := true, recurses := true, apart := false, narrowed := true }
def EvictAgesUptoSaid : Prop := evictAgesUptoRow.holds Tryz.pinned (OpenSpec.upto evictAgesSpec)

/-- 'appleloftkeep.EvictMore', WHERE WHAT IT READS IS OF BULK AT MOST 1048576: true; the input reads as it did. -/
def evictMoreUptoRow : OpenClaim := { program := "ytmjcoebfldmgnaagreat", sum := "ef41a1459635a572fcc8c2479345259d2f60f1e6ad2620ab2598b8c7419a6ac3", func := "appleloft/appleloftkeep.EvictMore", spec := "evictMore", inPlace := ["internal/bytealg.IndexByteString", "internal/bytealg.abigen_runtime_cmpstring", "internal/abi.NoEscape"], unfollowed := true, recurses := true, apart := false, narrowed := true }
def EvictMoreUptoSaid : Prop := evictMoreUptoRow.holds Tryz.pinned (OpenSpec.upto evictMoreSpec)

/-- 'appleloftkeep.EvictTwice', WHERE WHAT IT READS IS OF BULK AT MOST 1048576: true; the input reads as it did. -/
def evictTwiceUptoRow : OpenClaim := { program := "ytmjcoebfldmgnaagreat", sum := "ef41a1459635a572fcc8c2479345259d2f60f1e6ad2620ab2598b8c7419a6ac3", func := "appleloft/appleloftkeep.EvictTwice", spec := "evictTwice", inPlace := ["internal/bytealg.IndexByteString", "internal/bytealg.abigen_runtime_cmpstring", "internal/abi.NoEscape"], unfollowed := true, recurses := true, apart := false, narrowed := true }
def EvictTwiceUptoSaid : Prop := evictTwiceUptoRow.holds Tryz.pinned (OpenSpec.upto evictTwiceSpec)

/-- 'appleloftkeep.MarkComes', WHERE WHAT IT READS IS OF BULK AT MOST 1048576: true; the input reads as it did. -/
def markComesUptoRow : OpenClaim := { program := "ytmjcoebfldmgnaagreat", sum := "ef41a1459635a572fcc8c2479345259d2f60f1e6ad2620ab2598b8c7419a6ac3", func := "appleloft/appleloftkeep.MarkComes", spec := "markComes", inPlace := ["internal/bytealg.IndexByteString", "internal/bytealg.abigen_runtime_cmpstring", "internal/abi.NoEscape"], unfollowed := true, recurses := true, apart := false, narrowed := true }
def MarkComesUptoSaid : Prop := markComesUptoRow.holds Tryz.pinned (OpenSpec.upto markComesSpec)

/-- 'appleloftkeep.MarkAll', WHERE WHAT IT READS IS OF BULK AT MOST 1048576: true; the input reads as it did. -/
def markAllUptoRow : OpenClaim := { program := "ytmjcoebfldmgnaagreat", sum := "ef41a1459635a572fcc8c2479345259d2f60f1e6ad2620ab2598b8c7419a6ac3", func := "appleloft/appleloftkeep.MarkAll", spec := "markAll", inPlace := ["internal/bytealg.IndexByteString", "internal/bytealg.abigen_runtime_cmpstring", "internal/abi.NoEscape"], unfollowed := true, recurses := true, apart := false, narrowed := true }
def MarkAllUptoSaid : Prop := markAllUptoRow.holds Tryz.pinned (OpenSpec.upto markAllSpec)

/-- 'appleloftkeep.SweepKeeps', WHERE WHAT IT READS IS OF BULK AT MOST 1048576: true; the input reads as it did. -/
def sweepKeepsUptoRow : OpenClaim := { program := "ytmjcoebfldmgnaagreat", sum := "ef41a1459635a572fcc8c2479345259d2f60f1e6ad2620ab2598b8c7419a6ac3", func := "appleloft/appleloftkeep.SweepKeeps", spec := "sweepKeeps", inPlace := ["internal/bytealg.IndexByteString", "internal/bytealg.abigen_runtime_cmpstring", "internal/abi.NoEscape"], unfollowed := true, recurses := true, apart := false, narrowed := true }
def SweepKeepsUptoSaid : Prop := sweepKeepsUptoRow.holds Tryz.pinned (OpenSpec.upto sweepKeepsSpec)

/-- 'appleloftkeep.CollectGood', WHERE WHAT IT READS IS OF BULK AT MOST 1048576: true; the input reads as it did. -/
def collectGoodUptoRow : OpenClaim := { program := "ytmjcoebfldmgnaagreat", sum := "ef41a1459635a572fcc8c2479345259d2f60f1e6ad2620ab2598b8c7419a6ac3", func := "appleloft/appleloftkeep.CollectGood", spec := "collectGood", inPlace := ["internal/bytealg.IndexByteString", "internal/bytealg.abigen_runtime_cmpstring", "internal/abi.NoEscape"], unfollowed := true, recurses := true, apart := false, narrowed := true }
def CollectGoodUptoSaid : Prop := collectGoodUptoRow.holds Tryz.pinned (OpenSpec.upto collectGoodSpec)

/-- 'appleloftkeep.CollectWhole', WHERE WHAT IT READS IS OF BULK AT MOST 1048576: true; the input reads as it did. -/
def collectWholeUptoRow : OpenClaim := { program := "ytmjcoebfldmgnaagreat", sum := "ef41a1459635a572fcc8c2479345259d2f60f1e6ad2620ab2598b8c7419a6ac3", func := "appleloft/appleloftkeep.CollectWhole", spec := "collectWhole", inPlace := ["internal/bytealg.IndexByteString", "internal/bytealg.abigen_runtime_cmpstring", "internal/abi.NoEscape"], unfollowed := true, recurses := true, apart := false, narrowed := true }
def CollectWholeUptoSaid : Prop := collectWholeUptoRow.holds Tryz.pinned (OpenSpec.upto collectWholeSpec)

/-- 'appleloftkeep.CollectExact', WHERE WHAT IT READS IS OF BULK AT MOST 1048576: true; the input reads as it did. -/
def collectExactUptoRow : OpenClaim := { program := "ytmjcoebfldmgnaagreat", sum := "ef41a1459635a572fcc8c2479345259d2f60f1e6ad2620ab2598b8c7419a6ac3", func := "appleloft/appleloftkeep.CollectExact", spec := "collectExact", inPlace := ["internal/bytealg.IndexByteString", "internal/bytealg.abigen_runtime_cmpstring", "internal/abi.NoEscape"], unfollowed := true, recurses := true, apart := false, narrowed := true }
def CollectExactUptoSaid : Prop := collectExactUptoRow.holds Tryz.pinned (OpenSpec.upto collectExactSpec)

end Rows
end Go.Proofs.YtmjcoebfldmgnaaGreat
