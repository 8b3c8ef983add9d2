/-
  No cell of these rows narrows 'for every input' (looked for: loops, veiled, ifaces, maps, wideKeys, modest, calm, conditions, laid).
  DERIVED. THE GIVEN ROWS OF THIS SEAT. 12 by the template 'for every input the law returns true; each argument reads behind the call as it read before'; 0 by the template 'total and deterministic' (their statements: YtgdfcgneafffhaaTotals.lean).
  GIVEN WITH THE SEED: the statements are not yours to turn. If you find one false, say at which input.
  Laid BY PROGRAM, IN A SANDBOX (cutbox-rows.mjs): the forced cells as the released guide's own fill.sh prints them over the translation 83e9e9f3214f3ae0… (all of the seat's roots in one cut). By AI agents, Wed Nov 11 2026. No macro, syntax, notation, axiom, sorry.
-/
import Derived.Test.YtgdfcgneafffhaaChecked
import GoSem.Claim
import GoSem.ClaimJoined
import GoSem.ClaimMapViews
import Derived.JoinedTies
import Derived.KernelRfl
namespace Go.Proofs.Ytgdfcgneafffhaa
/- THE CELL 'sum', in the pinned program and in every row, IS THE sha256 OF THE DUMP (.gsa) THAT YtgdfcgneafffhaaProg.lean LOADS. Nothing in Lean hashes anything: it is a label: what it is worth is what the hold of that sum in a sandbox is worth. -/
noncomputable def Try.pinned : Pinned := { name := "ytgdfcgneafffhaa", sum := "83e9e9f3214f3ae09f6265cc32c7e8058f1ed102b3fd06119b02ff355f53a9b9", checked := Try.checked }
namespace Rows
def none {H : Type} : Left H := { results := [], args := [] }

/-- 'appleloftkeep.WordPicks': WHATEVER THE INPUT: true; the input reads as it did. -/
def wordPicksSpec : ChangeSpec := { name := "wordPicks", fn := fun _ => fun
  | [d1, d2, d3] => { results := [.lit (.bool true)], args := [d1, d2, d3] }
  | _ => none }
def wordPicksRow : OpenClaim := { program := "ytgdfcgneafffhaa", sum := "83e9e9f3214f3ae09f6265cc32c7e8058f1ed102b3fd06119b02ff355f53a9b9", func := "appleloft/appleloftkeep.WordPicks", spec := "wordPicks", apart := false }
def WordPicksSaid : Prop := wordPicksRow.holds Try.pinned (OpenSpec.ofChange wordPicksSpec)

/-- ITS FALSE NEIGHBOUR: 'it returns false'. Refute it at one input. -/
def wordPicksWrong : ChangeSpec := { name := "wordPicks", fn := fun _ => fun
  | [d1, d2, d3] => { results := [.lit (.bool false)], args := [d1, d2, d3] }
  | _ => none }
def WordPicksWrongFalsely : Prop := wordPicksRow.holds Try.pinned (OpenSpec.ofChange wordPicksWrong)

/-- 'appleloftkeep.WordRound': WHATEVER THE INPUT: true; the input reads as it did. -/
def wordRoundSpec : ChangeSpec := { name := "wordRound", fn := fun _ => fun
  | [d1, d2] => { results := [.lit (.bool true)], args := [d1, d2] }
  | _ => none }
def wordRoundRow : OpenClaim := { program := "ytgdfcgneafffhaa", sum := "83e9e9f3214f3ae09f6265cc32c7e8058f1ed102b3fd06119b02ff355f53a9b9", func := "appleloft/appleloftkeep.WordRound", spec := "wordRound", apart := false }
def WordRoundSaid : Prop := wordRoundRow.holds Try.pinned (OpenSpec.ofChange wordRoundSpec)

/-- ITS FALSE NEIGHBOUR: 'it returns false'. Refute it at one input. -/
def wordRoundWrong : ChangeSpec := { name := "wordRound", fn := fun _ => fun
  | [d1, d2] => { results := [.lit (.bool false)], args := [d1, d2] }
  | _ => none }
def WordRoundWrongFalsely : Prop := wordRoundRow.holds Try.pinned (OpenSpec.ofChange wordRoundWrong)

/-- 'appleloftkeep.WordTwice': WHATEVER THE INPUT: true; the input reads as it did. -/
def wordTwiceSpec : ChangeSpec := { name := "wordTwice", fn := fun _ => fun
  | [d1, d2, d3] => { results := [.lit (.bool true)], args := [d1, d2, d3] }
  | _ => none }
def wordTwiceRow : OpenClaim := { program := "ytgdfcgneafffhaa", sum := "83e9e9f3214f3ae09f6265cc32c7e8058f1ed102b3fd06119b02ff355f53a9b9", func := "appleloft/appleloftkeep.WordTwice", spec := "wordTwice", apart := false }
def WordTwiceSaid : Prop := wordTwiceRow.holds Try.pinned (OpenSpec.ofChange wordTwiceSpec)

/-- ITS FALSE NEIGHBOUR: 'it returns false'. Refute it at one input. -/
def wordTwiceWrong : ChangeSpec := { name := "wordTwice", fn := fun _ => fun
  | [d1, d2, d3] => { results := [.lit (.bool false)], args := [d1, d2, d3] }
  | _ => none }
def WordTwiceWrongFalsely : Prop := wordTwiceRow.holds Try.pinned (OpenSpec.ofChange wordTwiceWrong)

/-- 'appleloftkeep.WireShort': WHATEVER THE INPUT: true; the input reads as it did. -/
def wireShortSpec : ChangeSpec := { name := "wireShort", fn := fun _ => fun
  | [d1, d2] => { results := [.lit (.bool true)], args := [d1, d2] }
  | _ => none }
def wireShortRow : OpenClaim := { program := "ytgdfcgneafffhaa", sum := "83e9e9f3214f3ae09f6265cc32c7e8058f1ed102b3fd06119b02ff355f53a9b9", func := "appleloft/appleloftkeep.WireShort", spec := "wireShort", apart := false }
def WireShortSaid : Prop := wireShortRow.holds Try.pinned (OpenSpec.ofChange wireShortSpec)

/-- ITS FALSE NEIGHBOUR: 'it returns false'. Refute it at one input. -/
def wireShortWrong : ChangeSpec := { name := "wireShort", fn := fun _ => fun
  | [d1, d2] => { results := [.lit (.bool false)], args := [d1, d2] }
  | _ => none }
def WireShortWrongFalsely : Prop := wireShortRow.holds Try.pinned (OpenSpec.ofChange wireShortWrong)

/-- 'appleloftkeep.WordLinear': WHATEVER THE INPUT: true; the input reads as it did. -/
def wordLinearSpec : ChangeSpec := { name := "wordLinear", fn := fun _ => fun
  | [d1, d2, d3] => { results := [.lit (.bool true)], args := [d1, d2, d3] }
  | _ => none }
def wordLinearRow : OpenClaim := { program := "ytgdfcgneafffhaa", sum := "83e9e9f3214f3ae09f6265cc32c7e8058f1ed102b3fd06119b02ff355f53a9b9", func := "appleloft/appleloftkeep.WordLinear", spec := "wordLinear", apart := false }
def WordLinearSaid : Prop := wordLinearRow.holds Try.pinned (OpenSpec.ofChange wordLinearSpec)

/-- ITS FALSE NEIGHBOUR: 'it returns false'. Refute it at one input. -/
def wordLinearWrong : ChangeSpec := { name := "wordLinear", fn := fun _ => fun
  | [d1, d2, d3] => { results := [.lit (.bool false)], args := [d1, d2, d3] }
  | _ => none }
def WordLinearWrongFalsely : Prop := wordLinearRow.holds Try.pinned (OpenSpec.ofChange wordLinearWrong)

/-- 'appleloftkeep.PinBack': WHATEVER THE INPUT: true; the input reads as it did. -/
def pinBackSpec : ChangeSpec := { name := "pinBack", fn := fun _ => fun
  | [d] => { results := [.lit (.bool true)], args := [d] }
  | _ => none }
def pinBackRow : OpenClaim := { program := "ytgdfcgneafffhaa", sum := "83e9e9f3214f3ae09f6265cc32c7e8058f1ed102b3fd06119b02ff355f53a9b9", func := "appleloft/appleloftkeep.PinBack", spec := "pinBack", apart := false }
def PinBackSaid : Prop := pinBackRow.holds Try.pinned (OpenSpec.ofChange pinBackSpec)

/-- ITS FALSE NEIGHBOUR: 'it returns false'. Refute it at one input. -/
def pinBackWrong : ChangeSpec := { name := "pinBack", fn := fun _ => fun
  | [d] => { results := [.lit (.bool false)], args := [d] }
  | _ => none }
def PinBackWrongFalsely : Prop := pinBackRow.holds Try.pinned (OpenSpec.ofChange pinBackWrong)

/-- 'appleloftkeep.PinWalks': WHATEVER THE INPUT: true; the input reads as it did. -/
def pinWalksSpec : ChangeSpec := { name := "pinWalks", fn := fun _ => fun
  | [d] => { results := [.lit (.bool true)], args := [d] }
  | _ => none }
def pinWalksRow : OpenClaim := { program := "ytgdfcgneafffhaa", sum := "83e9e9f3214f3ae09f6265cc32c7e8058f1ed102b3fd06119b02ff355f53a9b9", func := "appleloft/appleloftkeep.PinWalks", spec := "pinWalks", apart := false }
def PinWalksSaid : Prop := pinWalksRow.holds Try.pinned (OpenSpec.ofChange pinWalksSpec)

/-- ITS FALSE NEIGHBOUR: 'it returns false'. Refute it at one input. -/
def pinWalksWrong : ChangeSpec := { name := "pinWalks", fn := fun _ => fun
  | [d] => { results := [.lit (.bool false)], args := [d] }
  | _ => none }
def PinWalksWrongFalsely : Prop := pinWalksRow.holds Try.pinned (OpenSpec.ofChange pinWalksWrong)

/-- 'appleloftkeep.WireOne': WHATEVER THE INPUT: true; the input reads as it did. -/
def wireOneSpec : ChangeSpec := { name := "wireOne", fn := fun _ => fun
  | [d1, d2, d3] => { results := [.lit (.bool true)], args := [d1, d2, d3] }
  | _ => none }
def wireOneRow : OpenClaim := { program := "ytgdfcgneafffhaa", sum := "83e9e9f3214f3ae09f6265cc32c7e8058f1ed102b3fd06119b02ff355f53a9b9", func := "appleloft/appleloftkeep.WireOne", spec := "wireOne", apart := false }
def WireOneSaid : Prop := wireOneRow.holds Try.pinned (OpenSpec.ofChange wireOneSpec)

/-- ITS FALSE NEIGHBOUR: 'it returns false'. Refute it at one input. -/
def wireOneWrong : ChangeSpec := { name := "wireOne", fn := fun _ => fun
  | [d1, d2, d3] => { results := [.lit (.bool false)], args := [d1, d2, d3] }
  | _ => none }
def WireOneWrongFalsely : Prop := wireOneRow.holds Try.pinned (OpenSpec.ofChange wireOneWrong)

/-- 'appleloftkeep.WireMany': WHATEVER THE INPUT: true; the input reads as it did. -/
def wireManySpec : ChangeSpec := { name := "wireMany", fn := fun _ => fun
  | [d] => { results := [.lit (.bool true)], args := [d] }
  | _ => none }
def wireManyRow : OpenClaim := { program := "ytgdfcgneafffhaa", sum := "83e9e9f3214f3ae09f6265cc32c7e8058f1ed102b3fd06119b02ff355f53a9b9", func := "appleloft/appleloftkeep.WireMany", spec := "wireMany", apart := false }
def WireManySaid : Prop := wireManyRow.holds Try.pinned (OpenSpec.ofChange wireManySpec)

/-- ITS FALSE NEIGHBOUR: 'it returns false'. Refute it at one input. -/
def wireManyWrong : ChangeSpec := { name := "wireMany", fn := fun _ => fun
  | [d] => { results := [.lit (.bool false)], args := [d] }
  | _ => none }
def WireManyWrongFalsely : Prop := wireManyRow.holds Try.pinned (OpenSpec.ofChange wireManyWrong)

/-- 'appleloftkeep.WordBack': WHATEVER THE INPUT: true; the input reads as it did. -/
def wordBackSpec : ChangeSpec := { name := "wordBack", fn := fun _ => fun
  | [d] => { results := [.lit (.bool true)], args := [d] }
  | _ => none }
def wordBackRow : OpenClaim := { program := "ytgdfcgneafffhaa", sum := "83e9e9f3214f3ae09f6265cc32c7e8058f1ed102b3fd06119b02ff355f53a9b9", func := "appleloft/appleloftkeep.WordBack", spec := "wordBack", apart := false }
def WordBackSaid : Prop := wordBackRow.holds Try.pinned (OpenSpec.ofChange wordBackSpec)

/-- ITS FALSE NEIGHBOUR: 'it returns false'. Refute it at one input. -/
def wordBackWrong : ChangeSpec := { name := "wordBack", fn := fun _ => fun
  | [d] => { results := [.lit (.bool false)], args := [d] }
  | _ => none }
def WordBackWrongFalsely : Prop := wordBackRow.holds Try.pinned (OpenSpec.ofChange wordBackWrong)

/-- 'appleloftkeep.HexOrdered': WHATEVER THE INPUT: true; the input reads as it did. -/
def hexOrderedSpec : ChangeSpec := { name := "hexOrdered", fn := fun _ => fun
  | [d1, d2] => { results := [.lit (.bool true)], args := [d1, d2] }
  | _ => none }
def hexOrderedRow : OpenClaim := { program := "ytgdfcgneafffhaa", sum := "83e9e9f3214f3ae09f6265cc32c7e8058f1ed102b3fd06119b02ff355f53a9b9", func := "appleloft/appleloftkeep.HexOrdered", spec := "hexOrdered", inPlace := ["internal/abi.NoEscape", "internal/bytealg.abigen_runtime_cmpstring"], apart := false }
def HexOrderedSaid : Prop := hexOrderedRow.holds Try.pinned (OpenSpec.ofChange hexOrderedSpec)

/-- ITS FALSE NEIGHBOUR: 'it returns false'. Refute it at one input. -/
def hexOrderedWrong : ChangeSpec := { name := "hexOrdered", fn := fun _ => fun
  | [d1, d2] => { results := [.lit (.bool false)], args := [d1, d2] }
  | _ => none }
def HexOrderedWrongFalsely : Prop := hexOrderedRow.holds Try.pinned (OpenSpec.ofChange hexOrderedWrong)

/-- 'appleloftkeep.HexBack': WHATEVER THE INPUT: true; the input reads as it did. -/
def hexBackSpec : ChangeSpec := { name := "hexBack", fn := fun _ => fun
  | [d] => { results := [.lit (.bool true)], args := [d] }
  | _ => none }
def hexBackRow : OpenClaim := { program := "ytgdfcgneafffhaa", sum := "83e9e9f3214f3ae09f6265cc32c7e8058f1ed102b3fd06119b02ff355f53a9b9", func := "appleloft/appleloftkeep.HexBack", spec := "hexBack", inPlace := ["internal/abi.NoEscape", "internal/bytealg.IndexByteString"], apart := false }
def HexBackSaid : Prop := hexBackRow.holds Try.pinned (OpenSpec.ofChange hexBackSpec)

/-- ITS FALSE NEIGHBOUR: 'it returns false'. Refute it at one input. -/
def hexBackWrong : ChangeSpec := { name := "hexBack", fn := fun _ => fun
  | [d] => { results := [.lit (.bool false)], args := [d] }
  | _ => none }
def HexBackWrongFalsely : Prop := hexBackRow.holds Try.pinned (OpenSpec.ofChange hexBackWrong)

/- THE SECOND FORM. 'bulk': how many values and letters a reading holds, each counted each time it is reached (what is shared counts as often as it is met; a slice's spare places count too). A statement '..UptoSaid' is the law's where the arguments, and the package variables that the reading takes, are together of bulk at most 1048576: NARROWER than '..Said'. Prove '..Said' where nothing that the law and all that it calls make is longer than what came in: it says more and counts as full. Else prove '..UptoSaid'. A law counts once. -/
mutual
def uptoBulk {H : Type} : DataW H → Nat
  | .lit (.string bytes) => bytes.length + 1
  | .lit _ => 1
  | .nil => 1
  | .ptr d => uptoBulk d + 1
  | .slice elems spare => uptoBulkAll elems + uptoBulkAll spare + 1
  | .agg parts => uptoBulkAll parts + 1
  | .iface _ d => uptoBulk d + 1
  | .map entries => uptoBulkEntries entries + 1
  | .held _ => 1
def uptoBulkAll {H : Type} : List (DataW H) → Nat
  | [] => 0
  | d :: r => uptoBulk d + uptoBulkAll r
def uptoBulkEntries {H : Type} : List (Lit × DataW H) → Nat
  | [] => 0
  | x :: r => uptoBulkEntry x + uptoBulkEntries r
def uptoBulkEntry {H : Type} : Lit × DataW H → Nat
  | (.string bytes, d) => bytes.length + uptoBulk d + 1
  | (_, d) => uptoBulk d + 1
 end
def uptoSmall : (H : Type) → List (DataW H) → Bool := fun _ ds => decide (uptoBulkAll ds ≤ 1048576)
def OpenSpec.upto (s : _root_.Go.ChangeSpec) : _root_.Go.OpenSpec := { _root_.Go.OpenSpec.ofChange s with cond := some uptoSmall }

/-- 'appleloftkeep.WordPicks', WHERE WHAT IT READS IS OF BULK AT MOST 1048576: true; the input reads as it did. -/
def wordPicksUptoRow : OpenClaim := { program := "ytgdfcgneafffhaa", sum := "83e9e9f3214f3ae09f6265cc32c7e8058f1ed102b3fd06119b02ff355f53a9b9", func := "appleloft/appleloftkeep.WordPicks", spec := "wordPicks", apart := false, narrowed := true }
def WordPicksUptoSaid : Prop := wordPicksUptoRow.holds Try.pinned (OpenSpec.upto wordPicksSpec)

/-- 'appleloftkeep.WordRound', WHERE WHAT IT READS IS OF BULK AT MOST 1048576: true; the input reads as it did. -/
def wordRoundUptoRow : OpenClaim := { program := "ytgdfcgneafffhaa", sum := "83e9e9f3214f3ae09f6265cc32c7e8058f1ed102b3fd06119b02ff355f53a9b9", func := "appleloft/appleloftkeep.WordRound", spec := "wordRound", apart := false, narrowed := true }
def WordRoundUptoSaid : Prop := wordRoundUptoRow.holds Try.pinned (OpenSpec.upto wordRoundSpec)

/-- 'appleloftkeep.WordTwice', WHERE WHAT IT READS IS OF BULK AT MOST 1048576: true; the input reads as it did. -/
def wordTwiceUptoRow : OpenClaim := { program := "ytgdfcgneafffhaa", sum := "83e9e9f3214f3ae09f6265cc32c7e8058f1ed102b3fd06119b02ff355f53a9b9", func := "appleloft/appleloftkeep.WordTwice", spec := "wordTwice", apart := false, narrowed := true }
def WordTwiceUptoSaid : Prop := wordTwiceUptoRow.holds Try.pinned (OpenSpec.upto wordTwiceSpec)

/-- 'appleloftkeep.WireShort', WHERE WHAT IT READS IS OF BULK AT MOST 1048576: true; the input reads as it did. -/
def wireShortUptoRow : OpenClaim := { program := "ytgdfcgneafffhaa", sum := "83e9e9f3214f3ae09f6265cc32c7e8058f1ed102b3fd06119b02ff355f53a9b9", func := "appleloft/appleloftkeep.WireShort", spec := "wireShort", apart := false, narrowed := true }
def WireShortUptoSaid : Prop := wireShortUptoRow.holds Try.pinned (OpenSpec.upto wireShortSpec)

/-- 'appleloftkeep.WordLinear', WHERE WHAT IT READS IS OF BULK AT MOST 1048576: true; the input reads as it did. -/
def wordLinearUptoRow : OpenClaim := { program := "ytgdfcgneafffhaa", sum := "83e9e9f3214f3ae09f6265cc32c7e8058f1ed102b3fd06119b02ff355f53a9b9", func := "appleloft/appleloftkeep.WordLinear", spec := "wordLinear", apart := false, narrowed := true }
def WordLinearUptoSaid : Prop := wordLinearUptoRow.holds Try.pinned (OpenSpec.upto wordLinearSpec)

/-- 'appleloftkeep.PinBack', WHERE WHAT IT READS IS OF BULK AT MOST 1048576: true; the input reads as it did. -/
def pinBackUptoRow : OpenClaim := { program := "ytgdfcgneafffhaa", sum := "83e9e9f3214f3ae09f6265cc32c7e8058f1ed102b3fd06119b02ff355f53a9b9", func := "appleloft/appleloftkeep.PinBack", spec := "pinBack", apart := false, narrowed := true }
def PinBackUptoSaid : Prop := pinBackUptoRow.holds Try.pinned (OpenSpec.upto pinBackSpec)

/-- 'appleloftkeep.PinWalks', WHERE WHAT IT READS IS OF BULK AT MOST 1048576: true; the input reads as it did. -/
def pinWalksUptoRow : OpenClaim := { program := "ytgdfcgneafffhaa", sum := "83e9e9f3214f3ae09f6265cc32c7e8058f1ed102b3fd06119b02ff355f53a9b9", func := "appleloft/appleloftkeep.PinWalks", spec := "pinWalks", apart := false, narrowed := true }
def PinWalksUptoSaid : Prop := pinWalksUptoRow.holds Try.pinned (OpenSpec.upto pinWalksSpec)

/-- 'appleloftkeep.WireOne', WHERE WHAT IT READS IS OF BULK AT MOST 1048576: true; the input reads as it did. -/
def wireOneUptoRow : OpenClaim := { program := "ytgdfcgneafffhaa", sum := "83e9e9f3214f3ae09f6265cc32c7e8058f1ed102b3fd06119b02ff355f53a9b9", func := "appleloft/appleloftkeep.WireOne", spec := "wireOne", apart := false, narrowed := true }
def WireOneUptoSaid : Prop := wireOneUptoRow.holds Try.pinned (OpenSpec.upto wireOneSpec)

/-- 'appleloftkeep.WireMany', WHERE WHAT IT READS IS OF BULK AT MOST 1048576: true; the input reads as it did. -/
def wireManyUptoRow : OpenClaim := { program := "ytgdfcgneafffhaa", sum := "83e9e9f3214f3ae09f6265cc32c7e8058f1ed102b3fd06119b02ff355f53a9b9", func := "appleloft/appleloftkeep.WireMany", spec := "wireMany", apart := false, narrowed := true }
def WireManyUptoSaid : Prop := wireManyUptoRow.holds Try.pinned (OpenSpec.upto wireManySpec)

/-- 'appleloftkeep.WordBack', WHERE WHAT IT READS IS OF BULK AT MOST 1048576: true; the input reads as it did. -/
def wordBackUptoRow : OpenClaim := { program := "ytgdfcgneafffhaa", sum := "83e9e9f3214f3ae09f6265cc32c7e8058f1ed102b3fd06119b02ff355f53a9b9", func := "appleloft/appleloftkeep.WordBack", spec := "wordBack", apart := false, narrowed := true }
def WordBackUptoSaid : Prop := wordBackUptoRow.holds Try.pinned (OpenSpec.upto wordBackSpec)

/-- 'appleloftkeep.HexOrdered', WHERE WHAT IT READS IS OF BULK AT MOST 1048576: true; the input reads as it did. -/
def hexOrderedUptoRow : OpenClaim := { program := "ytgdfcgneafffhaa", sum := "83e9e9f3214f3ae09f6265cc32c7e8058f1ed102b3fd06119b02ff355f53a9b9", func := "appleloft/appleloftkeep.HexOrdered", spec := "hexOrdered", inPlace := ["internal/abi.NoEscape", "internal/bytealg.abigen_runtime_cmpstring"], apart := false, narrowed := true }
def HexOrderedUptoSaid : Prop := hexOrderedUptoRow.holds Try.pinned (OpenSpec.upto hexOrderedSpec)

/-- 'appleloftkeep.HexBack', WHERE WHAT IT READS IS OF BULK AT MOST 1048576: true; the input reads as it did. -/
def hexBackUptoRow : OpenClaim := { program := "ytgdfcgneafffhaa", sum := "83e9e9f3214f3ae09f6265cc32c7e8058f1ed102b3fd06119b02ff355f53a9b9", func := "appleloft/appleloftkeep.HexBack", spec := "hexBack", inPlace := ["internal/abi.NoEscape", "internal/bytealg.IndexByteString"], apart := false, narrowed := true }
def HexBackUptoSaid : Prop := hexBackUptoRow.holds Try.pinned (OpenSpec.upto hexBackSpec)

end Rows
end Go.Proofs.Ytgdfcgneafffhaa
