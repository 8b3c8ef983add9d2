/-
  No cell of these rows narrows 'for every input' (looked for: loops, veiled, ifaces, maps, wideKeys, modest, calm, conditions, laid).
  DERIVED. THE GIVEN ROWS OF THIS SEAT. 4 by the template 'for every input the law returns true; each argument reads behind the call as it read before'; 0 by the template 'total and deterministic' (their statements: YtkfipkmkmhkfaaaTotals.lean).
  GIVEN WITH THE SEED: the statements are not yours to turn. If you find one false, say at which input.
  Laid BY PROGRAM, IN A SANDBOX (cutbox-rows.mjs): the forced cells as the released guide's own fill.sh prints them over the translation 32da6f64118975df… (all of the seat's roots in one cut). By AI agents, Wed Nov 11 2026. No macro, syntax, notation, axiom, sorry.
-/
import Derived.Test.YtkfipkmkmhkfaaaChecked
import GoSem.Claim
import GoSem.ClaimJoined
import GoSem.ClaimMapViews
import Derived.JoinedTies
import Derived.KernelRfl
namespace Go.Proofs.Ytkfipkmkmhkfaaa
/- THE CELL 'sum', in the pinned program and in every row, IS THE sha256 OF THE DUMP (.gsa) THAT YtkfipkmkmhkfaaaProg.lean LOADS. Nothing in Lean hashes anything: it is a label: what it is worth is what the hold of that sum in a sandbox is worth. -/
noncomputable def Try.pinned : Pinned := { name := "ytkfipkmkmhkfaaa", sum := "32da6f64118975dfde11883c384e19fae7c930624242dee626a0ffcaad1950d7", checked := Try.checked }
namespace Rows
def none {H : Type} : Left H := { results := [], args := [] }

/-- 'appleloftkeep.ActionLimits': WHATEVER THE INPUT: true; the input reads as it did. -/
def actionLimitsSpec : ChangeSpec := { name := "actionLimits", fn := fun _ => fun
  | [d] => { results := [.lit (.bool true)], args := [d] }
  | _ => none }
def actionLimitsRow : OpenClaim := { program := "ytkfipkmkmhkfaaa", sum := "32da6f64118975dfde11883c384e19fae7c930624242dee626a0ffcaad1950d7", func := "appleloft/appleloftkeep.ActionLimits", spec := "actionLimits", inPlace := ["internal/abi.NoEscape", "internal/bytealg.MakeNoZero", "internal/bytealg.IndexByteString"], unfollowed := true, recurses := true, apart := false }
def ActionLimitsSaid : Prop := actionLimitsRow.holds Try.pinned (OpenSpec.ofChange actionLimitsSpec)

/-- ITS FALSE NEIGHBOUR: 'it returns false'. Refute it at one input. -/
def actionLimitsWrong : ChangeSpec := { name := "actionLimits", fn := fun _ => fun
  | [d] => { results := [.lit (.bool false)], args := [d] }
  | _ => none }
def ActionLimitsWrongFalsely : Prop := actionLimitsRow.holds Try.pinned (OpenSpec.ofChange actionLimitsWrong)

/-- 'appleloftkeep.ActionTurns': WHATEVER THE INPUT: true; the input reads as it did. -/
def actionTurnsSpec : ChangeSpec := { name := "actionTurns", fn := fun _ => fun
  | [d1, d2, d3, d4] => { results := [.lit (.bool true)], args := [d1, d2, d3, d4] }
  | _ => none }
def actionTurnsRow : OpenClaim := { program := "ytkfipkmkmhkfaaa", sum := "32da6f64118975dfde11883c384e19fae7c930624242dee626a0ffcaad1950d7", func := "appleloft/appleloftkeep.ActionTurns", spec := "actionTurns", inPlace := ["internal/abi.NoEscape", "internal/bytealg.MakeNoZero", "internal/bytealg.IndexByteString"], unfollowed := true, recurses := true, apart := false }
def ActionTurnsSaid : Prop := actionTurnsRow.holds Try.pinned (OpenSpec.ofChange actionTurnsSpec)

/-- ITS FALSE NEIGHBOUR: 'it returns false'. Refute it at one input. -/
def actionTurnsWrong : ChangeSpec := { name := "actionTurns", fn := fun _ => fun
  | [d1, d2, d3, d4] => { results := [.lit (.bool false)], args := [d1, d2, d3, d4] }
  | _ => none }
def ActionTurnsWrongFalsely : Prop := actionTurnsRow.holds Try.pinned (OpenSpec.ofChange actionTurnsWrong)

/-- 'appleloftkeep.ActionApart': WHATEVER THE INPUT: true; the input reads as it did. -/
def actionApartSpec : ChangeSpec := { name := "actionApart", fn := fun _ => fun
  | [d1, d2, d3, d4] => { results := [.lit (.bool true)], args := [d1, d2, d3, d4] }
  | _ => none }
def actionApartRow : OpenClaim := { program := "ytkfipkmkmhkfaaa", sum := "32da6f64118975dfde11883c384e19fae7c930624242dee626a0ffcaad1950d7", func := "appleloft/appleloftkeep.ActionApart", spec := "actionApart", inPlace := ["internal/abi.NoEscape", "internal/bytealg.MakeNoZero", "internal/bytealg.IndexByteString"], unfollowed := true, recurses := true, apart := false }
def ActionApartSaid : Prop := actionApartRow.holds Try.pinned (OpenSpec.ofChange actionApartSpec)

/-- ITS FALSE NEIGHBOUR: 'it returns false'. Refute it at one input. -/
def actionApartWrong : ChangeSpec := { name := "actionApart", fn := fun _ => fun
  | [d1, d2, d3, d4] => { results := [.lit (.bool false)], args := [d1, d2, d3, d4] }
  | _ => none }
def ActionApartWrongFalsely : Prop := actionApartRow.holds Try.pinned (OpenSpec.ofChange actionApartWrong)

/-- 'appleloftkeep.ActionBack': WHATEVER THE INPUT: true; the input reads as it did. -/
def actionBackSpec : ChangeSpec := { name := "actionBack", fn := fun _ => fun
  | [d1, d2] => { results := [.lit (.bool true)], args := [d1, d2] }
  | _ => none }
def actionBackRow : OpenClaim := { program := "ytkfipkmkmhkfaaa", sum := "32da6f64118975dfde11883c384e19fae7c930624242dee626a0ffcaad1950d7", func := "appleloft/appleloftkeep.ActionBack", spec := "actionBack", inPlace := ["internal/abi.NoEscape", "internal/bytealg.MakeNoZero", "internal/bytealg.IndexByteString"], unfollowed := true, recurses := true, apart := false }
def ActionBackSaid : Prop := actionBackRow.holds Try.pinned (OpenSpec.ofChange actionBackSpec)

/-- ITS FALSE NEIGHBOUR: 'it returns false'. Refute it at one input. -/
def actionBackWrong : ChangeSpec := { name := "actionBack", fn := fun _ => fun
  | [d1, d2] => { results := [.lit (.bool false)], args := [d1, d2] }
  | _ => none }
def ActionBackWrongFalsely : Prop := actionBackRow.holds Try.pinned (OpenSpec.ofChange actionBackWrong)

/- THE SECOND FORM. 'bulk': how many values and letters a reading holds, each counted each time it is reached (what is shared counts as often as it is met; a slice's spare places count too). A statement '..UptoSaid' is the law's where the arguments, and the package variables that the reading takes, are together of bulk at most 1048576: NARROWER than '..Said'. Prove '..Said' where nothing that the law and all that it calls make is longer than what came in: it says more and counts as full. Else prove '..UptoSaid'. A law counts once. -/
mutual
def uptoBulk {H : Type} : DataW H → Nat
  | .lit (.string bytes) => bytes.length + 1
  | .lit _ => 1
  | .nil => 1
  | .ptr d => uptoBulk d + 1
  | .slice elems spare => uptoBulkAll elems + uptoBulkAll spare + 1
  | .agg parts => uptoBulkAll parts + 1
  | .iface _ d => uptoBulk d + 1
  | .map entries => uptoBulkEntries entries + 1
  | .held _ => 1
def uptoBulkAll {H : Type} : List (DataW H) → Nat
  | [] => 0
  | d :: r => uptoBulk d + uptoBulkAll r
def uptoBulkEntries {H : Type} : List (Lit × DataW H) → Nat
  | [] => 0
  | x :: r => uptoBulkEntry x + uptoBulkEntries r
def uptoBulkEntry {H : Type} : Lit × DataW H → Nat
  | (.string bytes, d) => bytes.length + uptoBulk d + 1
  | (_, d) => uptoBulk d + 1
 end
def uptoSmall : (H : Type) → List (DataW H) → Bool := fun _ ds => decide (uptoBulkAll ds ≤ 1048576)
def OpenSpec.upto (s : _root_.Go.ChangeSpec) : _root_.Go.OpenSpec := { _root_.Go.OpenSpec.ofChange s with cond := some uptoSmall }

/-- 'appleloftkeep.ActionLimits', WHERE WHAT IT READS IS OF BULK AT MOST 1048576: true; the input reads as it did. -/
def actionLimitsUptoRow : OpenClaim := { program := "ytkfipkmkmhkfaaa", sum := "32da6f64118975dfde11883c384e19fae7c930624242dee626a0ffcaad1950d7", func := "appleloft/appleloftkeep.ActionLimits", spec := "actionLimits", inPlace := ["internal/abi.NoEscape", "internal/bytealg.MakeNoZero", "internal/bytealg.IndexByteString"], unfollowed := true, recurses := true, apart := false, narrowed := true }
def ActionLimitsUptoSaid : Prop := actionLimitsUptoRow.holds Try.pinned (OpenSpec.upto actionLimitsSpec)

/-- 'appleloftkeep.ActionTurns', WHERE WHAT IT READS IS OF BULK AT MOST 1048576: true; the input reads as it did. -/
def actionTurnsUptoRow : OpenClaim := { program := "ytkfipkmkmhkfaaa", sum := "32da6f64118975dfde11883c384e19fae7c930624242dee626a0ffcaad1950d7", func := "appleloft/appleloftkeep.ActionTurns", spec := "actionTurns", inPlace := ["internal/abi.NoEscape", "internal/bytealg.MakeNoZero", "internal/bytealg.IndexByteString"], unfollowed := true, recurses := true, apart := false, narrowed := true }
def ActionTurnsUptoSaid : Prop := actionTurnsUptoRow.holds Try.pinned (OpenSpec.upto actionTurnsSpec)

/-- 'appleloftkeep.ActionApart', WHERE WHAT IT READS IS OF BULK AT MOST 1048576: true; the input reads as it did. -/
def actionApartUptoRow : OpenClaim := { program := "ytkfipkmkmhkfaaa", sum := "32da6f64118975dfde11883c384e19fae7c930624242dee626a0ffcaad1950d7", func := "appleloft/appleloftkeep.ActionApart", spec := "actionApart", inPlace := ["internal/abi.NoEscape", "internal/bytealg.MakeNoZero", "internal/bytealg.IndexByteString"], unfollowed := true, recurses := true, apart := false, narrowed := true }
def ActionApartUptoSaid : Prop := actionApartUptoRow.holds Try.pinned (OpenSpec.upto actionApartSpec)

/-- 'appleloftkeep.ActionBack', WHERE WHAT IT READS IS OF BULK AT MOST 1048576: true; the input reads as it did. -/
def actionBackUptoRow : OpenClaim := { program := "ytkfipkmkmhkfaaa", sum := "32da6f64118975dfde11883c384e19fae7c930624242dee626a0ffcaad1950d7", func := "appleloft/appleloftkeep.ActionBack", spec := "actionBack", inPlace := ["internal/abi.NoEscape", "internal/bytealg.MakeNoZero", "internal/bytealg.IndexByteString"], unfollowed := true, recurses := true, apart := false, narrowed := true }
def ActionBackUptoSaid : Prop := actionBackUptoRow.holds Try.pinned (OpenSpec.upto actionBackSpec)

end Rows
end Go.Proofs.Ytkfipkmkmhkfaaa
