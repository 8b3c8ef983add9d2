/-
  No cell of these rows narrows 'for every input' (looked for: loops, veiled, ifaces, maps, wideKeys, modest, calm, conditions, laid).
  DERIVED. THE GIVEN ROWS OF THIS SEAT. 4 by the template 'for every input the law returns true; each argument reads behind the call as it read before'; 0 by the template 'total and deterministic' (their statements: YtjldpfijekpddaaTotals.lean).
  GIVEN WITH THE SEED: the statements are not yours to turn. If you find one false, say at which input.
  Laid BY PROGRAM, IN A SANDBOX (cutbox-rows.mjs): the forced cells as the released guide's own fill.sh prints them over the translation 1b3f6515688e9a12… (all of the seat's roots in one cut). By AI agents, Wed Nov 11 2026. No macro, syntax, notation, axiom, sorry.
-/
import Derived.Test.YtjldpfijekpddaaChecked
import GoSem.Claim
import GoSem.ClaimJoined
import GoSem.ClaimMapViews
import Derived.JoinedTies
import Derived.KernelRfl
namespace Go.Proofs.Ytjldpfijekpddaa
/- THE CELL 'sum', in the pinned program and in every row, IS THE sha256 OF THE DUMP (.gsa) THAT YtjldpfijekpddaaProg.lean LOADS. Nothing in Lean hashes anything: it is a label: what it is worth is what the hold of that sum in a sandbox is worth. -/
noncomputable def Try.pinned : Pinned := { name := "ytjldpfijekpddaa", sum := "1b3f6515688e9a1290636e6da9c1217b7551b15245d6e31a6907fba69846c77e", checked := Try.checked }
namespace Rows
def none {H : Type} : Left H := { results := [], args := [] }

/-- 'appleloftkeep.BlobHeld': WHATEVER THE INPUT: true; the input reads as it did. -/
def blobHeldSpec : ChangeSpec := { name := "blobHeld", fn := fun _ => fun
  | [d] => { results := [.lit (.bool true)], args := [d] }
  | _ => none }
def blobHeldRow : OpenClaim := { program := "ytjldpfijekpddaa", sum := "1b3f6515688e9a1290636e6da9c1217b7551b15245d6e31a6907fba69846c77e", func := "appleloft/appleloftkeep.BlobHeld", spec := "blobHeld", inPlace := ["internal/bytealg.IndexByteString", "internal/bytealg.abigen_runtime_cmpstring", "internal/abi.NoEscape", "slices.overlaps[appleloft/api.Blob]"], unfollowed := true, recurses := true, apart := false }
def BlobHeldSaid : Prop := blobHeldRow.holds Try.pinned (OpenSpec.ofChange blobHeldSpec)

/-- ITS FALSE NEIGHBOUR: 'it returns false'. Refute it at one input. -/
def blobHeldWrong : ChangeSpec := { name := "blobHeld", fn := fun _ => fun
  | [d] => { results := [.lit (.bool false)], args := [d] }
  | _ => none }
def BlobHeldWrongFalsely : Prop := blobHeldRow.holds Try.pinned (OpenSpec.ofChange blobHeldWrong)

/-- 'appleloftkeep.OrderTorn': WHATEVER THE INPUT: true; the input reads as it did. -/
def orderTornSpec : ChangeSpec := { name := "orderTorn", fn := fun _ => fun
  | [d1, d2, d3] => { results := [.lit (.bool true)], args := [d1, d2, d3] }
  | _ => none }
def orderTornRow : OpenClaim := { program := "ytjldpfijekpddaa", sum := "1b3f6515688e9a1290636e6da9c1217b7551b15245d6e31a6907fba69846c77e", func := "appleloft/appleloftkeep.OrderTorn", spec := "orderTorn", inPlace := ["internal/bytealg.IndexByteString", "internal/abi.NoEscape"], unfollowed := true, recurses := true, apart := false }
def OrderTornSaid : Prop := orderTornRow.holds Try.pinned (OpenSpec.ofChange orderTornSpec)

/-- ITS FALSE NEIGHBOUR: 'it returns false'. Refute it at one input. -/
def orderTornWrong : ChangeSpec := { name := "orderTorn", fn := fun _ => fun
  | [d1, d2, d3] => { results := [.lit (.bool false)], args := [d1, d2, d3] }
  | _ => none }
def OrderTornWrongFalsely : Prop := orderTornRow.holds Try.pinned (OpenSpec.ofChange orderTornWrong)

/-- 'appleloftkeep.OrderTurns': WHATEVER THE INPUT: true; the input reads as it did. -/
def orderTurnsSpec : ChangeSpec := { name := "orderTurns", fn := fun _ => fun
  | [d1, d2, d3] => { results := [.lit (.bool true)], args := [d1, d2, d3] }
  | _ => none }
def orderTurnsRow : OpenClaim := { program := "ytjldpfijekpddaa", sum := "1b3f6515688e9a1290636e6da9c1217b7551b15245d6e31a6907fba69846c77e", func := "appleloft/appleloftkeep.OrderTurns", spec := "orderTurns", inPlace := ["internal/bytealg.IndexByteString", "internal/abi.NoEscape"], unfollowed := true, recurses := true, apart := false }
def OrderTurnsSaid : Prop := orderTurnsRow.holds Try.pinned (OpenSpec.ofChange orderTurnsSpec)

/-- ITS FALSE NEIGHBOUR: 'it returns false'. Refute it at one input. -/
def orderTurnsWrong : ChangeSpec := { name := "orderTurns", fn := fun _ => fun
  | [d1, d2, d3] => { results := [.lit (.bool false)], args := [d1, d2, d3] }
  | _ => none }
def OrderTurnsWrongFalsely : Prop := orderTurnsRow.holds Try.pinned (OpenSpec.ofChange orderTurnsWrong)

/-- 'appleloftkeep.OrderBack': WHATEVER THE INPUT: true; the input reads as it did. -/
def orderBackSpec : ChangeSpec := { name := "orderBack", fn := fun _ => fun
  | [d] => { results := [.lit (.bool true)], args := [d] }
  | _ => none }
def orderBackRow : OpenClaim := { program := "ytjldpfijekpddaa", sum := "1b3f6515688e9a1290636e6da9c1217b7551b15245d6e31a6907fba69846c77e", func := "appleloft/appleloftkeep.OrderBack", spec := "orderBack", inPlace := ["internal/bytealg.IndexByteString", "internal/abi.NoEscape"], unfollowed := true, recurses := true, apart := false }
def OrderBackSaid : Prop := orderBackRow.holds Try.pinned (OpenSpec.ofChange orderBackSpec)

/-- ITS FALSE NEIGHBOUR: 'it returns false'. Refute it at one input. -/
def orderBackWrong : ChangeSpec := { name := "orderBack", fn := fun _ => fun
  | [d] => { results := [.lit (.bool false)], args := [d] }
  | _ => none }
def OrderBackWrongFalsely : Prop := orderBackRow.holds Try.pinned (OpenSpec.ofChange orderBackWrong)

/- THE SECOND FORM. 'bulk': how many values and letters a reading holds, each counted each time it is reached (what is shared counts as often as it is met; a slice's spare places count too). A statement '..UptoSaid' is the law's where the arguments, and the package variables that the reading takes, are together of bulk at most 1048576: NARROWER than '..Said'. Prove '..Said' where nothing that the law and all that it calls make is longer than what came in: it says more and counts as full. Else prove '..UptoSaid'. A law counts once. -/
mutual
def uptoBulk {H : Type} : DataW H → Nat
  | .lit (.string bytes) => bytes.length + 1
  | .lit _ => 1
  | .nil => 1
  | .ptr d => uptoBulk d + 1
  | .slice elems spare => uptoBulkAll elems + uptoBulkAll spare + 1
  | .agg parts => uptoBulkAll parts + 1
  | .iface _ d => uptoBulk d + 1
  | .map entries => uptoBulkEntries entries + 1
  | .held _ => 1
def uptoBulkAll {H : Type} : List (DataW H) → Nat
  | [] => 0
  | d :: r => uptoBulk d + uptoBulkAll r
def uptoBulkEntries {H : Type} : List (Lit × DataW H) → Nat
  | [] => 0
  | x :: r => uptoBulkEntry x + uptoBulkEntries r
def uptoBulkEntry {H : Type} : Lit × DataW H → Nat
  | (.string bytes, d) => bytes.length + uptoBulk d + 1
  | (_, d) => uptoBulk d + 1
 end
def uptoSmall : (H : Type) → List (DataW H) → Bool := fun _ ds => decide (uptoBulkAll ds ≤ 1048576)
def OpenSpec.upto (s : _root_.Go.ChangeSpec) : _root_.Go.OpenSpec := { _root_.Go.OpenSpec.ofChange s with cond := some uptoSmall }

/-- 'appleloftkeep.BlobHeld', WHERE WHAT IT READS IS OF BULK AT MOST 1048576: true; the input reads as it did. -/
def blobHeldUptoRow : OpenClaim := { program := "ytjldpfijekpddaa", sum := "1b3f6515688e9a1290636e6da9c1217b7551b15245d6e31a6907fba69846c77e", func := "appleloft/appleloftkeep.BlobHeld", spec := "blobHeld", inPlace := ["internal/bytealg.IndexByteString", "internal/bytealg.abigen_runtime_cmpstring", "internal/abi.NoEscape", "slices.overlaps[appleloft/api.Blob]"], unfollowed := true, recurses := true, apart := false, narrowed := true }
def BlobHeldUptoSaid : Prop := blobHeldUptoRow.holds Try.pinned (OpenSpec.upto blobHeldSpec)

/-- 'appleloftkeep.OrderTorn', WHERE WHAT IT READS IS OF BULK AT MOST 1048576: true; the input reads as it did. -/
def orderTornUptoRow : OpenClaim := { program := "ytjldpfijekpddaa", sum := "1b3f6515688e9a1290636e6da9c1217b7551b15245d6e31a6907fba69846c77e", func := "appleloft/appleloftkeep.OrderTorn", spec := "orderTorn", inPlace := ["internal/bytealg.IndexByteString", "internal/abi.NoEscape"], unfollowed := true, recurses := true, apart := false, narrowed := true }
def OrderTornUptoSaid : Prop := orderTornUptoRow.holds Try.pinned (OpenSpec.upto orderTornSpec)

/-- 'appleloftkeep.OrderTurns', WHERE WHAT IT READS IS OF BULK AT MOST 1048576: true; the input reads as it did. -/
def orderTurnsUptoRow : OpenClaim := { program := "ytjldpfijekpddaa", sum := "1b3f6515688e9a1290636e6da9c1217b7551b15245d6e31a6907fba69846c77e", func := "appleloft/appleloftkeep.OrderTurns", spec := "orderTurns", inPlace := ["internal/bytealg.IndexByteString", "internal/abi.NoEscape"], unfollowed := true, recurses := true, apart := false, narrowed := true }
def OrderTurnsUptoSaid : Prop := orderTurnsUptoRow.holds Try.pinned (OpenSpec.upto orderTurnsSpec)

/-- 'appleloftkeep.OrderBack', WHERE WHAT IT READS IS OF BULK AT MOST 1048576: true; the input reads as it did. -/
def orderBackUptoRow : OpenClaim := { program := "ytjldpfijekpddaa", sum := "1b3f6515688e9a1290636e6da9c1217b7551b15245d6e31a6907fba69846c77e", func := "appleloft/appleloftkeep.OrderBack", spec := "orderBack", inPlace := ["internal/bytealg.IndexByteString", "internal/abi.NoEscape"], unfollowed := true, recurses := true, apart := false, narrowed := true }
def OrderBackUptoSaid : Prop := orderBackUptoRow.holds Try.pinned (OpenSpec.upto orderBackSpec)

end Rows
end Go.Proofs.Ytjldpfijekpddaa
