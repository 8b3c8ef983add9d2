/-
  No cell of these rows narrows 'for every input' (looked for: loops, veiled, ifaces, maps, wideKeys, modest, calm, conditions, laid).
  DERIVED. THE GIVEN ROWS OF THIS SEAT. 8 by the template 'for every input the law returns true; each argument reads behind the call as it read before'; 0 by the template 'total and deterministic' (their statements: YtjldpfijekpddaaGreatTotals.lean).
  GIVEN WITH THE SEED: the statements are not yours to turn. If you find one false, say at which input.
  Laid BY PROGRAM, IN A SANDBOX (cutbox-rows.mjs): the forced cells as the released guide's own fill.sh prints them over the translation 0b97b036d0d32521… (all of the seat's roots in one cut). By AI agents, Wed Nov 11 2026. No macro, syntax, notation, axiom, sorry.
-/
import Derived.Test.YtjldpfijekpddaaGreatChecked
import GoSem.Claim
import GoSem.ClaimJoined
import GoSem.ClaimMapViews
import Derived.JoinedTies
import Derived.KernelRfl
namespace Go.Proofs.YtjldpfijekpddaaGreat
/- THE CELL 'sum', in the pinned program and in every row, IS THE sha256 OF THE DUMP (.gsa) THAT YtjldpfijekpddaaGreatProg.lean LOADS. Nothing in Lean hashes anything: it is a label: what it is worth is what the hold of that sum in a sandbox is worth. -/
noncomputable def Tryz.pinned : Pinned := { name := "ytjldpfijekpddaagreat", sum := "0b97b036d0d32521918b8358f16a942fe9da4e9dc4d8fb215bafbf2b4b22f964", checked := Tryz.checked }
namespace Rows
def none {H : Type} : Left H := { results := [], args := [] }

/-- 'appleloftkeep.BlobBack': WHATEVER THE INPUT: true; the input reads as it did. -/
def blobBackSpec : ChangeSpec := { name := "blobBack", fn := fun _ => fun
  | [d1, d2] => { results := [.lit (.bool true)], args := [d1, d2] }
  | _ => none }
def blobBackRow : OpenClaim := { program := "ytjldpfijekpddaagreat", sum := "0b97b036d0d32521918b8358f16a942fe9da4e9dc4d8fb215bafbf2b4b22f964", func := "appleloft/appleloftkeep.BlobBack", spec := "blobBack", inPlace := ["internal/bytealg.IndexByteString", "internal/bytealg.abigen_runtime_cmpstring", "internal/abi.NoEscape", "slices.overlaps[appleloft/api.Blob]"], unfollowed := true, recurses := true, apart := false }
def BlobBackSaid : Prop := blobBackRow.holds Tryz.pinned (OpenSpec.ofChange blobBackSpec)

/-- ITS FALSE NEIGHBOUR: 'it returns false'. Refute it at one input. -/
def blobBackWrong : ChangeSpec := { name := "blobBack", fn := fun _ => fun
  | [d1, d2] => { results := [.lit (.bool false)], args := [d1, d2] }
  | _ => none }
def BlobBackWrongFalsely : Prop := blobBackRow.holds Tryz.pinned (OpenSpec.ofChange blobBackWrong)

/-- 'appleloftkeep.StoreHeld': WHATEVER THE INPUT: true; the input reads as it did. -/
def storeHeldSpec : ChangeSpec := { name := "storeHeld", fn := fun _ => fun
  | [d1, d2, d3] => { results := [.lit (.bool true)], args := [d1, d2, d3] }
  | _ => none }
def storeHeldRow : OpenClaim := { program := "ytjldpfijekpddaagreat", sum := "0b97b036d0d32521918b8358f16a942fe9da4e9dc4d8fb215bafbf2b4b22f964", func := "appleloft/appleloftkeep.StoreHeld", spec := "storeHeld", inPlace := ["internal/bytealg.IndexByteString", "internal/bytealg.abigen_runtime_cmpstring", "internal/abi.NoEscape"], unfollowed := true, recurses := true, apart := false }
def StoreHeldSaid : Prop := storeHeldRow.holds Tryz.pinned (OpenSpec.ofChange storeHeldSpec)

/-- ITS FALSE NEIGHBOUR: 'it returns false'. Refute it at one input. -/
def storeHeldWrong : ChangeSpec := { name := "storeHeld", fn := fun _ => fun
  | [d1, d2, d3] => { results := [.lit (.bool false)], args := [d1, d2, d3] }
  | _ => none }
def StoreHeldWrongFalsely : Prop := storeHeldRow.holds Tryz.pinned (OpenSpec.ofChange storeHeldWrong)

/-- 'appleloftkeep.StoreTwice': WHATEVER THE INPUT: true; the input reads as it did. -/
def storeTwiceSpec : ChangeSpec := { name := "storeTwice", fn := fun _ => fun
  | [d1, d2] => { results := [.lit (.bool true)], args := [d1, d2] }
  | _ => none }
def storeTwiceRow : OpenClaim := { program := "ytjldpfijekpddaagreat", sum := "0b97b036d0d32521918b8358f16a942fe9da4e9dc4d8fb215bafbf2b4b22f964", func := "appleloft/appleloftkeep.StoreTwice", spec := "storeTwice", inPlace := ["internal/bytealg.IndexByteString", "internal/bytealg.abigen_runtime_cmpstring", "internal/abi.NoEscape", "slices.overlaps[appleloft/api.Blob]"], unfollowed := true, recurses := true, apart := false }
def StoreTwiceSaid : Prop := storeTwiceRow.holds Tryz.pinned (OpenSpec.ofChange storeTwiceSpec)

/-- ITS FALSE NEIGHBOUR: 'it returns false'. Refute it at one input. -/
def storeTwiceWrong : ChangeSpec := { name := "storeTwice", fn := fun _ => fun
  | [d1, d2] => { results := [.lit (.bool false)], args := [d1, d2] }
  | _ => none }
def StoreTwiceWrongFalsely : Prop := storeTwiceRow.holds Tryz.pinned (OpenSpec.ofChange storeTwiceWrong)

/-- 'appleloftkeep.StoreRefuses': WHATEVER THE INPUT: true; the input reads as it did. -/
def storeRefusesSpec : ChangeSpec := { name := "storeRefuses", fn := fun _ => fun
  | [d1, d2] => { results := [.lit (.bool true)], args := [d1, d2] }
  | _ => none }
def storeRefusesRow : OpenClaim := { program := "ytjldpfijekpddaagreat", sum := "0b97b036d0d32521918b8358f16a942fe9da4e9dc4d8fb215bafbf2b4b22f964", func := "appleloft/appleloftkeep.StoreRefuses", spec := "storeRefuses", inPlace := ["internal/bytealg.IndexByteString", "internal/bytealg.abigen_runtime_cmpstring", "internal/abi.NoEscape", "slices.overlaps[appleloft/api.Entry]"], unfollowed := true, recurses := true, apart := false }
def StoreRefusesSaid : Prop := storeRefusesRow.holds Tryz.pinned (OpenSpec.ofChange storeRefusesSpec)

/-- ITS FALSE NEIGHBOUR: 'it returns false'. Refute it at one input. -/
def storeRefusesWrong : ChangeSpec := { name := "storeRefuses", fn := fun _ => fun
  | [d1, d2] => { results := [.lit (.bool false)], args := [d1, d2] }
  | _ => none }
def StoreRefusesWrongFalsely : Prop := storeRefusesRow.holds Tryz.pinned (OpenSpec.ofChange storeRefusesWrong)

/-- 'appleloftkeep.StoreEntry': WHATEVER THE INPUT: true; the input reads as it did. -/
def storeEntrySpec : ChangeSpec := { name := "storeEntry", fn := fun _ => fun
  | [d1, d2] => { results := [.lit (.bool true)], args := [d1, d2] }
  | _ => none }
def storeEntryRow : OpenClaim := { program := "ytjldpfijekpddaagreat", sum := "0b97b036d0d32521918b8358f16a942fe9da4e9dc4d8fb215bafbf2b4b22f964", func := "appleloft/appleloftkeep.StoreEntry", spec := "storeEntry", inPlace := ["internal/bytealg.IndexByteString", "internal/bytealg.abigen_runtime_cmpstring", "internal/abi.NoEscape", "slices.overlaps[appleloft/api.Entry]"], unfollowed := true, recurses := true, apart := false }
def StoreEntrySaid : Prop := storeEntryRow.holds Tryz.pinned (OpenSpec.ofChange storeEntrySpec)

/-- ITS FALSE NEIGHBOUR: 'it returns false'. Refute it at one input. -/
def storeEntryWrong : ChangeSpec := { name := "storeEntry", fn := fun _ => fun
  | [d1, d2] => { results := [.lit (.bool false)], args := [d1, d2] }
  | _ => none }
def StoreEntryWrongFalsely : Prop := storeEntryRow.holds Tryz.pinned (OpenSpec.ofChange storeEntryWrong)

/-- 'appleloftkeep.StoreOwn': WHATEVER THE INPUT: true; the input reads as it did. -/
def storeOwnSpec : ChangeSpec := { name := "storeOwn", fn := fun _ => fun
  | [d1, d2] => { results := [.lit (.bool true)], args := [d1, d2] }
  | _ => none }
def storeOwnRow : OpenClaim := { program := "ytjldpfijekpddaagreat", sum := "0b97b036d0d32521918b8358f16a942fe9da4e9dc4d8fb215bafbf2b4b22f964", func := "appleloft/appleloftkeep.StoreOwn", spec := "storeOwn", inPlace := ["internal/bytealg.IndexByteString", "internal/bytealg.abigen_runtime_cmpstring", "internal/abi.NoEscape", "slices.overlaps[appleloft/api.Blob]", "slices.overlaps[appleloft/api.Entry]"], unfollowed := true, recurses := true, apart := false }
def StoreOwnSaid : Prop := storeOwnRow.holds Tryz.pinned (OpenSpec.ofChange storeOwnSpec)

/-- ITS FALSE NEIGHBOUR: 'it returns false'. Refute it at one input. -/
def storeOwnWrong : ChangeSpec := { name := "storeOwn", fn := fun _ => fun
  | [d1, d2] => { results := [.lit (.bool false)], args := [d1, d2] }
  | _ => none }
def StoreOwnWrongFalsely : Prop := storeOwnRow.holds Tryz.pinned (OpenSpec.ofChange storeOwnWrong)

/-- 'appleloftkeep.StoreGood': WHATEVER THE INPUT: true; the input reads as it did. -/
def storeGoodSpec : ChangeSpec := { name := "storeGood", fn := fun _ => fun
  | [d1, d2, d3] => { results := [.lit (.bool true)], args := [d1, d2, d3] }
  | _ => none }
def storeGoodRow : OpenClaim := { program := "ytjldpfijekpddaagreat", sum := "0b97b036d0d32521918b8358f16a942fe9da4e9dc4d8fb215bafbf2b4b22f964", func := "appleloft/appleloftkeep.StoreGood", spec := "storeGood", inPlace := ["internal/bytealg.IndexByteString", "internal/bytealg.abigen_runtime_cmpstring", "internal/abi.NoEscape", "slices.overlaps[appleloft/api.Blob]", "slices.overlaps[appleloft/api.Entry]"], unfollowed := true, recurses := true, apart := false }
def StoreGoodSaid : Prop := storeGoodRow.holds Tryz.pinned (OpenSpec.ofChange storeGoodSpec)

/-- ITS FALSE NEIGHBOUR: 'it returns false'. Refute it at one input. -/
def storeGoodWrong : ChangeSpec := { name := "storeGood", fn := fun _ => fun
  | [d1, d2, d3] => { results := [.lit (.bool false)], args := [d1, d2, d3] }
  | _ => none }
def StoreGoodWrongFalsely : Prop := storeGoodRow.holds Tryz.pinned (OpenSpec.ofChange storeGoodWrong)

/-- 'appleloftkeep.ReachRoots': WHATEVER THE INPUT: true; the input reads as it did. -/
def reachRootsSpec : ChangeSpec := { name := "reachRoots", fn := fun _ => fun
  | [d] => { results := [.lit (.bool true)], args := [d] }
  | _ => none }
def reachRootsRow : OpenClaim := { program := "ytjldpfijekpddaagreat", sum := "0b97b036d0d32521918b8358f16a942fe9da4e9dc4d8fb215bafbf2b4b22f964", func := "appleloft/appleloftkeep.ReachRoots", spec := "reachRoots", inPlace := ["internal/bytealg.IndexByteString", "internal/bytealg.abigen_runtime_cmpstring", "internal/abi.NoEscape"], unfollowed := true, recurses := true, apart := false }
def ReachRootsSaid : Prop := reachRootsRow.holds Tryz.pinned (OpenSpec.ofChange reachRootsSpec)

/-- ITS FALSE NEIGHBOUR: 'it returns false'. Refute it at one input. -/
def reachRootsWrong : ChangeSpec := { name := "reachRoots", fn := fun _ => fun
  | [d] => { results := [.lit (.bool false)], args := [d] }
  | _ => none }
def ReachRootsWrongFalsely : Prop := reachRootsRow.holds Tryz.pinned (OpenSpec.ofChange reachRootsWrong)

/- THE SECOND FORM. 'bulk': how many values and letters a reading holds, each counted each time it is reached (what is shared counts as often as it is met; a slice's spare places count too). A statement '..UptoSaid' is the law's where the arguments, and the package variables that the reading takes, are together of bulk at most 1048576: NARROWER than '..Said'. Prove '..Said' where nothing that the law and all that it calls make is longer than what came in: it says more and counts as full. Else prove '..UptoSaid'. A law counts once. -/
mutual
def uptoBulk {H : Type} : DataW H → Nat
  | .lit (.string bytes) => bytes.length + 1
  | .lit _ => 1
  | .nil => 1
  | .ptr d => uptoBulk d + 1
  | .slice elems spare => uptoBulkAll elems + uptoBulkAll spare + 1
  | .agg parts => uptoBulkAll parts + 1
  | .iface _ d => uptoBulk d + 1
  | .map entries => uptoBulkEntries entries + 1
  | .held _ => 1
def uptoBulkAll {H : Type} : List (DataW H) → Nat
  | [] => 0
  | d :: r => uptoBulk d + uptoBulkAll r
def uptoBulkEntries {H : Type} : List (Lit × DataW H) → Nat
  | [] => 0
  | x :: r => uptoBulkEntry x + uptoBulkEntries r
def uptoBulkEntry {H : Type} : Lit × DataW H → Nat
  | (.string bytes, d) => bytes.length + uptoBulk d + 1
  | (_, d) => uptoBulk d + 1
 end
def uptoSmall : (H : Type) → List (DataW H) → Bool := fun _ ds => decide (uptoBulkAll ds ≤ 1048576)
def OpenSpec.upto (s : _root_.Go.ChangeSpec) : _root_.Go.OpenSpec := { _root_.Go.OpenSpec.ofChange s with cond := some uptoSmall }

/-- 'appleloftkeep.BlobBack', WHERE WHAT IT READS IS OF BULK AT MOST 1048576: true; the input reads as it did. -/
def blobBackUptoRow : OpenClaim := { program := "ytjldpfijekpddaagreat", sum := "0b97b036d0d32521918b8358f16a942fe9da4e9dc4d8fb215bafbf2b4b22f964", func := "appleloft/appleloftkeep.BlobBack", spec := "blobBack", inPlace := ["internal/bytealg.IndexByteString", "internal/bytealg.abigen_runtime_cmpstring", "internal/abi.NoEscape", "slices.overlaps[appleloft/api.Blob]"], unfollowed := true, recurses := true, apart := false, narrowed := true }
def BlobBackUptoSaid : Prop := blobBackUptoRow.holds Tryz.pinned (OpenSpec.upto blobBackSpec)

/-- 'appleloftkeep.StoreHeld', WHERE WHAT IT READS IS OF BULK AT MOST 1048576: true; the input reads as it did. -/
def storeHeldUptoRow : OpenClaim := { program := "ytjldpfijekpddaagreat", sum := "0b97b036d0d32521918b8358f16a942fe9da4e9dc4d8fb215bafbf2b4b22f964", func := "appleloft/appleloftkeep.StoreHeld", spec := "storeHeld", inPlace := ["internal/bytealg.IndexByteString", "internal/bytealg.abigen_runtime_cmpstring", "internal/abi.NoEscape"], unfollowed := true, recurses := true, apart := false, narrowed := true }
def StoreHeldUptoSaid : Prop := storeHeldUptoRow.holds Tryz.pinned (OpenSpec.upto storeHeldSpec)

/-- 'appleloftkeep.StoreTwice', WHERE WHAT IT READS IS OF BULK AT MOST 1048576: true; the input reads as it did. -/
def storeTwiceUptoRow : OpenClaim := { program := "ytjldpfijekpddaagreat", sum := "0b97b036d0d32521918b8358f16a942fe9da4e9dc4d8fb215bafbf2b4b22f964", func := "appleloft/appleloftkeep.StoreTwice", spec := "storeTwice", inPlace := ["internal/bytealg.IndexByteString", "internal/bytealg.abigen_runtime_cmpstring", "internal/abi.NoEscape", "slices.overlaps[appleloft/api.Blob]"], unfollowed := true, recurses := true, apart := false, narrowed := true }
def StoreTwiceUptoSaid : Prop := storeTwiceUptoRow.holds Tryz.pinned (OpenSpec.upto storeTwiceSpec)

/-- 'appleloftkeep.StoreRefuses', WHERE WHAT IT READS IS OF BULK AT MOST 1048576: true; the input reads as it did. -/
def storeRefusesUptoRow : OpenClaim := { program := "ytjldpfijekpddaagreat", sum := "0b97b036d0d32521918b8358f16a942fe9da4e9dc4d8fb215bafbf2b4b22f964", func := "appleloft/appleloftkeep.StoreRefuses", spec := "storeRefuses", inPlace := ["internal/bytealg.IndexByteString", "internal/bytealg.abigen_runtime_cmpstring", "internal/abi.NoEscape", "slices.overlaps[appleloft/api.Entry]"], unfollowed := true, recurses := true, apart := false, narrowed := true }
def StoreRefusesUptoSaid : Prop := storeRefusesUptoRow.holds Tryz.pinned (OpenSpec.upto storeRefusesSpec)

/-- 'appleloftkeep.StoreEntry', WHERE WHAT IT READS IS OF BULK AT MOST 1048576: true; the input reads as it did. -/
def storeEntryUptoRow : OpenClaim := { program := "ytjldpfijekpddaagreat", sum := "0b97b036d0d32521918b8358f16a942fe9da4e9dc4d8fb215bafbf2b4b22f964", func := "appleloft/appleloftkeep.StoreEntry", spec := "storeEntry", inPlace := ["internal/bytealg.IndexByteString", "internal/bytealg.abigen_runtime_cmpstring", "internal/abi.NoEscape", "slices.overlaps[appleloft/api.Entry]"], unfollowed := true, recurses := true, apart := false, narrowed := true }
def StoreEntryUptoSaid : Prop := storeEntryUptoRow.holds Tryz.pinned (OpenSpec.upto storeEntrySpec)

/-- 'appleloftkeep.StoreOwn', WHERE WHAT IT READS IS OF BULK AT MOST 1048576: true; the input reads as it did. -/
def storeOwnUptoRow : OpenClaim := { program := "ytjldpfijekpddaagreat", sum := "0b97b036d0d32521918b8358f16a942fe9da4e9dc4d8fb215bafbf2b4b22f964", func := "appleloft/appleloftkeep.StoreOwn", spec := "storeOwn", inPlace := ["internal/bytealg.IndexByteString", "internal/bytealg.abigen_runtime_cmpstring", "internal/abi.NoEscape", "slices.overlaps[appleloft/api.Blob]", "slices.overlaps[appleloft/api.Entry]"], unfollowed := true, recurses := true, apart := false, narrowed := true }
def StoreOwnUptoSaid : Prop := storeOwnUptoRow.holds Tryz.pinned (OpenSpec.upto storeOwnSpec)

/-- 'appleloftkeep.StoreGood', WHERE WHAT IT READS IS OF BULK AT MOST 1048576: true; the input reads as it did. -/
def storeGoodUptoRow : OpenClaim := { program := "ytjldpfijekpddaagreat", sum := "0b97b036d0d32521918b8358f16a942fe9da4e9dc4d8fb215bafbf2b4b22f964", func := "appleloft/appleloftkeep.StoreGood", spec := "storeGood", inPlace := ["internal/bytealg.IndexByteString", "internal/bytealg.abigen_runtime_cmpstring", "internal/abi.NoEscape", "slices.overlaps[appleloft/api.Blob]", "slices.overlaps[appleloft/api.Entry]"], unfollowed := true, recurses := true, apart := false, narrowed := true }
def StoreGoodUptoSaid : Prop := storeGoodUptoRow.holds Tryz.pinned (OpenSpec.upto storeGoodSpec)

/-- 'appleloftkeep.ReachRoots', WHERE WHAT IT READS IS OF BULK AT MOST 1048576: true; the input reads as it did. -/
def reachRootsUptoRow : OpenClaim := { program := "ytjldpfijekpddaagreat", sum := "0b97b036d0d32521918b8358f16a942fe9da4e9dc4d8fb215bafbf2b4b22f964", func := "appleloft/appleloftkeep.ReachRoots", spec := "reachRoots", inPlace := ["internal/bytealg.IndexByteString", "internal/bytealg.abigen_runtime_cmpstring", "internal/abi.NoEscape"], unfollowed := true, recurses := true, apart := false, narrowed := true }
def ReachRootsUptoSaid : Prop := reachRootsUptoRow.holds Tryz.pinned (OpenSpec.upto reachRootsSpec)

end Rows
end Go.Proofs.YtjldpfijekpddaaGreat
