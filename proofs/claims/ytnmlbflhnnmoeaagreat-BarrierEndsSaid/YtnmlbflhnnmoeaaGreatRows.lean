/-
  No cell of these rows narrows 'for every input' (looked for: loops, veiled, ifaces, maps, wideKeys, modest, calm, conditions, laid).
  DERIVED. THE GIVEN ROWS OF THIS SEAT. 11 by the template 'for every input the law returns true; each argument reads behind the call as it read before'; 0 by the template 'total and deterministic' (their statements: YtnmlbflhnnmoeaaGreatTotals.lean).
  GIVEN WITH THE SEED: the statements are not yours to turn. If you find one false, say at which input.
  Laid BY PROGRAM, IN A SANDBOX (cutbox-rows.mjs): the forced cells as the released guide's own fill.sh prints them over the translation 38bd4686f557b44f… (all of the seat's roots in one cut). By AI agents, Wed Nov 11 2026. No macro, syntax, notation, axiom, sorry.
-/
import Derived.Test.YtnmlbflhnnmoeaaGreatChecked
import GoSem.Claim
import GoSem.ClaimJoined
import GoSem.ClaimMapViews
import Derived.JoinedTies
import Derived.KernelRfl
namespace Go.Proofs.YtnmlbflhnnmoeaaGreat
/- THE CELL 'sum', in the pinned program and in every row, IS THE sha256 OF THE DUMP (.gsa) THAT YtnmlbflhnnmoeaaGreatProg.lean LOADS. Nothing in Lean hashes anything: it is a label: what it is worth is what the hold of that sum in a sandbox is worth. -/
noncomputable def Tryz.pinned : Pinned := { name := "ytnmlbflhnnmoeaagreat", sum := "38bd4686f557b44ffb3ec550c8d7f1f34a23b5ac6ab04244231c27bd4d8df6b3", checked := Tryz.checked }
namespace Rows
def none {H : Type} : Left H := { results := [], args := [] }

/-- 'appleloftkeep.BarrierGood': WHATEVER THE INPUT: true; the input reads as it did. -/
def barrierGoodSpec : ChangeSpec := { name := "barrierGood", fn := fun _ => fun
  | [d1, d2] => { results := [.lit (.bool true)], args := [d1, d2] }
  | _ => none }
def barrierGoodRow : OpenClaim := { program := "ytnmlbflhnnmoeaagreat", sum := "38bd4686f557b44ffb3ec550c8d7f1f34a23b5ac6ab04244231c27bd4d8df6b3", func := "appleloft/appleloftkeep.BarrierGood", spec := "barrierGood", inPlace := ["internal/bytealg.IndexByteString", "internal/bytealg.abigen_runtime_cmpstring", "internal/abi.NoEscape", "slices.overlaps[appleloft/api.Blob]", "slices.overlaps[appleloft/api.Entry]"], unfollowed := true, recurses := true, apart := false }
def BarrierGoodSaid : Prop := barrierGoodRow.holds Tryz.pinned (OpenSpec.ofChange barrierGoodSpec)

/-- ITS FALSE NEIGHBOUR: 'it returns false'. Refute it at one input. -/
def barrierGoodWrong : ChangeSpec := { name := "barrierGood", fn := fun _ => fun
  | [d1, d2] => { results := [.lit (.bool false)], args := [d1, d2] }
  | _ => none }
def BarrierGoodWrongFalsely : Prop := barrierGoodRow.holds Tryz.pinned (OpenSpec.ofChange barrierGoodWrong)

/-- 'appleloftkeep.BarrierEnds': WHATEVER THE INPUT: true; the input reads as it did. -/
def barrierEndsSpec : ChangeSpec := { name := "barrierEnds", fn := fun _ => fun
  | [d1, d2] => { results := [.lit (.bool true)], args := [d1, d2] }
  | _ => none }
def barrierEndsRow : OpenClaim := { program := "ytnmlbflhnnmoeaagreat", sum := "38bd4686f557b44ffb3ec550c8d7f1f34a23b5ac6ab04244231c27bd4d8df6b3", func := "appleloft/appleloftkeep.BarrierEnds", spec := "barrierEnds", inPlace := ["internal/bytealg.IndexByteString", "internal/bytealg.abigen_runtime_cmpstring", "internal/abi.NoEscape", "slices.overlaps[appleloft/api.Blob]", "slices.overlaps[appleloft/api.Entry]"], unfollowed := true, recurses := true, apart := false }
def BarrierEndsSaid : Prop := barrierEndsRow.holds Tryz.pinned (OpenSpec.ofChange barrierEndsSpec)

/-- ITS FALSE NEIGHBOUR: 'it returns false'. Refute it at one input. -/
def barrierEndsWrong : ChangeSpec := { name := "barrierEnds", fn := fun _ => fun
  | [d1, d2] => { results := [.lit (.bool false)], args := [d1, d2] }
  | _ => none }
def BarrierEndsWrongFalsely : Prop := barrierEndsRow.holds Tryz.pinned (OpenSpec.ofChange barrierEndsWrong)

/-- 'appleloftkeep.EvictAges': WHATEVER THE INPUT: true; the input reads as it did. -/
def evictAgesSpec : ChangeSpec := { name := "evictAges", fn := fun _ => fun
  | [d1, d2] => { results := [.lit (.bool true)], args := [d1, d2] }
  | _ => none }
def evictAgesRow : OpenClaim := { program := "ytnmlbflhnnmoeaagreat", sum := "38bd4686f557b44ffb3ec550c8d7f1f34a23b5ac6ab04244231c27bd4d8df6b3", func := "appleloft/appleloftkeep.EvictAges", spec := "evictAges", inPlace := ["internal/bytealg.IndexByteString", "internal/bytealg.abigen_runtime_cmpstring", "internal/abi.NoEscape"], unfollowed := true, recurses := true, apart := false }
def EvictAgesSaid : Prop := evictAgesRow.holds Tryz.pinned (OpenSpec.ofChange evictAgesSpec)

/-- ITS FALSE NEIGHBOUR: 'it returns false'. Refute it at one input. -/
def evictAgesWrong : ChangeSpec := { name := "evictAges", fn := fun _ => fun
  | [d1, d2] => { results := [.lit (.bool false)], args := [d1, d2] }
  | _ => none }
def EvictAgesWrongFalsely : Prop := evictAgesRow.holds Tryz.pinned (OpenSpec.ofChange evictAgesWrong)

/-- 'appleloftkeep.StoreOwn': WHATEVER THE INPUT: true; the input reads as it did. -/
def storeOwnSpec : ChangeSpec := { name := "storeOwn", fn := fun _ => fun
  | [d1, d2] => { results := [.lit (.bool true)], args := [d1, d2] }
  | _ => none }
def storeOwnRow : OpenClaim := { program := "ytnmlbflhnnmoeaagreat", sum := "38bd4686f557b44ffb3ec550c8d7f1f34a23b5ac6ab04244231c27bd4d8df6b3", func := "appleloft/appleloftkeep.StoreOwn", spec := "storeOwn", inPlace := ["internal/bytealg.IndexByteString", "internal/bytealg.abigen_runtime_cmpstring", "internal/abi.NoEscape", "slices.overlaps[appleloft/api.Blob]", "slices.overlaps[appleloft/api.Entry]"], unfollowed := true, recurses := true, apart := false }
def StoreOwnSaid : Prop := storeOwnRow.holds Tryz.pinned (OpenSpec.ofChange storeOwnSpec)

/-- ITS FALSE NEIGHBOUR: 'it returns false'. Refute it at one input. -/
def storeOwnWrong : ChangeSpec := { name := "storeOwn", fn := fun _ => fun
  | [d1, d2] => { results := [.lit (.bool false)], args := [d1, d2] }
  | _ => none }
def StoreOwnWrongFalsely : Prop := storeOwnRow.holds Tryz.pinned (OpenSpec.ofChange storeOwnWrong)

/-- 'appleloftkeep.DeskGood': WHATEVER THE INPUT: true; the input reads as it did. -/
def deskGoodSpec : ChangeSpec := { name := "deskGood", fn := fun _ => fun
  | [d1, d2] => { results := [.lit (.bool true)], args := [d1, d2] }
  | _ => none }
def deskGoodRow : OpenClaim := { program := "ytnmlbflhnnmoeaagreat", sum := "38bd4686f557b44ffb3ec550c8d7f1f34a23b5ac6ab04244231c27bd4d8df6b3", func := "appleloft/appleloftkeep.DeskGood", spec := "deskGood", inPlace := ["internal/bytealg.IndexByteString", "internal/abi.NoEscape", "internal/bytealg.abigen_runtime_cmpstring", "slices.overlaps[appleloft/api.Blob]", "slices.overlaps[appleloft/api.Entry]"], unfollowed := true, recurses := true, apart := false }
def DeskGoodSaid : Prop := deskGoodRow.holds Tryz.pinned (OpenSpec.ofChange deskGoodSpec)

/-- ITS FALSE NEIGHBOUR: 'it returns false'. Refute it at one input. -/
def deskGoodWrong : ChangeSpec := { name := "deskGood", fn := fun _ => fun
  | [d1, d2] => { results := [.lit (.bool false)], args := [d1, d2] }
  | _ => none }
def DeskGoodWrongFalsely : Prop := deskGoodRow.holds Tryz.pinned (OpenSpec.ofChange deskGoodWrong)

/-- 'appleloftkeep.DeskFront': WHATEVER THE INPUT: true; the input reads as it did. -/
def deskFrontSpec : ChangeSpec := { name := "deskFront", fn := fun _ => fun
  | [d1, d2] => { results := [.lit (.bool true)], args := [d1, d2] }
  | _ => none }
def deskFrontRow : OpenClaim := { program := "ytnmlbflhnnmoeaagreat", sum := "38bd4686f557b44ffb3ec550c8d7f1f34a23b5ac6ab04244231c27bd4d8df6b3", func := "appleloft/appleloftkeep.DeskFront", spec := "deskFront", inPlace := ["internal/bytealg.IndexByteString", "internal/abi.NoEscape", "internal/bytealg.abigen_runtime_cmpstring", "slices.overlaps[appleloft/api.Blob]", "slices.overlaps[appleloft/api.Entry]"], unfollowed := true, recurses := true, apart := false }
def DeskFrontSaid : Prop := deskFrontRow.holds Tryz.pinned (OpenSpec.ofChange deskFrontSpec)

/-- ITS FALSE NEIGHBOUR: 'it returns false'. Refute it at one input. -/
def deskFrontWrong : ChangeSpec := { name := "deskFront", fn := fun _ => fun
  | [d1, d2] => { results := [.lit (.bool false)], args := [d1, d2] }
  | _ => none }
def DeskFrontWrongFalsely : Prop := deskFrontRow.holds Tryz.pinned (OpenSpec.ofChange deskFrontWrong)

/-- 'appleloftkeep.DeskRefuses': WHATEVER THE INPUT: true; the input reads as it did. -/
def deskRefusesSpec : ChangeSpec := { name := "deskRefuses", fn := fun _ => fun
  | [d] => { results := [.lit (.bool true)], args := [d] }
  | _ => none }
def deskRefusesRow : OpenClaim := { program := "ytnmlbflhnnmoeaagreat", sum := "38bd4686f557b44ffb3ec550c8d7f1f34a23b5ac6ab04244231c27bd4d8df6b3", func := "appleloft/appleloftkeep.DeskRefuses", spec := "deskRefuses", inPlace := ["internal/bytealg.IndexByteString", "internal/abi.NoEscape", "internal/bytealg.abigen_runtime_cmpstring", "slices.overlaps[appleloft/api.Blob]", "slices.overlaps[appleloft/api.Entry]"], unfollowed := true, recurses := true, apart := false }
def DeskRefusesSaid : Prop := deskRefusesRow.holds Tryz.pinned (OpenSpec.ofChange deskRefusesSpec)

/-- ITS FALSE NEIGHBOUR: 'it returns false'. Refute it at one input. -/
def deskRefusesWrong : ChangeSpec := { name := "deskRefuses", fn := fun _ => fun
  | [d] => { results := [.lit (.bool false)], args := [d] }
  | _ => none }
def DeskRefusesWrongFalsely : Prop := deskRefusesRow.holds Tryz.pinned (OpenSpec.ofChange deskRefusesWrong)

/-- 'appleloftkeep.DeskSteps': WHATEVER THE INPUT: true; the input reads as it did. -/
def deskStepsSpec : ChangeSpec := { name := "deskSteps", fn := fun _ => fun
  | [d1, d2] => { results := [.lit (.bool true)], args := [d1, d2] }
  | _ => none }
def deskStepsRow : OpenClaim := { program := "ytnmlbflhnnmoeaagreat", sum := "38bd4686f557b44ffb3ec550c8d7f1f34a23b5ac6ab04244231c27bd4d8df6b3", func := "appleloft/appleloftkeep.DeskSteps", spec := "deskSteps", inPlace := ["internal/bytealg.IndexByteString", "internal/abi.NoEscape", "internal/bytealg.abigen_runtime_cmpstring", "slices.overlaps[appleloft/api.Blob]", "slices.overlaps[appleloft/api.Entry]"], unfollowed := true, recurses := true, apart := false }
def DeskStepsSaid : Prop := deskStepsRow.holds Tryz.pinned (OpenSpec.ofChange deskStepsSpec)

/-- ITS FALSE NEIGHBOUR: 'it returns false'. Refute it at one input. -/
def deskStepsWrong : ChangeSpec := { name := "deskSteps", fn := fun _ => fun
  | [d1, d2] => { results := [.lit (.bool false)], args := [d1, d2] }
  | _ => none }
def DeskStepsWrongFalsely : Prop := deskStepsRow.holds Tryz.pinned (OpenSpec.ofChange deskStepsWrong)

/-- 'applelofttop.TopRoom': WHATEVER THE INPUT: true; the input reads as it did. -/
def topRoomSpec : ChangeSpec := { name := "topRoom", fn := fun _ => fun
  | [d1, d2] => { results := [.lit (.bool true)], args := [d1, d2] }
  | _ => none }
def topRoomRow : OpenClaim := { program := "ytnmlbflhnnmoeaagreat", sum := "38bd4686f557b44ffb3ec550c8d7f1f34a23b5ac6ab04244231c27bd4d8df6b3", func := "appleloft/applelofttop.TopRoom", spec := "topRoom", inPlace := ["internal/bytealg.IndexByteString", "internal/abi.NoEscape", "internal/bytealg.abigen_runtime_cmpstring", "slices.overlaps[appleloft/api.Blob]", "slices.overlaps[appleloft/api.Entry]"], unfollowed := true, recurses := true, apart := false }
def TopRoomSaid : Prop := topRoomRow.holds Tryz.pinned (OpenSpec.ofChange topRoomSpec)

/-- ITS FALSE NEIGHBOUR: 'it returns false'. Refute it at one input. -/
def topRoomWrong : ChangeSpec := { name := "topRoom", fn := fun _ => fun
  | [d1, d2] => { results := [.lit (.bool false)], args := [d1, d2] }
  | _ => none }
def TopRoomWrongFalsely : Prop := topRoomRow.holds Tryz.pinned (OpenSpec.ofChange topRoomWrong)

/-- 'applelofttop.TopTold': WHATEVER THE INPUT: true; the input reads as it did. -/
def topToldSpec : ChangeSpec := { name := "topTold", fn := fun _ => fun
  | [d1, d2, d3] => { results := [.lit (.bool true)], args := [d1, d2, d3] }
  | _ => none }
def topToldRow : OpenClaim := { program := "ytnmlbflhnnmoeaagreat", sum := "38bd4686f557b44ffb3ec550c8d7f1f34a23b5ac6ab04244231c27bd4d8df6b3", func := "appleloft/applelofttop.TopTold", spec := "topTold", inPlace := ["internal/bytealg.IndexByteString", "internal/abi.NoEscape", "internal/bytealg.abigen_runtime_cmpstring", "slices.overlaps[appleloft/api.Blob]", "slices.overlaps[appleloft/api.Entry]"], unfollowed := true, recurses := true, apart := false }
def TopToldSaid : Prop := topToldRow.holds Tryz.pinned (OpenSpec.ofChange topToldSpec)

/-- ITS FALSE NEIGHBOUR: 'it returns false'. Refute it at one input. -/
def topToldWrong : ChangeSpec := { name := "topTold", fn := fun _ => fun
  | [d1, d2, d3] => { results := [.lit (.bool false)], args := [d1, d2, d3] }
  | _ => none }
def TopToldWrongFalsely : Prop := topToldRow.holds Tryz.pinned (OpenSpec.ofChange topToldWrong)

/-- 'applelofttop.TopOnce': WHATEVER THE INPUT: true; the input reads as it did. -/
def topOnceSpec : ChangeSpec := { name := "topOnce", fn := fun _ => fun
  | [d] => { results := [.lit (.bool true)], args := [d] }
  | _ => none }
def topOnceRow : OpenClaim := { program := "ytnmlbflhnnmoeaagreat", sum := "38bd4686f557b44ffb3ec550c8d7f1f34a23b5ac6ab04244231c27bd4d8df6b3", func := "appleloft/applelofttop.TopOnce", spec := "topOnce", inPlace := ["internal/bytealg.IndexByteString", "internal/abi.NoEscape", "internal/bytealg.abigen_runtime_cmpstring", "slices.overlaps[appleloft/api.Blob]", "slices.overlaps[appleloft/api.Entry]"], unfollowed := true, recurses := true, apart := false }
def TopOnceSaid : Prop := topOnceRow.holds Tryz.pinned (OpenSpec.ofChange topOnceSpec)

/-- ITS FALSE NEIGHBOUR: 'it returns false'. Refute it at one input. -/
def topOnceWrong : ChangeSpec := { name := "topOnce", fn := fun _ => fun
  | [d] => { results := [.lit (.bool false)], args := [d] }
  | _ => none }
def TopOnceWrongFalsely : Prop := topOnceRow.holds Tryz.pinned (OpenSpec.ofChange topOnceWrong)

/- THE SECOND FORM. 'bulk': how many values and letters a reading holds, each counted each time it is reached (what is shared counts as often as it is met; a slice's spare places count too). A statement '..UptoSaid' is the law's where the arguments, and the package variables that the reading takes, are together of bulk at most 1048576: NARROWER than '..Said'. Prove '..Said' where nothing that the law and all that it calls make is longer than what came in: it says more and counts as full. Else prove '..UptoSaid'. A law counts once. -/
mutual
def uptoBulk {H : Type} : DataW H → Nat
  | .lit (.string bytes) => bytes.length + 1
  | .lit _ => 1
  | .nil => 1
  | .ptr d => uptoBulk d + 1
  | .slice elems spare => uptoBulkAll elems + uptoBulkAll spare + 1
  | .agg parts => uptoBulkAll parts + 1
  | .iface _ d => uptoBulk d + 1
  | .map entries => uptoBulkEntries entries + 1
  | .held _ => 1
def uptoBulkAll {H : Type} : List (DataW H) → Nat
  | [] => 0
  | d :: r => uptoBulk d + uptoBulkAll r
def uptoBulkEntries {H : Type} : List (Lit × DataW H) → Nat
  | [] => 0
  | x :: r => uptoBulkEntry x + uptoBulkEntries r
def uptoBulkEntry {H : Type} : Lit × DataW H → Nat
  | (.string bytes, d) => bytes.length + uptoBulk d + 1
  | (_, d) => uptoBulk d + 1
 end
def uptoSmall : (H : Type) → List (DataW H) → Bool := fun _ ds => decide (uptoBulkAll ds ≤ 1048576)
def OpenSpec.upto (s : _root_.Go.ChangeSpec) : _root_.Go.OpenSpec := { _root_.Go.OpenSpec.ofChange s with cond := some uptoSmall }

/-- 'appleloftkeep.BarrierGood', WHERE WHAT IT READS IS OF BULK AT MOST 1048576: true; the input reads as it did. -/
def barrierGoodUptoRow : OpenClaim := { program := "ytnmlbflhnnmoeaagreat", sum := "38bd4686f557b44ffb3ec550c8d7f1f34a23b5ac6ab04244231c27bd4d8df6b3", func := "appleloft/appleloftkeep.BarrierGood", spec := "barrierGood", inPlace := ["internal/bytealg.IndexByteString", "internal/bytealg.abigen_runtime_cmpstring", "internal/abi.NoEscape", "slices.overlaps[appleloft/api.Blob]", "slices.overlaps[appleloft/api.Entry]"], unfollowed := true, recurses := true, apart := false, narrowed := true }
def BarrierGoodUptoSaid : Prop := barrierGoodUptoRow.holds Tryz.pinned (OpenSpec.upto barrierGoodSpec)

/-- 'appleloftkeep.BarrierEnds', WHERE WHAT IT READS IS OF BULK AT MOST 1048576: true; the input reads as it did. -/
def barrierEndsUptoRow : OpenClaim := { program := "ytnmlbflhnnmoeaagreat", sum := "38bd4686f557b44ffb3ec550c8d7f1f34a23b5ac6ab04244231c27bd4d8df6b3", func := "appleloft/appleloftkeep.BarrierEnds", spec := "barrierEnds", inPlace := ["internal/bytealg.IndexByteString", "internal/bytealg.abigen_runtime_cmpstring", "internal/abi.NoEscape", "slices.overlaps[appleloft/api.Blob]", "slices.overlaps[appleloft/api.Entry]"], unfollowed := true, recurses := true, apart := false, narrowed := true }
def BarrierEndsUptoSaid : Prop := barrierEndsUptoRow.holds Tryz.pinned (OpenSpec.upto barrierEndsSpec)

/-- 'appleloftkeep.EvictAges', WHERE WHAT IT READS IS OF BULK AT MOST 1048576: true; the input reads as it did. -/
def evictAgesUptoRow : OpenClaim := { program := "ytnmlbflhnnmoeaagreat", sum := "38bd4686f557b44ffb3ec550c8d7f1f34a23b5ac6ab04244231c27bd4d8df6b3", func := "appleloft/appleloftkeep.EvictAges", spec := "evictAges", inPlace := ["internal/bytealg.IndexByteString", "internal/bytealg.abigen_runtime_cmpstring", "internal/abi.NoEscape"], unfollowed := true, recurses := true, apart := false, narrowed := true }
def EvictAgesUptoSaid : Prop := evictAgesUptoRow.holds Tryz.pinned (OpenSpec.upto evictAgesSpec)

/-- 'appleloftkeep.StoreOwn', WHERE WHAT IT READS IS OF BULK AT MOST 1048576: true; the input reads as it did. -/
def storeOwnUptoRow : OpenClaim := { program := "ytnmlbflhnnmoeaagreat", sum := "38bd4686f557b44ffb3ec550c8d7f1f34a23b5ac6ab04244231c27bd4d8df6b3", func := "appleloft/appleloftkeep.StoreOwn", spec := "storeOwn", inPlace := ["internal/bytealg.IndexByteString", "internal/bytealg.abigen_runtime_cmpstring", "internal/abi.NoEscape", "slices.overlaps[appleloft/api.Blob]", "slices.overlaps[appleloft/api.Entry]"], unfollowed := true, recurses := true, apart := false, narrowed := true }
def StoreOwnUptoSaid : Prop := storeOwnUptoRow.holds Tryz.pinned (OpenSpec.upto storeOwnSpec)

/-- 'appleloftkeep.DeskGood', WHERE WHAT IT READS IS OF BULK AT MOST 1048576: true; the input reads as it did. -/
def deskGoodUptoRow : OpenClaim := { program := "ytnmlbflhnnmoeaagreat", sum := "38bd4686f557b44ffb3ec550c8d7f1f34a23b5ac6ab04244231c27bd4d8df6b3", func := "appleloft/appleloftkeep.DeskGood", spec := "deskGood", inPlace := ["internal/bytealg.IndexByteString", "internal/abi.NoEscape", "internal/bytealg.abigen_runtime_cmpstring", "slices.overlaps[appleloft/api.Blob]", "slices.overlaps[appleloft/api.Entry]"], unfollowed := true, recurses := true, apart := false, narrowed := true }
def DeskGoodUptoSaid : Prop := deskGoodUptoRow.holds Tryz.pinned (OpenSpec.upto deskGoodSpec)

/-- 'appleloftkeep.DeskFront', WHERE WHAT IT READS IS OF BULK AT MOST 1048576: true; the input reads as it did. -/
def deskFrontUptoRow : OpenClaim := { program := "ytnmlbflhnnmoeaagreat", sum := "38bd4686f557b44ffb3ec550c8d7f1f34a23b5ac6ab04244231c27bd4d8df6b3", func := "appleloft/appleloftkeep.DeskFront", spec := "deskFront", inPlace := ["internal/bytealg.IndexByteString", "internal/abi.NoEscape", "internal/bytealg.abigen_runtime_cmpstring", "slices.overlaps[appleloft/api.Blob]", "slices.overlaps[appleloft/api.Entry]"], unfollowed := true, recurses := true, apart := false, narrowed := true }
def DeskFrontUptoSaid : Prop := deskFrontUptoRow.holds Tryz.pinned (OpenSpec.upto deskFrontSpec)

/-- 'appleloftkeep.DeskRefuses', WHERE WHAT IT READS IS OF BULK AT MOST 1048576: true; the input reads as it did. -/
def deskRefusesUptoRow : OpenClaim := { program := "ytnmlbflhnnmoeaagreat", sum := "38bd4686f557b44ffb3ec550c8d7f1f34a23b5ac6ab04244231c27bd4d8df6b3", func := "appleloft/appleloftkeep.DeskRefuses", spec := "deskRefuses", inPlace := ["internal/bytealg.IndexByteString", "internal/abi.NoEscape", "internal/bytealg.abigen_runtime_cmpstring", "slices.overlaps[appleloft/api.Blob]", "slices.overlaps[appleloft/api.Entry]"], unfollowed := true, recurses := true, apart := false, narrowed := true }
def DeskRefusesUptoSaid : Prop := deskRefusesUptoRow.holds Tryz.pinned (OpenSpec.upto deskRefusesSpec)

/-- 'appleloftkeep.DeskSteps', WHERE WHAT IT READS IS OF BULK AT MOST 1048576: true; the input reads as it did. -/
def deskStepsUptoRow : OpenClaim := { program := "ytnmlbflhnnmoeaagreat", sum := "38bd4686f557b44ffb3ec550c8d7f1f34a23b5ac6ab04244231c27bd4d8df6b3", func := "appleloft/appleloftkeep.DeskSteps", spec := "deskSteps", inPlace := ["internal/bytealg.IndexByteString", "internal/abi.NoEscape", "internal/bytealg.abigen_runtime_cmpstring", "slices.overlaps[appleloft/api.Blob]", "slices.overlaps[appleloft/api.Entry]"], unfollowed := true, recurses := true, apart := false, narrowed := true }
def DeskStepsUptoSaid : Prop := deskStepsUptoRow.holds Tryz.pinned (OpenSpec.upto deskStepsSpec)

/-- 'applelofttop.TopRoom', WHERE WHAT IT READS IS OF BULK AT MOST 1048576: true; the input reads as it did. -/
def topRoomUptoRow : OpenClaim := { program := "ytnmlbflhnnmoeaagreat", sum := "38bd4686f557b44ffb3ec550c8d7f1f34a23b5ac6ab04244231c27bd4d8df6b3", func := "appleloft/applelofttop.TopRoom", spec := "topRoom", inPlace := ["internal/bytealg.IndexByteString", "internal/abi.NoEscape", "internal/bytealg.abigen_runtime_cmpstring", "slices.overlaps[appleloft/api.Blob]", "slices.overlaps[appleloft/api.Entry]"], unfollowed := true, recurses := true, apart := false, narrowed := true }
def TopRoomUptoSaid : Prop := topRoomUptoRow.holds Tryz.pinned (OpenSpec.upto topRoomSpec)

/-- 'applelofttop.TopTold', WHERE WHAT IT READS IS OF BULK AT MOST 1048576: true; the input reads as it did. -/
def topToldUptoRow : OpenClaim := { program := "ytnmlbflhnnmoeaagreat", sum := "38bd4686f557b44ffb3ec550c8d7f1f34a23b5ac6ab04244231c27bd4d8df6b3", func := "appleloft/applelofttop.TopTold", spec := "topTold", inPlace := ["internal/bytealg.IndexByteString", "internal/abi.NoEscape", "internal/bytealg.abigen_runtime_cmpstring", "slices.overlaps[appleloft/api.Blob]", "slices.overlaps[appleloft/api.Entry]"], unfollowed := true, recurses := true, apart := false, narrowed := true }
def TopToldUptoSaid : Prop := topToldUptoRow.holds Tryz.pinned (OpenSpec.upto topToldSpec)

/-- 'applelofttop.TopOnce', WHERE WHAT IT READS IS OF BULK AT MOST 1048576: true; the input reads as it did. -/
def topOnceUptoRow : OpenClaim := { program := "ytnmlbflhnnmoeaagreat", sum := "38bd4686f557b44ffb3ec550c8d7f1f34a23b5ac6ab04244231c27bd4d8df6b3", func := "appleloft/applelofttop.TopOnce", spec := "topOnce", inPlace := ["internal/bytealg.IndexByteString", "internal/abi.NoEscape", "internal/bytealg.abigen_runtime_cmpstring", "slices.overlaps[appleloft/api.Blob]", "slices.overlaps[appleloft/api.Entry]"], unfollowed := true, recurses := true, apart := false, narrowed := true }
def TopOnceUptoSaid : Prop := topOnceUptoRow.holds Tryz.pinned (OpenSpec.upto topOnceSpec)

end Rows
end Go.Proofs.YtnmlbflhnnmoeaaGreat
