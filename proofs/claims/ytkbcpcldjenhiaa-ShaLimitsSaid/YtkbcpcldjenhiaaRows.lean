/-
  No cell of these rows narrows 'for every input' (looked for: loops, veiled, ifaces, maps, wideKeys, modest, calm, conditions, laid).
  DERIVED. THE GIVEN ROWS OF THIS SEAT. 12 by the template 'for every input the law returns true; each argument reads behind the call as it read before'; 0 by the template 'total and deterministic' (their statements: YtkbcpcldjenhiaaTotals.lean).
  GIVEN WITH THE SEED: the statements are not yours to turn. If you find one false, say at which input.
  Laid BY PROGRAM, IN A SANDBOX (cutbox-rows.mjs): the forced cells as the released guide's own fill.sh prints them over the translation 11515c74aa127ff4… (all of the seat's roots in one cut). By AI agents, Wed Nov 11 2026. No macro, syntax, notation, axiom, sorry.
-/
import Derived.Test.YtkbcpcldjenhiaaChecked
import GoSem.Claim
import GoSem.ClaimJoined
import GoSem.ClaimMapViews
import Derived.JoinedTies
import Derived.KernelRfl
namespace Go.Proofs.Ytkbcpcldjenhiaa
/- THE CELL 'sum', in the pinned program and in every row, IS THE sha256 OF THE DUMP (.gsa) THAT YtkbcpcldjenhiaaProg.lean LOADS. Nothing in Lean hashes anything: it is a label: what it is worth is what the hold of that sum in a sandbox is worth. -/
noncomputable def Try.pinned : Pinned := { name := "ytkbcpcldjenhiaa", sum := "11515c74aa127ff414a45fc5ddad9755e573745237c65c9b87d450eecdc8ca29", checked := Try.checked }
namespace Rows
def none {H : Type} : Left H := { results := [], args := [] }

/-- 'appleloftkeep.HexTurns': WHATEVER THE INPUT: true; the input reads as it did. -/
def hexTurnsSpec : ChangeSpec := { name := "hexTurns", fn := fun _ => fun
  | [d] => { results := [.lit (.bool true)], args := [d] }
  | _ => none }
def hexTurnsRow : OpenClaim := { program := "ytkbcpcldjenhiaa", sum := "11515c74aa127ff414a45fc5ddad9755e573745237c65c9b87d450eecdc8ca29", func := "appleloft/appleloftkeep.HexTurns", spec := "hexTurns", inPlace := ["internal/bytealg.IndexByteString", "internal/abi.NoEscape"], apart := false }
def HexTurnsSaid : Prop := hexTurnsRow.holds Try.pinned (OpenSpec.ofChange hexTurnsSpec)

/-- ITS FALSE NEIGHBOUR: 'it returns false'. Refute it at one input. -/
def hexTurnsWrong : ChangeSpec := { name := "hexTurns", fn := fun _ => fun
  | [d] => { results := [.lit (.bool false)], args := [d] }
  | _ => none }
def HexTurnsWrongFalsely : Prop := hexTurnsRow.holds Try.pinned (OpenSpec.ofChange hexTurnsWrong)

/-- 'appleloftkeep.WireBack': WHATEVER THE INPUT: true; the input reads as it did. -/
def wireBackSpec : ChangeSpec := { name := "wireBack", fn := fun _ => fun
  | [d1, d2] => { results := [.lit (.bool true)], args := [d1, d2] }
  | _ => none }
def wireBackRow : OpenClaim := { program := "ytkbcpcldjenhiaa", sum := "11515c74aa127ff414a45fc5ddad9755e573745237c65c9b87d450eecdc8ca29", func := "appleloft/appleloftkeep.WireBack", spec := "wireBack", apart := false }
def WireBackSaid : Prop := wireBackRow.holds Try.pinned (OpenSpec.ofChange wireBackSpec)

/-- ITS FALSE NEIGHBOUR: 'it returns false'. Refute it at one input. -/
def wireBackWrong : ChangeSpec := { name := "wireBack", fn := fun _ => fun
  | [d1, d2] => { results := [.lit (.bool false)], args := [d1, d2] }
  | _ => none }
def WireBackWrongFalsely : Prop := wireBackRow.holds Try.pinned (OpenSpec.ofChange wireBackWrong)

/-- 'appleloftkeep.WireTextBack': WHATEVER THE INPUT: true; the input reads as it did. -/
def wireTextBackSpec : ChangeSpec := { name := "wireTextBack", fn := fun _ => fun
  | [d1, d2, d3] => { results := [.lit (.bool true)], args := [d1, d2, d3] }
  | _ => none }
def wireTextBackRow : OpenClaim := { program := "ytkbcpcldjenhiaa", sum := "11515c74aa127ff414a45fc5ddad9755e573745237c65c9b87d450eecdc8ca29", func := "appleloft/appleloftkeep.WireTextBack", spec := "wireTextBack", apart := false }
def WireTextBackSaid : Prop := wireTextBackRow.holds Try.pinned (OpenSpec.ofChange wireTextBackSpec)

/-- ITS FALSE NEIGHBOUR: 'it returns false'. Refute it at one input. -/
def wireTextBackWrong : ChangeSpec := { name := "wireTextBack", fn := fun _ => fun
  | [d1, d2, d3] => { results := [.lit (.bool false)], args := [d1, d2, d3] }
  | _ => none }
def WireTextBackWrongFalsely : Prop := wireTextBackRow.holds Try.pinned (OpenSpec.ofChange wireTextBackWrong)

/-- 'appleloftkeep.ManifestRises': WHATEVER THE INPUT: true; the input reads as it did. -/
def manifestRisesSpec : ChangeSpec := { name := "manifestRises", fn := fun _ => fun
  | [d1, d2, d3] => { results := [.lit (.bool true)], args := [d1, d2, d3] }
  | _ => none }
def manifestRisesRow : OpenClaim := { program := "ytkbcpcldjenhiaa", sum := "11515c74aa127ff414a45fc5ddad9755e573745237c65c9b87d450eecdc8ca29", func := "appleloft/appleloftkeep.ManifestRises", spec := "manifestRises", inPlace := ["internal/bytealg.IndexByteString"], unfollowed := true, recurses := true, apart := false }
def ManifestRisesSaid : Prop := manifestRisesRow.holds Try.pinned (OpenSpec.ofChange manifestRisesSpec)

/-- ITS FALSE NEIGHBOUR: 'it returns false'. Refute it at one input. -/
def manifestRisesWrong : ChangeSpec := { name := "manifestRises", fn := fun _ => fun
  | [d1, d2, d3] => { results := [.lit (.bool false)], args := [d1, d2, d3] }
  | _ => none }
def ManifestRisesWrongFalsely : Prop := manifestRisesRow.holds Try.pinned (OpenSpec.ofChange manifestRisesWrong)

/-- 'appleloftkeep.ManifestLong': WHATEVER THE INPUT: true; the input reads as it did. -/
def manifestLongSpec : ChangeSpec := { name := "manifestLong", fn := fun _ => fun
  | [d1, d2] => { results := [.lit (.bool true)], args := [d1, d2] }
  | _ => none }
def manifestLongRow : OpenClaim := { program := "ytkbcpcldjenhiaa", sum := "11515c74aa127ff414a45fc5ddad9755e573745237c65c9b87d450eecdc8ca29", func := "appleloft/appleloftkeep.ManifestLong", spec := "manifestLong", inPlace := ["internal/bytealg.IndexByteString"], unfollowed := true, recurses := true, apart := false }
def ManifestLongSaid : Prop := manifestLongRow.holds Try.pinned (OpenSpec.ofChange manifestLongSpec)

/-- ITS FALSE NEIGHBOUR: 'it returns false'. Refute it at one input. -/
def manifestLongWrong : ChangeSpec := { name := "manifestLong", fn := fun _ => fun
  | [d1, d2] => { results := [.lit (.bool false)], args := [d1, d2] }
  | _ => none }
def ManifestLongWrongFalsely : Prop := manifestLongRow.holds Try.pinned (OpenSpec.ofChange manifestLongWrong)

/-- 'appleloftkeep.FlightOne': WHATEVER THE INPUT: true; the input reads as it did. -/
def flightOneSpec : ChangeSpec := { name := "flightOne", fn := fun _ => fun
  | [d] => { results := [.lit (.bool true)], args := [d] }
  | _ => none }
def flightOneRow : OpenClaim := { program := "ytkbcpcldjenhiaa", sum := "11515c74aa127ff414a45fc5ddad9755e573745237c65c9b87d450eecdc8ca29", func := "appleloft/appleloftkeep.FlightOne", spec := "flightOne", inPlace := ["internal/bytealg.IndexByteString"], unfollowed := true, recurses := true, apart := false }
def FlightOneSaid : Prop := flightOneRow.holds Try.pinned (OpenSpec.ofChange flightOneSpec)

/-- ITS FALSE NEIGHBOUR: 'it returns false'. Refute it at one input. -/
def flightOneWrong : ChangeSpec := { name := "flightOne", fn := fun _ => fun
  | [d] => { results := [.lit (.bool false)], args := [d] }
  | _ => none }
def FlightOneWrongFalsely : Prop := flightOneRow.holds Try.pinned (OpenSpec.ofChange flightOneWrong)

/-- 'appleloftkeep.ShaKnown': WHATEVER THE INPUT: true; the input reads as it did. -/
def shaKnownSpec : ChangeSpec := { name := "shaKnown", fn := fun _ => fun
  | [d] => { results := [.lit (.bool true)], args := [d] }
  | _ => none }
def shaKnownRow : OpenClaim := { program := "ytkbcpcldjenhiaa", sum := "11515c74aa127ff414a45fc5ddad9755e573745237c65c9b87d450eecdc8ca29", func := "appleloft/appleloftkeep.ShaKnown", spec := "shaKnown", inPlace := ["internal/abi.NoEscape"], apart := false }
def ShaKnownSaid : Prop := shaKnownRow.holds Try.pinned (OpenSpec.ofChange shaKnownSpec)

/-- ITS FALSE NEIGHBOUR: 'it returns false'. Refute it at one input. -/
def shaKnownWrong : ChangeSpec := { name := "shaKnown", fn := fun _ => fun
  | [d] => { results := [.lit (.bool false)], args := [d] }
  | _ => none }
def ShaKnownWrongFalsely : Prop := shaKnownRow.holds Try.pinned (OpenSpec.ofChange shaKnownWrong)

/-- 'appleloftkeep.FlightEnds': WHATEVER THE INPUT: true; the input reads as it did. -/
def flightEndsSpec : ChangeSpec := { name := "flightEnds", fn := fun _ => fun
  | [d] => { results := [.lit (.bool true)], args := [d] }
  | _ => none }
def flightEndsRow : OpenClaim := { program := "ytkbcpcldjenhiaa", sum := "11515c74aa127ff414a45fc5ddad9755e573745237c65c9b87d450eecdc8ca29", func := "appleloft/appleloftkeep.FlightEnds", spec := "flightEnds", inPlace := ["internal/bytealg.IndexByteString"], unfollowed := true, recurses := true, apart := false }
def FlightEndsSaid : Prop := flightEndsRow.holds Try.pinned (OpenSpec.ofChange flightEndsSpec)

/-- ITS FALSE NEIGHBOUR: 'it returns false'. Refute it at one input. -/
def flightEndsWrong : ChangeSpec := { name := "flightEnds", fn := fun _ => fun
  | [d] => { results := [.lit (.bool false)], args := [d] }
  | _ => none }
def FlightEndsWrongFalsely : Prop := flightEndsRow.holds Try.pinned (OpenSpec.ofChange flightEndsWrong)

/-- 'appleloftkeep.ShaChains': WHATEVER THE INPUT: true; the input reads as it did. -/
def shaChainsSpec : ChangeSpec := { name := "shaChains", fn := fun _ => fun
  | [d] => { results := [.lit (.bool true)], args := [d] }
  | _ => none }
def shaChainsRow : OpenClaim := { program := "ytkbcpcldjenhiaa", sum := "11515c74aa127ff414a45fc5ddad9755e573745237c65c9b87d450eecdc8ca29", func := "appleloft/appleloftkeep.ShaChains", spec := "shaChains", inPlace := ["internal/abi.NoEscape", "internal/bytealg.IndexByteString"], apart := false }
def ShaChainsSaid : Prop := shaChainsRow.holds Try.pinned (OpenSpec.ofChange shaChainsSpec)

/-- ITS FALSE NEIGHBOUR: 'it returns false'. Refute it at one input. -/
def shaChainsWrong : ChangeSpec := { name := "shaChains", fn := fun _ => fun
  | [d] => { results := [.lit (.bool false)], args := [d] }
  | _ => none }
def ShaChainsWrongFalsely : Prop := shaChainsRow.holds Try.pinned (OpenSpec.ofChange shaChainsWrong)

/-- 'appleloftkeep.FlightApart': WHATEVER THE INPUT: true; the input reads as it did. -/
def flightApartSpec : ChangeSpec := { name := "flightApart", fn := fun _ => fun
  | [d1, d2] => { results := [.lit (.bool true)], args := [d1, d2] }
  | _ => none }
def flightApartRow : OpenClaim := { program := "ytkbcpcldjenhiaa", sum := "11515c74aa127ff414a45fc5ddad9755e573745237c65c9b87d450eecdc8ca29", func := "appleloft/appleloftkeep.FlightApart", spec := "flightApart", inPlace := ["internal/bytealg.IndexByteString"], unfollowed := true, recurses := true, apart := false }
def FlightApartSaid : Prop := flightApartRow.holds Try.pinned (OpenSpec.ofChange flightApartSpec)

/-- ITS FALSE NEIGHBOUR: 'it returns false'. Refute it at one input. -/
def flightApartWrong : ChangeSpec := { name := "flightApart", fn := fun _ => fun
  | [d1, d2] => { results := [.lit (.bool false)], args := [d1, d2] }
  | _ => none }
def FlightApartWrongFalsely : Prop := flightApartRow.holds Try.pinned (OpenSpec.ofChange flightApartWrong)

/-- 'appleloftkeep.HexDigests': WHATEVER THE INPUT: true; the input reads as it did. -/
def hexDigestsSpec : ChangeSpec := { name := "hexDigests", fn := fun _ => fun
  | [d] => { results := [.lit (.bool true)], args := [d] }
  | _ => none }
def hexDigestsRow : OpenClaim := { program := "ytkbcpcldjenhiaa", sum := "11515c74aa127ff414a45fc5ddad9755e573745237c65c9b87d450eecdc8ca29", func := "appleloft/appleloftkeep.HexDigests", spec := "hexDigests", inPlace := ["internal/abi.NoEscape", "internal/bytealg.IndexByteString", "internal/bytealg.MakeNoZero"], apart := false }
def HexDigestsSaid : Prop := hexDigestsRow.holds Try.pinned (OpenSpec.ofChange hexDigestsSpec)

/-- ITS FALSE NEIGHBOUR: 'it returns false'. Refute it at one input. -/
def hexDigestsWrong : ChangeSpec := { name := "hexDigests", fn := fun _ => fun
  | [d] => { results := [.lit (.bool false)], args := [d] }
  | _ => none }
def HexDigestsWrongFalsely : Prop := hexDigestsRow.holds Try.pinned (OpenSpec.ofChange hexDigestsWrong)

/-- 'appleloftkeep.ShaLimits': WHATEVER THE INPUT: true; the input reads as it did. -/
def shaLimitsSpec : ChangeSpec := { name := "shaLimits", fn := fun _ => fun
  | [d1, d2] => { results := [.lit (.bool true)], args := [d1, d2] }
  | _ => none }
def shaLimitsRow : OpenClaim := { program := "ytkbcpcldjenhiaa", sum := "11515c74aa127ff414a45fc5ddad9755e573745237c65c9b87d450eecdc8ca29", func := "appleloft/appleloftkeep.ShaLimits", spec := "shaLimits", inPlace := ["internal/abi.NoEscape"], apart := false }
def ShaLimitsSaid : Prop := shaLimitsRow.holds Try.pinned (OpenSpec.ofChange shaLimitsSpec)

/-- ITS FALSE NEIGHBOUR: 'it returns false'. Refute it at one input. -/
def shaLimitsWrong : ChangeSpec := { name := "shaLimits", fn := fun _ => fun
  | [d1, d2] => { results := [.lit (.bool false)], args := [d1, d2] }
  | _ => none }
def ShaLimitsWrongFalsely : Prop := shaLimitsRow.holds Try.pinned (OpenSpec.ofChange shaLimitsWrong)

/- THE SECOND FORM. 'bulk': how many values and letters a reading holds, each counted each time it is reached (what is shared counts as often as it is met; a slice's spare places count too). A statement '..UptoSaid' is the law's where the arguments, and the package variables that the reading takes, are together of bulk at most 1048576: NARROWER than '..Said'. Prove '..Said' where nothing that the law and all that it calls make is longer than what came in: it says more and counts as full. Else prove '..UptoSaid'. A law counts once. -/
mutual
def uptoBulk {H : Type} : DataW H → Nat
  | .lit (.string bytes) => bytes.length + 1
  | .lit _ => 1
  | .nil => 1
  | .ptr d => uptoBulk d + 1
  | .slice elems spare => uptoBulkAll elems + uptoBulkAll spare + 1
  | .agg parts => uptoBulkAll parts + 1
  | .iface _ d => uptoBulk d + 1
  | .map entries => uptoBulkEntries entries + 1
  | .held _ => 1
def uptoBulkAll {H : Type} : List (DataW H) → Nat
  | [] => 0
  | d :: r => uptoBulk d + uptoBulkAll r
def uptoBulkEntries {H : Type} : List (Lit × DataW H) → Nat
  | [] => 0
  | x :: r => uptoBulkEntry x + uptoBulkEntries r
def uptoBulkEntry {H : Type} : Lit × DataW H → Nat
  | (.string bytes, d) => bytes.length + uptoBulk d + 1
  | (_, d) => uptoBulk d + 1
 end
def uptoSmall : (H : Type) → List (DataW H) → Bool := fun _ ds => decide (uptoBulkAll ds ≤ 1048576)
def OpenSpec.upto (s : _root_.Go.ChangeSpec) : _root_.Go.OpenSpec := { _root_.Go.OpenSpec.ofChange s with cond := some uptoSmall }

/-- 'appleloftkeep.HexTurns', WHERE WHAT IT READS IS OF BULK AT MOST 1048576: true; the input reads as it did. -/
def hexTurnsUptoRow : OpenClaim := { program := "ytkbcpcldjenhiaa", sum := "11515c74aa127ff414a45fc5ddad9755e573745237c65c9b87d450eecdc8ca29", func := "appleloft/appleloftkeep.HexTurns", spec := "hexTurns", inPlace := ["internal/bytealg.IndexByteString", "internal/abi.NoEscape"], apart := false, narrowed := true }
def HexTurnsUptoSaid : Prop := hexTurnsUptoRow.holds Try.pinned (OpenSpec.upto hexTurnsSpec)

/-- 'appleloftkeep.WireBack', WHERE WHAT IT READS IS OF BULK AT MOST 1048576: true; the input reads as it did. -/
def wireBackUptoRow : OpenClaim := { program := "ytkbcpcldjenhiaa", sum := "11515c74aa127ff414a45fc5ddad9755e573745237c65c9b87d450eecdc8ca29", func := "appleloft/appleloftkeep.WireBack", spec := "wireBack", apart := false, narrowed := true }
def WireBackUptoSaid : Prop := wireBackUptoRow.holds Try.pinned (OpenSpec.upto wireBackSpec)

/-- 'appleloftkeep.WireTextBack', WHERE WHAT IT READS IS OF BULK AT MOST 1048576: true; the input reads as it did. -/
def wireTextBackUptoRow : OpenClaim := { program := "ytkbcpcldjenhiaa", sum := "11515c74aa127ff414a45fc5ddad9755e573745237c65c9b87d450eecdc8ca29", func := "appleloft/appleloftkeep.WireTextBack", spec := "wireTextBack", apart := false, narrowed := true }
def WireTextBackUptoSaid : Prop := wireTextBackUptoRow.holds Try.pinned (OpenSpec.upto wireTextBackSpec)

/-- 'appleloftkeep.ManifestRises', WHERE WHAT IT READS IS OF BULK AT MOST 1048576: true; the input reads as it did. -/
def manifestRisesUptoRow : OpenClaim := { program := "ytkbcpcldjenhiaa", sum := "11515c74aa127ff414a45fc5ddad9755e573745237c65c9b87d450eecdc8ca29", func := "appleloft/appleloftkeep.ManifestRises", spec := "manifestRises", inPlace := ["internal/bytealg.IndexByteString"], unfollowed := true, recurses := true, apart := false, narrowed := true }
def ManifestRisesUptoSaid : Prop := manifestRisesUptoRow.holds Try.pinned (OpenSpec.upto manifestRisesSpec)

/-- 'appleloftkeep.ManifestLong', WHERE WHAT IT READS IS OF BULK AT MOST 1048576: true; the input reads as it did. -/
def manifestLongUptoRow : OpenClaim := { program := "ytkbcpcldjenhiaa", sum := "11515c74aa127ff414a45fc5ddad9755e573745237c65c9b87d450eecdc8ca29", func := "appleloft/appleloftkeep.ManifestLong", spec := "manifestLong", inPlace := ["internal/bytealg.IndexByteString"], unfollowed := true, recurses := true, apart := false, narrowed := true }
def ManifestLongUptoSaid : Prop := manifestLongUptoRow.holds Try.pinned (OpenSpec.upto manifestLongSpec)

/-- 'appleloftkeep.FlightOne', WHERE WHAT IT READS IS OF BULK AT MOST 1048576: true; the input reads as it did. -/
def flightOneUptoRow : OpenClaim := { program := "ytkbcpcldjenhiaa", sum := "11515c74aa127ff414a45fc5ddad9755e573745237c65c9b87d450eecdc8ca29", func := "appleloft/appleloftkeep.FlightOne", spec := "flightOne", inPlace := ["internal/bytealg.IndexByteString"], unfollowed := true, recurses := true, apart := false, narrowed := true }
def FlightOneUptoSaid : Prop := flightOneUptoRow.holds Try.pinned (OpenSpec.upto flightOneSpec)

/-- 'appleloftkeep.ShaKnown', WHERE WHAT IT READS IS OF BULK AT MOST 1048576: true; the input reads as it did. -/
def shaKnownUptoRow : OpenClaim := { program := "ytkbcpcldjenhiaa", sum := "11515c74aa127ff414a45fc5ddad9755e573745237c65c9b87d450eecdc8ca29", func := "appleloft/appleloftkeep.ShaKnown", spec := "shaKnown", inPlace := ["internal/abi.NoEscape"], apart := false, narrowed := true }
def ShaKnownUptoSaid : Prop := shaKnownUptoRow.holds Try.pinned (OpenSpec.upto shaKnownSpec)

/-- 'appleloftkeep.FlightEnds', WHERE WHAT IT READS IS OF BULK AT MOST 1048576: true; the input reads as it did. -/
def flightEndsUptoRow : OpenClaim := { program := "ytkbcpcldjenhiaa", sum := "11515c74aa127ff414a45fc5ddad9755e573745237c65c9b87d450eecdc8ca29", func := "appleloft/appleloftkeep.FlightEnds", spec := "flightEnds", inPlace := ["internal/bytealg.IndexByteString"], unfollowed := true, recurses := true, apart := false, narrowed := true }
def FlightEndsUptoSaid : Prop := flightEndsUptoRow.holds Try.pinned (OpenSpec.upto flightEndsSpec)

/-- 'appleloftkeep.ShaChains', WHERE WHAT IT READS IS OF BULK AT MOST 1048576: true; the input reads as it did. -/
def shaChainsUptoRow : OpenClaim := { program := "ytkbcpcldjenhiaa", sum := "11515c74aa127ff414a45fc5ddad9755e573745237c65c9b87d450eecdc8ca29", func := "appleloft/appleloftkeep.ShaChains", spec := "shaChains", inPlace := ["internal/abi.NoEscape", "internal/bytealg.IndexByteString"], apart := false, narrowed := true }
def ShaChainsUptoSaid : Prop := shaChainsUptoRow.holds Try.pinned (OpenSpec.upto shaChainsSpec)

/-- 'appleloftkeep.FlightApart', WHERE WHAT IT READS IS OF BULK AT MOST 1048576: true; the input reads as it did. -/
def flightApartUptoRow : OpenClaim := { program := "ytkbcpcldjenhiaa", sum := "11515c74aa127ff414a45fc5ddad9755e573745237c65c9b87d450eecdc8ca29", func := "appleloft/appleloftkeep.FlightApart", spec := "flightApart", inPlace := ["internal/bytealg.IndexByteString"], unfollowed := true, recurses := true, apart := false, narrowed := true }
def FlightApartUptoSaid : Prop := flightApartUptoRow.holds Try.pinned (OpenSpec.upto flightApartSpec)

/-- 'appleloftkeep.HexDigests', WHERE WHAT IT READS IS OF BULK AT MOST 1048576: true; the input reads as it did. -/
def hexDigestsUptoRow : OpenClaim := { program := "ytkbcpcldjenhiaa", sum := "11515c74aa127ff414a45fc5ddad9755e573745237c65c9b87d450eecdc8ca29", func := "appleloft/appleloftkeep.HexDigests", spec := "hexDigests", inPlace := ["internal/abi.NoEscape", "internal/bytealg.IndexByteString", "internal/bytealg.MakeNoZero"], apart := false, narrowed := true }
def HexDigestsUptoSaid : Prop := hexDigestsUptoRow.holds Try.pinned (OpenSpec.upto hexDigestsSpec)

/-- 'appleloftkeep.ShaLimits', WHERE WHAT IT READS IS OF BULK AT MOST 1048576: true; the input reads as it did. -/
def shaLimitsUptoRow : OpenClaim := { program := "ytkbcpcldjenhiaa", sum := "11515c74aa127ff414a45fc5ddad9755e573745237c65c9b87d450eecdc8ca29", func := "appleloft/appleloftkeep.ShaLimits", spec := "shaLimits", inPlace := ["internal/abi.NoEscape"], apart := false, narrowed := true }
def ShaLimitsUptoSaid : Prop := shaLimitsUptoRow.holds Try.pinned (OpenSpec.upto shaLimitsSpec)

end Rows
end Go.Proofs.Ytkbcpcldjenhiaa
