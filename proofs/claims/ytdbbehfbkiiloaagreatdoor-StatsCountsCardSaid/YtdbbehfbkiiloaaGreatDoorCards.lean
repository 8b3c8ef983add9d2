/-
  DERIVED. GIVEN WITH THE SEED: THE CARDS: each row of YtdbbehfbkiiloaaGreatDoorRows.lean that lists a variable, with what it lists TIED to the program's text (the seventh form; the later family's looks); each row that meets fmt, with fmt's text TOLD by the authors' own Lean function (tested against real Go, not proved from fmt's source: count such statements apart). THE CARD IS WHAT COUNTS. Prove the row's statement (the work); the ties are given (YtdbbehfbkiiloaaGreatDoorTie.lean); close each card by the builder's one call (the guide's Derived/Test/ToyasCard.lean, 'card_holds'). Laid BY PROGRAM, IN A SANDBOX (cutbox-door.mjs). By AI agents, Wed Nov 11 2026. No macro, syntax, notation, axiom, sorry.
-/
import Derived.Test.YtdbbehfbkiiloaaGreatDoorRows
import GoSem.ClaimSeven
namespace Go.Proofs.YtdbbehfbkiiloaaGreatDoor
namespace Rows

/-- THE TIED CARD OF 'appleloftkeep.StatsCounts'. -/
def statsCountsCard : Claim7 := { stood := { row := statsCountsRow, standIns := [], harness := (true, "b7181d9099f7a965910af1bfce3199824934f4973042cbae0e8fff79ddbe9bb2"), looks := false }, kinds := [], alts := [], laidByText := true, laidKinds := [.data, .data, .data], laidTests := true, laidLooks := .later }
def StatsCountsCardSaid : Prop := Claim7.holds Tryz.pinned (.plain (OpenSpec.ofChange statsCountsSpec)) statsCountsCard

/-- THE SECOND FORM's CARD OF 'appleloftkeep.StatsCounts'. -/
def statsCountsUptoCard : Claim7 := { stood := { row := statsCountsUptoRow, standIns := [], harness := (true, "b7181d9099f7a965910af1bfce3199824934f4973042cbae0e8fff79ddbe9bb2"), looks := false }, kinds := [], alts := [], laidByText := true, laidKinds := [.data, .data, .data], laidTests := true, laidLooks := .later }
def StatsCountsUptoCardSaid : Prop := Claim7.holds Tryz.pinned (.plain (OpenSpec.upto statsCountsSpec)) statsCountsUptoCard
end Rows
end Go.Proofs.YtdbbehfbkiiloaaGreatDoor
