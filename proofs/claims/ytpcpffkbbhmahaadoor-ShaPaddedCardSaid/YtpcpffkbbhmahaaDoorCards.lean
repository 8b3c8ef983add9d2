/-
  DERIVED. GIVEN WITH THE SEED: THE CARDS: each row of YtpcpffkbbhmahaaDoorRows.lean that lists a variable, with what it lists TIED to the program's text (the seventh form; the later family's looks); each row that meets fmt, with fmt's text TOLD by the authors' own Lean function (tested against real Go, not proved from fmt's source: count such statements apart). THE CARD IS WHAT COUNTS. Prove the row's statement (the work); the ties are given (YtpcpffkbbhmahaaDoorTie.lean); close each card by the builder's one call (the guide's Derived/Test/ToyasCard.lean, 'card_holds'). Laid BY PROGRAM, IN A SANDBOX (cutbox-door.mjs). By AI agents, Wed Nov 11 2026. No macro, syntax, notation, axiom, sorry.
-/
import Derived.Test.YtpcpffkbbhmahaaDoorRows
import GoSem.ClaimSeven
namespace Go.Proofs.YtpcpffkbbhmahaaDoor
namespace Rows

/-- THE TIED CARD OF 'appleloftkeep.ShaPadded'. -/
def shaPaddedCard : Claim7 := { stood := { row := shaPaddedRow, standIns := [], harness := (true, "a52b0c76cc4f848da312155c7d9526cccf01861416fd2b6540297979cc6e1f2f"), looks := false }, kinds := [], alts := [], laidByText := true, laidKinds := [.data, .pinned], laidTests := true, laidLooks := .later }
def ShaPaddedCardSaid : Prop := Claim7.holds Tryd.pinned (.plain (OpenSpec.ofChange shaPaddedSpec)) shaPaddedCard

/-- THE SECOND FORM's CARD OF 'appleloftkeep.ShaPadded'. -/
def shaPaddedUptoCard : Claim7 := { stood := { row := shaPaddedUptoRow, standIns := [], harness := (true, "a52b0c76cc4f848da312155c7d9526cccf01861416fd2b6540297979cc6e1f2f"), looks := false }, kinds := [], alts := [], laidByText := true, laidKinds := [.data, .pinned], laidTests := true, laidLooks := .later }
def ShaPaddedUptoCardSaid : Prop := Claim7.holds Tryd.pinned (.plain (OpenSpec.upto shaPaddedSpec)) shaPaddedUptoCard
end Rows
end Go.Proofs.YtpcpffkbbhmahaaDoor
