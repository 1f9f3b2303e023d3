/-
  DERIVED. GIVEN WITH THE SEED: THE CARDS: each row of YtlohhdkkhedejaaGreatDoorRows.lean that lists a variable, with what it lists TIED to the program's text (the seventh form; the later family's looks); each row that meets fmt, with fmt's text TOLD by the authors' own Lean function (tested against real Go, not proved from fmt's source: count such statements apart). THE CARD IS WHAT COUNTS. Prove the row's statement (the work); the ties are given (YtlohhdkkhedejaaGreatDoorTie.lean); close each card by the builder's one call (the guide's Derived/Test/ToyasCard.lean, 'card_holds'). Laid BY PROGRAM, IN A SANDBOX (cutbox-door.mjs). By AI agents, Wed Nov 11 2026. No macro, syntax, notation, axiom, sorry.
-/
import Derived.Test.YtlohhdkkhedejaaGreatDoorRows
import GoSem.ClaimSeven
namespace Go.Proofs.YtlohhdkkhedejaaGreatDoor
namespace Rows

/-- THE TIED CARD OF 'viaductlaw08.SearchFixed'. -/
def searchFixedCard : Claim7 := { stood := { row := searchFixedRow, standIns := [], harness := (true, "3a2feeeef9da1254d3b524d6711779015742aadfaed9d16ef9734ac3d898b8a1"), looks := true }, kinds := [], alts := [], laidByText := true, laidKinds := [.handle], laidTests := true, laidLooks := .later }
def SearchFixedCardSaid : Prop := Claim7.holds Tryz.pinned (.plain (OpenSpec.ofChange searchFixedSpec)) searchFixedCard

/-- THE TIED CARD OF 'viaductlaw08.SearchTurned'. -/
def searchTurnedCard : Claim7 := { stood := { row := searchTurnedRow, standIns := [], harness := (true, "3a2feeeef9da1254d3b524d6711779015742aadfaed9d16ef9734ac3d898b8a1"), looks := true }, kinds := [], alts := [], laidByText := true, laidKinds := [.handle], laidTests := true, laidLooks := .later }
def SearchTurnedCardSaid : Prop := Claim7.holds Tryz.pinned (.plain (OpenSpec.ofChange searchTurnedSpec)) searchTurnedCard

/-- THE SECOND FORM's CARD OF 'viaductlaw08.SearchFixed'. -/
def searchFixedUptoCard : Claim7 := { stood := { row := searchFixedUptoRow, standIns := [], harness := (true, "3a2feeeef9da1254d3b524d6711779015742aadfaed9d16ef9734ac3d898b8a1"), looks := true }, kinds := [], alts := [], laidByText := true, laidKinds := [.handle], laidTests := true, laidLooks := .later }
def SearchFixedUptoCardSaid : Prop := Claim7.holds Tryz.pinned (.plain (OpenSpec.upto searchFixedSpec)) searchFixedUptoCard

/-- THE SECOND FORM's CARD OF 'viaductlaw08.SearchTurned'. -/
def searchTurnedUptoCard : Claim7 := { stood := { row := searchTurnedUptoRow, standIns := [], harness := (true, "3a2feeeef9da1254d3b524d6711779015742aadfaed9d16ef9734ac3d898b8a1"), looks := true }, kinds := [], alts := [], laidByText := true, laidKinds := [.handle], laidTests := true, laidLooks := .later }
def SearchTurnedUptoCardSaid : Prop := Claim7.holds Tryz.pinned (.plain (OpenSpec.upto searchTurnedSpec)) searchTurnedUptoCard
end Rows
end Go.Proofs.YtlohhdkkhedejaaGreatDoor
