/-
  DERIVED. GIVEN WITH THE SEED: THE CARDS: each row of YtodoafhphhbaaaaDoorRows.lean that lists a variable, with what it lists TIED to the program's text (the seventh form; the later family's looks); each row that meets fmt, with fmt's text TOLD by the authors' own Lean function (tested against real Go, not proved from fmt's source: count such statements apart). THE CARD IS WHAT COUNTS. Prove the row's statement (the work); the ties are given (YtodoafhphhbaaaaDoorTie.lean); close each card by the builder's one call (the guide's Derived/Test/ToyasCard.lean, 'card_holds'). Laid BY PROGRAM, IN A SANDBOX (cutbox-door.mjs). By AI agents, Wed Nov 11 2026. No macro, syntax, notation, axiom, sorry.
-/
import Derived.Test.YtodoafhphhbaaaaDoorRows
import GoSem.ClaimSeven
namespace Go.Proofs.YtodoafhphhbaaaaDoor
namespace Rows

/-- THE TIED CARD OF 'viaductlaw11.OverlayFixed'. -/
def overlayFixedCard : Claim7 := { stood := { row := overlayFixedRow, standIns := [], harness := (true, "d9820f93c97d76965c7a8a0c34493217911c2b5b6cb9c0a239f037dc3a933e7f"), looks := true }, kinds := [], alts := [], laidByText := true, laidKinds := [.handle], laidTests := true, laidLooks := .later }
def OverlayFixedCardSaid : Prop := Claim7.holds Tryd.pinned (.plain (OpenSpec.ofChange overlayFixedSpec)) overlayFixedCard

/-- THE SECOND FORM's CARD OF 'viaductlaw11.OverlayFixed'. -/
def overlayFixedUptoCard : Claim7 := { stood := { row := overlayFixedUptoRow, standIns := [], harness := (true, "d9820f93c97d76965c7a8a0c34493217911c2b5b6cb9c0a239f037dc3a933e7f"), looks := true }, kinds := [], alts := [], laidByText := true, laidKinds := [.handle], laidTests := true, laidLooks := .later }
def OverlayFixedUptoCardSaid : Prop := Claim7.holds Tryd.pinned (.plain (OpenSpec.upto overlayFixedSpec)) overlayFixedUptoCard
end Rows
end Go.Proofs.YtodoafhphhbaaaaDoor
