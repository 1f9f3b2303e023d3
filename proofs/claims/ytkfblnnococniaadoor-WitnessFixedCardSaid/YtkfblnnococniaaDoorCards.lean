/-
  DERIVED. GIVEN WITH THE SEED: THE CARDS: each row of YtkfblnnococniaaDoorRows.lean that lists a variable, with what it lists TIED to the program's text (the seventh form; the later family's looks); each row that meets fmt, with fmt's text TOLD by the authors' own Lean function (tested against real Go, not proved from fmt's source: count such statements apart). THE CARD IS WHAT COUNTS. Prove the row's statement (the work); the ties are given (YtkfblnnococniaaDoorTie.lean); close each card by the builder's one call (the guide's Derived/Test/ToyasCard.lean, 'card_holds'). Laid BY PROGRAM, IN A SANDBOX (cutbox-door.mjs). By AI agents, Wed Nov 11 2026. No macro, syntax, notation, axiom, sorry.
-/
import Derived.Test.YtkfblnnococniaaDoorRows
import GoSem.ClaimSeven
namespace Go.Proofs.YtkfblnnococniaaDoor
namespace Rows

/-- THE TIED CARD OF 'viaductlaw11.OverlayFixed'. -/
def overlayFixedCard : Claim7 := { stood := { row := overlayFixedRow, standIns := [], harness := (true, "58155a3cc7fa25b32f78c5bc28cc84985968ffe88806328a5bd8d4a3af50d8f5"), looks := true }, kinds := [], alts := [], laidByText := true, laidKinds := [.handle], laidTests := true, laidLooks := .later }
def OverlayFixedCardSaid : Prop := Claim7.holds Tryd.pinned (.plain (OpenSpec.ofChange overlayFixedSpec)) overlayFixedCard

/-- THE TIED CARD OF 'viaductlaw12.WitnessFixed'. -/
def witnessFixedCard : Claim7 := { stood := { row := witnessFixedRow, standIns := [], harness := (true, "58155a3cc7fa25b32f78c5bc28cc84985968ffe88806328a5bd8d4a3af50d8f5"), looks := true }, kinds := [], alts := [], laidByText := true, laidKinds := [.handle], laidTests := true, laidLooks := .later }
def WitnessFixedCardSaid : Prop := Claim7.holds Tryd.pinned (.plain (OpenSpec.ofChange witnessFixedSpec)) witnessFixedCard

/-- THE SECOND FORM's CARD OF 'viaductlaw11.OverlayFixed'. -/
def overlayFixedUptoCard : Claim7 := { stood := { row := overlayFixedUptoRow, standIns := [], harness := (true, "58155a3cc7fa25b32f78c5bc28cc84985968ffe88806328a5bd8d4a3af50d8f5"), looks := true }, kinds := [], alts := [], laidByText := true, laidKinds := [.handle], laidTests := true, laidLooks := .later }
def OverlayFixedUptoCardSaid : Prop := Claim7.holds Tryd.pinned (.plain (OpenSpec.upto overlayFixedSpec)) overlayFixedUptoCard

/-- THE SECOND FORM's CARD OF 'viaductlaw12.WitnessFixed'. -/
def witnessFixedUptoCard : Claim7 := { stood := { row := witnessFixedUptoRow, standIns := [], harness := (true, "58155a3cc7fa25b32f78c5bc28cc84985968ffe88806328a5bd8d4a3af50d8f5"), looks := true }, kinds := [], alts := [], laidByText := true, laidKinds := [.handle], laidTests := true, laidLooks := .later }
def WitnessFixedUptoCardSaid : Prop := Claim7.holds Tryd.pinned (.plain (OpenSpec.upto witnessFixedSpec)) witnessFixedUptoCard
end Rows
end Go.Proofs.YtkfblnnococniaaDoor
