/-
  DERIVED. GIVEN WITH THE SEED: THE CARDS: each row of YtmndpcokgbfgkaaDoorRows.lean that lists a variable, with what it lists TIED to the program's text (the seventh form; the later family's looks); each row that meets fmt, with fmt's text TOLD by the authors' own Lean function (tested against real Go, not proved from fmt's source: count such statements apart). THE CARD IS WHAT COUNTS. Prove the row's statement (the work); the ties are given (YtmndpcokgbfgkaaDoorTie.lean); close each card by the builder's one call (the guide's Derived/Test/ToyasCard.lean, 'card_holds'). Laid BY PROGRAM, IN A SANDBOX (cutbox-door.mjs). By AI agents, Wed Nov 11 2026. No macro, syntax, notation, axiom, sorry.
-/
import Derived.Test.YtmndpcokgbfgkaaDoorRows
import GoSem.ClaimSeven
namespace Go.Proofs.YtmndpcokgbfgkaaDoor
namespace Rows

/-- THE TIED CARD OF 'viaductlaw10.HierFixed'. -/
def hierFixedCard : Claim7 := { stood := { row := hierFixedRow, standIns := [], harness := (true, "7f782b8f04e2f68279082daf48bf7fc990afd4842c4435d06089b7e74e9ab36a"), looks := true }, kinds := [], alts := [], laidByText := true, laidKinds := [.handle], laidTests := true, laidLooks := .later }
def HierFixedCardSaid : Prop := Claim7.holds Tryd.pinned (.plain (OpenSpec.ofChange hierFixedSpec)) hierFixedCard

/-- THE SECOND FORM's CARD OF 'viaductlaw10.HierFixed'. -/
def hierFixedUptoCard : Claim7 := { stood := { row := hierFixedUptoRow, standIns := [], harness := (true, "7f782b8f04e2f68279082daf48bf7fc990afd4842c4435d06089b7e74e9ab36a"), looks := true }, kinds := [], alts := [], laidByText := true, laidKinds := [.handle], laidTests := true, laidLooks := .later }
def HierFixedUptoCardSaid : Prop := Claim7.holds Tryd.pinned (.plain (OpenSpec.upto hierFixedSpec)) hierFixedUptoCard
end Rows
end Go.Proofs.YtmndpcokgbfgkaaDoor
