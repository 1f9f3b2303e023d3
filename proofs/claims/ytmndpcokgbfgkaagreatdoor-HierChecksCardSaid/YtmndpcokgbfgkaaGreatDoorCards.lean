/-
  DERIVED. GIVEN WITH THE SEED: THE CARDS: each row of YtmndpcokgbfgkaaGreatDoorRows.lean that lists a variable, with what it lists TIED to the program's text (the seventh form; the later family's looks); each row that meets fmt, with fmt's text TOLD by the authors' own Lean function (tested against real Go, not proved from fmt's source: count such statements apart). THE CARD IS WHAT COUNTS. Prove the row's statement (the work); the ties are given (YtmndpcokgbfgkaaGreatDoorTie.lean); close each card by the builder's one call (the guide's Derived/Test/ToyasCard.lean, 'card_holds'). Laid BY PROGRAM, IN A SANDBOX (cutbox-door.mjs). By AI agents, Wed Nov 11 2026. No macro, syntax, notation, axiom, sorry.
-/
import Derived.Test.YtmndpcokgbfgkaaGreatDoorRows
import GoSem.ClaimSeven
namespace Go.Proofs.YtmndpcokgbfgkaaGreatDoor
namespace Rows

/-- THE TIED CARD OF 'viaductlaw10.HierChecks'. -/
def hierChecksCard : Claim7 := { stood := { row := hierChecksRow, standIns := [], harness := (true, "0c5ea5136414e5eab9a489744997b00e6b5d1d4a1c7d729a6fe991f3ee3e456b"), looks := true }, kinds := [], alts := [], laidByText := true, laidKinds := [.handle], laidTests := true, laidLooks := .later }
def HierChecksCardSaid : Prop := Claim7.holds Tryz.pinned (.plain (OpenSpec.ofChange hierChecksSpec)) hierChecksCard

/-- THE SECOND FORM's CARD OF 'viaductlaw10.HierChecks'. -/
def hierChecksUptoCard : Claim7 := { stood := { row := hierChecksUptoRow, standIns := [], harness := (true, "0c5ea5136414e5eab9a489744997b00e6b5d1d4a1c7d729a6fe991f3ee3e456b"), looks := true }, kinds := [], alts := [], laidByText := true, laidKinds := [.handle], laidTests := true, laidLooks := .later }
def HierChecksUptoCardSaid : Prop := Claim7.holds Tryz.pinned (.plain (OpenSpec.upto hierChecksSpec)) hierChecksUptoCard
end Rows
end Go.Proofs.YtmndpcokgbfgkaaGreatDoor
