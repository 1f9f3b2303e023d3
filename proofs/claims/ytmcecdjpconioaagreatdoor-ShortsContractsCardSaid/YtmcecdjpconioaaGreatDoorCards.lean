/-
  DERIVED. GIVEN WITH THE SEED: THE CARDS: each row of YtmcecdjpconioaaGreatDoorRows.lean that lists a variable, with what it lists TIED to the program's text (the seventh form; the later family's looks); each row that meets fmt, with fmt's text TOLD by the authors' own Lean function (tested against real Go, not proved from fmt's source: count such statements apart). THE CARD IS WHAT COUNTS. Prove the row's statement (the work); the ties are given (YtmcecdjpconioaaGreatDoorTie.lean); close each card by the builder's one call (the guide's Derived/Test/ToyasCard.lean, 'card_holds'). Laid BY PROGRAM, IN A SANDBOX (cutbox-door.mjs). By AI agents, Wed Nov 11 2026. No macro, syntax, notation, axiom, sorry.
-/
import Derived.Test.YtmcecdjpconioaaGreatDoorRows
import GoSem.ClaimSeven
namespace Go.Proofs.YtmcecdjpconioaaGreatDoor
namespace Rows

/-- THE TIED CARD OF 'viaductlaw13.ShortsContracts'. -/
def shortsContractsCard : Claim7 := { stood := { row := shortsContractsRow, standIns := [], harness := (true, "bd002825b8bc38077ad8a9f31b45a3b91b1ba8cab7896c99b806b11ae4f9228d"), looks := true }, kinds := [], alts := [], laidByText := true, laidKinds := [.handle], laidTests := true, laidLooks := .later }
def ShortsContractsCardSaid : Prop := Claim7.holds Tryz.pinned (.plain (OpenSpec.ofChange shortsContractsSpec)) shortsContractsCard

/-- THE SECOND FORM's CARD OF 'viaductlaw13.ShortsContracts'. -/
def shortsContractsUptoCard : Claim7 := { stood := { row := shortsContractsUptoRow, standIns := [], harness := (true, "bd002825b8bc38077ad8a9f31b45a3b91b1ba8cab7896c99b806b11ae4f9228d"), looks := true }, kinds := [], alts := [], laidByText := true, laidKinds := [.handle], laidTests := true, laidLooks := .later }
def ShortsContractsUptoCardSaid : Prop := Claim7.holds Tryz.pinned (.plain (OpenSpec.upto shortsContractsSpec)) shortsContractsUptoCard
end Rows
end Go.Proofs.YtmcecdjpconioaaGreatDoor
