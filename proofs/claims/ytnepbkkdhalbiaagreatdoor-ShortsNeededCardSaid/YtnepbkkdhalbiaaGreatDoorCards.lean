/-
  DERIVED. GIVEN WITH THE SEED: THE CARDS: each row of YtnepbkkdhalbiaaGreatDoorRows.lean that lists a variable, with what it lists TIED to the program's text (the seventh form; the later family's looks); each row that meets fmt, with fmt's text TOLD by the authors' own Lean function (tested against real Go, not proved from fmt's source: count such statements apart). THE CARD IS WHAT COUNTS. Prove the row's statement (the work); the ties are given (YtnepbkkdhalbiaaGreatDoorTie.lean); close each card by the builder's one call (the guide's Derived/Test/ToyasCard.lean, 'card_holds'). Laid BY PROGRAM, IN A SANDBOX (cutbox-door.mjs). By AI agents, Wed Nov 11 2026. No macro, syntax, notation, axiom, sorry.
-/
import Derived.Test.YtnepbkkdhalbiaaGreatDoorRows
import GoSem.ClaimSeven
namespace Go.Proofs.YtnepbkkdhalbiaaGreatDoor
namespace Rows

/-- THE TIED CARD OF 'viaductlaw12.WitnessFinds'. -/
def witnessFindsCard : Claim7 := { stood := { row := witnessFindsRow, standIns := [], harness := (true, "6f2e3addb409469ccc1e1b1943001ec49f89ba8db8f38a2bdad0e7491ca09ffd"), looks := true }, kinds := [], alts := [], laidByText := true, laidKinds := [.handle], laidTests := true, laidLooks := .later }
def WitnessFindsCardSaid : Prop := Claim7.holds Tryz.pinned (.plain (OpenSpec.ofChange witnessFindsSpec)) witnessFindsCard

/-- THE TIED CARD OF 'viaductlaw13.ShortsNeeded'. -/
def shortsNeededCard : Claim7 := { stood := { row := shortsNeededRow, standIns := [], harness := (true, "6f2e3addb409469ccc1e1b1943001ec49f89ba8db8f38a2bdad0e7491ca09ffd"), looks := true }, kinds := [], alts := [], laidByText := true, laidKinds := [.handle], laidTests := true, laidLooks := .later }
def ShortsNeededCardSaid : Prop := Claim7.holds Tryz.pinned (.plain (OpenSpec.ofChange shortsNeededSpec)) shortsNeededCard

/-- THE TIED CARD OF 'viaductlaw13.ShortsFixed'. -/
def shortsFixedCard : Claim7 := { stood := { row := shortsFixedRow, standIns := [], harness := (true, "6f2e3addb409469ccc1e1b1943001ec49f89ba8db8f38a2bdad0e7491ca09ffd"), looks := true }, kinds := [], alts := [], laidByText := true, laidKinds := [.handle], laidTests := true, laidLooks := .later }
def ShortsFixedCardSaid : Prop := Claim7.holds Tryz.pinned (.plain (OpenSpec.ofChange shortsFixedSpec)) shortsFixedCard

/-- THE TIED CARD OF 'viaductlaw13.ShortsContracts'. -/
def shortsContractsCard : Claim7 := { stood := { row := shortsContractsRow, standIns := [], harness := (true, "6f2e3addb409469ccc1e1b1943001ec49f89ba8db8f38a2bdad0e7491ca09ffd"), looks := true }, kinds := [], alts := [], laidByText := true, laidKinds := [.handle], laidTests := true, laidLooks := .later }
def ShortsContractsCardSaid : Prop := Claim7.holds Tryz.pinned (.plain (OpenSpec.ofChange shortsContractsSpec)) shortsContractsCard

/-- THE SECOND FORM's CARD OF 'viaductlaw12.WitnessFinds'. -/
def witnessFindsUptoCard : Claim7 := { stood := { row := witnessFindsUptoRow, standIns := [], harness := (true, "6f2e3addb409469ccc1e1b1943001ec49f89ba8db8f38a2bdad0e7491ca09ffd"), looks := true }, kinds := [], alts := [], laidByText := true, laidKinds := [.handle], laidTests := true, laidLooks := .later }
def WitnessFindsUptoCardSaid : Prop := Claim7.holds Tryz.pinned (.plain (OpenSpec.upto witnessFindsSpec)) witnessFindsUptoCard

/-- THE SECOND FORM's CARD OF 'viaductlaw13.ShortsNeeded'. -/
def shortsNeededUptoCard : Claim7 := { stood := { row := shortsNeededUptoRow, standIns := [], harness := (true, "6f2e3addb409469ccc1e1b1943001ec49f89ba8db8f38a2bdad0e7491ca09ffd"), looks := true }, kinds := [], alts := [], laidByText := true, laidKinds := [.handle], laidTests := true, laidLooks := .later }
def ShortsNeededUptoCardSaid : Prop := Claim7.holds Tryz.pinned (.plain (OpenSpec.upto shortsNeededSpec)) shortsNeededUptoCard

/-- THE SECOND FORM's CARD OF 'viaductlaw13.ShortsFixed'. -/
def shortsFixedUptoCard : Claim7 := { stood := { row := shortsFixedUptoRow, standIns := [], harness := (true, "6f2e3addb409469ccc1e1b1943001ec49f89ba8db8f38a2bdad0e7491ca09ffd"), looks := true }, kinds := [], alts := [], laidByText := true, laidKinds := [.handle], laidTests := true, laidLooks := .later }
def ShortsFixedUptoCardSaid : Prop := Claim7.holds Tryz.pinned (.plain (OpenSpec.upto shortsFixedSpec)) shortsFixedUptoCard

/-- THE SECOND FORM's CARD OF 'viaductlaw13.ShortsContracts'. -/
def shortsContractsUptoCard : Claim7 := { stood := { row := shortsContractsUptoRow, standIns := [], harness := (true, "6f2e3addb409469ccc1e1b1943001ec49f89ba8db8f38a2bdad0e7491ca09ffd"), looks := true }, kinds := [], alts := [], laidByText := true, laidKinds := [.handle], laidTests := true, laidLooks := .later }
def ShortsContractsUptoCardSaid : Prop := Claim7.holds Tryz.pinned (.plain (OpenSpec.upto shortsContractsSpec)) shortsContractsUptoCard
end Rows
end Go.Proofs.YtnepbkkdhalbiaaGreatDoor
