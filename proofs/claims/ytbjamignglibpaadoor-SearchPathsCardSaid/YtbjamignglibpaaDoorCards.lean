/-
  DERIVED. GIVEN WITH THE SEED: THE CARDS: each row of YtbjamignglibpaaDoorRows.lean that lists a variable, with what it lists TIED to the program's text (the seventh form; the later family's looks); each row that meets fmt, with fmt's text TOLD by the authors' own Lean function (tested against real Go, not proved from fmt's source: count such statements apart). THE CARD IS WHAT COUNTS. Prove the row's statement (the work); the ties are given (YtbjamignglibpaaDoorTie.lean); close each card by the builder's one call (the guide's Derived/Test/ToyasCard.lean, 'card_holds'). Laid BY PROGRAM, IN A SANDBOX (cutbox-door.mjs). By AI agents, Wed Nov 11 2026. No macro, syntax, notation, axiom, sorry.
-/
import Derived.Test.YtbjamignglibpaaDoorRows
import GoSem.ClaimSeven
namespace Go.Proofs.YtbjamignglibpaaDoor
namespace Rows

/-- THE TIED CARD OF 'viaductlaw09.WalkLists'. -/
def walkListsCard : Claim7 := { stood := { row := walkListsRow, standIns := [], harness := (true, "dc61cebcb4560b5d79f108c8209b93f512810f37116c8fa55f8a0ffcce7d689c"), looks := true }, kinds := [], alts := [], laidByText := true, laidKinds := [.handle], laidTests := true, laidLooks := .later }
def WalkListsCardSaid : Prop := Claim7.holds Tryd.pinned (.plain (OpenSpec.ofChange walkListsSpec)) walkListsCard

/-- THE TIED CARD OF 'viaductlaw08.SearchPaths'. -/
def searchPathsCard : Claim7 := { stood := { row := searchPathsRow, standIns := [], harness := (true, "dc61cebcb4560b5d79f108c8209b93f512810f37116c8fa55f8a0ffcce7d689c"), looks := true }, kinds := [], alts := [], laidByText := true, laidKinds := [.handle], laidTests := true, laidLooks := .later }
def SearchPathsCardSaid : Prop := Claim7.holds Tryd.pinned (.plain (OpenSpec.ofChange searchPathsSpec)) searchPathsCard

/-- THE TIED CARD OF 'viaductlaw08.SearchFroms'. -/
def searchFromsCard : Claim7 := { stood := { row := searchFromsRow, standIns := [], harness := (true, "dc61cebcb4560b5d79f108c8209b93f512810f37116c8fa55f8a0ffcce7d689c"), looks := true }, kinds := [], alts := [], laidByText := true, laidKinds := [.handle], laidTests := true, laidLooks := .later }
def SearchFromsCardSaid : Prop := Claim7.holds Tryd.pinned (.plain (OpenSpec.ofChange searchFromsSpec)) searchFromsCard

/-- THE TIED CARD OF 'viaductlaw08.SearchBounds'. -/
def searchBoundsCard : Claim7 := { stood := { row := searchBoundsRow, standIns := [], harness := (true, "dc61cebcb4560b5d79f108c8209b93f512810f37116c8fa55f8a0ffcce7d689c"), looks := true }, kinds := [], alts := [], laidByText := true, laidKinds := [.handle], laidTests := true, laidLooks := .later }
def SearchBoundsCardSaid : Prop := Claim7.holds Tryd.pinned (.plain (OpenSpec.ofChange searchBoundsSpec)) searchBoundsCard

/-- THE TIED CARD OF 'viaductlaw09.WalkLengths'. -/
def walkLengthsCard : Claim7 := { stood := { row := walkLengthsRow, standIns := [], harness := (true, "dc61cebcb4560b5d79f108c8209b93f512810f37116c8fa55f8a0ffcce7d689c"), looks := true }, kinds := [], alts := [], laidByText := true, laidKinds := [.handle], laidTests := true, laidLooks := .later }
def WalkLengthsCardSaid : Prop := Claim7.holds Tryd.pinned (.plain (OpenSpec.ofChange walkLengthsSpec)) walkLengthsCard

/-- THE TIED CARD OF 'viaductlaw09.WalkFixed'. -/
def walkFixedCard : Claim7 := { stood := { row := walkFixedRow, standIns := [], harness := (true, "dc61cebcb4560b5d79f108c8209b93f512810f37116c8fa55f8a0ffcce7d689c"), looks := true }, kinds := [], alts := [], laidByText := true, laidKinds := [.handle], laidTests := true, laidLooks := .later }
def WalkFixedCardSaid : Prop := Claim7.holds Tryd.pinned (.plain (OpenSpec.ofChange walkFixedSpec)) walkFixedCard

/-- THE SECOND FORM's CARD OF 'viaductlaw09.WalkLists'. -/
def walkListsUptoCard : Claim7 := { stood := { row := walkListsUptoRow, standIns := [], harness := (true, "dc61cebcb4560b5d79f108c8209b93f512810f37116c8fa55f8a0ffcce7d689c"), looks := true }, kinds := [], alts := [], laidByText := true, laidKinds := [.handle], laidTests := true, laidLooks := .later }
def WalkListsUptoCardSaid : Prop := Claim7.holds Tryd.pinned (.plain (OpenSpec.upto walkListsSpec)) walkListsUptoCard

/-- THE SECOND FORM's CARD OF 'viaductlaw08.SearchPaths'. -/
def searchPathsUptoCard : Claim7 := { stood := { row := searchPathsUptoRow, standIns := [], harness := (true, "dc61cebcb4560b5d79f108c8209b93f512810f37116c8fa55f8a0ffcce7d689c"), looks := true }, kinds := [], alts := [], laidByText := true, laidKinds := [.handle], laidTests := true, laidLooks := .later }
def SearchPathsUptoCardSaid : Prop := Claim7.holds Tryd.pinned (.plain (OpenSpec.upto searchPathsSpec)) searchPathsUptoCard

/-- THE SECOND FORM's CARD OF 'viaductlaw08.SearchFroms'. -/
def searchFromsUptoCard : Claim7 := { stood := { row := searchFromsUptoRow, standIns := [], harness := (true, "dc61cebcb4560b5d79f108c8209b93f512810f37116c8fa55f8a0ffcce7d689c"), looks := true }, kinds := [], alts := [], laidByText := true, laidKinds := [.handle], laidTests := true, laidLooks := .later }
def SearchFromsUptoCardSaid : Prop := Claim7.holds Tryd.pinned (.plain (OpenSpec.upto searchFromsSpec)) searchFromsUptoCard

/-- THE SECOND FORM's CARD OF 'viaductlaw08.SearchBounds'. -/
def searchBoundsUptoCard : Claim7 := { stood := { row := searchBoundsUptoRow, standIns := [], harness := (true, "dc61cebcb4560b5d79f108c8209b93f512810f37116c8fa55f8a0ffcce7d689c"), looks := true }, kinds := [], alts := [], laidByText := true, laidKinds := [.handle], laidTests := true, laidLooks := .later }
def SearchBoundsUptoCardSaid : Prop := Claim7.holds Tryd.pinned (.plain (OpenSpec.upto searchBoundsSpec)) searchBoundsUptoCard

/-- THE SECOND FORM's CARD OF 'viaductlaw09.WalkLengths'. -/
def walkLengthsUptoCard : Claim7 := { stood := { row := walkLengthsUptoRow, standIns := [], harness := (true, "dc61cebcb4560b5d79f108c8209b93f512810f37116c8fa55f8a0ffcce7d689c"), looks := true }, kinds := [], alts := [], laidByText := true, laidKinds := [.handle], laidTests := true, laidLooks := .later }
def WalkLengthsUptoCardSaid : Prop := Claim7.holds Tryd.pinned (.plain (OpenSpec.upto walkLengthsSpec)) walkLengthsUptoCard

/-- THE SECOND FORM's CARD OF 'viaductlaw09.WalkFixed'. -/
def walkFixedUptoCard : Claim7 := { stood := { row := walkFixedUptoRow, standIns := [], harness := (true, "dc61cebcb4560b5d79f108c8209b93f512810f37116c8fa55f8a0ffcce7d689c"), looks := true }, kinds := [], alts := [], laidByText := true, laidKinds := [.handle], laidTests := true, laidLooks := .later }
def WalkFixedUptoCardSaid : Prop := Claim7.holds Tryd.pinned (.plain (OpenSpec.upto walkFixedSpec)) walkFixedUptoCard
end Rows
end Go.Proofs.YtbjamignglibpaaDoor
