/-
  DERIVED. GIVEN WITH THE SEED: THE CARDS: each row of YtjfplpkmbijfpaaDoorRows.lean that lists a variable, with what it lists TIED to the program's text (the seventh form; the later family's looks); each row that meets fmt, with fmt's text TOLD by the authors' own Lean function (tested against real Go, not proved from fmt's source: count such statements apart). THE CARD IS WHAT COUNTS. Prove the row's statement (the work); the ties are given (YtjfplpkmbijfpaaDoorTie.lean); close each card by the builder's one call (the guide's Derived/Test/ToyasCard.lean, 'card_holds'). Laid BY PROGRAM, IN A SANDBOX (cutbox-door.mjs). By AI agents, Wed Nov 11 2026. No macro, syntax, notation, axiom, sorry.
-/
import Derived.Test.YtjfplpkmbijfpaaDoorRows
import GoSem.ClaimSeven
namespace Go.Proofs.YtjfplpkmbijfpaaDoor
namespace Rows

/-- THE TIED CARD OF 'viaductlaw04.NormalOfs'. -/
def normalOfsCard : Claim7 := { stood := { row := normalOfsRow, standIns := [], harness := (true, "a70b7daa8b1aea143e61d6389c9eb7ae353e73fc0aed1a65257e82803b623a99"), looks := true }, kinds := [], alts := [], laidByText := true, laidKinds := [.handle], laidTests := true, laidLooks := .later }
def NormalOfsCardSaid : Prop := Claim7.holds Tryd.pinned (.plain (OpenSpec.ofChange normalOfsSpec)) normalOfsCard

/-- THE TIED CARD OF 'viaductlaw04.NormalTurns'. -/
def normalTurnsCard : Claim7 := { stood := { row := normalTurnsRow, standIns := [], harness := (true, "a70b7daa8b1aea143e61d6389c9eb7ae353e73fc0aed1a65257e82803b623a99"), looks := true }, kinds := [], alts := [], laidByText := true, laidKinds := [.handle], laidTests := true, laidLooks := .later }
def NormalTurnsCardSaid : Prop := Claim7.holds Tryd.pinned (.plain (OpenSpec.ofChange normalTurnsSpec)) normalTurnsCard

/-- THE TIED CARD OF 'viaductlaw04.NormalMerges'. -/
def normalMergesCard : Claim7 := { stood := { row := normalMergesRow, standIns := [], harness := (true, "a70b7daa8b1aea143e61d6389c9eb7ae353e73fc0aed1a65257e82803b623a99"), looks := true }, kinds := [], alts := [], laidByText := true, laidKinds := [.handle], laidTests := true, laidLooks := .later }
def NormalMergesCardSaid : Prop := Claim7.holds Tryd.pinned (.plain (OpenSpec.ofChange normalMergesSpec)) normalMergesCard

/-- THE TIED CARD OF 'viaductlaw04.NormalFixed'. -/
def normalFixedCard : Claim7 := { stood := { row := normalFixedRow, standIns := [], harness := (true, "a70b7daa8b1aea143e61d6389c9eb7ae353e73fc0aed1a65257e82803b623a99"), looks := true }, kinds := [], alts := [], laidByText := true, laidKinds := [.handle], laidTests := true, laidLooks := .later }
def NormalFixedCardSaid : Prop := Claim7.holds Tryd.pinned (.plain (OpenSpec.ofChange normalFixedSpec)) normalFixedCard

/-- THE TIED CARD OF 'viaductlaw05.CsrChecks'. -/
def csrChecksCard : Claim7 := { stood := { row := csrChecksRow, standIns := [], harness := (true, "a70b7daa8b1aea143e61d6389c9eb7ae353e73fc0aed1a65257e82803b623a99"), looks := true }, kinds := [], alts := [], laidByText := true, laidKinds := [.handle], laidTests := true, laidLooks := .later }
def CsrChecksCardSaid : Prop := Claim7.holds Tryd.pinned (.plain (OpenSpec.ofChange csrChecksSpec)) csrChecksCard

/-- THE TIED CARD OF 'viaductlaw05.CsrRows'. -/
def csrRowsCard : Claim7 := { stood := { row := csrRowsRow, standIns := [], harness := (true, "a70b7daa8b1aea143e61d6389c9eb7ae353e73fc0aed1a65257e82803b623a99"), looks := true }, kinds := [], alts := [], laidByText := true, laidKinds := [.handle], laidTests := true, laidLooks := .later }
def CsrRowsCardSaid : Prop := Claim7.holds Tryd.pinned (.plain (OpenSpec.ofChange csrRowsSpec)) csrRowsCard

/-- THE TIED CARD OF 'viaductlaw05.CsrBuilds'. -/
def csrBuildsCard : Claim7 := { stood := { row := csrBuildsRow, standIns := [], harness := (true, "a70b7daa8b1aea143e61d6389c9eb7ae353e73fc0aed1a65257e82803b623a99"), looks := true }, kinds := [], alts := [], laidByText := true, laidKinds := [.handle], laidTests := true, laidLooks := .later }
def CsrBuildsCardSaid : Prop := Claim7.holds Tryd.pinned (.plain (OpenSpec.ofChange csrBuildsSpec)) csrBuildsCard

/-- THE TIED CARD OF 'viaductlaw05.CsrFixed'. -/
def csrFixedCard : Claim7 := { stood := { row := csrFixedRow, standIns := [], harness := (true, "a70b7daa8b1aea143e61d6389c9eb7ae353e73fc0aed1a65257e82803b623a99"), looks := true }, kinds := [], alts := [], laidByText := true, laidKinds := [.handle], laidTests := true, laidLooks := .later }
def CsrFixedCardSaid : Prop := Claim7.holds Tryd.pinned (.plain (OpenSpec.ofChange csrFixedSpec)) csrFixedCard

/-- THE SECOND FORM's CARD OF 'viaductlaw04.NormalOfs'. -/
def normalOfsUptoCard : Claim7 := { stood := { row := normalOfsUptoRow, standIns := [], harness := (true, "a70b7daa8b1aea143e61d6389c9eb7ae353e73fc0aed1a65257e82803b623a99"), looks := true }, kinds := [], alts := [], laidByText := true, laidKinds := [.handle], laidTests := true, laidLooks := .later }
def NormalOfsUptoCardSaid : Prop := Claim7.holds Tryd.pinned (.plain (OpenSpec.upto normalOfsSpec)) normalOfsUptoCard

/-- THE SECOND FORM's CARD OF 'viaductlaw04.NormalTurns'. -/
def normalTurnsUptoCard : Claim7 := { stood := { row := normalTurnsUptoRow, standIns := [], harness := (true, "a70b7daa8b1aea143e61d6389c9eb7ae353e73fc0aed1a65257e82803b623a99"), looks := true }, kinds := [], alts := [], laidByText := true, laidKinds := [.handle], laidTests := true, laidLooks := .later }
def NormalTurnsUptoCardSaid : Prop := Claim7.holds Tryd.pinned (.plain (OpenSpec.upto normalTurnsSpec)) normalTurnsUptoCard

/-- THE SECOND FORM's CARD OF 'viaductlaw04.NormalMerges'. -/
def normalMergesUptoCard : Claim7 := { stood := { row := normalMergesUptoRow, standIns := [], harness := (true, "a70b7daa8b1aea143e61d6389c9eb7ae353e73fc0aed1a65257e82803b623a99"), looks := true }, kinds := [], alts := [], laidByText := true, laidKinds := [.handle], laidTests := true, laidLooks := .later }
def NormalMergesUptoCardSaid : Prop := Claim7.holds Tryd.pinned (.plain (OpenSpec.upto normalMergesSpec)) normalMergesUptoCard

/-- THE SECOND FORM's CARD OF 'viaductlaw04.NormalFixed'. -/
def normalFixedUptoCard : Claim7 := { stood := { row := normalFixedUptoRow, standIns := [], harness := (true, "a70b7daa8b1aea143e61d6389c9eb7ae353e73fc0aed1a65257e82803b623a99"), looks := true }, kinds := [], alts := [], laidByText := true, laidKinds := [.handle], laidTests := true, laidLooks := .later }
def NormalFixedUptoCardSaid : Prop := Claim7.holds Tryd.pinned (.plain (OpenSpec.upto normalFixedSpec)) normalFixedUptoCard

/-- THE SECOND FORM's CARD OF 'viaductlaw05.CsrChecks'. -/
def csrChecksUptoCard : Claim7 := { stood := { row := csrChecksUptoRow, standIns := [], harness := (true, "a70b7daa8b1aea143e61d6389c9eb7ae353e73fc0aed1a65257e82803b623a99"), looks := true }, kinds := [], alts := [], laidByText := true, laidKinds := [.handle], laidTests := true, laidLooks := .later }
def CsrChecksUptoCardSaid : Prop := Claim7.holds Tryd.pinned (.plain (OpenSpec.upto csrChecksSpec)) csrChecksUptoCard

/-- THE SECOND FORM's CARD OF 'viaductlaw05.CsrRows'. -/
def csrRowsUptoCard : Claim7 := { stood := { row := csrRowsUptoRow, standIns := [], harness := (true, "a70b7daa8b1aea143e61d6389c9eb7ae353e73fc0aed1a65257e82803b623a99"), looks := true }, kinds := [], alts := [], laidByText := true, laidKinds := [.handle], laidTests := true, laidLooks := .later }
def CsrRowsUptoCardSaid : Prop := Claim7.holds Tryd.pinned (.plain (OpenSpec.upto csrRowsSpec)) csrRowsUptoCard

/-- THE SECOND FORM's CARD OF 'viaductlaw05.CsrBuilds'. -/
def csrBuildsUptoCard : Claim7 := { stood := { row := csrBuildsUptoRow, standIns := [], harness := (true, "a70b7daa8b1aea143e61d6389c9eb7ae353e73fc0aed1a65257e82803b623a99"), looks := true }, kinds := [], alts := [], laidByText := true, laidKinds := [.handle], laidTests := true, laidLooks := .later }
def CsrBuildsUptoCardSaid : Prop := Claim7.holds Tryd.pinned (.plain (OpenSpec.upto csrBuildsSpec)) csrBuildsUptoCard

/-- THE SECOND FORM's CARD OF 'viaductlaw05.CsrFixed'. -/
def csrFixedUptoCard : Claim7 := { stood := { row := csrFixedUptoRow, standIns := [], harness := (true, "a70b7daa8b1aea143e61d6389c9eb7ae353e73fc0aed1a65257e82803b623a99"), looks := true }, kinds := [], alts := [], laidByText := true, laidKinds := [.handle], laidTests := true, laidLooks := .later }
def CsrFixedUptoCardSaid : Prop := Claim7.holds Tryd.pinned (.plain (OpenSpec.upto csrFixedSpec)) csrFixedUptoCard
end Rows
end Go.Proofs.YtjfplpkmbijfpaaDoor
