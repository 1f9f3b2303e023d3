/-
  NARROWER THAN 'FOR EVERY INPUT', by the rows' own cells (each row's printed sentence says how): WitnessFinds: laid · ShortsNeeded: laid · ShortsFixed: laid · ShortsContracts: laid.
  DERIVED. THE GIVEN ROWS OF THIS SEAT. 4 by the template 'for every input the law returns true; each argument reads behind the call as it read before'; 0 by the template 'total and deterministic' (their statements: YtnepbkkdhalbiaaGreatDoorTotals.lean).
  GIVEN WITH THE SEED: the statements are not yours to turn. If you find one false, say at which input.
  Laid BY PROGRAM, IN A SANDBOX (cutbox-rows.mjs): the forced cells as the released guide's own fill.sh prints them over the translation 170e9ed964316749… (all of the seat's roots in one cut). By AI agents, Wed Nov 11 2026. No macro, syntax, notation, axiom, sorry.
-/
import Derived.Test.YtnepbkkdhalbiaaGreatDoorChecked
import GoSem.Claim
import GoSem.ClaimJoined
import GoSem.ClaimMapViews
import Derived.JoinedTies
import Derived.KernelRfl
namespace Go.Proofs.YtnepbkkdhalbiaaGreatDoor
/- THE CELL 'sum', in the pinned program and in every row, IS THE sha256 OF THE DUMP (.gsa) THAT YtnepbkkdhalbiaaGreatDoorProg.lean LOADS. Nothing in Lean hashes anything: it is a label: what it is worth is what the hold of that sum in a sandbox is worth. -/
noncomputable def Tryz.pinned : Pinned := { name := "ytnepbkkdhalbiaagreatdoor", sum := "170e9ed96431674988ab74c70f4b3b22e00211497b2e6aebc0875a4d52217076", checked := Tryz.checked }
namespace Rows
def none {H : Type} : Left H := { results := [], args := [] }

/- WHAT THE LISTED PACKAGE-LEVEL VARIABLES READ AS WHEN THE CALL BEGINS. Each datum BY PROGRAM (the guide's laid-datum.mjs) off the statement by which the dump's own 'gosem.cut.vars' lays the variable. In a bare row this is a premise. The card (YtnepbkkdhalbiaaGreatDoorCards.lean) ties it to the program's text. -/
def laid_errors_errorType {H : Type} : DataW H := .iface "internal/reflectlite.rtype" (.agg [.ptr (.lit (.string [101, 114, 114, 111, 114]))])

/-- 'viaductlaw12.WitnessFinds': WHATEVER THE INPUT: true; the input reads as it did. -/
def witnessFindsSpec : ChangeSpec := { name := "witnessFinds", fn := fun _ => fun
  | [d1, d2, d3, d4, d5, d6, d7, d8] => { results := [.lit (.bool true)], args := [d1, d2, d3, d4, d5, d6, d7, d8] }
  | _ => none }
def witnessFindsRow : OpenClaim := { program := "ytnepbkkdhalbiaagreatdoor", sum := "170e9ed96431674988ab74c70f4b3b22e00211497b2e6aebc0875a4d52217076", func := "viaduct/viaductlaw12.WitnessFinds", spec := "witnessFinds", inPlace := ["slices.overlaps[viaduct/overlay.Half]", "internal/reflectlite.ValueOf", "(internal/reflectlite.Value).Type", "(internal/reflectlite.Value).IsNil", "internal/reflectlite.TypeOf", "(internal/reflectlite.Value).Elem", "(internal/reflectlite.Value).Set"], unfollowed := true, recurses := true, named := ["errors.errorType"], apart := false, laid := [("errors.errorType", laid_errors_errorType)] }
def WitnessFindsSaid : Prop := witnessFindsRow.holds Tryz.pinned (OpenSpec.ofChange witnessFindsSpec)

/-- ITS FALSE NEIGHBOUR: 'it returns false'. Refute it at one input. -/
def witnessFindsWrong : ChangeSpec := { name := "witnessFinds", fn := fun _ => fun
  | [d1, d2, d3, d4, d5, d6, d7, d8] => { results := [.lit (.bool false)], args := [d1, d2, d3, d4, d5, d6, d7, d8] }
  | _ => none }
def WitnessFindsWrongFalsely : Prop := witnessFindsRow.holds Tryz.pinned (OpenSpec.ofChange witnessFindsWrong)

/-- 'viaductlaw13.ShortsNeeded': WHATEVER THE INPUT: true; the input reads as it did. -/
def shortsNeededSpec : ChangeSpec := { name := "shortsNeeded", fn := fun _ => fun
  | [d1, d2, d3, d4] => { results := [.lit (.bool true)], args := [d1, d2, d3, d4] }
  | _ => none }
def shortsNeededRow : OpenClaim := { program := "ytnepbkkdhalbiaagreatdoor", sum := "170e9ed96431674988ab74c70f4b3b22e00211497b2e6aebc0875a4d52217076", func := "viaduct/viaductlaw13.ShortsNeeded", spec := "shortsNeeded", inPlace := ["slices.overlaps[viaduct/overlay.Half]", "internal/reflectlite.ValueOf", "(internal/reflectlite.Value).Type", "(internal/reflectlite.Value).IsNil", "internal/reflectlite.TypeOf", "(internal/reflectlite.Value).Elem", "(internal/reflectlite.Value).Set"], unfollowed := true, recurses := true, named := ["errors.errorType"], apart := false, laid := [("errors.errorType", laid_errors_errorType)] }
def ShortsNeededSaid : Prop := shortsNeededRow.holds Tryz.pinned (OpenSpec.ofChange shortsNeededSpec)

/-- ITS FALSE NEIGHBOUR: 'it returns false'. Refute it at one input. -/
def shortsNeededWrong : ChangeSpec := { name := "shortsNeeded", fn := fun _ => fun
  | [d1, d2, d3, d4] => { results := [.lit (.bool false)], args := [d1, d2, d3, d4] }
  | _ => none }
def ShortsNeededWrongFalsely : Prop := shortsNeededRow.holds Tryz.pinned (OpenSpec.ofChange shortsNeededWrong)

/-- 'viaductlaw13.ShortsFixed': WHATEVER THE INPUT: true; the input reads as it did. -/
def shortsFixedSpec : ChangeSpec := { name := "shortsFixed", fn := fun _ => fun
  | [] => { results := [.lit (.bool true)], args := [] }
  | _ => none }
def shortsFixedRow : OpenClaim := { program := "ytnepbkkdhalbiaagreatdoor", sum := "170e9ed96431674988ab74c70f4b3b22e00211497b2e6aebc0875a4d52217076", func := "viaduct/viaductlaw13.ShortsFixed", spec := "shortsFixed", inPlace := ["slices.overlaps[viaduct/overlay.Half]", "internal/reflectlite.ValueOf", "(internal/reflectlite.Value).Type", "(internal/reflectlite.Value).IsNil", "internal/reflectlite.TypeOf", "(internal/reflectlite.Value).Elem", "(internal/reflectlite.Value).Set"], unfollowed := true, recurses := true, named := ["errors.errorType"], apart := false, laid := [("errors.errorType", laid_errors_errorType)] }
def ShortsFixedSaid : Prop := shortsFixedRow.holds Tryz.pinned (OpenSpec.ofChange shortsFixedSpec)

/-- ITS FALSE NEIGHBOUR: 'it returns false'. Refute it at one input. -/
def shortsFixedWrong : ChangeSpec := { name := "shortsFixed", fn := fun _ => fun
  | [] => { results := [.lit (.bool false)], args := [] }
  | _ => none }
def ShortsFixedWrongFalsely : Prop := shortsFixedRow.holds Tryz.pinned (OpenSpec.ofChange shortsFixedWrong)

/-- 'viaductlaw13.ShortsContracts': WHATEVER THE INPUT: true; the input reads as it did. -/
def shortsContractsSpec : ChangeSpec := { name := "shortsContracts", fn := fun _ => fun
  | [d1, d2, d3, d4] => { results := [.lit (.bool true)], args := [d1, d2, d3, d4] }
  | _ => none }
def shortsContractsRow : OpenClaim := { program := "ytnepbkkdhalbiaagreatdoor", sum := "170e9ed96431674988ab74c70f4b3b22e00211497b2e6aebc0875a4d52217076", func := "viaduct/viaductlaw13.ShortsContracts", spec := "shortsContracts", inPlace := ["slices.overlaps[viaduct/overlay.Half]", "internal/reflectlite.ValueOf", "(internal/reflectlite.Value).Type", "(internal/reflectlite.Value).IsNil", "internal/reflectlite.TypeOf", "(internal/reflectlite.Value).Elem", "(internal/reflectlite.Value).Set"], unfollowed := true, recurses := true, named := ["errors.errorType"], apart := false, laid := [("errors.errorType", laid_errors_errorType)] }
def ShortsContractsSaid : Prop := shortsContractsRow.holds Tryz.pinned (OpenSpec.ofChange shortsContractsSpec)

/-- ITS FALSE NEIGHBOUR: 'it returns false'. Refute it at one input. -/
def shortsContractsWrong : ChangeSpec := { name := "shortsContracts", fn := fun _ => fun
  | [d1, d2, d3, d4] => { results := [.lit (.bool false)], args := [d1, d2, d3, d4] }
  | _ => none }
def ShortsContractsWrongFalsely : Prop := shortsContractsRow.holds Tryz.pinned (OpenSpec.ofChange shortsContractsWrong)

/- THE SECOND FORM. 'bulk': how many values and letters a reading holds, each counted each time it is reached (what is shared counts as often as it is met; a slice's spare places count too). A statement '..UptoSaid' is the law's where the arguments, and the package variables that the reading takes, are together of bulk at most 1048576: NARROWER than '..Said'. Prove '..Said' where nothing that the law and all that it calls make is longer than what came in: it says more and counts as full. Else prove '..UptoSaid'. A law counts once. -/
mutual
def uptoBulk {H : Type} : DataW H → Nat
  | .lit (.string bytes) => bytes.length + 1
  | .lit _ => 1
  | .nil => 1
  | .ptr d => uptoBulk d + 1
  | .slice elems spare => uptoBulkAll elems + uptoBulkAll spare + 1
  | .agg parts => uptoBulkAll parts + 1
  | .iface _ d => uptoBulk d + 1
  | .map entries => uptoBulkEntries entries + 1
  | .held _ => 1
def uptoBulkAll {H : Type} : List (DataW H) → Nat
  | [] => 0
  | d :: r => uptoBulk d + uptoBulkAll r
def uptoBulkEntries {H : Type} : List (Lit × DataW H) → Nat
  | [] => 0
  | x :: r => uptoBulkEntry x + uptoBulkEntries r
def uptoBulkEntry {H : Type} : Lit × DataW H → Nat
  | (.string bytes, d) => bytes.length + uptoBulk d + 1
  | (_, d) => uptoBulk d + 1
 end
def uptoSmall : (H : Type) → List (DataW H) → Bool := fun _ ds => decide (uptoBulkAll ds ≤ 1048576)
def OpenSpec.upto (s : _root_.Go.ChangeSpec) : _root_.Go.OpenSpec := { _root_.Go.OpenSpec.ofChange s with cond := some uptoSmall }

/-- 'viaductlaw12.WitnessFinds', WHERE WHAT IT READS IS OF BULK AT MOST 1048576: true; the input reads as it did. -/
def witnessFindsUptoRow : OpenClaim := { program := "ytnepbkkdhalbiaagreatdoor", sum := "170e9ed96431674988ab74c70f4b3b22e00211497b2e6aebc0875a4d52217076", func := "viaduct/viaductlaw12.WitnessFinds", spec := "witnessFinds", inPlace := ["slices.overlaps[viaduct/overlay.Half]", "internal/reflectlite.ValueOf", "(internal/reflectlite.Value).Type", "(internal/reflectlite.Value).IsNil", "internal/reflectlite.TypeOf", "(internal/reflectlite.Value).Elem", "(internal/reflectlite.Value).Set"], unfollowed := true, recurses := true, named := ["errors.errorType"], apart := false, laid := [("errors.errorType", laid_errors_errorType)], narrowed := true }
def WitnessFindsUptoSaid : Prop := witnessFindsUptoRow.holds Tryz.pinned (OpenSpec.upto witnessFindsSpec)

/-- 'viaductlaw13.ShortsNeeded', WHERE WHAT IT READS IS OF BULK AT MOST 1048576: true; the input reads as it did. -/
def shortsNeededUptoRow : OpenClaim := { program := "ytnepbkkdhalbiaagreatdoor", sum := "170e9ed96431674988ab74c70f4b3b22e00211497b2e6aebc0875a4d52217076", func := "viaduct/viaductlaw13.ShortsNeeded", spec := "shortsNeeded", inPlace := ["slices.overlaps[viaduct/overlay.Half]", "internal/reflectlite.ValueOf", "(internal/reflectlite.Value).Type", "(internal/reflectlite.Value).IsNil", "internal/reflectlite.TypeOf", "(internal/reflectlite.Value).Elem", "(internal/reflectlite.Value).Set"], unfollowed := true, recurses := true, named := ["errors.errorType"], apart := false, laid := [("errors.errorType", laid_errors_errorType)], narrowed := true }
def ShortsNeededUptoSaid : Prop := shortsNeededUptoRow.holds Tryz.pinned (OpenSpec.upto shortsNeededSpec)

/-- 'viaductlaw13.ShortsFixed', WHERE WHAT IT READS IS OF BULK AT MOST 1048576: true; the input reads as it did. -/
def shortsFixedUptoRow : OpenClaim := { program := "ytnepbkkdhalbiaagreatdoor", sum := "170e9ed96431674988ab74c70f4b3b22e00211497b2e6aebc0875a4d52217076", func := "viaduct/viaductlaw13.ShortsFixed", spec := "shortsFixed", inPlace := ["slices.overlaps[viaduct/overlay.Half]", "internal/reflectlite.ValueOf", "(internal/reflectlite.Value).Type", "(internal/reflectlite.Value).IsNil", "internal/reflectlite.TypeOf", "(internal/reflectlite.Value).Elem", "(internal/reflectlite.Value).Set"], unfollowed := true, recurses := true, named := ["errors.errorType"], apart := false, laid := [("errors.errorType", laid_errors_errorType)], narrowed := true }
def ShortsFixedUptoSaid : Prop := shortsFixedUptoRow.holds Tryz.pinned (OpenSpec.upto shortsFixedSpec)

/-- 'viaductlaw13.ShortsContracts', WHERE WHAT IT READS IS OF BULK AT MOST 1048576: true; the input reads as it did. -/
def shortsContractsUptoRow : OpenClaim := { program := "ytnepbkkdhalbiaagreatdoor", sum := "170e9ed96431674988ab74c70f4b3b22e00211497b2e6aebc0875a4d52217076", func := "viaduct/viaductlaw13.ShortsContracts", spec := "shortsContracts", inPlace := ["slices.overlaps[viaduct/overlay.Half]", "internal/reflectlite.ValueOf", "(internal/reflectlite.Value).Type", "(internal/reflectlite.Value).IsNil", "internal/reflectlite.TypeOf", "(internal/reflectlite.Value).Elem", "(internal/reflectlite.Value).Set"], unfollowed := true, recurses := true, named := ["errors.errorType"], apart := false, laid := [("errors.errorType", laid_errors_errorType)], narrowed := true }
def ShortsContractsUptoSaid : Prop := shortsContractsUptoRow.holds Tryz.pinned (OpenSpec.upto shortsContractsSpec)

end Rows
end Go.Proofs.YtnepbkkdhalbiaaGreatDoor
