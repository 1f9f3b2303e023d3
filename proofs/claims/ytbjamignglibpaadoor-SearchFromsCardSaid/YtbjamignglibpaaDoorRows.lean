/-
  NARROWER THAN 'FOR EVERY INPUT', by the rows' own cells (each row's printed sentence says how): WalkLists: laid · SearchPaths: laid · SearchFroms: laid · SearchBounds: laid · WalkLengths: laid · WalkFixed: laid.
  DERIVED. THE GIVEN ROWS OF THIS SEAT. 6 by the template 'for every input the law returns true; each argument reads behind the call as it read before'; 0 by the template 'total and deterministic' (their statements: YtbjamignglibpaaDoorTotals.lean).
  GIVEN WITH THE SEED: the statements are not yours to turn. If you find one false, say at which input.
  Laid BY PROGRAM, IN A SANDBOX (cutbox-rows.mjs): the forced cells as the released guide's own fill.sh prints them over the translation 1740d6ad76ecc2a7… (all of the seat's roots in one cut). By AI agents, Wed Nov 11 2026. No macro, syntax, notation, axiom, sorry.
-/
import Derived.Test.YtbjamignglibpaaDoorChecked
import GoSem.Claim
import GoSem.ClaimJoined
import GoSem.ClaimMapViews
import Derived.JoinedTies
import Derived.KernelRfl
namespace Go.Proofs.YtbjamignglibpaaDoor
/- THE CELL 'sum', in the pinned program and in every row, IS THE sha256 OF THE DUMP (.gsa) THAT YtbjamignglibpaaDoorProg.lean LOADS. Nothing in Lean hashes anything: it is a label: what it is worth is what the hold of that sum in a sandbox is worth. -/
noncomputable def Tryd.pinned : Pinned := { name := "ytbjamignglibpaadoor", sum := "1740d6ad76ecc2a787834a589697341495103d1416b40cd6978cfdf5c0429024", checked := Tryd.checked }
namespace Rows
def none {H : Type} : Left H := { results := [], args := [] }

/- WHAT THE LISTED PACKAGE-LEVEL VARIABLES READ AS WHEN THE CALL BEGINS. Each datum BY PROGRAM (the guide's laid-datum.mjs) off the statement by which the dump's own 'gosem.cut.vars' lays the variable. In a bare row this is a premise. The card (YtbjamignglibpaaDoorCards.lean) ties it to the program's text. -/
def laid_errors_errorType {H : Type} : DataW H := .iface "internal/reflectlite.rtype" (.agg [.ptr (.lit (.string [101, 114, 114, 111, 114]))])

/-- 'viaductlaw09.WalkLists': WHATEVER THE INPUT: true; the input reads as it did. -/
def walkListsSpec : ChangeSpec := { name := "walkLists", fn := fun _ => fun
  | [d1, d2] => { results := [.lit (.bool true)], args := [d1, d2] }
  | _ => none }
def walkListsRow : OpenClaim := { program := "ytbjamignglibpaadoor", sum := "1740d6ad76ecc2a787834a589697341495103d1416b40cd6978cfdf5c0429024", func := "viaduct/viaductlaw09.WalkLists", spec := "walkLists", inPlace := ["internal/reflectlite.ValueOf", "(internal/reflectlite.Value).Type", "(internal/reflectlite.Value).IsNil", "internal/reflectlite.TypeOf", "(internal/reflectlite.Value).Elem", "(internal/reflectlite.Value).Set"], unfollowed := true, recurses := true, named := ["errors.errorType"], apart := false, laid := [("errors.errorType", laid_errors_errorType)] }
def WalkListsSaid : Prop := walkListsRow.holds Tryd.pinned (OpenSpec.ofChange walkListsSpec)

/-- ITS FALSE NEIGHBOUR: 'it returns false'. Refute it at one input. -/
def walkListsWrong : ChangeSpec := { name := "walkLists", fn := fun _ => fun
  | [d1, d2] => { results := [.lit (.bool false)], args := [d1, d2] }
  | _ => none }
def WalkListsWrongFalsely : Prop := walkListsRow.holds Tryd.pinned (OpenSpec.ofChange walkListsWrong)

/-- 'viaductlaw08.SearchPaths': WHATEVER THE INPUT: true; the input reads as it did. -/
def searchPathsSpec : ChangeSpec := { name := "searchPaths", fn := fun _ => fun
  | [d1, d2, d3] => { results := [.lit (.bool true)], args := [d1, d2, d3] }
  | _ => none }
def searchPathsRow : OpenClaim := { program := "ytbjamignglibpaadoor", sum := "1740d6ad76ecc2a787834a589697341495103d1416b40cd6978cfdf5c0429024", func := "viaduct/viaductlaw08.SearchPaths", spec := "searchPaths", inPlace := ["internal/reflectlite.ValueOf", "(internal/reflectlite.Value).Type", "(internal/reflectlite.Value).IsNil", "internal/reflectlite.TypeOf", "(internal/reflectlite.Value).Elem", "(internal/reflectlite.Value).Set"], unfollowed := true, recurses := true, named := ["errors.errorType"], apart := false, laid := [("errors.errorType", laid_errors_errorType)] }
def SearchPathsSaid : Prop := searchPathsRow.holds Tryd.pinned (OpenSpec.ofChange searchPathsSpec)

/-- ITS FALSE NEIGHBOUR: 'it returns false'. Refute it at one input. -/
def searchPathsWrong : ChangeSpec := { name := "searchPaths", fn := fun _ => fun
  | [d1, d2, d3] => { results := [.lit (.bool false)], args := [d1, d2, d3] }
  | _ => none }
def SearchPathsWrongFalsely : Prop := searchPathsRow.holds Tryd.pinned (OpenSpec.ofChange searchPathsWrong)

/-- 'viaductlaw08.SearchFroms': WHATEVER THE INPUT: true; the input reads as it did. -/
def searchFromsSpec : ChangeSpec := { name := "searchFroms", fn := fun _ => fun
  | [d1, d2] => { results := [.lit (.bool true)], args := [d1, d2] }
  | _ => none }
def searchFromsRow : OpenClaim := { program := "ytbjamignglibpaadoor", sum := "1740d6ad76ecc2a787834a589697341495103d1416b40cd6978cfdf5c0429024", func := "viaduct/viaductlaw08.SearchFroms", spec := "searchFroms", inPlace := ["internal/reflectlite.ValueOf", "(internal/reflectlite.Value).Type", "(internal/reflectlite.Value).IsNil", "internal/reflectlite.TypeOf", "(internal/reflectlite.Value).Elem", "(internal/reflectlite.Value).Set"], unfollowed := true, recurses := true, named := ["errors.errorType"], apart := false, laid := [("errors.errorType", laid_errors_errorType)] }
def SearchFromsSaid : Prop := searchFromsRow.holds Tryd.pinned (OpenSpec.ofChange searchFromsSpec)

/-- ITS FALSE NEIGHBOUR: 'it returns false'. Refute it at one input. -/
def searchFromsWrong : ChangeSpec := { name := "searchFroms", fn := fun _ => fun
  | [d1, d2] => { results := [.lit (.bool false)], args := [d1, d2] }
  | _ => none }
def SearchFromsWrongFalsely : Prop := searchFromsRow.holds Tryd.pinned (OpenSpec.ofChange searchFromsWrong)

/-- 'viaductlaw08.SearchBounds': WHATEVER THE INPUT: true; the input reads as it did. -/
def searchBoundsSpec : ChangeSpec := { name := "searchBounds", fn := fun _ => fun
  | [d1, d2, d3, d4, d5] => { results := [.lit (.bool true)], args := [d1, d2, d3, d4, d5] }
  | _ => none }
def searchBoundsRow : OpenClaim := { program := "ytbjamignglibpaadoor", sum := "1740d6ad76ecc2a787834a589697341495103d1416b40cd6978cfdf5c0429024", func := "viaduct/viaductlaw08.SearchBounds", spec := "searchBounds", inPlace := ["internal/reflectlite.ValueOf", "(internal/reflectlite.Value).Type", "(internal/reflectlite.Value).IsNil", "internal/reflectlite.TypeOf", "(internal/reflectlite.Value).Elem", "(internal/reflectlite.Value).Set"], unfollowed := true, recurses := true, named := ["errors.errorType"], apart := false, laid := [("errors.errorType", laid_errors_errorType)] }
def SearchBoundsSaid : Prop := searchBoundsRow.holds Tryd.pinned (OpenSpec.ofChange searchBoundsSpec)

/-- ITS FALSE NEIGHBOUR: 'it returns false'. Refute it at one input. -/
def searchBoundsWrong : ChangeSpec := { name := "searchBounds", fn := fun _ => fun
  | [d1, d2, d3, d4, d5] => { results := [.lit (.bool false)], args := [d1, d2, d3, d4, d5] }
  | _ => none }
def SearchBoundsWrongFalsely : Prop := searchBoundsRow.holds Tryd.pinned (OpenSpec.ofChange searchBoundsWrong)

/-- 'viaductlaw09.WalkLengths': WHATEVER THE INPUT: true; the input reads as it did. -/
def walkLengthsSpec : ChangeSpec := { name := "walkLengths", fn := fun _ => fun
  | [d1, d2] => { results := [.lit (.bool true)], args := [d1, d2] }
  | _ => none }
def walkLengthsRow : OpenClaim := { program := "ytbjamignglibpaadoor", sum := "1740d6ad76ecc2a787834a589697341495103d1416b40cd6978cfdf5c0429024", func := "viaduct/viaductlaw09.WalkLengths", spec := "walkLengths", inPlace := ["internal/reflectlite.ValueOf", "(internal/reflectlite.Value).Type", "(internal/reflectlite.Value).IsNil", "internal/reflectlite.TypeOf", "(internal/reflectlite.Value).Elem", "(internal/reflectlite.Value).Set"], unfollowed := true, recurses := true, named := ["errors.errorType"], apart := false, laid := [("errors.errorType", laid_errors_errorType)] }
def WalkLengthsSaid : Prop := walkLengthsRow.holds Tryd.pinned (OpenSpec.ofChange walkLengthsSpec)

/-- ITS FALSE NEIGHBOUR: 'it returns false'. Refute it at one input. -/
def walkLengthsWrong : ChangeSpec := { name := "walkLengths", fn := fun _ => fun
  | [d1, d2] => { results := [.lit (.bool false)], args := [d1, d2] }
  | _ => none }
def WalkLengthsWrongFalsely : Prop := walkLengthsRow.holds Tryd.pinned (OpenSpec.ofChange walkLengthsWrong)

/-- 'viaductlaw09.WalkFixed': WHATEVER THE INPUT: true; the input reads as it did. -/
def walkFixedSpec : ChangeSpec := { name := "walkFixed", fn := fun _ => fun
  | [] => { results := [.lit (.bool true)], args := [] }
  | _ => none }
def walkFixedRow : OpenClaim := { program := "ytbjamignglibpaadoor", sum := "1740d6ad76ecc2a787834a589697341495103d1416b40cd6978cfdf5c0429024", func := "viaduct/viaductlaw09.WalkFixed", spec := "walkFixed", inPlace := ["internal/reflectlite.ValueOf", "(internal/reflectlite.Value).Type", "(internal/reflectlite.Value).IsNil", "internal/reflectlite.TypeOf", "(internal/reflectlite.Value).Elem", "(internal/reflectlite.Value).Set"], unfollowed := true, recurses := true, named := ["errors.errorType"], apart := false, laid := [("errors.errorType", laid_errors_errorType)] }
def WalkFixedSaid : Prop := walkFixedRow.holds Tryd.pinned (OpenSpec.ofChange walkFixedSpec)

/-- ITS FALSE NEIGHBOUR: 'it returns false'. Refute it at one input. -/
def walkFixedWrong : ChangeSpec := { name := "walkFixed", fn := fun _ => fun
  | [] => { results := [.lit (.bool false)], args := [] }
  | _ => none }
def WalkFixedWrongFalsely : Prop := walkFixedRow.holds Tryd.pinned (OpenSpec.ofChange walkFixedWrong)

/- THE SECOND FORM. 'bulk': how many values and letters a reading holds, each counted each time it is reached (what is shared counts as often as it is met; a slice's spare places count too). A statement '..UptoSaid' is the law's where the arguments, and the package variables that the reading takes, are together of bulk at most 1048576: NARROWER than '..Said'. Prove '..Said' where nothing that the law and all that it calls make is longer than what came in: it says more and counts as full. Else prove '..UptoSaid'. A law counts once. -/
mutual
def uptoBulk {H : Type} : DataW H → Nat
  | .lit (.string bytes) => bytes.length + 1
  | .lit _ => 1
  | .nil => 1
  | .ptr d => uptoBulk d + 1
  | .slice elems spare => uptoBulkAll elems + uptoBulkAll spare + 1
  | .agg parts => uptoBulkAll parts + 1
  | .iface _ d => uptoBulk d + 1
  | .map entries => uptoBulkEntries entries + 1
  | .held _ => 1
def uptoBulkAll {H : Type} : List (DataW H) → Nat
  | [] => 0
  | d :: r => uptoBulk d + uptoBulkAll r
def uptoBulkEntries {H : Type} : List (Lit × DataW H) → Nat
  | [] => 0
  | x :: r => uptoBulkEntry x + uptoBulkEntries r
def uptoBulkEntry {H : Type} : Lit × DataW H → Nat
  | (.string bytes, d) => bytes.length + uptoBulk d + 1
  | (_, d) => uptoBulk d + 1
 end
def uptoSmall : (H : Type) → List (DataW H) → Bool := fun _ ds => decide (uptoBulkAll ds ≤ 1048576)
def OpenSpec.upto (s : _root_.Go.ChangeSpec) : _root_.Go.OpenSpec := { _root_.Go.OpenSpec.ofChange s with cond := some uptoSmall }

/-- 'viaductlaw09.WalkLists', WHERE WHAT IT READS IS OF BULK AT MOST 1048576: true; the input reads as it did. -/
def walkListsUptoRow : OpenClaim := { program := "ytbjamignglibpaadoor", sum := "1740d6ad76ecc2a787834a589697341495103d1416b40cd6978cfdf5c0429024", func := "viaduct/viaductlaw09.WalkLists", spec := "walkLists", inPlace := ["internal/reflectlite.ValueOf", "(internal/reflectlite.Value).Type", "(internal/reflectlite.Value).IsNil", "internal/reflectlite.TypeOf", "(internal/reflectlite.Value).Elem", "(internal/reflectlite.Value).Set"], unfollowed := true, recurses := true, named := ["errors.errorType"], apart := false, laid := [("errors.errorType", laid_errors_errorType)], narrowed := true }
def WalkListsUptoSaid : Prop := walkListsUptoRow.holds Tryd.pinned (OpenSpec.upto walkListsSpec)

/-- 'viaductlaw08.SearchPaths', WHERE WHAT IT READS IS OF BULK AT MOST 1048576: true; the input reads as it did. -/
def searchPathsUptoRow : OpenClaim := { program := "ytbjamignglibpaadoor", sum := "1740d6ad76ecc2a787834a589697341495103d1416b40cd6978cfdf5c0429024", func := "viaduct/viaductlaw08.SearchPaths", spec := "searchPaths", inPlace := ["internal/reflectlite.ValueOf", "(internal/reflectlite.Value).Type", "(internal/reflectlite.Value).IsNil", "internal/reflectlite.TypeOf", "(internal/reflectlite.Value).Elem", "(internal/reflectlite.Value).Set"], unfollowed := true, recurses := true, named := ["errors.errorType"], apart := false, laid := [("errors.errorType", laid_errors_errorType)], narrowed := true }
def SearchPathsUptoSaid : Prop := searchPathsUptoRow.holds Tryd.pinned (OpenSpec.upto searchPathsSpec)

/-- 'viaductlaw08.SearchFroms', WHERE WHAT IT READS IS OF BULK AT MOST 1048576: true; the input reads as it did. -/
def searchFromsUptoRow : OpenClaim := { program := "ytbjamignglibpaadoor", sum := "1740d6ad76ecc2a787834a589697341495103d1416b40cd6978cfdf5c0429024", func := "viaduct/viaductlaw08.SearchFroms", spec := "searchFroms", inPlace := ["internal/reflectlite.ValueOf", "(internal/reflectlite.Value).Type", "(internal/reflectlite.Value).IsNil", "internal/reflectlite.TypeOf", "(internal/reflectlite.Value).Elem", "(internal/reflectlite.Value).Set"], unfollowed := true, recurses := true, named := ["errors.errorType"], apart := false, laid := [("errors.errorType", laid_errors_errorType)], narrowed := true }
def SearchFromsUptoSaid : Prop := searchFromsUptoRow.holds Tryd.pinned (OpenSpec.upto searchFromsSpec)

/-- 'viaductlaw08.SearchBounds', WHERE WHAT IT READS IS OF BULK AT MOST 1048576: true; the input reads as it did. -/
def searchBoundsUptoRow : OpenClaim := { program := "ytbjamignglibpaadoor", sum := "1740d6ad76ecc2a787834a589697341495103d1416b40cd6978cfdf5c0429024", func := "viaduct/viaductlaw08.SearchBounds", spec := "searchBounds", inPlace := ["internal/reflectlite.ValueOf", "(internal/reflectlite.Value).Type", "(internal/reflectlite.Value).IsNil", "internal/reflectlite.TypeOf", "(internal/reflectlite.Value).Elem", "(internal/reflectlite.Value).Set"], unfollowed := true, recurses := true, named := ["errors.errorType"], apart := false, laid := [("errors.errorType", laid_errors_errorType)], narrowed := true }
def SearchBoundsUptoSaid : Prop := searchBoundsUptoRow.holds Tryd.pinned (OpenSpec.upto searchBoundsSpec)

/-- 'viaductlaw09.WalkLengths', WHERE WHAT IT READS IS OF BULK AT MOST 1048576: true; the input reads as it did. -/
def walkLengthsUptoRow : OpenClaim := { program := "ytbjamignglibpaadoor", sum := "1740d6ad76ecc2a787834a589697341495103d1416b40cd6978cfdf5c0429024", func := "viaduct/viaductlaw09.WalkLengths", spec := "walkLengths", inPlace := ["internal/reflectlite.ValueOf", "(internal/reflectlite.Value).Type", "(internal/reflectlite.Value).IsNil", "internal/reflectlite.TypeOf", "(internal/reflectlite.Value).Elem", "(internal/reflectlite.Value).Set"], unfollowed := true, recurses := true, named := ["errors.errorType"], apart := false, laid := [("errors.errorType", laid_errors_errorType)], narrowed := true }
def WalkLengthsUptoSaid : Prop := walkLengthsUptoRow.holds Tryd.pinned (OpenSpec.upto walkLengthsSpec)

/-- 'viaductlaw09.WalkFixed', WHERE WHAT IT READS IS OF BULK AT MOST 1048576: true; the input reads as it did. -/
def walkFixedUptoRow : OpenClaim := { program := "ytbjamignglibpaadoor", sum := "1740d6ad76ecc2a787834a589697341495103d1416b40cd6978cfdf5c0429024", func := "viaduct/viaductlaw09.WalkFixed", spec := "walkFixed", inPlace := ["internal/reflectlite.ValueOf", "(internal/reflectlite.Value).Type", "(internal/reflectlite.Value).IsNil", "internal/reflectlite.TypeOf", "(internal/reflectlite.Value).Elem", "(internal/reflectlite.Value).Set"], unfollowed := true, recurses := true, named := ["errors.errorType"], apart := false, laid := [("errors.errorType", laid_errors_errorType)], narrowed := true }
def WalkFixedUptoSaid : Prop := walkFixedUptoRow.holds Tryd.pinned (OpenSpec.upto walkFixedSpec)

end Rows
end Go.Proofs.YtbjamignglibpaaDoor
