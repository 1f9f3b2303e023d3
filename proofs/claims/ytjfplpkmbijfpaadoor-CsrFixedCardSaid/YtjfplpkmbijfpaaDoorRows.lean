/-
  NARROWER THAN 'FOR EVERY INPUT', by the rows' own cells (each row's printed sentence says how): NormalOfs: laid · NormalTurns: laid · NormalMerges: laid · NormalFixed: laid · CsrChecks: laid · CsrRows: laid · CsrBuilds: laid · CsrFixed: laid.
  DERIVED. THE GIVEN ROWS OF THIS SEAT. 8 by the template 'for every input the law returns true; each argument reads behind the call as it read before'; 0 by the template 'total and deterministic' (their statements: YtjfplpkmbijfpaaDoorTotals.lean).
  GIVEN WITH THE SEED: the statements are not yours to turn. If you find one false, say at which input.
  Laid BY PROGRAM, IN A SANDBOX (cutbox-rows.mjs): the forced cells as the released guide's own fill.sh prints them over the translation f666b1b23a3c7f5c… (all of the seat's roots in one cut). By AI agents, Wed Nov 11 2026. No macro, syntax, notation, axiom, sorry.
-/
import Derived.Test.YtjfplpkmbijfpaaDoorChecked
import GoSem.Claim
import GoSem.ClaimJoined
import GoSem.ClaimMapViews
import Derived.JoinedTies
import Derived.KernelRfl
namespace Go.Proofs.YtjfplpkmbijfpaaDoor
/- THE CELL 'sum', in the pinned program and in every row, IS THE sha256 OF THE DUMP (.gsa) THAT YtjfplpkmbijfpaaDoorProg.lean LOADS. Nothing in Lean hashes anything: it is a label: what it is worth is what the hold of that sum in a sandbox is worth. -/
noncomputable def Tryd.pinned : Pinned := { name := "ytjfplpkmbijfpaadoor", sum := "f666b1b23a3c7f5cae205528a5b7efc7cc77d237f42699ef165edef24f4d1a89", checked := Tryd.checked }
namespace Rows
def none {H : Type} : Left H := { results := [], args := [] }

/- WHAT THE LISTED PACKAGE-LEVEL VARIABLES READ AS WHEN THE CALL BEGINS. Each datum BY PROGRAM (the guide's laid-datum.mjs) off the statement by which the dump's own 'gosem.cut.vars' lays the variable. In a bare row this is a premise. The card (YtjfplpkmbijfpaaDoorCards.lean) ties it to the program's text. -/
def laid_errors_errorType {H : Type} : DataW H := .iface "internal/reflectlite.rtype" (.agg [.ptr (.lit (.string [101, 114, 114, 111, 114]))])

/-- 'viaductlaw04.NormalOfs': WHATEVER THE INPUT: true; the input reads as it did. -/
def normalOfsSpec : ChangeSpec := { name := "normalOfs", fn := fun _ => fun
  | [d] => { results := [.lit (.bool true)], args := [d] }
  | _ => none }
def normalOfsRow : OpenClaim := { program := "ytjfplpkmbijfpaadoor", sum := "f666b1b23a3c7f5cae205528a5b7efc7cc77d237f42699ef165edef24f4d1a89", func := "viaduct/viaductlaw04.NormalOfs", spec := "normalOfs", inPlace := ["internal/reflectlite.ValueOf", "(internal/reflectlite.Value).Type", "(internal/reflectlite.Value).IsNil", "internal/reflectlite.TypeOf", "(internal/reflectlite.Value).Elem", "(internal/reflectlite.Value).Set"], unfollowed := true, recurses := true, named := ["errors.errorType"], apart := false, laid := [("errors.errorType", laid_errors_errorType)] }
def NormalOfsSaid : Prop := normalOfsRow.holds Tryd.pinned (OpenSpec.ofChange normalOfsSpec)

/-- ITS FALSE NEIGHBOUR: 'it returns false'. Refute it at one input. -/
def normalOfsWrong : ChangeSpec := { name := "normalOfs", fn := fun _ => fun
  | [d] => { results := [.lit (.bool false)], args := [d] }
  | _ => none }
def NormalOfsWrongFalsely : Prop := normalOfsRow.holds Tryd.pinned (OpenSpec.ofChange normalOfsWrong)

/-- 'viaductlaw04.NormalTurns': WHATEVER THE INPUT: true; the input reads as it did. -/
def normalTurnsSpec : ChangeSpec := { name := "normalTurns", fn := fun _ => fun
  | [d] => { results := [.lit (.bool true)], args := [d] }
  | _ => none }
def normalTurnsRow : OpenClaim := { program := "ytjfplpkmbijfpaadoor", sum := "f666b1b23a3c7f5cae205528a5b7efc7cc77d237f42699ef165edef24f4d1a89", func := "viaduct/viaductlaw04.NormalTurns", spec := "normalTurns", inPlace := ["internal/reflectlite.ValueOf", "(internal/reflectlite.Value).Type", "(internal/reflectlite.Value).IsNil", "internal/reflectlite.TypeOf", "(internal/reflectlite.Value).Elem", "(internal/reflectlite.Value).Set"], unfollowed := true, recurses := true, named := ["errors.errorType"], apart := false, laid := [("errors.errorType", laid_errors_errorType)] }
def NormalTurnsSaid : Prop := normalTurnsRow.holds Tryd.pinned (OpenSpec.ofChange normalTurnsSpec)

/-- ITS FALSE NEIGHBOUR: 'it returns false'. Refute it at one input. -/
def normalTurnsWrong : ChangeSpec := { name := "normalTurns", fn := fun _ => fun
  | [d] => { results := [.lit (.bool false)], args := [d] }
  | _ => none }
def NormalTurnsWrongFalsely : Prop := normalTurnsRow.holds Tryd.pinned (OpenSpec.ofChange normalTurnsWrong)

/-- 'viaductlaw04.NormalMerges': WHATEVER THE INPUT: true; the input reads as it did. -/
def normalMergesSpec : ChangeSpec := { name := "normalMerges", fn := fun _ => fun
  | [d1, d2] => { results := [.lit (.bool true)], args := [d1, d2] }
  | _ => none }
def normalMergesRow : OpenClaim := { program := "ytjfplpkmbijfpaadoor", sum := "f666b1b23a3c7f5cae205528a5b7efc7cc77d237f42699ef165edef24f4d1a89", func := "viaduct/viaductlaw04.NormalMerges", spec := "normalMerges", inPlace := ["internal/reflectlite.ValueOf", "(internal/reflectlite.Value).Type", "(internal/reflectlite.Value).IsNil", "internal/reflectlite.TypeOf", "(internal/reflectlite.Value).Elem", "(internal/reflectlite.Value).Set"], unfollowed := true, recurses := true, named := ["errors.errorType"], apart := false, laid := [("errors.errorType", laid_errors_errorType)] }
def NormalMergesSaid : Prop := normalMergesRow.holds Tryd.pinned (OpenSpec.ofChange normalMergesSpec)

/-- ITS FALSE NEIGHBOUR: 'it returns false'. Refute it at one input. -/
def normalMergesWrong : ChangeSpec := { name := "normalMerges", fn := fun _ => fun
  | [d1, d2] => { results := [.lit (.bool false)], args := [d1, d2] }
  | _ => none }
def NormalMergesWrongFalsely : Prop := normalMergesRow.holds Tryd.pinned (OpenSpec.ofChange normalMergesWrong)

/-- 'viaductlaw04.NormalFixed': WHATEVER THE INPUT: true; the input reads as it did. -/
def normalFixedSpec : ChangeSpec := { name := "normalFixed", fn := fun _ => fun
  | [] => { results := [.lit (.bool true)], args := [] }
  | _ => none }
def normalFixedRow : OpenClaim := { program := "ytjfplpkmbijfpaadoor", sum := "f666b1b23a3c7f5cae205528a5b7efc7cc77d237f42699ef165edef24f4d1a89", func := "viaduct/viaductlaw04.NormalFixed", spec := "normalFixed", inPlace := ["internal/reflectlite.ValueOf", "(internal/reflectlite.Value).Type", "(internal/reflectlite.Value).IsNil", "internal/reflectlite.TypeOf", "(internal/reflectlite.Value).Elem", "(internal/reflectlite.Value).Set"], unfollowed := true, recurses := true, named := ["errors.errorType"], apart := false, laid := [("errors.errorType", laid_errors_errorType)] }
def NormalFixedSaid : Prop := normalFixedRow.holds Tryd.pinned (OpenSpec.ofChange normalFixedSpec)

/-- ITS FALSE NEIGHBOUR: 'it returns false'. Refute it at one input. -/
def normalFixedWrong : ChangeSpec := { name := "normalFixed", fn := fun _ => fun
  | [] => { results := [.lit (.bool false)], args := [] }
  | _ => none }
def NormalFixedWrongFalsely : Prop := normalFixedRow.holds Tryd.pinned (OpenSpec.ofChange normalFixedWrong)

/-- 'viaductlaw05.CsrChecks': WHATEVER THE INPUT: true; the input reads as it did. -/
def csrChecksSpec : ChangeSpec := { name := "csrChecks", fn := fun _ => fun
  | [d1, d2, d3] => { results := [.lit (.bool true)], args := [d1, d2, d3] }
  | _ => none }
def csrChecksRow : OpenClaim := { program := "ytjfplpkmbijfpaadoor", sum := "f666b1b23a3c7f5cae205528a5b7efc7cc77d237f42699ef165edef24f4d1a89", func := "viaduct/viaductlaw05.CsrChecks", spec := "csrChecks", inPlace := ["internal/reflectlite.ValueOf", "(internal/reflectlite.Value).Type", "(internal/reflectlite.Value).IsNil", "internal/reflectlite.TypeOf", "(internal/reflectlite.Value).Elem", "(internal/reflectlite.Value).Set"], unfollowed := true, recurses := true, named := ["errors.errorType"], apart := false, laid := [("errors.errorType", laid_errors_errorType)] }
def CsrChecksSaid : Prop := csrChecksRow.holds Tryd.pinned (OpenSpec.ofChange csrChecksSpec)

/-- ITS FALSE NEIGHBOUR: 'it returns false'. Refute it at one input. -/
def csrChecksWrong : ChangeSpec := { name := "csrChecks", fn := fun _ => fun
  | [d1, d2, d3] => { results := [.lit (.bool false)], args := [d1, d2, d3] }
  | _ => none }
def CsrChecksWrongFalsely : Prop := csrChecksRow.holds Tryd.pinned (OpenSpec.ofChange csrChecksWrong)

/-- 'viaductlaw05.CsrRows': WHATEVER THE INPUT: true; the input reads as it did. -/
def csrRowsSpec : ChangeSpec := { name := "csrRows", fn := fun _ => fun
  | [d] => { results := [.lit (.bool true)], args := [d] }
  | _ => none }
def csrRowsRow : OpenClaim := { program := "ytjfplpkmbijfpaadoor", sum := "f666b1b23a3c7f5cae205528a5b7efc7cc77d237f42699ef165edef24f4d1a89", func := "viaduct/viaductlaw05.CsrRows", spec := "csrRows", inPlace := ["internal/reflectlite.ValueOf", "(internal/reflectlite.Value).Type", "(internal/reflectlite.Value).IsNil", "internal/reflectlite.TypeOf", "(internal/reflectlite.Value).Elem", "(internal/reflectlite.Value).Set"], unfollowed := true, recurses := true, named := ["errors.errorType"], apart := false, laid := [("errors.errorType", laid_errors_errorType)] }
def CsrRowsSaid : Prop := csrRowsRow.holds Tryd.pinned (OpenSpec.ofChange csrRowsSpec)

/-- ITS FALSE NEIGHBOUR: 'it returns false'. Refute it at one input. -/
def csrRowsWrong : ChangeSpec := { name := "csrRows", fn := fun _ => fun
  | [d] => { results := [.lit (.bool false)], args := [d] }
  | _ => none }
def CsrRowsWrongFalsely : Prop := csrRowsRow.holds Tryd.pinned (OpenSpec.ofChange csrRowsWrong)

/-- 'viaductlaw05.CsrBuilds': WHATEVER THE INPUT: true; the input reads as it did. -/
def csrBuildsSpec : ChangeSpec := { name := "csrBuilds", fn := fun _ => fun
  | [d] => { results := [.lit (.bool true)], args := [d] }
  | _ => none }
def csrBuildsRow : OpenClaim := { program := "ytjfplpkmbijfpaadoor", sum := "f666b1b23a3c7f5cae205528a5b7efc7cc77d237f42699ef165edef24f4d1a89", func := "viaduct/viaductlaw05.CsrBuilds", spec := "csrBuilds", inPlace := ["internal/reflectlite.ValueOf", "(internal/reflectlite.Value).Type", "(internal/reflectlite.Value).IsNil", "internal/reflectlite.TypeOf", "(internal/reflectlite.Value).Elem", "(internal/reflectlite.Value).Set"], unfollowed := true, recurses := true, named := ["errors.errorType"], apart := false, laid := [("errors.errorType", laid_errors_errorType)] }
def CsrBuildsSaid : Prop := csrBuildsRow.holds Tryd.pinned (OpenSpec.ofChange csrBuildsSpec)

/-- ITS FALSE NEIGHBOUR: 'it returns false'. Refute it at one input. -/
def csrBuildsWrong : ChangeSpec := { name := "csrBuilds", fn := fun _ => fun
  | [d] => { results := [.lit (.bool false)], args := [d] }
  | _ => none }
def CsrBuildsWrongFalsely : Prop := csrBuildsRow.holds Tryd.pinned (OpenSpec.ofChange csrBuildsWrong)

/-- 'viaductlaw05.CsrFixed': WHATEVER THE INPUT: true; the input reads as it did. -/
def csrFixedSpec : ChangeSpec := { name := "csrFixed", fn := fun _ => fun
  | [] => { results := [.lit (.bool true)], args := [] }
  | _ => none }
def csrFixedRow : OpenClaim := { program := "ytjfplpkmbijfpaadoor", sum := "f666b1b23a3c7f5cae205528a5b7efc7cc77d237f42699ef165edef24f4d1a89", func := "viaduct/viaductlaw05.CsrFixed", spec := "csrFixed", inPlace := ["internal/reflectlite.ValueOf", "(internal/reflectlite.Value).Type", "(internal/reflectlite.Value).IsNil", "internal/reflectlite.TypeOf", "(internal/reflectlite.Value).Elem", "(internal/reflectlite.Value).Set"], unfollowed := true, recurses := true, named := ["errors.errorType"], apart := false, laid := [("errors.errorType", laid_errors_errorType)] }
def CsrFixedSaid : Prop := csrFixedRow.holds Tryd.pinned (OpenSpec.ofChange csrFixedSpec)

/-- ITS FALSE NEIGHBOUR: 'it returns false'. Refute it at one input. -/
def csrFixedWrong : ChangeSpec := { name := "csrFixed", fn := fun _ => fun
  | [] => { results := [.lit (.bool false)], args := [] }
  | _ => none }
def CsrFixedWrongFalsely : Prop := csrFixedRow.holds Tryd.pinned (OpenSpec.ofChange csrFixedWrong)

/- THE SECOND FORM. 'bulk': how many values and letters a reading holds, each counted each time it is reached (what is shared counts as often as it is met; a slice's spare places count too). A statement '..UptoSaid' is the law's where the arguments, and the package variables that the reading takes, are together of bulk at most 1048576: NARROWER than '..Said'. Prove '..Said' where nothing that the law and all that it calls make is longer than what came in: it says more and counts as full. Else prove '..UptoSaid'. A law counts once. -/
mutual
def uptoBulk {H : Type} : DataW H → Nat
  | .lit (.string bytes) => bytes.length + 1
  | .lit _ => 1
  | .nil => 1
  | .ptr d => uptoBulk d + 1
  | .slice elems spare => uptoBulkAll elems + uptoBulkAll spare + 1
  | .agg parts => uptoBulkAll parts + 1
  | .iface _ d => uptoBulk d + 1
  | .map entries => uptoBulkEntries entries + 1
  | .held _ => 1
def uptoBulkAll {H : Type} : List (DataW H) → Nat
  | [] => 0
  | d :: r => uptoBulk d + uptoBulkAll r
def uptoBulkEntries {H : Type} : List (Lit × DataW H) → Nat
  | [] => 0
  | x :: r => uptoBulkEntry x + uptoBulkEntries r
def uptoBulkEntry {H : Type} : Lit × DataW H → Nat
  | (.string bytes, d) => bytes.length + uptoBulk d + 1
  | (_, d) => uptoBulk d + 1
 end
def uptoSmall : (H : Type) → List (DataW H) → Bool := fun _ ds => decide (uptoBulkAll ds ≤ 1048576)
def OpenSpec.upto (s : _root_.Go.ChangeSpec) : _root_.Go.OpenSpec := { _root_.Go.OpenSpec.ofChange s with cond := some uptoSmall }

/-- 'viaductlaw04.NormalOfs', WHERE WHAT IT READS IS OF BULK AT MOST 1048576: true; the input reads as it did. -/
def normalOfsUptoRow : OpenClaim := { program := "ytjfplpkmbijfpaadoor", sum := "f666b1b23a3c7f5cae205528a5b7efc7cc77d237f42699ef165edef24f4d1a89", func := "viaduct/viaductlaw04.NormalOfs", spec := "normalOfs", inPlace := ["internal/reflectlite.ValueOf", "(internal/reflectlite.Value).Type", "(internal/reflectlite.Value).IsNil", "internal/reflectlite.TypeOf", "(internal/reflectlite.Value).Elem", "(internal/reflectlite.Value).Set"], unfollowed := true, recurses := true, named := ["errors.errorType"], apart := false, laid := [("errors.errorType", laid_errors_errorType)], narrowed := true }
def NormalOfsUptoSaid : Prop := normalOfsUptoRow.holds Tryd.pinned (OpenSpec.upto normalOfsSpec)

/-- 'viaductlaw04.NormalTurns', WHERE WHAT IT READS IS OF BULK AT MOST 1048576: true; the input reads as it did. -/
def normalTurnsUptoRow : OpenClaim := { program := "ytjfplpkmbijfpaadoor", sum := "f666b1b23a3c7f5cae205528a5b7efc7cc77d237f42699ef165edef24f4d1a89", func := "viaduct/viaductlaw04.NormalTurns", spec := "normalTurns", inPlace := ["internal/reflectlite.ValueOf", "(internal/reflectlite.Value).Type", "(internal/reflectlite.Value).IsNil", "internal/reflectlite.TypeOf", "(internal/reflectlite.Value).Elem", "(internal/reflectlite.Value).Set"], unfollowed := true, recurses := true, named := ["errors.errorType"], apart := false, laid := [("errors.errorType", laid_errors_errorType)], narrowed := true }
def NormalTurnsUptoSaid : Prop := normalTurnsUptoRow.holds Tryd.pinned (OpenSpec.upto normalTurnsSpec)

/-- 'viaductlaw04.NormalMerges', WHERE WHAT IT READS IS OF BULK AT MOST 1048576: true; the input reads as it did. -/
def normalMergesUptoRow : OpenClaim := { program := "ytjfplpkmbijfpaadoor", sum := "f666b1b23a3c7f5cae205528a5b7efc7cc77d237f42699ef165edef24f4d1a89", func := "viaduct/viaductlaw04.NormalMerges", spec := "normalMerges", inPlace := ["internal/reflectlite.ValueOf", "(internal/reflectlite.Value).Type", "(internal/reflectlite.Value).IsNil", "internal/reflectlite.TypeOf", "(internal/reflectlite.Value).Elem", "(internal/reflectlite.Value).Set"], unfollowed := true, recurses := true, named := ["errors.errorType"], apart := false, laid := [("errors.errorType", laid_errors_errorType)], narrowed := true }
def NormalMergesUptoSaid : Prop := normalMergesUptoRow.holds Tryd.pinned (OpenSpec.upto normalMergesSpec)

/-- 'viaductlaw04.NormalFixed', WHERE WHAT IT READS IS OF BULK AT MOST 1048576: true; the input reads as it did. -/
def normalFixedUptoRow : OpenClaim := { program := "ytjfplpkmbijfpaadoor", sum := "f666b1b23a3c7f5cae205528a5b7efc7cc77d237f42699ef165edef24f4d1a89", func := "viaduct/viaductlaw04.NormalFixed", spec := "normalFixed", inPlace := ["internal/reflectlite.ValueOf", "(internal/reflectlite.Value).Type", "(internal/reflectlite.Value).IsNil", "internal/reflectlite.TypeOf", "(internal/reflectlite.Value).Elem", "(internal/reflectlite.Value).Set"], unfollowed := true, recurses := true, named := ["errors.errorType"], apart := false, laid := [("errors.errorType", laid_errors_errorType)], narrowed := true }
def NormalFixedUptoSaid : Prop := normalFixedUptoRow.holds Tryd.pinned (OpenSpec.upto normalFixedSpec)

/-- 'viaductlaw05.CsrChecks', WHERE WHAT IT READS IS OF BULK AT MOST 1048576: true; the input reads as it did. -/
def csrChecksUptoRow : OpenClaim := { program := "ytjfplpkmbijfpaadoor", sum := "f666b1b23a3c7f5cae205528a5b7efc7cc77d237f42699ef165edef24f4d1a89", func := "viaduct/viaductlaw05.CsrChecks", spec := "csrChecks", inPlace := ["internal/reflectlite.ValueOf", "(internal/reflectlite.Value).Type", "(internal/reflectlite.Value).IsNil", "internal/reflectlite.TypeOf", "(internal/reflectlite.Value).Elem", "(internal/reflectlite.Value).Set"], unfollowed := true, recurses := true, named := ["errors.errorType"], apart := false, laid := [("errors.errorType", laid_errors_errorType)], narrowed := true }
def CsrChecksUptoSaid : Prop := csrChecksUptoRow.holds Tryd.pinned (OpenSpec.upto csrChecksSpec)

/-- 'viaductlaw05.CsrRows', WHERE WHAT IT READS IS OF BULK AT MOST 1048576: true; the input reads as it did. -/
def csrRowsUptoRow : OpenClaim := { program := "ytjfplpkmbijfpaadoor", sum := "f666b1b23a3c7f5cae205528a5b7efc7cc77d237f42699ef165edef24f4d1a89", func := "viaduct/viaductlaw05.CsrRows", spec := "csrRows", inPlace := ["internal/reflectlite.ValueOf", "(internal/reflectlite.Value).Type", "(internal/reflectlite.Value).IsNil", "internal/reflectlite.TypeOf", "(internal/reflectlite.Value).Elem", "(internal/reflectlite.Value).Set"], unfollowed := true, recurses := true, named := ["errors.errorType"], apart := false, laid := [("errors.errorType", laid_errors_errorType)], narrowed := true }
def CsrRowsUptoSaid : Prop := csrRowsUptoRow.holds Tryd.pinned (OpenSpec.upto csrRowsSpec)

/-- 'viaductlaw05.CsrBuilds', WHERE WHAT IT READS IS OF BULK AT MOST 1048576: true; the input reads as it did. -/
def csrBuildsUptoRow : OpenClaim := { program := "ytjfplpkmbijfpaadoor", sum := "f666b1b23a3c7f5cae205528a5b7efc7cc77d237f42699ef165edef24f4d1a89", func := "viaduct/viaductlaw05.CsrBuilds", spec := "csrBuilds", inPlace := ["internal/reflectlite.ValueOf", "(internal/reflectlite.Value).Type", "(internal/reflectlite.Value).IsNil", "internal/reflectlite.TypeOf", "(internal/reflectlite.Value).Elem", "(internal/reflectlite.Value).Set"], unfollowed := true, recurses := true, named := ["errors.errorType"], apart := false, laid := [("errors.errorType", laid_errors_errorType)], narrowed := true }
def CsrBuildsUptoSaid : Prop := csrBuildsUptoRow.holds Tryd.pinned (OpenSpec.upto csrBuildsSpec)

/-- 'viaductlaw05.CsrFixed', WHERE WHAT IT READS IS OF BULK AT MOST 1048576: true; the input reads as it did. -/
def csrFixedUptoRow : OpenClaim := { program := "ytjfplpkmbijfpaadoor", sum := "f666b1b23a3c7f5cae205528a5b7efc7cc77d237f42699ef165edef24f4d1a89", func := "viaduct/viaductlaw05.CsrFixed", spec := "csrFixed", inPlace := ["internal/reflectlite.ValueOf", "(internal/reflectlite.Value).Type", "(internal/reflectlite.Value).IsNil", "internal/reflectlite.TypeOf", "(internal/reflectlite.Value).Elem", "(internal/reflectlite.Value).Set"], unfollowed := true, recurses := true, named := ["errors.errorType"], apart := false, laid := [("errors.errorType", laid_errors_errorType)], narrowed := true }
def CsrFixedUptoSaid : Prop := csrFixedUptoRow.holds Tryd.pinned (OpenSpec.upto csrFixedSpec)

end Rows
end Go.Proofs.YtjfplpkmbijfpaaDoor
