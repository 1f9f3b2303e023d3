/-
  No cell of these rows narrows 'for every input' (looked for: loops, veiled, ifaces, maps, wideKeys, modest, calm, conditions, laid).
  DERIVED. THE GIVEN ROWS OF THIS SEAT. 3 by the template 'for every input the law returns true; each argument reads behind the call as it read before'; 0 by the template 'total and deterministic' (their statements: YtmndpcokgbfgkaaTotals.lean).
  GIVEN WITH THE SEED: the statements are not yours to turn. If you find one false, say at which input.
  Laid BY PROGRAM, IN A SANDBOX (cutbox-rows.mjs): the forced cells as the released guide's own fill.sh prints them over the translation be36f27bf2668871… (all of the seat's roots in one cut). By AI agents, Wed Nov 11 2026. No macro, syntax, notation, axiom, sorry.
-/
import Derived.Test.YtmndpcokgbfgkaaChecked
import GoSem.Claim
import GoSem.ClaimJoined
import GoSem.ClaimMapViews
import Derived.JoinedTies
import Derived.KernelRfl
namespace Go.Proofs.Ytmndpcokgbfgkaa
/- THE CELL 'sum', in the pinned program and in every row, IS THE sha256 OF THE DUMP (.gsa) THAT YtmndpcokgbfgkaaProg.lean LOADS. Nothing in Lean hashes anything: it is a label: what it is worth is what the hold of that sum in a sandbox is worth. -/
noncomputable def Try.pinned : Pinned := { name := "ytmndpcokgbfgkaa", sum := "be36f27bf2668871bbff1920ab7b5f1fc43ed5bfa6a3ef0926c1ee1772e55ba9", checked := Try.checked }
namespace Rows
def none {H : Type} : Left H := { results := [], args := [] }

/-- 'viaductlaw10.HierFalls': WHATEVER THE INPUT: true; the input reads as it did. -/
def hierFallsSpec : ChangeSpec := { name := "hierFalls", fn := fun _ => fun
  | [d] => { results := [.lit (.bool true)], args := [d] }
  | _ => none }
def hierFallsRow : OpenClaim := { program := "ytmndpcokgbfgkaa", sum := "be36f27bf2668871bbff1920ab7b5f1fc43ed5bfa6a3ef0926c1ee1772e55ba9", func := "viaduct/viaductlaw10.HierFalls", spec := "hierFalls", unfollowed := true, recurses := true, apart := false }
def HierFallsSaid : Prop := hierFallsRow.holds Try.pinned (OpenSpec.ofChange hierFallsSpec)

/-- ITS FALSE NEIGHBOUR: 'it returns false'. Refute it at one input. -/
def hierFallsWrong : ChangeSpec := { name := "hierFalls", fn := fun _ => fun
  | [d] => { results := [.lit (.bool false)], args := [d] }
  | _ => none }
def HierFallsWrongFalsely : Prop := hierFallsRow.holds Try.pinned (OpenSpec.ofChange hierFallsWrong)

/-- 'viaductlaw10.HierSames': WHATEVER THE INPUT: true; the input reads as it did. -/
def hierSamesSpec : ChangeSpec := { name := "hierSames", fn := fun _ => fun
  | [d1, d2] => { results := [.lit (.bool true)], args := [d1, d2] }
  | _ => none }
def hierSamesRow : OpenClaim := { program := "ytmndpcokgbfgkaa", sum := "be36f27bf2668871bbff1920ab7b5f1fc43ed5bfa6a3ef0926c1ee1772e55ba9", func := "viaduct/viaductlaw10.HierSames", spec := "hierSames", unfollowed := true, recurses := true, apart := false }
def HierSamesSaid : Prop := hierSamesRow.holds Try.pinned (OpenSpec.ofChange hierSamesSpec)

/-- ITS FALSE NEIGHBOUR: 'it returns false'. Refute it at one input. -/
def hierSamesWrong : ChangeSpec := { name := "hierSames", fn := fun _ => fun
  | [d1, d2] => { results := [.lit (.bool false)], args := [d1, d2] }
  | _ => none }
def HierSamesWrongFalsely : Prop := hierSamesRow.holds Try.pinned (OpenSpec.ofChange hierSamesWrong)

/-- 'viaductlaw10.HierMemory': WHATEVER THE INPUT: true; the input reads as it did. -/
def hierMemorySpec : ChangeSpec := { name := "hierMemory", fn := fun _ => fun
  | [d] => { results := [.lit (.bool true)], args := [d] }
  | _ => none }
def hierMemoryRow : OpenClaim := { program := "ytmndpcokgbfgkaa", sum := "be36f27bf2668871bbff1920ab7b5f1fc43ed5bfa6a3ef0926c1ee1772e55ba9", func := "viaduct/viaductlaw10.HierMemory", spec := "hierMemory", unfollowed := true, recurses := true, apart := false }
def HierMemorySaid : Prop := hierMemoryRow.holds Try.pinned (OpenSpec.ofChange hierMemorySpec)

/-- ITS FALSE NEIGHBOUR: 'it returns false'. Refute it at one input. -/
def hierMemoryWrong : ChangeSpec := { name := "hierMemory", fn := fun _ => fun
  | [d] => { results := [.lit (.bool false)], args := [d] }
  | _ => none }
def HierMemoryWrongFalsely : Prop := hierMemoryRow.holds Try.pinned (OpenSpec.ofChange hierMemoryWrong)

/- THE SECOND FORM. 'bulk': how many values and letters a reading holds, each counted each time it is reached (what is shared counts as often as it is met; a slice's spare places count too). A statement '..UptoSaid' is the law's where the arguments, and the package variables that the reading takes, are together of bulk at most 1048576: NARROWER than '..Said'. Prove '..Said' where nothing that the law and all that it calls make is longer than what came in: it says more and counts as full. Else prove '..UptoSaid'. A law counts once. -/
mutual
def uptoBulk {H : Type} : DataW H → Nat
  | .lit (.string bytes) => bytes.length + 1
  | .lit _ => 1
  | .nil => 1
  | .ptr d => uptoBulk d + 1
  | .slice elems spare => uptoBulkAll elems + uptoBulkAll spare + 1
  | .agg parts => uptoBulkAll parts + 1
  | .iface _ d => uptoBulk d + 1
  | .map entries => uptoBulkEntries entries + 1
  | .held _ => 1
def uptoBulkAll {H : Type} : List (DataW H) → Nat
  | [] => 0
  | d :: r => uptoBulk d + uptoBulkAll r
def uptoBulkEntries {H : Type} : List (Lit × DataW H) → Nat
  | [] => 0
  | x :: r => uptoBulkEntry x + uptoBulkEntries r
def uptoBulkEntry {H : Type} : Lit × DataW H → Nat
  | (.string bytes, d) => bytes.length + uptoBulk d + 1
  | (_, d) => uptoBulk d + 1
 end
def uptoSmall : (H : Type) → List (DataW H) → Bool := fun _ ds => decide (uptoBulkAll ds ≤ 1048576)
def OpenSpec.upto (s : _root_.Go.ChangeSpec) : _root_.Go.OpenSpec := { _root_.Go.OpenSpec.ofChange s with cond := some uptoSmall }

/-- 'viaductlaw10.HierFalls', WHERE WHAT IT READS IS OF BULK AT MOST 1048576: true; the input reads as it did. -/
def hierFallsUptoRow : OpenClaim := { program := "ytmndpcokgbfgkaa", sum := "be36f27bf2668871bbff1920ab7b5f1fc43ed5bfa6a3ef0926c1ee1772e55ba9", func := "viaduct/viaductlaw10.HierFalls", spec := "hierFalls", unfollowed := true, recurses := true, apart := false, narrowed := true }
def HierFallsUptoSaid : Prop := hierFallsUptoRow.holds Try.pinned (OpenSpec.upto hierFallsSpec)

/-- 'viaductlaw10.HierSames', WHERE WHAT IT READS IS OF BULK AT MOST 1048576: true; the input reads as it did. -/
def hierSamesUptoRow : OpenClaim := { program := "ytmndpcokgbfgkaa", sum := "be36f27bf2668871bbff1920ab7b5f1fc43ed5bfa6a3ef0926c1ee1772e55ba9", func := "viaduct/viaductlaw10.HierSames", spec := "hierSames", unfollowed := true, recurses := true, apart := false, narrowed := true }
def HierSamesUptoSaid : Prop := hierSamesUptoRow.holds Try.pinned (OpenSpec.upto hierSamesSpec)

/-- 'viaductlaw10.HierMemory', WHERE WHAT IT READS IS OF BULK AT MOST 1048576: true; the input reads as it did. -/
def hierMemoryUptoRow : OpenClaim := { program := "ytmndpcokgbfgkaa", sum := "be36f27bf2668871bbff1920ab7b5f1fc43ed5bfa6a3ef0926c1ee1772e55ba9", func := "viaduct/viaductlaw10.HierMemory", spec := "hierMemory", unfollowed := true, recurses := true, apart := false, narrowed := true }
def HierMemoryUptoSaid : Prop := hierMemoryUptoRow.holds Try.pinned (OpenSpec.upto hierMemorySpec)

end Rows
end Go.Proofs.Ytmndpcokgbfgkaa
