/-
  No cell of these rows narrows 'for every input' (looked for: loops, veiled, ifaces, maps, wideKeys, modest, calm, conditions, laid).
  DERIVED. THE GIVEN ROWS OF THIS SEAT. 5 by the template 'for every input the law returns true; each argument reads behind the call as it read before'; 0 by the template 'total and deterministic' (their statements: YtbjamignglibpaaTotals.lean).
  GIVEN WITH THE SEED: the statements are not yours to turn. If you find one false, say at which input.
  Laid BY PROGRAM, IN A SANDBOX (cutbox-rows.mjs): the forced cells as the released guide's own fill.sh prints them over the translation b68e755b45eb37e1… (all of the seat's roots in one cut). By AI agents, Wed Nov 11 2026. No macro, syntax, notation, axiom, sorry.
-/
import Derived.Test.YtbjamignglibpaaChecked
import GoSem.Claim
import GoSem.ClaimJoined
import GoSem.ClaimMapViews
import Derived.JoinedTies
import Derived.KernelRfl
namespace Go.Proofs.Ytbjamignglibpaa
/- THE CELL 'sum', in the pinned program and in every row, IS THE sha256 OF THE DUMP (.gsa) THAT YtbjamignglibpaaProg.lean LOADS. Nothing in Lean hashes anything: it is a label: what it is worth is what the hold of that sum in a sandbox is worth. -/
noncomputable def Try.pinned : Pinned := { name := "ytbjamignglibpaa", sum := "b68e755b45eb37e107fbba8838b9a196a7b43490d3d04224c3faf9cb6c4038ba", checked := Try.checked }
namespace Rows
def none {H : Type} : Left H := { results := [], args := [] }

/-- 'viaductlaw09.WalkLoops': WHATEVER THE INPUT: true; the input reads as it did. -/
def walkLoopsSpec : ChangeSpec := { name := "walkLoops", fn := fun _ => fun
  | [d1, d2] => { results := [.lit (.bool true)], args := [d1, d2] }
  | _ => none }
def walkLoopsRow : OpenClaim := { program := "ytbjamignglibpaa", sum := "b68e755b45eb37e107fbba8838b9a196a7b43490d3d04224c3faf9cb6c4038ba", func := "viaduct/viaductlaw09.WalkLoops", spec := "walkLoops", apart := false }
def WalkLoopsSaid : Prop := walkLoopsRow.holds Try.pinned (OpenSpec.ofChange walkLoopsSpec)

/-- ITS FALSE NEIGHBOUR: 'it returns false'. Refute it at one input. -/
def walkLoopsWrong : ChangeSpec := { name := "walkLoops", fn := fun _ => fun
  | [d1, d2] => { results := [.lit (.bool false)], args := [d1, d2] }
  | _ => none }
def WalkLoopsWrongFalsely : Prop := walkLoopsRow.holds Try.pinned (OpenSpec.ofChange walkLoopsWrong)

/-- 'viaductlaw09.WalkMemory': WHATEVER THE INPUT: true; the input reads as it did. -/
def walkMemorySpec : ChangeSpec := { name := "walkMemory", fn := fun _ => fun
  | [d1, d2] => { results := [.lit (.bool true)], args := [d1, d2] }
  | _ => none }
def walkMemoryRow : OpenClaim := { program := "ytbjamignglibpaa", sum := "b68e755b45eb37e107fbba8838b9a196a7b43490d3d04224c3faf9cb6c4038ba", func := "viaduct/viaductlaw09.WalkMemory", spec := "walkMemory", apart := false }
def WalkMemorySaid : Prop := walkMemoryRow.holds Try.pinned (OpenSpec.ofChange walkMemorySpec)

/-- ITS FALSE NEIGHBOUR: 'it returns false'. Refute it at one input. -/
def walkMemoryWrong : ChangeSpec := { name := "walkMemory", fn := fun _ => fun
  | [d1, d2] => { results := [.lit (.bool false)], args := [d1, d2] }
  | _ => none }
def WalkMemoryWrongFalsely : Prop := walkMemoryRow.holds Try.pinned (OpenSpec.ofChange walkMemoryWrong)

/-- 'viaductlaw08.SearchMemory': WHATEVER THE INPUT: true; the input reads as it did. -/
def searchMemorySpec : ChangeSpec := { name := "searchMemory", fn := fun _ => fun
  | [d1, d2, d3] => { results := [.lit (.bool true)], args := [d1, d2, d3] }
  | _ => none }
def searchMemoryRow : OpenClaim := { program := "ytbjamignglibpaa", sum := "b68e755b45eb37e107fbba8838b9a196a7b43490d3d04224c3faf9cb6c4038ba", func := "viaduct/viaductlaw08.SearchMemory", spec := "searchMemory", apart := false }
def SearchMemorySaid : Prop := searchMemoryRow.holds Try.pinned (OpenSpec.ofChange searchMemorySpec)

/-- ITS FALSE NEIGHBOUR: 'it returns false'. Refute it at one input. -/
def searchMemoryWrong : ChangeSpec := { name := "searchMemory", fn := fun _ => fun
  | [d1, d2, d3] => { results := [.lit (.bool false)], args := [d1, d2, d3] }
  | _ => none }
def SearchMemoryWrongFalsely : Prop := searchMemoryRow.holds Try.pinned (OpenSpec.ofChange searchMemoryWrong)

/-- 'viaductlaw08.SearchMetric': WHATEVER THE INPUT: true; the input reads as it did. -/
def searchMetricSpec : ChangeSpec := { name := "searchMetric", fn := fun _ => fun
  | [d] => { results := [.lit (.bool true)], args := [d] }
  | _ => none }
def searchMetricRow : OpenClaim := { program := "ytbjamignglibpaa", sum := "b68e755b45eb37e107fbba8838b9a196a7b43490d3d04224c3faf9cb6c4038ba", func := "viaduct/viaductlaw08.SearchMetric", spec := "searchMetric", unfollowed := true, recurses := true, apart := false }
def SearchMetricSaid : Prop := searchMetricRow.holds Try.pinned (OpenSpec.ofChange searchMetricSpec)

/-- ITS FALSE NEIGHBOUR: 'it returns false'. Refute it at one input. -/
def searchMetricWrong : ChangeSpec := { name := "searchMetric", fn := fun _ => fun
  | [d] => { results := [.lit (.bool false)], args := [d] }
  | _ => none }
def SearchMetricWrongFalsely : Prop := searchMetricRow.holds Try.pinned (OpenSpec.ofChange searchMetricWrong)

/-- 'viaductlaw09.WalkJoins': WHATEVER THE INPUT: true; the input reads as it did. -/
def walkJoinsSpec : ChangeSpec := { name := "walkJoins", fn := fun _ => fun
  | [d1, d2, d3] => { results := [.lit (.bool true)], args := [d1, d2, d3] }
  | _ => none }
def walkJoinsRow : OpenClaim := { program := "ytbjamignglibpaa", sum := "b68e755b45eb37e107fbba8838b9a196a7b43490d3d04224c3faf9cb6c4038ba", func := "viaduct/viaductlaw09.WalkJoins", spec := "walkJoins", unfollowed := true, recurses := true, apart := false }
def WalkJoinsSaid : Prop := walkJoinsRow.holds Try.pinned (OpenSpec.ofChange walkJoinsSpec)

/-- ITS FALSE NEIGHBOUR: 'it returns false'. Refute it at one input. -/
def walkJoinsWrong : ChangeSpec := { name := "walkJoins", fn := fun _ => fun
  | [d1, d2, d3] => { results := [.lit (.bool false)], args := [d1, d2, d3] }
  | _ => none }
def WalkJoinsWrongFalsely : Prop := walkJoinsRow.holds Try.pinned (OpenSpec.ofChange walkJoinsWrong)

/- THE SECOND FORM. 'bulk': how many values and letters a reading holds, each counted each time it is reached (what is shared counts as often as it is met; a slice's spare places count too). A statement '..UptoSaid' is the law's where the arguments, and the package variables that the reading takes, are together of bulk at most 1048576: NARROWER than '..Said'. Prove '..Said' where nothing that the law and all that it calls make is longer than what came in: it says more and counts as full. Else prove '..UptoSaid'. A law counts once. -/
mutual
def uptoBulk {H : Type} : DataW H → Nat
  | .lit (.string bytes) => bytes.length + 1
  | .lit _ => 1
  | .nil => 1
  | .ptr d => uptoBulk d + 1
  | .slice elems spare => uptoBulkAll elems + uptoBulkAll spare + 1
  | .agg parts => uptoBulkAll parts + 1
  | .iface _ d => uptoBulk d + 1
  | .map entries => uptoBulkEntries entries + 1
  | .held _ => 1
def uptoBulkAll {H : Type} : List (DataW H) → Nat
  | [] => 0
  | d :: r => uptoBulk d + uptoBulkAll r
def uptoBulkEntries {H : Type} : List (Lit × DataW H) → Nat
  | [] => 0
  | x :: r => uptoBulkEntry x + uptoBulkEntries r
def uptoBulkEntry {H : Type} : Lit × DataW H → Nat
  | (.string bytes, d) => bytes.length + uptoBulk d + 1
  | (_, d) => uptoBulk d + 1
 end
def uptoSmall : (H : Type) → List (DataW H) → Bool := fun _ ds => decide (uptoBulkAll ds ≤ 1048576)
def OpenSpec.upto (s : _root_.Go.ChangeSpec) : _root_.Go.OpenSpec := { _root_.Go.OpenSpec.ofChange s with cond := some uptoSmall }

/-- 'viaductlaw09.WalkLoops', WHERE WHAT IT READS IS OF BULK AT MOST 1048576: true; the input reads as it did. -/
def walkLoopsUptoRow : OpenClaim := { program := "ytbjamignglibpaa", sum := "b68e755b45eb37e107fbba8838b9a196a7b43490d3d04224c3faf9cb6c4038ba", func := "viaduct/viaductlaw09.WalkLoops", spec := "walkLoops", apart := false, narrowed := true }
def WalkLoopsUptoSaid : Prop := walkLoopsUptoRow.holds Try.pinned (OpenSpec.upto walkLoopsSpec)

/-- 'viaductlaw09.WalkMemory', WHERE WHAT IT READS IS OF BULK AT MOST 1048576: true; the input reads as it did. -/
def walkMemoryUptoRow : OpenClaim := { program := "ytbjamignglibpaa", sum := "b68e755b45eb37e107fbba8838b9a196a7b43490d3d04224c3faf9cb6c4038ba", func := "viaduct/viaductlaw09.WalkMemory", spec := "walkMemory", apart := false, narrowed := true }
def WalkMemoryUptoSaid : Prop := walkMemoryUptoRow.holds Try.pinned (OpenSpec.upto walkMemorySpec)

/-- 'viaductlaw08.SearchMemory', WHERE WHAT IT READS IS OF BULK AT MOST 1048576: true; the input reads as it did. -/
def searchMemoryUptoRow : OpenClaim := { program := "ytbjamignglibpaa", sum := "b68e755b45eb37e107fbba8838b9a196a7b43490d3d04224c3faf9cb6c4038ba", func := "viaduct/viaductlaw08.SearchMemory", spec := "searchMemory", apart := false, narrowed := true }
def SearchMemoryUptoSaid : Prop := searchMemoryUptoRow.holds Try.pinned (OpenSpec.upto searchMemorySpec)

/-- 'viaductlaw08.SearchMetric', WHERE WHAT IT READS IS OF BULK AT MOST 1048576: true; the input reads as it did. -/
def searchMetricUptoRow : OpenClaim := { program := "ytbjamignglibpaa", sum := "b68e755b45eb37e107fbba8838b9a196a7b43490d3d04224c3faf9cb6c4038ba", func := "viaduct/viaductlaw08.SearchMetric", spec := "searchMetric", unfollowed := true, recurses := true, apart := false, narrowed := true }
def SearchMetricUptoSaid : Prop := searchMetricUptoRow.holds Try.pinned (OpenSpec.upto searchMetricSpec)

/-- 'viaductlaw09.WalkJoins', WHERE WHAT IT READS IS OF BULK AT MOST 1048576: true; the input reads as it did. -/
def walkJoinsUptoRow : OpenClaim := { program := "ytbjamignglibpaa", sum := "b68e755b45eb37e107fbba8838b9a196a7b43490d3d04224c3faf9cb6c4038ba", func := "viaduct/viaductlaw09.WalkJoins", spec := "walkJoins", unfollowed := true, recurses := true, apart := false, narrowed := true }
def WalkJoinsUptoSaid : Prop := walkJoinsUptoRow.holds Try.pinned (OpenSpec.upto walkJoinsSpec)

end Rows
end Go.Proofs.Ytbjamignglibpaa
