/-
  No cell of these rows narrows 'for every input' (looked for: loops, veiled, ifaces, maps, wideKeys, modest, calm, conditions, laid).
  DERIVED. THE GIVEN ROWS OF THIS SEAT. 4 by the template 'for every input the law returns true; each argument reads behind the call as it read before'; 0 by the template 'total and deterministic' (their statements: YtlfclppjhkeljaaGreatTotals.lean).
  GIVEN WITH THE SEED: the statements are not yours to turn. If you find one false, say at which input.
  Laid BY PROGRAM, IN A SANDBOX (cutbox-rows.mjs): the forced cells as the released guide's own fill.sh prints them over the translation f436e69c31aa57a1… (all of the seat's roots in one cut). By AI agents, Wed Nov 11 2026. No macro, syntax, notation, axiom, sorry.
-/
import Derived.Test.YtlfclppjhkeljaaGreatChecked
import GoSem.Claim
import GoSem.ClaimJoined
import GoSem.ClaimMapViews
import Derived.JoinedTies
import Derived.KernelRfl
namespace Go.Proofs.YtlfclppjhkeljaaGreat
/- THE CELL 'sum', in the pinned program and in every row, IS THE sha256 OF THE DUMP (.gsa) THAT YtlfclppjhkeljaaGreatProg.lean LOADS. Nothing in Lean hashes anything: it is a label: what it is worth is what the hold of that sum in a sandbox is worth. -/
noncomputable def Tryz.pinned : Pinned := { name := "ytlfclppjhkeljaagreat", sum := "f436e69c31aa57a1cd2ea588da938c7a41b1fbb427be24a4f4d9da266b8b9534", checked := Tryz.checked }
namespace Rows
def none {H : Type} : Left H := { results := [], args := [] }

/-- 'viaducttop.WholeTrusted': WHATEVER THE INPUT: true; the input reads as it did. -/
def wholeTrustedSpec : ChangeSpec := { name := "wholeTrusted", fn := fun _ => fun
  | [d1, d2, d3] => { results := [.lit (.bool true)], args := [d1, d2, d3] }
  | _ => none }
def wholeTrustedRow : OpenClaim := { program := "ytlfclppjhkeljaagreat", sum := "f436e69c31aa57a1cd2ea588da938c7a41b1fbb427be24a4f4d9da266b8b9534", func := "viaduct/viaducttop.WholeTrusted", spec := "wholeTrusted", inPlace := ["internal/reflectlite.TypeOf"], unfollowed := true, recurses := true, apart := false }
def WholeTrustedSaid : Prop := wholeTrustedRow.holds Tryz.pinned (OpenSpec.ofChange wholeTrustedSpec)

/-- ITS FALSE NEIGHBOUR: 'it returns false'. Refute it at one input. -/
def wholeTrustedWrong : ChangeSpec := { name := "wholeTrusted", fn := fun _ => fun
  | [d1, d2, d3] => { results := [.lit (.bool false)], args := [d1, d2, d3] }
  | _ => none }
def WholeTrustedWrongFalsely : Prop := wholeTrustedRow.holds Tryz.pinned (OpenSpec.ofChange wholeTrustedWrong)

/-- 'viaducttop.WholeHierarchies': WHATEVER THE INPUT: true; the input reads as it did. -/
def wholeHierarchiesSpec : ChangeSpec := { name := "wholeHierarchies", fn := fun _ => fun
  | [d1, d2, d3] => { results := [.lit (.bool true)], args := [d1, d2, d3] }
  | _ => none }
def wholeHierarchiesRow : OpenClaim := { program := "ytlfclppjhkeljaagreat", sum := "f436e69c31aa57a1cd2ea588da938c7a41b1fbb427be24a4f4d9da266b8b9534", func := "viaduct/viaducttop.WholeHierarchies", spec := "wholeHierarchies", inPlace := ["slices.overlaps[viaduct/overlay.Half]"], unfollowed := true, recurses := true, apart := false }
def WholeHierarchiesSaid : Prop := wholeHierarchiesRow.holds Tryz.pinned (OpenSpec.ofChange wholeHierarchiesSpec)

/-- ITS FALSE NEIGHBOUR: 'it returns false'. Refute it at one input. -/
def wholeHierarchiesWrong : ChangeSpec := { name := "wholeHierarchies", fn := fun _ => fun
  | [d1, d2, d3] => { results := [.lit (.bool false)], args := [d1, d2, d3] }
  | _ => none }
def WholeHierarchiesWrongFalsely : Prop := wholeHierarchiesRow.holds Tryz.pinned (OpenSpec.ofChange wholeHierarchiesWrong)

/-- 'viaducttop.WholeOrders': WHATEVER THE INPUT: true; the input reads as it did. -/
def wholeOrdersSpec : ChangeSpec := { name := "wholeOrders", fn := fun _ => fun
  | [d1, d2, d3] => { results := [.lit (.bool true)], args := [d1, d2, d3] }
  | _ => none }
def wholeOrdersRow : OpenClaim := { program := "ytlfclppjhkeljaagreat", sum := "f436e69c31aa57a1cd2ea588da938c7a41b1fbb427be24a4f4d9da266b8b9534", func := "viaduct/viaducttop.WholeOrders", spec := "wholeOrders", inPlace := ["slices.overlaps[viaduct/overlay.Half]"], unfollowed := true, recurses := true, apart := false }
def WholeOrdersSaid : Prop := wholeOrdersRow.holds Tryz.pinned (OpenSpec.ofChange wholeOrdersSpec)

/-- ITS FALSE NEIGHBOUR: 'it returns false'. Refute it at one input. -/
def wholeOrdersWrong : ChangeSpec := { name := "wholeOrders", fn := fun _ => fun
  | [d1, d2, d3] => { results := [.lit (.bool false)], args := [d1, d2, d3] }
  | _ => none }
def WholeOrdersWrongFalsely : Prop := wholeOrdersRow.holds Tryz.pinned (OpenSpec.ofChange wholeOrdersWrong)

/-- 'viaducttop.WholePaths': WHATEVER THE INPUT: true; the input reads as it did. -/
def wholePathsSpec : ChangeSpec := { name := "wholePaths", fn := fun _ => fun
  | [d1, d2, d3, d4] => { results := [.lit (.bool true)], args := [d1, d2, d3, d4] }
  | _ => none }
def wholePathsRow : OpenClaim := { program := "ytlfclppjhkeljaagreat", sum := "f436e69c31aa57a1cd2ea588da938c7a41b1fbb427be24a4f4d9da266b8b9534", func := "viaduct/viaducttop.WholePaths", spec := "wholePaths", inPlace := ["slices.overlaps[viaduct/overlay.Half]", "internal/reflectlite.TypeOf"], unfollowed := true, recurses := true, apart := false }
def WholePathsSaid : Prop := wholePathsRow.holds Tryz.pinned (OpenSpec.ofChange wholePathsSpec)

/-- ITS FALSE NEIGHBOUR: 'it returns false'. Refute it at one input. -/
def wholePathsWrong : ChangeSpec := { name := "wholePaths", fn := fun _ => fun
  | [d1, d2, d3, d4] => { results := [.lit (.bool false)], args := [d1, d2, d3, d4] }
  | _ => none }
def WholePathsWrongFalsely : Prop := wholePathsRow.holds Tryz.pinned (OpenSpec.ofChange wholePathsWrong)

/- THE SECOND FORM. 'bulk': how many values and letters a reading holds, each counted each time it is reached (what is shared counts as often as it is met; a slice's spare places count too). A statement '..UptoSaid' is the law's where the arguments, and the package variables that the reading takes, are together of bulk at most 1048576: NARROWER than '..Said'. Prove '..Said' where nothing that the law and all that it calls make is longer than what came in: it says more and counts as full. Else prove '..UptoSaid'. A law counts once. -/
mutual
def uptoBulk {H : Type} : DataW H → Nat
  | .lit (.string bytes) => bytes.length + 1
  | .lit _ => 1
  | .nil => 1
  | .ptr d => uptoBulk d + 1
  | .slice elems spare => uptoBulkAll elems + uptoBulkAll spare + 1
  | .agg parts => uptoBulkAll parts + 1
  | .iface _ d => uptoBulk d + 1
  | .map entries => uptoBulkEntries entries + 1
  | .held _ => 1
def uptoBulkAll {H : Type} : List (DataW H) → Nat
  | [] => 0
  | d :: r => uptoBulk d + uptoBulkAll r
def uptoBulkEntries {H : Type} : List (Lit × DataW H) → Nat
  | [] => 0
  | x :: r => uptoBulkEntry x + uptoBulkEntries r
def uptoBulkEntry {H : Type} : Lit × DataW H → Nat
  | (.string bytes, d) => bytes.length + uptoBulk d + 1
  | (_, d) => uptoBulk d + 1
 end
def uptoSmall : (H : Type) → List (DataW H) → Bool := fun _ ds => decide (uptoBulkAll ds ≤ 1048576)
def OpenSpec.upto (s : _root_.Go.ChangeSpec) : _root_.Go.OpenSpec := { _root_.Go.OpenSpec.ofChange s with cond := some uptoSmall }

/-- 'viaducttop.WholeTrusted', WHERE WHAT IT READS IS OF BULK AT MOST 1048576: true; the input reads as it did. -/
def wholeTrustedUptoRow : OpenClaim := { program := "ytlfclppjhkeljaagreat", sum := "f436e69c31aa57a1cd2ea588da938c7a41b1fbb427be24a4f4d9da266b8b9534", func := "viaduct/viaducttop.WholeTrusted", spec := "wholeTrusted", inPlace := ["internal/reflectlite.TypeOf"], unfollowed := true, recurses := true, apart := false, narrowed := true }
def WholeTrustedUptoSaid : Prop := wholeTrustedUptoRow.holds Tryz.pinned (OpenSpec.upto wholeTrustedSpec)

/-- 'viaducttop.WholeHierarchies', WHERE WHAT IT READS IS OF BULK AT MOST 1048576: true; the input reads as it did. -/
def wholeHierarchiesUptoRow : OpenClaim := { program := "ytlfclppjhkeljaagreat", sum := "f436e69c31aa57a1cd2ea588da938c7a41b1fbb427be24a4f4d9da266b8b9534", func := "viaduct/viaducttop.WholeHierarchies", spec := "wholeHierarchies", inPlace := ["slices.overlaps[viaduct/overlay.Half]"], unfollowed := true, recurses := true, apart := false, narrowed := true }
def WholeHierarchiesUptoSaid : Prop := wholeHierarchiesUptoRow.holds Tryz.pinned (OpenSpec.upto wholeHierarchiesSpec)

/-- 'viaducttop.WholeOrders', WHERE WHAT IT READS IS OF BULK AT MOST 1048576: true; the input reads as it did. -/
def wholeOrdersUptoRow : OpenClaim := { program := "ytlfclppjhkeljaagreat", sum := "f436e69c31aa57a1cd2ea588da938c7a41b1fbb427be24a4f4d9da266b8b9534", func := "viaduct/viaducttop.WholeOrders", spec := "wholeOrders", inPlace := ["slices.overlaps[viaduct/overlay.Half]"], unfollowed := true, recurses := true, apart := false, narrowed := true }
def WholeOrdersUptoSaid : Prop := wholeOrdersUptoRow.holds Tryz.pinned (OpenSpec.upto wholeOrdersSpec)

/-- 'viaducttop.WholePaths', WHERE WHAT IT READS IS OF BULK AT MOST 1048576: true; the input reads as it did. -/
def wholePathsUptoRow : OpenClaim := { program := "ytlfclppjhkeljaagreat", sum := "f436e69c31aa57a1cd2ea588da938c7a41b1fbb427be24a4f4d9da266b8b9534", func := "viaduct/viaducttop.WholePaths", spec := "wholePaths", inPlace := ["slices.overlaps[viaduct/overlay.Half]", "internal/reflectlite.TypeOf"], unfollowed := true, recurses := true, apart := false, narrowed := true }
def WholePathsUptoSaid : Prop := wholePathsUptoRow.holds Tryz.pinned (OpenSpec.upto wholePathsSpec)

end Rows
end Go.Proofs.YtlfclppjhkeljaaGreat
