/-
  No cell of these rows narrows 'for every input' (looked for: loops, veiled, ifaces, maps, wideKeys, modest, calm, conditions, laid).
  DERIVED. THE GIVEN ROWS OF THIS SEAT. 4 by the template 'for every input the law returns true; each argument reads behind the call as it read before'; 0 by the template 'total and deterministic' (their statements: YtccnpeeakadnoaaTotals.lean).
  GIVEN WITH THE SEED: the statements are not yours to turn. If you find one false, say at which input.
  Laid BY PROGRAM, IN A SANDBOX (cutbox-rows.mjs): the forced cells as the released guide's own fill.sh prints them over the translation ea560bb06121bb1f… (all of the seat's roots in one cut). By AI agents, Wed Nov 11 2026. No macro, syntax, notation, axiom, sorry.
-/
import Derived.Test.YtccnpeeakadnoaaChecked
import GoSem.Claim
import GoSem.ClaimJoined
import GoSem.ClaimMapViews
import Derived.JoinedTies
import Derived.KernelRfl
namespace Go.Proofs.Ytccnpeeakadnoaa
/- THE CELL 'sum', in the pinned program and in every row, IS THE sha256 OF THE DUMP (.gsa) THAT YtccnpeeakadnoaaProg.lean LOADS. Nothing in Lean hashes anything: it is a label: what it is worth is what the hold of that sum in a sandbox is worth. -/
noncomputable def Try.pinned : Pinned := { name := "ytccnpeeakadnoaa", sum := "ea560bb06121bb1f6ba6a1e772bc7b5b84b60158fa2b227f6952939735b556a2", checked := Try.checked }
namespace Rows
def none {H : Type} : Left H := { results := [], args := [] }

/-- 'viaductlaw08.SearchMemory': WHATEVER THE INPUT: true; the input reads as it did. -/
def searchMemorySpec : ChangeSpec := { name := "searchMemory", fn := fun _ => fun
  | [d1, d2, d3] => { results := [.lit (.bool true)], args := [d1, d2, d3] }
  | _ => none }
def searchMemoryRow : OpenClaim := { program := "ytccnpeeakadnoaa", sum := "ea560bb06121bb1f6ba6a1e772bc7b5b84b60158fa2b227f6952939735b556a2", func := "viaduct/viaductlaw08.SearchMemory", spec := "searchMemory", apart := false }
def SearchMemorySaid : Prop := searchMemoryRow.holds Try.pinned (OpenSpec.ofChange searchMemorySpec)

/-- ITS FALSE NEIGHBOUR: 'it returns false'. Refute it at one input. -/
def searchMemoryWrong : ChangeSpec := { name := "searchMemory", fn := fun _ => fun
  | [d1, d2, d3] => { results := [.lit (.bool false)], args := [d1, d2, d3] }
  | _ => none }
def SearchMemoryWrongFalsely : Prop := searchMemoryRow.holds Try.pinned (OpenSpec.ofChange searchMemoryWrong)

/-- 'viaductlaw04.NormalMemory': WHATEVER THE INPUT: true; the input reads as it did. -/
def normalMemorySpec : ChangeSpec := { name := "normalMemory", fn := fun _ => fun
  | [d] => { results := [.lit (.bool true)], args := [d] }
  | _ => none }
def normalMemoryRow : OpenClaim := { program := "ytccnpeeakadnoaa", sum := "ea560bb06121bb1f6ba6a1e772bc7b5b84b60158fa2b227f6952939735b556a2", func := "viaduct/viaductlaw04.NormalMemory", spec := "normalMemory", unfollowed := true, recurses := true, apart := false }
def NormalMemorySaid : Prop := normalMemoryRow.holds Try.pinned (OpenSpec.ofChange normalMemorySpec)

/-- ITS FALSE NEIGHBOUR: 'it returns false'. Refute it at one input. -/
def normalMemoryWrong : ChangeSpec := { name := "normalMemory", fn := fun _ => fun
  | [d] => { results := [.lit (.bool false)], args := [d] }
  | _ => none }
def NormalMemoryWrongFalsely : Prop := normalMemoryRow.holds Try.pinned (OpenSpec.ofChange normalMemoryWrong)

/-- 'viaductlaw10.HierMemory': WHATEVER THE INPUT: true; the input reads as it did. -/
def hierMemorySpec : ChangeSpec := { name := "hierMemory", fn := fun _ => fun
  | [d] => { results := [.lit (.bool true)], args := [d] }
  | _ => none }
def hierMemoryRow : OpenClaim := { program := "ytccnpeeakadnoaa", sum := "ea560bb06121bb1f6ba6a1e772bc7b5b84b60158fa2b227f6952939735b556a2", func := "viaduct/viaductlaw10.HierMemory", spec := "hierMemory", unfollowed := true, recurses := true, apart := false }
def HierMemorySaid : Prop := hierMemoryRow.holds Try.pinned (OpenSpec.ofChange hierMemorySpec)

/-- ITS FALSE NEIGHBOUR: 'it returns false'. Refute it at one input. -/
def hierMemoryWrong : ChangeSpec := { name := "hierMemory", fn := fun _ => fun
  | [d] => { results := [.lit (.bool false)], args := [d] }
  | _ => none }
def HierMemoryWrongFalsely : Prop := hierMemoryRow.holds Try.pinned (OpenSpec.ofChange hierMemoryWrong)

/-- 'viaductlaw05.CsrMemory': WHATEVER THE INPUT: true; the input reads as it did. -/
def csrMemorySpec : ChangeSpec := { name := "csrMemory", fn := fun _ => fun
  | [d] => { results := [.lit (.bool true)], args := [d] }
  | _ => none }
def csrMemoryRow : OpenClaim := { program := "ytccnpeeakadnoaa", sum := "ea560bb06121bb1f6ba6a1e772bc7b5b84b60158fa2b227f6952939735b556a2", func := "viaduct/viaductlaw05.CsrMemory", spec := "csrMemory", unfollowed := true, recurses := true, apart := false }
def CsrMemorySaid : Prop := csrMemoryRow.holds Try.pinned (OpenSpec.ofChange csrMemorySpec)

/-- ITS FALSE NEIGHBOUR: 'it returns false'. Refute it at one input. -/
def csrMemoryWrong : ChangeSpec := { name := "csrMemory", fn := fun _ => fun
  | [d] => { results := [.lit (.bool false)], args := [d] }
  | _ => none }
def CsrMemoryWrongFalsely : Prop := csrMemoryRow.holds Try.pinned (OpenSpec.ofChange csrMemoryWrong)

/- THE SECOND FORM. 'bulk': how many values and letters a reading holds, each counted each time it is reached (what is shared counts as often as it is met; a slice's spare places count too). A statement '..UptoSaid' is the law's where the arguments, and the package variables that the reading takes, are together of bulk at most 1048576: NARROWER than '..Said'. Prove '..Said' where nothing that the law and all that it calls make is longer than what came in: it says more and counts as full. Else prove '..UptoSaid'. A law counts once. -/
mutual
def uptoBulk {H : Type} : DataW H → Nat
  | .lit (.string bytes) => bytes.length + 1
  | .lit _ => 1
  | .nil => 1
  | .ptr d => uptoBulk d + 1
  | .slice elems spare => uptoBulkAll elems + uptoBulkAll spare + 1
  | .agg parts => uptoBulkAll parts + 1
  | .iface _ d => uptoBulk d + 1
  | .map entries => uptoBulkEntries entries + 1
  | .held _ => 1
def uptoBulkAll {H : Type} : List (DataW H) → Nat
  | [] => 0
  | d :: r => uptoBulk d + uptoBulkAll r
def uptoBulkEntries {H : Type} : List (Lit × DataW H) → Nat
  | [] => 0
  | x :: r => uptoBulkEntry x + uptoBulkEntries r
def uptoBulkEntry {H : Type} : Lit × DataW H → Nat
  | (.string bytes, d) => bytes.length + uptoBulk d + 1
  | (_, d) => uptoBulk d + 1
 end
def uptoSmall : (H : Type) → List (DataW H) → Bool := fun _ ds => decide (uptoBulkAll ds ≤ 1048576)
def OpenSpec.upto (s : _root_.Go.ChangeSpec) : _root_.Go.OpenSpec := { _root_.Go.OpenSpec.ofChange s with cond := some uptoSmall }

/-- 'viaductlaw08.SearchMemory', WHERE WHAT IT READS IS OF BULK AT MOST 1048576: true; the input reads as it did. -/
def searchMemoryUptoRow : OpenClaim := { program := "ytccnpeeakadnoaa", sum := "ea560bb06121bb1f6ba6a1e772bc7b5b84b60158fa2b227f6952939735b556a2", func := "viaduct/viaductlaw08.SearchMemory", spec := "searchMemory", apart := false, narrowed := true }
def SearchMemoryUptoSaid : Prop := searchMemoryUptoRow.holds Try.pinned (OpenSpec.upto searchMemorySpec)

/-- 'viaductlaw04.NormalMemory', WHERE WHAT IT READS IS OF BULK AT MOST 1048576: true; the input reads as it did. -/
def normalMemoryUptoRow : OpenClaim := { program := "ytccnpeeakadnoaa", sum := "ea560bb06121bb1f6ba6a1e772bc7b5b84b60158fa2b227f6952939735b556a2", func := "viaduct/viaductlaw04.NormalMemory", spec := "normalMemory", unfollowed := true, recurses := true, apart := false, narrowed := true }
def NormalMemoryUptoSaid : Prop := normalMemoryUptoRow.holds Try.pinned (OpenSpec.upto normalMemorySpec)

/-- 'viaductlaw10.HierMemory', WHERE WHAT IT READS IS OF BULK AT MOST 1048576: true; the input reads as it did. -/
def hierMemoryUptoRow : OpenClaim := { program := "ytccnpeeakadnoaa", sum := "ea560bb06121bb1f6ba6a1e772bc7b5b84b60158fa2b227f6952939735b556a2", func := "viaduct/viaductlaw10.HierMemory", spec := "hierMemory", unfollowed := true, recurses := true, apart := false, narrowed := true }
def HierMemoryUptoSaid : Prop := hierMemoryUptoRow.holds Try.pinned (OpenSpec.upto hierMemorySpec)

/-- 'viaductlaw05.CsrMemory', WHERE WHAT IT READS IS OF BULK AT MOST 1048576: true; the input reads as it did. -/
def csrMemoryUptoRow : OpenClaim := { program := "ytccnpeeakadnoaa", sum := "ea560bb06121bb1f6ba6a1e772bc7b5b84b60158fa2b227f6952939735b556a2", func := "viaduct/viaductlaw05.CsrMemory", spec := "csrMemory", unfollowed := true, recurses := true, apart := false, narrowed := true }
def CsrMemoryUptoSaid : Prop := csrMemoryUptoRow.holds Try.pinned (OpenSpec.upto csrMemorySpec)

end Rows
end Go.Proofs.Ytccnpeeakadnoaa
