/-
  No cell of these rows narrows 'for every input' (looked for: loops, veiled, ifaces, maps, wideKeys, modest, calm, conditions, laid).
  DERIVED. THE GIVEN ROWS OF THIS SEAT. 3 by the template 'for every input the law returns true; each argument reads behind the call as it read before'; 0 by the template 'total and deterministic' (their statements: YtnepbkkdhalbiaaTotals.lean).
  GIVEN WITH THE SEED: the statements are not yours to turn. If you find one false, say at which input.
  Laid BY PROGRAM, IN A SANDBOX (cutbox-rows.mjs): the forced cells as the released guide's own fill.sh prints them over the translation 9a2016b1608a29c7… (all of the seat's roots in one cut). By AI agents, Wed Nov 11 2026. No macro, syntax, notation, axiom, sorry.
-/
import Derived.Test.YtnepbkkdhalbiaaChecked
import GoSem.Claim
import GoSem.ClaimJoined
import GoSem.ClaimMapViews
import Derived.JoinedTies
import Derived.KernelRfl
namespace Go.Proofs.Ytnepbkkdhalbiaa
/- THE CELL 'sum', in the pinned program and in every row, IS THE sha256 OF THE DUMP (.gsa) THAT YtnepbkkdhalbiaaProg.lean LOADS. Nothing in Lean hashes anything: it is a label: what it is worth is what the hold of that sum in a sandbox is worth. -/
noncomputable def Try.pinned : Pinned := { name := "ytnepbkkdhalbiaa", sum := "9a2016b1608a29c7f0d5210aace9fdd25c5a674cd41ddf20cb68ef4205057b52", checked := Try.checked }
namespace Rows
def none {H : Type} : Left H := { results := [], args := [] }

/-- 'viaductlaw12.WitnessGoals': WHATEVER THE INPUT: true; the input reads as it did. -/
def witnessGoalsSpec : ChangeSpec := { name := "witnessGoals", fn := fun _ => fun
  | [d1, d2, d3, d4, d5, d6, d7, d8] => { results := [.lit (.bool true)], args := [d1, d2, d3, d4, d5, d6, d7, d8] }
  | _ => none }
def witnessGoalsRow : OpenClaim := { program := "ytnepbkkdhalbiaa", sum := "9a2016b1608a29c7f0d5210aace9fdd25c5a674cd41ddf20cb68ef4205057b52", func := "viaduct/viaductlaw12.WitnessGoals", spec := "witnessGoals", inPlace := ["slices.overlaps[viaduct/overlay.Half]"], unfollowed := true, recurses := true, apart := false }
def WitnessGoalsSaid : Prop := witnessGoalsRow.holds Try.pinned (OpenSpec.ofChange witnessGoalsSpec)

/-- ITS FALSE NEIGHBOUR: 'it returns false'. Refute it at one input. -/
def witnessGoalsWrong : ChangeSpec := { name := "witnessGoals", fn := fun _ => fun
  | [d1, d2, d3, d4, d5, d6, d7, d8] => { results := [.lit (.bool false)], args := [d1, d2, d3, d4, d5, d6, d7, d8] }
  | _ => none }
def WitnessGoalsWrongFalsely : Prop := witnessGoalsRow.holds Try.pinned (OpenSpec.ofChange witnessGoalsWrong)

/-- 'viaductlaw13.ShortsBounds': WHATEVER THE INPUT: true; the input reads as it did. -/
def shortsBoundsSpec : ChangeSpec := { name := "shortsBounds", fn := fun _ => fun
  | [d1, d2, d3, d4] => { results := [.lit (.bool true)], args := [d1, d2, d3, d4] }
  | _ => none }
def shortsBoundsRow : OpenClaim := { program := "ytnepbkkdhalbiaa", sum := "9a2016b1608a29c7f0d5210aace9fdd25c5a674cd41ddf20cb68ef4205057b52", func := "viaduct/viaductlaw13.ShortsBounds", spec := "shortsBounds", inPlace := ["slices.overlaps[viaduct/overlay.Half]"], unfollowed := true, recurses := true, apart := false }
def ShortsBoundsSaid : Prop := shortsBoundsRow.holds Try.pinned (OpenSpec.ofChange shortsBoundsSpec)

/-- ITS FALSE NEIGHBOUR: 'it returns false'. Refute it at one input. -/
def shortsBoundsWrong : ChangeSpec := { name := "shortsBounds", fn := fun _ => fun
  | [d1, d2, d3, d4] => { results := [.lit (.bool false)], args := [d1, d2, d3, d4] }
  | _ => none }
def ShortsBoundsWrongFalsely : Prop := shortsBoundsRow.holds Try.pinned (OpenSpec.ofChange shortsBoundsWrong)

/-- 'viaductlaw13.ShortsDistances': WHATEVER THE INPUT: true; the input reads as it did. -/
def shortsDistancesSpec : ChangeSpec := { name := "shortsDistances", fn := fun _ => fun
  | [d1, d2, d3] => { results := [.lit (.bool true)], args := [d1, d2, d3] }
  | _ => none }
def shortsDistancesRow : OpenClaim := { program := "ytnepbkkdhalbiaa", sum := "9a2016b1608a29c7f0d5210aace9fdd25c5a674cd41ddf20cb68ef4205057b52", func := "viaduct/viaductlaw13.ShortsDistances", spec := "shortsDistances", inPlace := ["slices.overlaps[viaduct/overlay.Half]"], unfollowed := true, recurses := true, apart := false }
def ShortsDistancesSaid : Prop := shortsDistancesRow.holds Try.pinned (OpenSpec.ofChange shortsDistancesSpec)

/-- ITS FALSE NEIGHBOUR: 'it returns false'. Refute it at one input. -/
def shortsDistancesWrong : ChangeSpec := { name := "shortsDistances", fn := fun _ => fun
  | [d1, d2, d3] => { results := [.lit (.bool false)], args := [d1, d2, d3] }
  | _ => none }
def ShortsDistancesWrongFalsely : Prop := shortsDistancesRow.holds Try.pinned (OpenSpec.ofChange shortsDistancesWrong)

/- THE SECOND FORM. 'bulk': how many values and letters a reading holds, each counted each time it is reached (what is shared counts as often as it is met; a slice's spare places count too). A statement '..UptoSaid' is the law's where the arguments, and the package variables that the reading takes, are together of bulk at most 1048576: NARROWER than '..Said'. Prove '..Said' where nothing that the law and all that it calls make is longer than what came in: it says more and counts as full. Else prove '..UptoSaid'. A law counts once. -/
mutual
def uptoBulk {H : Type} : DataW H → Nat
  | .lit (.string bytes) => bytes.length + 1
  | .lit _ => 1
  | .nil => 1
  | .ptr d => uptoBulk d + 1
  | .slice elems spare => uptoBulkAll elems + uptoBulkAll spare + 1
  | .agg parts => uptoBulkAll parts + 1
  | .iface _ d => uptoBulk d + 1
  | .map entries => uptoBulkEntries entries + 1
  | .held _ => 1
def uptoBulkAll {H : Type} : List (DataW H) → Nat
  | [] => 0
  | d :: r => uptoBulk d + uptoBulkAll r
def uptoBulkEntries {H : Type} : List (Lit × DataW H) → Nat
  | [] => 0
  | x :: r => uptoBulkEntry x + uptoBulkEntries r
def uptoBulkEntry {H : Type} : Lit × DataW H → Nat
  | (.string bytes, d) => bytes.length + uptoBulk d + 1
  | (_, d) => uptoBulk d + 1
 end
def uptoSmall : (H : Type) → List (DataW H) → Bool := fun _ ds => decide (uptoBulkAll ds ≤ 1048576)
def OpenSpec.upto (s : _root_.Go.ChangeSpec) : _root_.Go.OpenSpec := { _root_.Go.OpenSpec.ofChange s with cond := some uptoSmall }

/-- 'viaductlaw12.WitnessGoals', WHERE WHAT IT READS IS OF BULK AT MOST 1048576: true; the input reads as it did. -/
def witnessGoalsUptoRow : OpenClaim := { program := "ytnepbkkdhalbiaa", sum := "9a2016b1608a29c7f0d5210aace9fdd25c5a674cd41ddf20cb68ef4205057b52", func := "viaduct/viaductlaw12.WitnessGoals", spec := "witnessGoals", inPlace := ["slices.overlaps[viaduct/overlay.Half]"], unfollowed := true, recurses := true, apart := false, narrowed := true }
def WitnessGoalsUptoSaid : Prop := witnessGoalsUptoRow.holds Try.pinned (OpenSpec.upto witnessGoalsSpec)

/-- 'viaductlaw13.ShortsBounds', WHERE WHAT IT READS IS OF BULK AT MOST 1048576: true; the input reads as it did. -/
def shortsBoundsUptoRow : OpenClaim := { program := "ytnepbkkdhalbiaa", sum := "9a2016b1608a29c7f0d5210aace9fdd25c5a674cd41ddf20cb68ef4205057b52", func := "viaduct/viaductlaw13.ShortsBounds", spec := "shortsBounds", inPlace := ["slices.overlaps[viaduct/overlay.Half]"], unfollowed := true, recurses := true, apart := false, narrowed := true }
def ShortsBoundsUptoSaid : Prop := shortsBoundsUptoRow.holds Try.pinned (OpenSpec.upto shortsBoundsSpec)

/-- 'viaductlaw13.ShortsDistances', WHERE WHAT IT READS IS OF BULK AT MOST 1048576: true; the input reads as it did. -/
def shortsDistancesUptoRow : OpenClaim := { program := "ytnepbkkdhalbiaa", sum := "9a2016b1608a29c7f0d5210aace9fdd25c5a674cd41ddf20cb68ef4205057b52", func := "viaduct/viaductlaw13.ShortsDistances", spec := "shortsDistances", inPlace := ["slices.overlaps[viaduct/overlay.Half]"], unfollowed := true, recurses := true, apart := false, narrowed := true }
def ShortsDistancesUptoSaid : Prop := shortsDistancesUptoRow.holds Try.pinned (OpenSpec.upto shortsDistancesSpec)

end Rows
end Go.Proofs.Ytnepbkkdhalbiaa
