/- The chapter's example, reckoned out. Plain Lean: no program here. -/
import Derived.Test.YtmndpcokgbfgkaaIHl
set_option linter.unusedVariables false
set_option linter.unusedSimpArgs false
set_option linter.unusedSectionVars false
/-! (PrAw10) -/

set_option linter.unusedVariables false
set_option linter.unusedSimpArgs false
set_option maxRecDepth 100000
set_option maxHeartbeats 4000000
namespace Go.Vd
abbrev tN : List Int := [1, 0, 2]
abbrev tUF : List Int := [0, 1, 2, 2]
abbrev tU : List (Int × Int × Int × Int) := [(2, 1, 4294967295, 4294967295), (2, 5, 2, 0)]
abbrev tDF : List Int := [0, 1, 1, 1]
abbrev tD : List (Int × Int × Int × Int) := [(1, 4, 4294967295, 4294967295)]
abbrev tAll : List (Int × Int × Int × Int × Int × Int × Int) := [(2, 1, 4294967295, 4294967295, 0, 2, 0), (2, 5, 2, 0, 1, 2, 1), (1, 4, 4294967295, 4294967295, 1, 0, 0)]
theorem t_three : z_viaductref10_Three = some (tN, tUF, tU, tDF, tD) := by
  unfold z_viaductref10_Three; rfl
theorem t_f1 : z_hier_firsts tUF 2 = some .nil := by
  simp [z_hier_firsts, z_hier_firsts_l0, loopO_eq, G, gt]
theorem t_f2 : z_hier_firsts tDF 1 = some .nil := by
  simp [z_hier_firsts, z_hier_firsts_l0, loopO_eq, G, gt]
theorem t_o : z_hier_order tN = some .nil := by
  simp [z_hier_order, z_hier_order_l0, loopO_eq, G, gt]
theorem t_ends : z_hier_ends tN tUF tU tDF tD = some (tAll, .nil) := by
  unfold z_hier_ends
  simp [t_f1, t_f2, t_o, z_hier_links, z_hier_links_1, z_hier_links_1_l0, z_hier_links_1_l1, z_hier_links_1_l2, z_hier_links_1_l3, z_hier_ends_l0, z_hier_ends_l1, foldO, z_hier_shape, z_hier_weight, z_hier_plain, loopO_eq, G, gt]
/-- The comparison of arcs, of small numbers. -/
theorem g1_small {x y : Int × Int × Int} (hx : -4294967296 ≤ x.1 ∧ x.1 ≤ 4294967296 ∧ -4294967296 ≤ x.2.1 ∧ x.2.1 ≤ 4294967296) (hy : -4294967296 ≤ y.1 ∧ y.1 ≤ 4294967296 ∧ -4294967296 ≤ y.2.1 ∧ y.2.1 ≤ 4294967296) :
    z_hier_Graph_1 x.1 x.2.1 x.2.2 y.1 y.2.1 y.2.2 = some (if x.1 = y.1 then x.2.1 - y.2.1 else x.1 - y.1) := by
  unfold z_hier_Graph_1 G
  by_cases h : x.1 = y.1
  · rw [if_pos h, if_pos h, if_pos (by omega)]
  · rw [if_neg h, if_neg h, if_pos (by omega)]
/-- Arcs of small numbers, of which no two have the same ends. -/
theorem sort_small {l : List (Int × Int × Int)} (hs : ∀ x ∈ l, -4294967296 ≤ x.1 ∧ x.1 ≤ 4294967296 ∧ -4294967296 ≤ x.2.1 ∧ x.2.1 ≤ 4294967296) (hu : ∀ x ∈ l, ∀ y ∈ l, x.1 = y.1 → x.2.1 = y.2.1 → x = y) : SortOn (fun (a_ b_ : Int × Int × Int) => z_hier_Graph_1 a_.1 a_.2.1 a_.2.2 b_.1 b_.2.1 b_.2.2) l := by
  have e : ∀ x ∈ l, ∀ y ∈ l, (z_hier_Graph_1 x.1 x.2.1 x.2.2 y.1 y.2.1 y.2.2).getD 0 < 0 ↔ (x.1 < y.1 ∨ (x.1 = y.1 ∧ x.2.1 < y.2.1)) := fun x hx y hy => by
    rw [g1_small (hs x hx) (hs y hy)]
    by_cases h : x.1 = y.1
    · rw [if_pos h]; simp only [Option.getD_some]; omega
    · rw [if_neg h]; simp only [Option.getD_some]; omega
  refine ⟨fun x hx y hy => ⟨_, g1_small (hs x hx) (hs y hy)⟩, fun x hx => ?_, fun x hx y hy z hz => ?_, fun x hx y hy z hz => ?_, fun x hx y hy h1 h2 => ?_⟩
  · rw [e x hx x hx]; omega
  · rw [e x hx y hy, e y hy z hz, e x hx z hz]; omega
  · rw [e x hx y hy, e y hy z hz, e x hx z hz]; omega
  · rw [e x hx y hy] at h1
    rw [e y hy x hx] at h2
    exact hu x hx y hy (by omega) (by omega)
theorem t_sort : sortO (fun (a_ b_ : Int × Int × Int) => z_hier_Graph_1 a_.1 a_.2.1 a_.2.2 b_.1 b_.2.1 b_.2.2) [(1, 2, 1), (0, 1, 4)] = some [(0, 1, 4), (1, 2, 1)] := by
  have ok := sort_small (l := [(1, 2, 1), (0, 1, 4)]) (by simp) (by simp)
  rw [sortO_on ok]
  simp [sortL, List.mergeSort, List.MergeSort.Internal.splitInTwo, List.merge, z_hier_Graph_1, G]
theorem t_graph : z_hier_Graph tN tUF tU tDF tD = some (3, [(0, 1, 4), (1, 2, 1)], .nil) := by
  unfold z_hier_Graph
  rw [t_ends]
  simp [z_hier_Graph_l0, z_hier_plain, loopO_eq, G, gt, t_sort]
theorem t_awake : z_viaductlaw10_awake = some true := by
  unfold z_viaductlaw10_awake
  simp [t_three, t_graph, z_hier_Ends, z_hier_Check, t_ends, z_viaductref03_Same, z_viaductref03_SameArcs, z_viaductref03_SameArcs_l0, loopO_eq, G, gt]
end Go.Vd
