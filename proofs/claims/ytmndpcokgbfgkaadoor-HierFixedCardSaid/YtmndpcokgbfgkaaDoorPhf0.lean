/- The chapter's example, reckoned out. Plain Lean: no program here. -/
import Derived.Test.YtmndpcokgbfgkaaDoorIHf
import Derived.Test.YtmndpcokgbfgkaaDoorVpB
set_option linter.unusedVariables false
set_option linter.unusedSimpArgs false
set_option linter.unusedSectionVars false
/-! (PrAw10) -/

set_option linter.unusedVariables false
set_option linter.unusedSimpArgs false
set_option maxRecDepth 100000
set_option maxHeartbeats 4000000
namespace Go.Vd
abbrev tN : List Int := [1, 0, 2]
abbrev tUF : List Int := [0, 1, 2, 2]
abbrev tU : List (Int × Int × Int × Int) := [(2, 1, 4294967295, 4294967295), (2, 5, 2, 0)]
abbrev tDF : List Int := [0, 1, 1, 1]
abbrev tD : List (Int × Int × Int × Int) := [(1, 4, 4294967295, 4294967295)]
abbrev tAll : List (Int × Int × Int × Int × Int × Int × Int) := [(2, 1, 4294967295, 4294967295, 0, 2, 0), (2, 5, 2, 0, 1, 2, 1), (1, 4, 4294967295, 4294967295, 1, 0, 0)]
theorem t_three : z_viaductref10_Three = some (tN, tUF, tU, tDF, tD) := by
  unfold z_viaductref10_Three; rfl
theorem t_f1 : z_hier_firsts tUF 2 = some .nil := by
  simp [z_hier_firsts, z_hier_firsts_l0, loopO_eq, G, gt]
theorem t_f2 : z_hier_firsts tDF 1 = some .nil := by
  simp [z_hier_firsts, z_hier_firsts_l0, loopO_eq, G, gt]
theorem t_o : z_hier_order tN = some .nil := by
  simp [z_hier_order, z_hier_order_l0, loopO_eq, G, gt]
theorem t_ends : z_hier_ends tN tUF tU tDF tD = some (tAll, .nil) := by
  unfold z_hier_ends
  simp [t_f1, t_f2, t_o, z_hier_links, z_hier_links_1, z_hier_links_1_l0, z_hier_links_1_l1, z_hier_links_1_l2, z_hier_links_1_l3, z_hier_ends_l0, z_hier_ends_l1, foldO, z_hier_shape, z_hier_weight, z_hier_plain, loopO_eq, G, gt]
/-- The comparison of arcs, of small numbers. -/
theorem g1_small {x y : Int × Int × Int} (hx : -4294967296 ≤ x.1 ∧ x.1 ≤ 4294967296 ∧ -4294967296 ≤ x.2.1 ∧ x.2.1 ≤ 4294967296) (hy : -4294967296 ≤ y.1 ∧ y.1 ≤ 4294967296 ∧ -4294967296 ≤ y.2.1 ∧ y.2.1 ≤ 4294967296) :
    z_hier_Graph_1 x.1 x.2.1 x.2.2 y.1 y.2.1 y.2.2 = some (if x.1 = y.1 then x.2.1 - y.2.1 else x.1 - y.1) := by
  unfold z_hier_Graph_1 G
  by_cases h : x.1 = y.1
  · rw [if_pos h, if_pos h, if_pos (by omega)]
  · rw [if_neg h, if_neg h, if_pos (by omega)]
/-- Arcs of small numbers, of which no two have the same ends. -/
theorem sort_small {l : List (Int × Int × Int)} (hs : ∀ x ∈ l, -4294967296 ≤ x.1 ∧ x.1 ≤ 4294967296 ∧ -4294967296 ≤ x.2.1 ∧ x.2.1 ≤ 4294967296) (hu : ∀ x ∈ l, ∀ y ∈ l, x.1 = y.1 → x.2.1 = y.2.1 → x = y) : SortOn (fun (a_ b_ : Int × Int × Int) => z_hier_Graph_1 a_.1 a_.2.1 a_.2.2 b_.1 b_.2.1 b_.2.2) l := by
  have e : ∀ x ∈ l, ∀ y ∈ l, (z_hier_Graph_1 x.1 x.2.1 x.2.2 y.1 y.2.1 y.2.2).getD 0 < 0 ↔ (x.1 < y.1 ∨ (x.1 = y.1 ∧ x.2.1 < y.2.1)) := fun x hx y hy => by
    rw [g1_small (hs x hx) (hs y hy)]
    by_cases h : x.1 = y.1
    · rw [if_pos h]; simp only [Option.getD_some]; omega
    · rw [if_neg h]; simp only [Option.getD_some]; omega
  refine ⟨fun x hx y hy => ⟨_, g1_small (hs x hx) (hs y hy)⟩, fun x hx => ?_, fun x hx y hy z hz => ?_, fun x hx y hy z hz => ?_, fun x hx y hy h1 h2 => ?_⟩
  · rw [e x hx x hx]; omega
  · rw [e x hx y hy, e y hy z hz, e x hx z hz]; omega
  · rw [e x hx y hy, e y hy z hz, e x hx z hz]; omega
  · rw [e x hx y hy] at h1
    rw [e y hy x hx] at h2
    exact hu x hx y hy (by omega) (by omega)
theorem t_sort : sortO (fun (a_ b_ : Int × Int × Int) => z_hier_Graph_1 a_.1 a_.2.1 a_.2.2 b_.1 b_.2.1 b_.2.2) [(1, 2, 1), (0, 1, 4)] = some [(0, 1, 4), (1, 2, 1)] := by
  have ok := sort_small (l := [(1, 2, 1), (0, 1, 4)]) (by simp) (by simp)
  rw [sortO_on ok]
  simp [sortL, List.mergeSort, List.MergeSort.Internal.splitInTwo, List.merge, z_hier_Graph_1, G]
theorem t_graph : z_hier_Graph tN tUF tU tDF tD = some (3, [(0, 1, 4), (1, 2, 1)], .nil) := by
  unfold z_hier_Graph
  rw [t_ends]
  simp [z_hier_Graph_l0, z_hier_plain, loopO_eq, G, gt, t_sort]
theorem t_awake : z_viaductlaw10_awake = some true := by
  unfold z_viaductlaw10_awake
  simp [t_three, t_graph, z_hier_Ends, z_hier_Check, t_ends, z_viaductref03_Same, z_viaductref03_SameArcs, z_viaductref03_SameArcs_l0, loopO_eq, G, gt]
end Go.Vd

/-! (PrSame) -/

set_option linter.unusedVariables false
set_option linter.unusedSimpArgs false
namespace Go.Vd

/-- An error that bears a number, not 0; or none. -/
def Er.good : Er → Prop
  | .nil => True
  | .no n => n ≠ 0
  | .at _ _ e => e ≠ .nil ∧ e.good
theorem Er.good.num {e : Er} (h : e.good) (hn : e ≠ .nil) : e.num = some e.code ∧ e.code ≠ 0 := by
  induction e with
  | nil => exact absurd rfl hn
  | no n => exact ⟨rfl, h⟩
  | «at» k i e ih => exact ih h.2 h.1

theorem p_Bad' {c : Int} {ps : List (Int × Int)} : z_viaductref01_Err_Bad c ps = some (decide (c ≠ 0 ∨ ps ≠ [])) := by
  unfold z_viaductref01_Err_Bad
  by_cases h : c = 0
  · rw [if_pos h]; subst h
    by_cases hp : 0 < (ps.length : Int)
    · rw [bad_t (.inr hp), decide_eq_true (by omega)]
    · rw [bad_f ⟨rfl, hp⟩, decide_eq_false (by omega)]
  · rw [if_neg h, bad_t (.inl h)]

theorem p_SameT {er : Er} (hg : er.good) (hl : er.pls.length ≤ 17592186044160) : z_viaductseen_Same er er.code er.pls = some true := by
  refine T_eq.1 ?_
  unfold z_viaductseen_Same
  rw [p_Bad', Option.bind_some]
  by_cases hn : er = .nil
  · subst hn; simp [Er.code, Er.pls]
  obtain ⟨h1, h2⟩ := hg.num hn
  rw [decide_eq_true (Or.inl h2), if_neg (by decide), if_neg hn]
  refine T_binds (fun e => e ≠ .nil ∧ e.pls = []) ?_ fun e ⟨e0, e1⟩ => ?_
  · refine T_loop (fun s => 0 ≤ s.1 ∧ s.1 ≤ (er.pls.length : Int) ∧ s.2.good ∧ s.2 ≠ .nil ∧ s.2.pls = er.pls.drop s.1.toNat) (fun s => ((er.pls.length : Int) - s.1).toNat) ?_ ⟨by simp, by simp, hg, hn, by simp⟩
    rintro ⟨i, e⟩ ⟨i0, i1, g, gn, hp⟩
    dsimp only at *
    unfold z_viaductseen_Same_l0
    rw [T_ite]
    refine ⟨fun hi => ?_, fun hi => ?_⟩
    · rw [List.drop_eq_getElem_cons (i := i.toNat) (by omega)] at hp
      cases e with
      | nil => exact absurd rfl gn
      | no n => simp [Er.pls] at hp; omega
      | «at» k j e =>
        simp only [Er.pls, List.cons.injEq] at hp
        obtain ⟨q1, q2⟩ := hp
        have hgt : gt er.pls i = (k, j) := by
          have hq : gt er.pls ((i.toNat : Nat) : Int) = er.pls[i.toNat] := gt_nat (by omega)
          rw [q1, ← hq]; congr 1; omega
        rw [T_G, if_pos (show (Er.at k j e).isAt = true from rfl), hgt, if_pos (show (Er.at k j e).fk = (k, j).1 ∧ (Er.at k j e).fi = (k, j).2 from ⟨rfl, rfl⟩), T_G, T_some, Sum.elim_inl]
        refine ⟨i0, by omega, ⟨by dsimp only; omega, by dsimp only; omega, g.2, g.1, ?_⟩, by dsimp only; omega⟩
        dsimp only [Er.fe]
        rw [show (i + 1).toNat = i.toNat + 1 from by omega]; exact q2
    · simp only [T_some, Sum.elim_inr]
      exact ⟨gn, by rw [hp, List.drop_of_length_le (by omega)]⟩
  · have hat : ¬ e.isAt = true := by
      cases e with
      | nil => exact absurd rfl e0
      | no n => simp [Er.isAt]
      | «at» k i e => simp [Er.pls] at e1
    rw [if_neg hat, h1]
    simp only [Option.isSome_some, if_true, Option.getD_some, decide_true, Bool.not_true, Option.bind_some, Bool.false_eq_true, if_false]
    refine T_binds (fun _ => True) ?_ fun _ _ => by simp
    refine T_loop (fun i => 1 ≤ i ∧ i ≤ 21) (fun i => (21 - i).toNat) ?_ ⟨by omega, by omega⟩
    rintro i ⟨i0, i1⟩
    unfold z_viaductseen_Same_l1
    have hq : (decide (er.num = some i)) = (decide (i = er.code)) := by
      rw [h1]; congr 1; simp [eq_comm]
    simp only [T_ite, T_G, T_some, T_map, Sum.elim_inl, Sum.elim_inr]
    exact ⟨fun h => ⟨fun _ => ⟨by omega, ⟨by omega, by omega⟩, by omega⟩, fun h => absurd hq h⟩, fun _ => trivial⟩

end Go.Vd

/-! (PrHierFixed) -/

set_option linter.unusedVariables false
set_option linter.unusedSimpArgs false
set_option maxRecDepth 100000
set_option maxHeartbeats 4000000
namespace Go.Vd
variable {N UF DF : List Int} {U D : List (Int × Int × Int × Int)}
theorem h_bad {er : Er} {l : List (Int × Int × Int × Int × Int × Int × Int)} (h : z_hier_ends N UF U DF D = some (l, er)) (hg : er.good) (hl : er.pls.length ≤ 17592186044160) : z_viaductlaw10_bad er.code er.pls N UF U DF D = some true := by
  unfold z_viaductlaw10_bad z_hier_Check
  rw [h]
  simp [p_SameT hg hl]
theorem h_a : z_hier_ends [1, 0, 2] [0, 1, 2, 2] [(2, 1, 4294967295, 4294967295), (2, 6, 2, 0)] [0, 1, 1, 1] [(1, 4, 4294967295, 4294967295)] = some ([], .at 4 1 (.no 8)) := by
  unfold z_hier_ends
  simp [z_hier_firsts, z_hier_firsts_l0, z_hier_order, z_hier_order_l0, z_hier_links, z_hier_links_1, z_hier_links_1_l0, z_hier_links_1_l1, z_hier_links_1_l2, z_hier_links_1_l3, z_hier_ends_l0, z_hier_ends_l1, foldO, z_hier_shape, z_hier_weight, z_hier_plain, z_fault_At, loopO_eq, G, gt]
theorem hb_a : z_viaductlaw10_bad 8 [(4, 1)] [1, 0, 2] [0, 1, 2, 2] [(2, 1, 4294967295, 4294967295), (2, 6, 2, 0)] [0, 1, 1, 1] [(1, 4, 4294967295, 4294967295)] = some true := h_bad h_a (by simp [Er.good]) (by simp [Er.pls])
theorem h_b : z_hier_ends [1, 0, 2] [0, 1, 2, 2] [(2, 1, 4294967295, 4294967295), (2, 5, 0, 0)] [0, 1, 1, 1] [(1, 4, 4294967295, 4294967295)] = some ([], .at 4 1 (.no 14)) := by
  unfold z_hier_ends
  simp [z_hier_firsts, z_hier_firsts_l0, z_hier_order, z_hier_order_l0, z_hier_links, z_hier_links_1, z_hier_links_1_l0, z_hier_links_1_l1, z_hier_links_1_l2, z_hier_links_1_l3, z_hier_ends_l0, z_hier_ends_l1, foldO, z_hier_shape, z_hier_weight, z_hier_plain, z_fault_At, loopO_eq, G, gt]
theorem hb_b : z_viaductlaw10_bad 14 [(4, 1)] [1, 0, 2] [0, 1, 2, 2] [(2, 1, 4294967295, 4294967295), (2, 5, 0, 0)] [0, 1, 1, 1] [(1, 4, 4294967295, 4294967295)] = some true := h_bad h_b (by simp [Er.good]) (by simp [Er.pls])
theorem h_c : z_hier_ends [1, 0, 2] [0, 1, 2, 2] [(2, 1, 4294967295, 4294967295), (1, 5, 2, 0)] [0, 1, 1, 1] [(1, 4, 4294967295, 4294967295)] = some ([], .at 4 1 (.no 14)) := by
  unfold z_hier_ends
  simp [z_hier_firsts, z_hier_firsts_l0, z_hier_order, z_hier_order_l0, z_hier_links, z_hier_links_1, z_hier_links_1_l0, z_hier_links_1_l1, z_hier_links_1_l2, z_hier_links_1_l3, z_hier_ends_l0, z_hier_ends_l1, foldO, z_hier_shape, z_hier_weight, z_hier_plain, z_fault_At, loopO_eq, G, gt]
theorem hb_c : z_viaductlaw10_bad 14 [(4, 1)] [1, 0, 2] [0, 1, 2, 2] [(2, 1, 4294967295, 4294967295), (1, 5, 2, 0)] [0, 1, 1, 1] [(1, 4, 4294967295, 4294967295)] = some true := h_bad h_c (by simp [Er.good]) (by simp [Er.pls])
theorem h_d : z_hier_ends [1, 0, 1] [0, 1, 2, 2] [(2, 1, 4294967295, 4294967295), (2, 5, 2, 0)] [0, 1, 1, 1] [(1, 4, 4294967295, 4294967295)] = some ([], .at 3 2 (.no 20)) := by
  unfold z_hier_ends
  simp [z_hier_firsts, z_hier_firsts_l0, z_hier_order, z_hier_order_l0, z_hier_links, z_hier_links_1, z_hier_links_1_l0, z_hier_links_1_l1, z_hier_links_1_l2, z_hier_links_1_l3, z_hier_ends_l0, z_hier_ends_l1, foldO, z_hier_shape, z_hier_weight, z_hier_plain, z_fault_At, loopO_eq, G, gt]
theorem hb_d : z_viaductlaw10_bad 20 [(3, 2)] [1, 0, 1] [0, 1, 2, 2] [(2, 1, 4294967295, 4294967295), (2, 5, 2, 0)] [0, 1, 1, 1] [(1, 4, 4294967295, 4294967295)] = some true := h_bad h_d (by simp [Er.good]) (by simp [Er.pls])
theorem h_f : z_hier_ends [1, 0, 2] [0, 1, 2] [(2, 1, 4294967295, 4294967295), (2, 5, 2, 0)] [0, 1, 1, 1] [(1, 4, 4294967295, 4294967295)] = some ([], .no 14) := by
  unfold z_hier_ends
  simp [z_hier_firsts, z_hier_firsts_l0, z_hier_order, z_hier_order_l0, z_hier_links, z_hier_links_1, z_hier_links_1_l0, z_hier_links_1_l1, z_hier_links_1_l2, z_hier_links_1_l3, z_hier_ends_l0, z_hier_ends_l1, foldO, z_hier_shape, z_hier_weight, z_hier_plain, z_fault_At, loopO_eq, G, gt]
theorem hb_f : z_viaductlaw10_bad 14 [] [1, 0, 2] [0, 1, 2] [(2, 1, 4294967295, 4294967295), (2, 5, 2, 0)] [0, 1, 1, 1] [(1, 4, 4294967295, 4294967295)] = some true := h_bad h_f (by simp [Er.good]) (by simp [Er.pls])
theorem h_g : z_hier_ends [1, 0, 2] [0, 1, 2, 2] [(2, 1, 4294967295, 4294967295), (2, 5, 4294967295, 0)] [0, 1, 1, 1] [(1, 4, 4294967295, 4294967295)] = some ([], .at 4 1 (.no 14)) := by
  unfold z_hier_ends
  simp [z_hier_firsts, z_hier_firsts_l0, z_hier_order, z_hier_order_l0, z_hier_links, z_hier_links_1, z_hier_links_1_l0, z_hier_links_1_l1, z_hier_links_1_l2, z_hier_links_1_l3, z_hier_ends_l0, z_hier_ends_l1, foldO, z_hier_shape, z_hier_weight, z_hier_plain, z_fault_At, loopO_eq, G, gt]
theorem hb_g : z_viaductlaw10_bad 14 [(4, 1)] [1, 0, 2] [0, 1, 2, 2] [(2, 1, 4294967295, 4294967295), (2, 5, 4294967295, 0)] [0, 1, 1, 1] [(1, 4, 4294967295, 4294967295)] = some true := h_bad h_g (by simp [Er.good]) (by simp [Er.pls])
theorem h_i : z_hier_ends [1, 0, 2] [0, 1, 2, 2] [(2, 2147483648, 4294967295, 4294967295), (2, 5, 2, 0)] [0, 1, 1, 1] [(1, 4, 4294967295, 4294967295)] = some ([], .at 4 0 (.no 8)) := by
  unfold z_hier_ends
  simp [z_hier_firsts, z_hier_firsts_l0, z_hier_order, z_hier_order_l0, z_hier_links, z_hier_links_1, z_hier_links_1_l0, z_hier_links_1_l1, z_hier_links_1_l2, z_hier_links_1_l3, z_hier_ends_l0, z_hier_ends_l1, foldO, z_hier_shape, z_hier_weight, z_hier_plain, z_fault_At, loopO_eq, G, gt]
theorem hb_i : z_viaductlaw10_bad 8 [(4, 0)] [1, 0, 2] [0, 1, 2, 2] [(2, 2147483648, 4294967295, 4294967295), (2, 5, 2, 0)] [0, 1, 1, 1] [(1, 4, 4294967295, 4294967295)] = some true := h_bad h_i (by simp [Er.good]) (by simp [Er.pls])
theorem h_j : z_hier_ends [1, 0, 2] [0, 3, 2, 2] [(2, 1, 4294967295, 4294967295), (2, 5, 2, 0)] [0, 1, 1, 1] [(1, 4, 4294967295, 4294967295)] = some ([], .at 3 1 (.no 14)) := by
  unfold z_hier_ends
  simp [z_hier_firsts, z_hier_firsts_l0, z_hier_order, z_hier_order_l0, z_hier_links, z_hier_links_1, z_hier_links_1_l0, z_hier_links_1_l1, z_hier_links_1_l2, z_hier_links_1_l3, z_hier_ends_l0, z_hier_ends_l1, foldO, z_hier_shape, z_hier_weight, z_hier_plain, z_fault_At, loopO_eq, G, gt]
theorem hb_j : z_viaductlaw10_bad 14 [(3, 1)] [1, 0, 2] [0, 3, 2, 2] [(2, 1, 4294967295, 4294967295), (2, 5, 2, 0)] [0, 1, 1, 1] [(1, 4, 4294967295, 4294967295)] = some true := h_bad h_j (by simp [Er.good]) (by simp [Er.pls])
theorem h_k : z_hier_ends [1, 0, 2] [0, 1, 2, 2] [(2, 1, 4294967295, 4294967295), (2, 5, 2, 0)] [1, 1, 1, 1] [(1, 4, 4294967295, 4294967295)] = some ([], .no 14) := by
  unfold z_hier_ends
  simp [z_hier_firsts, z_hier_firsts_l0, z_hier_order, z_hier_order_l0, z_hier_links, z_hier_links_1, z_hier_links_1_l0, z_hier_links_1_l1, z_hier_links_1_l2, z_hier_links_1_l3, z_hier_ends_l0, z_hier_ends_l1, foldO, z_hier_shape, z_hier_weight, z_hier_plain, z_fault_At, loopO_eq, G, gt]
theorem hb_k : z_viaductlaw10_bad 14 [] [1, 0, 2] [0, 1, 2, 2] [(2, 1, 4294967295, 4294967295), (2, 5, 2, 0)] [1, 1, 1, 1] [(1, 4, 4294967295, 4294967295)] = some true := h_bad h_k (by simp [Er.good]) (by simp [Er.pls])
theorem h_e : z_hier_ends [] [] [] [] [] = some ([], .no 14) := by
  unfold z_hier_ends
  simp [z_hier_firsts, z_hier_firsts_l0, z_hier_order, z_hier_order_l0, z_hier_links, z_hier_links_1, z_hier_links_1_l0, z_hier_links_1_l1, z_hier_links_1_l2, z_hier_links_1_l3, z_hier_ends_l0, z_hier_ends_l1, foldO, z_hier_shape, z_hier_weight, z_hier_plain, z_fault_At, loopO_eq, G, gt]
theorem hb_e : z_viaductlaw10_bad 14 [] [] [] [] [] [] = some true := h_bad h_e (by simp [Er.good]) (by simp [Er.pls])
theorem h_none : z_hier_ends [] [0] [] [0] [] = some ([], .nil) := by
  unfold z_hier_ends
  simp [z_hier_firsts, z_hier_firsts_l0, z_hier_order, z_hier_order_l0, z_hier_links, z_hier_links_1, z_hier_links_1_l0, z_hier_links_1_l1, z_hier_links_1_l2, z_hier_links_1_l3, z_hier_ends_l0, z_hier_ends_l1, foldO, z_hier_shape, z_hier_weight, z_hier_plain, z_fault_At, loopO_eq, G, gt]
theorem h_l1 {l : List Int} (h : l.length = 65537) : z_viaductlaw10_bad 9 [] l [] [] [] [] = some true := by
  refine h_bad (er := .no 9) (l := []) ?_ (by simp [Er.good]) (by simp [Er.pls])
  unfold z_hier_ends
  rw [if_pos (by omega)]; rfl
theorem h_l2 {u d : List (Int × Int × Int × Int)} (hu : u.length = 524288) (hd : d.length = 524289) : z_viaductlaw10_bad 9 [] [] [] u [] d = some true := by
  refine h_bad (er := .no 9) (l := []) ?_ (by simp [Er.good]) (by simp [Er.pls])
  unfold z_hier_ends
  rw [hu, hd]
  simp [G]
theorem h_l3 {u d : List (Int × Int × Int × Int)} (hu : u.length = 524288) (hd : d.length = 524288) : z_viaductlaw10_bad 14 [] [] [] u [] d = some true := by
  refine h_bad (er := .no 14) (l := []) ?_ (by simp [Er.good]) (by simp [Er.pls])
  unfold z_hier_ends
  rw [hu, hd]
  simp [G]
theorem h_ranks : z_hier_Ranks tN tUF tU tDF tD = some ([1, 0, 2], .nil) := by
  unfold z_hier_Ranks z_hier_Check
  rw [t_ends]
  simp [z_hier_Ranks_l0, loopO_eq, G, gt]
theorem h_turn : z_hier_Turn tN tUF tU tDF tD = some ([1, 0, 2], [0, 1, 1, 1], [(1, 4, 4294967295, 4294967295)], [0, 1, 2, 2], [(2, 1, 4294967295, 4294967295), (2, 5, 1, 0)], .nil) := by
  unfold z_hier_Turn z_hier_Check
  rw [t_ends]
  simp [z_slices_Clone, z_hier_Turn_2, z_hier_Turn_2_l0, z_hier_Turn_1, loopO_eq, G, gt]
theorem hs_no {n : Int} (h : n ≠ 0) : z_viaductseen_Same (.no n) n [] = some true := p_SameT (er := .no n) (by simpa [Er.good] using h) (by simp [Er.pls])
theorem hs_at {k i n : Int} (h : n ≠ 0) : z_viaductseen_Same (.at k i (.no n)) n [(k, i)] = some true := p_SameT (er := .at k i (.no n)) (by simpa [Er.good] using h) (by simp [Er.pls])
theorem h_at {k i c : Int} : z_viaductref01_At k i c [] = some (c, [(k, i)]) := by
  simp [z_viaductref01_At, G]
theorem h_r1 : (List.replicate (65537 : Int).toNat (0 : Int)).length = 65537 := by rw [List.length_replicate]; rfl
theorem h_r2 : (List.replicate (524288 : Int).toNat ((0, 0, 0, 0) : Int × Int × Int × Int)).length = 524288 := by rw [List.length_replicate]; rfl
theorem h_r3 : (List.replicate (524289 : Int).toNat ((0, 0, 0, 0) : Int × Int × Int × Int)).length = 524289 := by rw [List.length_replicate]; rfl
theorem h_q1 : z_viaductlaw10_bad 9 [] (List.replicate (65537 : Int).toNat (0 : Int)) [] [] [] [] = some true := h_l1 h_r1
theorem h_q2 : z_viaductlaw10_bad 9 [] [] [] (List.replicate (524288 : Int).toNat ((0, 0, 0, 0) : Int × Int × Int × Int)) [] (List.replicate (524289 : Int).toNat ((0, 0, 0, 0) : Int × Int × Int × Int)) = some true := h_l2 h_r2 h_r3
theorem h_q3 : z_viaductlaw10_bad 14 [] [] [] (List.replicate (524288 : Int).toNat ((0, 0, 0, 0) : Int × Int × Int × Int)) [] (List.replicate (524288 : Int).toNat ((0, 0, 0, 0) : Int × Int × Int × Int)) = some true := h_l3 h_r2 h_r2
theorem h_ends1 : z_hier_Ends tN tUF tU tDF tD 1 = some (1, 2, .nil) := by
  unfold z_hier_Ends
  rw [t_ends]
  simp [G, gt]
theorem h_ends3 : z_hier_Ends tN tUF tU tDF tD 3 = some (0, 0, .no 1) := by
  unfold z_hier_Ends
  rw [t_ends]
  simp
theorem h_endsm : z_hier_Ends tN tUF tU tDF tD (-1) = some (0, 0, .no 1) := by
  unfold z_hier_Ends
  rw [t_ends]
  simp
theorem h_endsa : z_hier_Ends tN tUF [(2, 1, 4294967295, 4294967295), (2, 6, 2, 0)] tDF tD (-1) = some (0, 0, .at 4 1 (.no 8)) := by
  unfold z_hier_Ends
  rw [h_a]
  simp
theorem h_si : z_viaductref02_SameInts [1, 0, 2] [1, 0, 2] = some true := by
  simp [z_viaductref02_SameInts, z_viaductref02_SameInts_l0, loopO_eq, G, gt]
theorem h_st : z_viaductref10_Same [1, 0, 2] [0, 1, 1, 1] [(1, 4, 4294967295, 4294967295)] [0, 1, 2, 2] [(2, 1, 4294967295, 4294967295), (2, 5, 1, 0)] [1, 0, 2] [0, 1, 1, 1] [(1, 4, 4294967295, 4294967295)] [0, 1, 2, 2] [(2, 1, 4294967295, 4294967295), (2, 5, 1, 0)] = some true := by
  simp [z_viaductref10_Same, z_viaductref10_SameWords, z_viaductref10_SameWords_l0, z_viaductref10_SameLinks, z_viaductref10_SameLinks_l0, loopO_eq, G, gt]
theorem hb_s {α β : Type} (a : α) (f : α → Option β) : (some a).bind f = f a := (Option.bind_some a f).trans (Eq.refl _)
theorem hE' (n : Int) : z_viaductref01_E n = some n := Eq.trans (b := some n) rfl (Eq.refl _)
set_option simprocs false in
theorem p_HierFixed : z_viaductlaw10_HierFixed = some true := by
  unfold z_viaductlaw10_HierFixed
  have q1 := h_q1
  have q2 := h_q2
  have q3 := h_q3
  rw [t_awake, t_three]
  simp only [Option.bind_some, if_true]
  have g1 : ∀ {α : Type} {l : List (Int × Int × Int × Int)} {x y : Int × Int × Int × Int} {z : Option α}, G ((1 : Int) < ((x :: y :: l).length : Int)) z = z := fun {α l x y z} => by unfold G; rw [if_pos (by simp; omega)]
  have g0 : ∀ {α : Type} {l : List (Int × Int × Int × Int)} {x : Int × Int × Int × Int} {z : Option α}, G ((0 : Int) < ((x :: l).length : Int)) z = z := fun {α l x z} => by unfold G; rw [if_pos (by simp)]
  have i2 : ∀ {α : Type} {z : Option α}, G ((2 : Int) < (tN.length : Int)) z = z := fun {α z} => by unfold G; rw [if_pos (by decide)]
  have i3 : ∀ {α : Type} {z : Option α}, G ((0 : Int) ≤ 3 ∧ (3 : Int) ≤ (tUF.length : Int)) z = z := fun {α z} => by unfold G; rw [if_pos (by decide)]
  have i6 : ∀ {α : Type} {z : Option α}, G ((0 : Nat) ≤ 3 ∧ (3 : Int) ≤ (tUF.length : Int)) z = z := fun {α z} => by unfold G; rw [if_pos (by decide)]
  have i4 : ∀ {α : Type} {z : Option α}, G ((1 : Int) < (tUF.length : Int)) z = z := fun {α z} => by unfold G; rw [if_pos (by decide)]
  have i5 : ∀ {α : Type} {z : Option α}, G ((0 : Int) < (tDF.length : Int)) z = z := fun {α z} => by unfold G; rw [if_pos (by decide)]
  have e1 : gt tU 1 = (2, 5, 2, 0) := by decide
  have e0 : gt tU 0 = (2, 1, 4294967295, 4294967295) := by decide
  have s1 : ∀ x, tU.set (1 : Int).toNat x = [(2, 1, 4294967295, 4294967295), x] := fun x => rfl
  have s0 : ∀ x, tU.set (0 : Int).toNat x = [x, (2, 5, 2, 0)] := fun x => rfl
  have s2 : tN.set (2 : Int).toNat 1 = [1, 0, 1] := rfl
  have s3 : tUF.take (3 : Int).toNat = [0, 1, 2] := rfl
  have s4 : tUF.set (1 : Int).toNat 3 = [0, 3, 2, 2] := rfl
  have s5 : tDF.set (0 : Int).toNat 1 = [1, 1, 1, 1] := rfl
  simp only [g1, g0, i2, i3, i6, i4, i5, e1, e0, s1, s0, s2, s3, s4, s5, hE', h_at, hb_s, hb_a, hb_b, hb_c, hb_d, hb_f, hb_g, hb_i, hb_j, hb_k, hb_e, q1, q2, q3, if_true, Bool.not_true, Bool.false_eq_true, if_false, z_hier_Check, h_none, h_ranks, h_turn, h_ends1, h_ends3, h_endsm, h_endsa, hs_no (n := 1) (by decide), hs_at (k := 4) (i := 1) (n := 8) (by decide), h_si, h_st]
end Go.Vd
