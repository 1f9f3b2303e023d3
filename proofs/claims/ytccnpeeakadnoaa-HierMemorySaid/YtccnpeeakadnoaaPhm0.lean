/- Plain law: what a list without its loops is. No program here. -/
import Derived.Test.YtccnpeeakadnoaaPhmVpB
import Derived.Test.YtccnpeeakadnoaaPhmIHm
set_option linter.unusedVariables false
set_option linter.unusedSimpArgs false
set_option linter.unusedSectionVars false
/-! (LwSimple) -/

namespace Go.Vd
end Go.Vd

/-! (LwSimple2) -/

set_option linter.unusedVariables false
namespace Go.Vd
variable {fi to wt : List Int}
theorem WSum.inv {l : List Int} {k s : Int} (h : WSum fi to wt l k s) : (k = 0 ∧ s = 0) ∨ ∃ s' x, 0 ≤ k - 1 ∧ WSum fi to wt l (k - 1) s' ∧ Arcw fi to wt (gt l (k - 1)) (gt l k) x ∧ s = s' + x := by
 cases h with
 | zero => exact .inl ⟨rfl, rfl⟩
 | step k s x h0 h1 h2 =>
  refine .inr ⟨s, x, by omega, ?_, ?_, rfl⟩
  ·rw [show k + 1 - 1 = k from by omega]; exact h1
  ·rw [show k + 1 - 1 = k from by omega]; exact h2
theorem WSum.congr {l l' : List Int} {k s : Int} (h : WSum fi to wt l k s) (he : ∀ j : Int, 0 ≤ j → j ≤ k → gt l j = gt l' j) : WSum fi to wt l' k s := by
 induction h with
 | zero => exact .zero
 | step k s x h0 h1 h2 ih =>
  refine .step k s x h0 (ih fun j j0 j1 => he j j0 (by omega)) ?_
  rw [← he k h0 (by omega), ← he (k + 1) (by omega) (by omega)]; exact h2
theorem Arcw.uniq (hc : Chk fi to wt .nil) {v w x y : Int} (h : Arcw fi to wt v w x) (k : Arcw fi to wt v w y) : x = y := by
 obtain ⟨i, hI, hi, rfl⟩ := h
 obtain ⟨j, hJ, hj, rfl⟩ := k
 have key : ∀ {i j : Int}, In fi v i → In fi v j → gt to i = w → gt to j = w → ¬ i < j := by
  intro i j hI hJ hi hj hlt
  have hR := hc.riseSub hI.1 hI.2.1
  obtain ⟨a1, a2, a3, a4⟩ := hc.shp
  have hM := hc.mon
  have b1 := hM.le (u := 0) (w := v) (by omega) (by have := hI.1; omega) (by have := hI.2.1; omega)
  have b2 := hM.le (u := v + 1) (w := (fi.length : Int) - 1) (by have := hI.1; omega) (by have := hI.2.1; omega) (by omega)
  have b0 := hM v hI.1 hI.2.1
  obtain ⟨c1, c2, c3, c4⟩ := hI
  obtain ⟨d1, d2, d3, d4⟩ := hJ
  have hl := len_sub (l := to) (p := gt fi v) (r := gt fi (v + 1)) (by omega) (by omega) (by omega)
  have := hR.lt (i := i - gt fi v) (j := j - gt fi v) (by omega) (by omega) (by omega)
  rw [gt_sub (by omega) (by omega) (by omega) (by omega) (by omega), gt_sub (by omega) (by omega) (by omega) (by omega) (by omega)] at this
  rw [show gt fi v + (i - gt fi v) = i from by omega, show gt fi v + (j - gt fi v) = j from by omega] at this
  omega
 have h1 := key hI hJ hi hj
 have h2 := key hJ hI hj hi
 rw [show i = j from by omega]
theorem WSum.uniq (hc : Chk fi to wt .nil) {l : List Int} {k s t : Int} (h : WSum fi to wt l k s) : WSum fi to wt l k t → s = t := by
 induction h generalizing t with
 | zero =>
  intro h
  rcases h.inv with ⟨_, h⟩ | ⟨_, _, h, _⟩
  ·exact h.symm
  ·omega
 | step k s x h0 h1 h2 ih =>
  intro h
  rcases h.inv with ⟨h, _⟩ | ⟨s', x', _, g1, g2, rfl⟩
  ·omega
  ·rw [show k + 1 - 1 = k from by omega] at g1 g2
   rw [ih g1, Arcw.uniq hc h2 g2]
end Go.Vd

/-! (PrEa) -/

set_option linter.unusedVariables false
set_option linter.unusedSimpArgs false
namespace Go.Vd
variable {F T' W l : List Int}
theorem p_E (n : Int) : z_viaductref01_E n = some n := rfl
theorem p_Bad {c : Int} {ps : List (Int × Int)} : z_viaductref01_Err_Bad c ps = some (decide (c ≠ 0 ∨ ps ≠ [])) := by
 unfold z_viaductref01_Err_Bad
 by_cases h : c = 0
 ·rw [if_pos h]; subst h
  by_cases hp : 0 < (ps.length : Int)
  ·rw [bad_t (.inr hp), decide_eq_true (by omega)]
  ·rw [bad_f ⟨rfl, hp⟩, decide_eq_false (by omega)]
 ·rw [if_neg h, bad_t (.inl h)]
end Go.Vd

/-! (PrEb) -/

set_option linter.unusedVariables false
set_option linter.unusedSimpArgs false
namespace Go.Vd
variable {F T' W l : List Int}
theorem p_At {k i c : Int} {ps : List (Int × Int)} (h : ps.length ≤ 8796093021951) : z_viaductref01_At k i c ps = some (c, (k, i) :: ps) := by
 unfold z_viaductref01_At G
 rw [if_pos (by simp; omega)]; rfl
end Go.Vd

/-! (PrAw10) -/

set_option linter.unusedVariables false
set_option linter.unusedSimpArgs false
set_option maxRecDepth 100000
set_option maxHeartbeats 4000000
namespace Go.Vd
abbrev tN : List Int := [1, 0, 2]
abbrev tUF : List Int := [0, 1, 2, 2]
abbrev tU : List (Int × Int × Int × Int) := [(2, 1, 4294967295, 4294967295), (2, 5, 2, 0)]
abbrev tDF : List Int := [0, 1, 1, 1]
abbrev tD : List (Int × Int × Int × Int) := [(1, 4, 4294967295, 4294967295)]
abbrev tAll : List (Int × Int × Int × Int × Int × Int × Int) := [(2, 1, 4294967295, 4294967295, 0, 2, 0), (2, 5, 2, 0, 1, 2, 1), (1, 4, 4294967295, 4294967295, 1, 0, 0)]
theorem t_three : z_viaductref10_Three = some (tN, tUF, tU, tDF, tD) := by
 unfold z_viaductref10_Three; rfl
theorem t_f1 : z_hier_firsts tUF 2 = some .nil := by
 simp [z_hier_firsts, z_hier_firsts_l0, loopO_eq, G, gt]
theorem t_f2 : z_hier_firsts tDF 1 = some .nil := by
 simp [z_hier_firsts, z_hier_firsts_l0, loopO_eq, G, gt]
theorem t_o : z_hier_order tN = some .nil := by
 simp [z_hier_order, z_hier_order_l0, loopO_eq, G, gt]
theorem t_ends : z_hier_ends tN tUF tU tDF tD = some (tAll, .nil) := by
 unfold z_hier_ends
 simp [t_f1, t_f2, t_o, z_hier_links, z_hier_links_1, z_hier_links_1_l0, z_hier_links_1_l1, z_hier_links_1_l2, z_hier_links_1_l3, z_hier_ends_l0, z_hier_ends_l1, foldO, z_hier_shape, z_hier_weight, z_hier_plain, loopO_eq, G, gt]
theorem g1_small {x y : Int × Int × Int} (hx : -4294967296 ≤ x.1 ∧ x.1 ≤ 4294967296 ∧ -4294967296 ≤ x.2.1 ∧ x.2.1 ≤ 4294967296) (hy : -4294967296 ≤ y.1 ∧ y.1 ≤ 4294967296 ∧ -4294967296 ≤ y.2.1 ∧ y.2.1 ≤ 4294967296) :
  z_hier_Graph_1 x.1 x.2.1 x.2.2 y.1 y.2.1 y.2.2 = some (if x.1 = y.1 then x.2.1 - y.2.1 else x.1 - y.1) := by
 unfold z_hier_Graph_1 G
 by_cases h : x.1 = y.1
 ·rw [if_pos h, if_pos h, if_pos (by omega)]
 ·rw [if_neg h, if_neg h, if_pos (by omega)]
theorem sort_small {l : List (Int × Int × Int)} (hs : ∀ x ∈ l, -4294967296 ≤ x.1 ∧ x.1 ≤ 4294967296 ∧ -4294967296 ≤ x.2.1 ∧ x.2.1 ≤ 4294967296) (hu : ∀ x ∈ l, ∀ y ∈ l, x.1 = y.1 → x.2.1 = y.2.1 → x = y) : SortOn (fun (a_ b_ : Int × Int × Int) => z_hier_Graph_1 a_.1 a_.2.1 a_.2.2 b_.1 b_.2.1 b_.2.2) l := by
 have e : ∀ x ∈ l, ∀ y ∈ l, (z_hier_Graph_1 x.1 x.2.1 x.2.2 y.1 y.2.1 y.2.2).getD 0 < 0 ↔ (x.1 < y.1 ∨ (x.1 = y.1 ∧ x.2.1 < y.2.1)) := fun x hx y hy => by
  rw [g1_small (hs x hx) (hs y hy)]
  by_cases h : x.1 = y.1
  ·rw [if_pos h]; simp only [Option.getD_some]; omega
  ·rw [if_neg h]; simp only [Option.getD_some]; omega
 refine ⟨fun x hx y hy => ⟨_, g1_small (hs x hx) (hs y hy)⟩, fun x hx => ?_, fun x hx y hy z hz => ?_, fun x hx y hy z hz => ?_, fun x hx y hy h1 h2 => ?_⟩
 ·rw [e x hx x hx]; omega
 ·rw [e x hx y hy, e y hy z hz, e x hx z hz]; omega
 ·rw [e x hx y hy, e y hy z hz, e x hx z hz]; omega
 ·rw [e x hx y hy] at h1
  rw [e y hy x hx] at h2
  exact hu x hx y hy (by omega) (by omega)
theorem t_sort : sortO (fun (a_ b_ : Int × Int × Int) => z_hier_Graph_1 a_.1 a_.2.1 a_.2.2 b_.1 b_.2.1 b_.2.2) [(1, 2, 1), (0, 1, 4)] = some [(0, 1, 4), (1, 2, 1)] := by
 have ok := sort_small (l := [(1, 2, 1), (0, 1, 4)]) (by simp) (by simp)
 rw [sortO_on ok]
 simp [sortL, List.mergeSort, List.MergeSort.Internal.splitInTwo, List.merge, z_hier_Graph_1, G]
theorem t_graph : z_hier_Graph tN tUF tU tDF tD = some (3, [(0, 1, 4), (1, 2, 1)], .nil) := by
 unfold z_hier_Graph
 rw [t_ends]
 simp [z_hier_Graph_l0, z_hier_plain, loopO_eq, G, gt, t_sort]
theorem t_awake : z_viaductlaw10_awake = some true := by
 unfold z_viaductlaw10_awake
 simp [t_three, t_graph, z_hier_Ends, z_hier_Check, t_ends, z_viaductref03_Same, z_viaductref03_SameArcs, z_viaductref03_SameArcs_l0, loopO_eq, G, gt]
end Go.Vd

/-! (PrSg) -/

set_option linter.unusedVariables false
set_option linter.unusedSimpArgs false
namespace Go.Vd
def Er.good : Er → Prop
 | .nil => True
 | .no n => n ≠ 0
 | .at _ _ e => e ≠ .nil ∧ e.good
end Go.Vd

/-! (PrSi) -/

set_option linter.unusedVariables false
set_option linter.unusedSimpArgs false
namespace Go.Vd
theorem p_SameInts {a b : List Int} (h : a.length ≤ 1152921504606846976) : z_viaductref02_SameInts a b = some (decide (a = b)) := by
 refine T_eq.1 ?_
 unfold z_viaductref02_SameInts
 simp only [T_ite, T_bind, T_some]
 refine ⟨fun hl => ?_, fun hl => (same_ne hl).symm⟩
 refine T_loop (fun i => 0 ≤ i ∧ i ≤ (a.length : Int) ∧ ∀ j : Int, 0 ≤ j → j < i → gt a j = gt b j) (fun i => ((a.length : Int) - i).toNat) ?_ ⟨by omega, by omega, fun j _ _ => by omega⟩
 rintro i ⟨h0, h1, h2⟩
 simp only [z_viaductref02_SameInts_l0, T_ite, T_G, T_some, T_map, Sum.elim_inl, Sum.elim_inr]
 refine ⟨fun hi => ⟨h0, by omega, fun he => ⟨by omega, ⟨by omega, by omega, same_next h2 he⟩, by omega⟩, fun he => (same_at he h0 hi).symm⟩, fun hi => (same_all h2 hl (by omega)).symm⟩
end Go.Vd
