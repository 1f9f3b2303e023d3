/- Lists and places. Plain Lean: no program here. -/
import Derived.Test.YtmndpcokgbfgkaaPhs2
import Derived.Test.YtmndpcokgbfgkaaSo0
import Derived.Test.YtmndpcokgbfgkaaVdQ
import Derived.Test.YtmndpcokgbfgkaaIHs
set_option linter.unusedVariables false
set_option linter.unusedSimpArgs false
set_option linter.unusedSectionVars false
/-! (Mo0) -/

namespace Go.Vd
theorem take_gtE {E : Type} [Inhabited E] {l : List E} {i : Int} (h0 : 0 ≤ i) (h1 : i < (l.length : Int)) : l.take (i + 1).toNat = l.take i.toNat ++ [gt l i] := by
  have hi : i.toNat < l.length := by omega
  rw [show (i + 1).toNat = i.toNat + 1 from by omega, List.take_add_one, List.getElem?_eq_getElem hi]
  have : gt l i = l[i.toNat] := by simp [gt, List.getD_eq_getElem?_getD, hi]
  rw [this]; rfl
theorem gt_setE {E : Type} [Inhabited E] {l : List E} {i j : Int} {v : E} (i0 : 0 ≤ i) (i1 : i < (l.length : Int)) (j0 : 0 ≤ j) : gt (l.set i.toNat v) j = if j = i then v else gt l j := by
  unfold gt
  rw [List.getD_eq_getElem?_getD, List.getD_eq_getElem?_getD, List.getElem?_set]
  by_cases h : j = i
  · subst h; rw [if_pos rfl, if_pos rfl, if_pos (by omega)]; rfl
  · rw [if_neg h, if_neg (by omega)]
theorem list_gtE {E : Type} [Inhabited E] {l m : List E} (hl : l.length = m.length) (h : ∀ j : Int, 0 ≤ j → j < (l.length : Int) → gt l j = gt m j) : l = m := by
  refine List.ext_getElem hl fun j h1 h2 => ?_
  have := h (j : Int) (by omega) (by omega)
  rwa [gt_nat h1, gt_nat h2] at this
end Go.Vd

/-! (Gb) -/

set_option linter.unusedVariables false
set_option linter.unusedSimpArgs false
namespace Go.Vd
abbrev A3 := Int × Int × Int
theorem eq3 {x y : A3} (h1 : x.1 = y.1) (h2 : x.2.1 = y.2.1) (h3 : x.2.2 = y.2.2) : x = y := by
  obtain ⟨a, b, c⟩ := x; obtain ⟨a', b', c'⟩ := y
  simp only at h1 h2 h3
  subst h1; subst h2; subst h3; rfl

theorem mem_gtE {E : Type} [Inhabited E] {l : List E} {x : E} (h : x ∈ l) : ∃ i : Int, 0 ≤ i ∧ i < (l.length : Int) ∧ x = gt l i := by
  obtain ⟨i, hi, rfl⟩ := List.getElem_of_mem h
  exact ⟨i, by omega, by omega, (gt_nat hi).symm⟩

end Go.Vd

/-! (Sc) -/

set_option linter.unusedVariables false
set_option linter.unusedSimpArgs false
namespace Go.Vd
theorem same_nextE {E : Type} [Inhabited E] {l m : List E} {i : Int} (h : ∀ j : Int, 0 ≤ j → j < i → gt l j = gt m j) (k : gt l i = gt m i) : ∀ j : Int, 0 ≤ j → j < i + 1 → gt l j = gt m j := by
  intro j h0 h1
  by_cases e : j = i
  · rw [e]; exact k
  · exact h j h0 (by omega)
theorem same_neE {E : Type} [DecidableEq E] {l m : List E} (h : ¬ (l.length : Int) = (m.length : Int)) : decide (l = m) = false := by
  apply decide_eq_false; rintro rfl; exact h rfl
theorem same_atE {E : Type} [DecidableEq E] [Inhabited E] {l m : List E} {i : Int} (h : ¬ gt l i = gt m i) : decide (l = m) = false := by
  apply decide_eq_false; rintro rfl; exact h rfl
theorem same_allE {E : Type} [DecidableEq E] [Inhabited E] {l m : List E} {i : Int} (h : ∀ j : Int, 0 ≤ j → j < i → gt l j = gt m j) (hl : (l.length : Int) = m.length) (hi : (l.length : Int) ≤ i) : decide (l = m) = true :=
  decide_eq_true (list_gtE (by omega) fun j h0 h1 => h j h0 (by omega))
end Go.Vd

/-! (PrHS) -/

set_option linter.unusedVariables false
set_option linter.unusedSimpArgs false
namespace Go.Vd
abbrev A4 := Int × Int × Int × Int
theorem eq4 {x y : A4} : (x.1 = y.1 ∧ x.2.1 = y.2.1 ∧ x.2.2.1 = y.2.2.1 ∧ x.2.2.2 = y.2.2.2) ↔ x = y := by
  obtain ⟨a, b, c, d⟩ := x; obtain ⟨a', b', c', d'⟩ := y; simp

theorem p_EqW {a b : List Int} (ha : a.length ≤ 1000000000000000) : z_slices_Equal a b = some (decide (a = b)) := by
  refine T_eq.1 ?_
  unfold z_slices_Equal
  rw [T_ite]
  refine ⟨fun hl => ?_, fun hl => by simp only [T_some]; exact (same_neE hl).symm⟩
  refine T_binds (fun _ => a = b) ?_ fun _ h => by simp [h]
  refine T_loop (fun i => 0 ≤ i ∧ i ≤ (a.length : Int) ∧ ∀ j : Int, 0 ≤ j → j < i → gt a j = gt b j) (fun i => ((a.length : Int) - i).toNat) ?_ ⟨by simp, by simp, fun j j0 j1 => by omega⟩
  rintro i ⟨i0, i1, h⟩
  unfold z_slices_Equal_l0
  simp only [T_ite, T_G, T_map, T_some, Sum.elim_inl, Sum.elim_inr]
  refine ⟨fun hi => ⟨i0, by omega, fun e => ⟨by omega, ⟨by omega, by omega, same_nextE h e⟩, by omega⟩, fun e => (same_atE e).symm⟩, fun hi => of_decide_eq_true (same_allE h hl (by omega))⟩
theorem p_rEqW {a b : List Int} (ha : a.length ≤ 1000000000000000) : z_viaductref10_SameWords a b = some (decide (a = b)) := by
  refine T_eq.1 ?_
  unfold z_viaductref10_SameWords
  rw [T_ite]
  refine ⟨fun hl => ?_, fun hl => by simp only [T_some]; exact (same_neE hl).symm⟩
  refine T_binds (fun _ => a = b) ?_ fun _ h => by simp [h]
  refine T_loop (fun i => 0 ≤ i ∧ i ≤ (a.length : Int) ∧ ∀ j : Int, 0 ≤ j → j < i → gt a j = gt b j) (fun i => ((a.length : Int) - i).toNat) ?_ ⟨by simp, by simp, fun j j0 j1 => by omega⟩
  rintro i ⟨i0, i1, h⟩
  unfold z_viaductref10_SameWords_l0
  simp only [T_ite, T_G, T_map, T_some, Sum.elim_inl, Sum.elim_inr]
  refine ⟨fun hi => ⟨i0, by omega, fun e => ⟨by omega, ⟨by omega, by omega, same_nextE h e⟩, by omega⟩, fun e => (same_atE e).symm⟩, fun hi => of_decide_eq_true (same_allE h hl (by omega))⟩
theorem p_EqL {a b : List A4} (ha : a.length ≤ 1000000000000000) : z_slices_Equal_1 a b = some (decide (a = b)) := by
  refine T_eq.1 ?_
  unfold z_slices_Equal_1
  rw [T_ite]
  refine ⟨fun hl => ?_, fun hl => by simp only [T_some]; exact (same_neE hl).symm⟩
  refine T_binds (fun _ => a = b) ?_ fun _ h => by simp [h]
  refine T_loop (fun i => 0 ≤ i ∧ i ≤ (a.length : Int) ∧ ∀ j : Int, 0 ≤ j → j < i → gt a j = gt b j) (fun i => ((a.length : Int) - i).toNat) ?_ ⟨by simp, by simp, fun j j0 j1 => by omega⟩
  rintro i ⟨i0, i1, h⟩
  unfold z_slices_Equal_1_l0
  simp only [eq4, T_ite, T_G, T_map, T_some, Sum.elim_inl, Sum.elim_inr]
  refine ⟨fun hi => ⟨i0, by omega, fun e => ⟨by omega, ⟨by omega, by omega, same_nextE h e⟩, by omega⟩, fun e => (same_atE e).symm⟩, fun hi => of_decide_eq_true (same_allE h hl (by omega))⟩
theorem p_rEqL {a b : List A4} (ha : a.length ≤ 1000000000000000) : z_viaductref10_SameLinks a b = some (decide (a = b)) := by
  refine T_eq.1 ?_
  unfold z_viaductref10_SameLinks
  rw [T_ite]
  refine ⟨fun hl => ?_, fun hl => by simp only [T_some]; exact (same_neE hl).symm⟩
  refine T_binds (fun _ => a = b) ?_ fun _ h => by simp [h]
  refine T_loop (fun i => 0 ≤ i ∧ i ≤ (a.length : Int) ∧ ∀ j : Int, 0 ≤ j → j < i → gt a j = gt b j) (fun i => ((a.length : Int) - i).toNat) ?_ ⟨by simp, by simp, fun j j0 j1 => by omega⟩
  rintro i ⟨i0, i1, h⟩
  unfold z_viaductref10_SameLinks_l0
  simp only [eq4, T_ite, T_G, T_map, T_some, Sum.elim_inl, Sum.elim_inr]
  refine ⟨fun hi => ⟨i0, by omega, fun e => ⟨by omega, ⟨by omega, by omega, same_nextE h e⟩, by omega⟩, fun e => (same_atE e).symm⟩, fun hi => of_decide_eq_true (same_allE h hl (by omega))⟩
theorem p_Words {l : List Int} (h : l.length ≤ 35184372088000) : z_viaductref10_Words l = some l := by
  refine T_eq.1 ?_
  unfold z_viaductref10_Words
  rw [T_bind]
  refine T_loop (fun s => 0 ≤ s.2 ∧ s.2 ≤ (l.length : Int) ∧ s.1 = l.take s.2.toNat) (fun s => ((l.length : Int) - s.2).toNat) ?_ (by simp)
  rintro ⟨m, i⟩ ⟨h0, h1, h2⟩
  dsimp only at h0 h1 h2 ⊢
  subst h2
  simp only [z_viaductref10_Words_l0, T_ite, T_G, T_some, Sum.elim_inl, Sum.elim_inr, List.length_take]
  refine ⟨fun hi => ?_, fun hi => List.take_of_length_le (by omega)⟩
  and_intros <;> first | omega | exact (take_gtE h0 hi).symm
theorem p_Links {l : List A4} (h : l.length ≤ 5864062014700) : z_viaductref10_Links l = some l := by
  refine T_eq.1 ?_
  unfold z_viaductref10_Links
  rw [T_bind]
  refine T_loop (fun s => 0 ≤ s.2 ∧ s.2 ≤ (l.length : Int) ∧ s.1 = l.take s.2.toNat) (fun s => ((l.length : Int) - s.2).toNat) ?_ (by simp)
  rintro ⟨m, i⟩ ⟨h0, h1, h2⟩
  dsimp only at h0 h1 h2 ⊢
  subst h2
  simp only [z_viaductref10_Links_l0, T_ite, T_G, T_some, Sum.elim_inl, Sum.elim_inr, List.length_take]
  refine ⟨fun hi => ?_, fun hi => List.take_of_length_le (by omega)⟩
  and_intros <;> first | omega | exact (take_gtE h0 hi).symm
end Go.Vd

/-! (PrHierSames) -/

set_option linter.unusedVariables false
set_option linter.unusedSimpArgs false
namespace Go.Vd
variable {N UF DF N' UF' DF' : List Int} {U D U' D' : List A4}
theorem p_hSame (h1 : N.length ≤ 1000000000000000) (h2 : UF.length ≤ 1000000000000000) (h3 : U.length ≤ 1000000000000000) (h4 : DF.length ≤ 1000000000000000) (h5 : D.length ≤ 1000000000000000) :
    z_hier_Same N UF U DF D N' UF' U' DF' D' = some (decide (N = N' ∧ UF = UF' ∧ U = U' ∧ DF = DF' ∧ D = D')) := by
  unfold z_hier_Same
  rw [p_EqW h1, p_EqW h2, p_EqL h3, p_EqW h4, p_EqL h5]
  by_cases a1 : N = N' <;> by_cases a2 : UF = UF' <;> by_cases a3 : U = U' <;> by_cases a4 : DF = DF' <;> by_cases a5 : D = D' <;> simp [a1, a2, a3, a4, a5]
theorem p_rSame (h1 : N.length ≤ 1000000000000000) (h2 : UF.length ≤ 1000000000000000) (h3 : U.length ≤ 1000000000000000) (h4 : DF.length ≤ 1000000000000000) (h5 : D.length ≤ 1000000000000000) :
    z_viaductref10_Same N UF U DF D N' UF' U' DF' D' = some (decide (N = N' ∧ UF = UF' ∧ U = U' ∧ DF = DF' ∧ D = D')) := by
  unfold z_viaductref10_Same
  rw [p_rEqW h1, p_rEqW h2, p_rEqL h3, p_rEqW h4, p_rEqL h5]
  by_cases a1 : N = N' <;> by_cases a2 : UF = UF' <;> by_cases a3 : U = U' <;> by_cases a4 : DF = DF' <;> by_cases a5 : D = D' <;> simp [a1, a2, a3, a4, a5]
theorem p_rTwin (h1 : N.length ≤ 35184372088000) (h2 : UF.length ≤ 35184372088000) (h3 : U.length ≤ 5864062014700) (h4 : DF.length ≤ 35184372088000) (h5 : D.length ≤ 5864062014700) :
    z_viaductref10_Twin N UF U DF D = some (N, UF, U, DF, D) := by
  unfold z_viaductref10_Twin
  simp [p_Words h1, p_Words h2, p_Links h3, p_Words h4, p_Links h5]
theorem p_HierSames (h1 : N.length ≤ 35184372088000) (h2 : UF.length ≤ 35184372088000) (h3 : U.length ≤ 5864062014700) (h4 : DF.length ≤ 35184372088000) (h5 : D.length ≤ 5864062014700)
    (h1' : N'.length ≤ 35184372088000) (h2' : UF'.length ≤ 35184372088000) (h3' : U'.length ≤ 5864062014700) (h4' : DF'.length ≤ 35184372088000) (h5' : D'.length ≤ 5864062014700) :
    z_viaductlaw10_HierSames N UF U DF D N' UF' U' DF' D' = some true := by
  unfold z_viaductlaw10_HierSames
  rw [t_awake, p_rTwin h1' h2' h3' h4' h5', p_hSame (by omega) (by omega) (by omega) (by omega) (by omega), p_rSame (by omega) (by omega) (by omega) (by omega) (by omega), p_hSame (by omega) (by omega) (by omega) (by omega) (by omega), p_hSame (by omega) (by omega) (by omega) (by omega) (by omega)]
  simp only [Option.bind_some, Bool.not_true, Bool.false_eq_true, if_false, if_true, decide_true, and_self]
  rw [p_hSame (by omega) (by omega) (by omega) (by omega) (by omega)]
  have e : decide (N' = N ∧ UF' = UF ∧ U' = U ∧ DF' = DF ∧ D' = D) = decide (N = N' ∧ UF = UF' ∧ U = U' ∧ DF = DF' ∧ D = D') := decide_eq_decide.2 ⟨fun ⟨a, b, c, d, e⟩ => ⟨a.symm, b.symm, c.symm, d.symm, e.symm⟩, fun ⟨a, b, c, d, e⟩ => ⟨a.symm, b.symm, c.symm, d.symm, e.symm⟩⟩
  rw [if_pos e]
  simp
end Go.Vd
