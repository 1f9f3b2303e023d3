/- What the walk of WalkLoops asks of the law. -/
import Derived.Test.YtbjamignglibpaaDoorLwSimple3
namespace Go.Vd

theorem sl_pos (l : List Int) : (l.length : Int) = 0 ∨ 0 < ((simple l).length : Int) := by
  by_cases h : l = []
  · left; simp [h]
  · right
    have : simple l ≠ [] := fun e => h (simple_nil e)
    have := List.length_pos_iff.2 this
    omega
theorem sl_first (l : List Int) : (l.length : Int) = 0 ∨ gt (simple l) 0 = gt l 0 := by
  cases l with
  | nil => left; rfl
  | cons x l => right; rw [gt_first (a := x) (by rw [simple_head]; rfl), gt_first (a := x) rfl]
theorem sl_last (l : List Int) : (l.length : Int) = 0 ∨ gt (simple l) (((simple l).length : Int) - 1) = gt l ((l.length : Int) - 1) := by
  by_cases h : l = []
  · left; simp [h]
  · right
    have : l.getLast? = some (l.getLast h) := List.getLast?_eq_some_getLast h
    rw [gt_last this, gt_last (by rw [simple_last]; exact this)]
theorem dup_absurd {s : List Int} (hd : s.Nodup) {i j : Int} (j0 : 0 ≤ j) (j1 : j < i) (i1 : i < (s.length : Int)) (h : gt ((s.take i.toNat).drop 0) j = gt s i) : False := by
  rw [List.drop_zero, gt_tk j0 (by omega)] at h
  obtain ⟨a, rfl⟩ : ∃ a : Nat, j = a := ⟨j.toNat, by omega⟩
  obtain ⟨b, rfl⟩ : ∃ b : Nat, i = b := ⟨i.toNat, by omega⟩
  rw [gt_nat (by omega), gt_nat (by omega)] at h
  have := (List.getElem_inj hd).1 h
  omega
theorem near_next {l s : List Int} {i j : Int} (h : 0 < i ∧ ∀ k : Int, 1 ≤ k → k < j → ¬ (gt l (k - 1) = gt s (i - 1) ∧ gt l k = gt s i)) (hn : ¬ (gt l (j - 1) = gt s (i - 1) ∧ gt l j = gt s i)) :
    0 < i ∧ ∀ k : Int, 1 ≤ k → k < j + 1 → ¬ (gt l (k - 1) = gt s (i - 1) ∧ gt l k = gt s i) := by
  refine ⟨h.1, fun k k0 k1 => ?_⟩
  by_cases e : k = j
  · subst e; exact hn
  · exact h.2 k k0 (by omega)
theorem near_absurd {l : List Int} {i j : Int} (h : 0 < i ∧ ∀ k : Int, 1 ≤ k → k < j → ¬ (gt l (k - 1) = gt (simple l) (i - 1) ∧ gt l k = gt (simple l) i)) (hi : i < ((simple l).length : Int)) (hj : ¬ j < (l.length : Int)) : False := by
  obtain ⟨k, k0, k1, k2, k3⟩ := near_simple h.1 hi
  exact h.2 k k0 (by omega) ⟨k2, k3⟩

end Go.Vd
