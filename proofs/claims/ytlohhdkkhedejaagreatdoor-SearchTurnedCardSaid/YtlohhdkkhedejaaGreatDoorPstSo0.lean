/- Sorting, as a plain function. No program here. -/
import Derived.Test.YtlohhdkkhedejaaGreatDoorPstVpA
namespace Go.Vd
structure SortOk {E : Type} (c : E → E → Option Int) : Prop where
 ans : ∀ x y, ∃ r, c x y = some r
 irr : ∀ x, ¬ (c x x).getD 0 < 0
 trn : ∀ x y z, (c x y).getD 0 < 0 → (c y z).getD 0 < 0 → (c x z).getD 0 < 0
 ntr : ∀ x y z, ¬ (c x y).getD 0 < 0 → ¬ (c y z).getD 0 < 0 → ¬ (c x z).getD 0 < 0
 tot : ∀ x y, ¬ (c x y).getD 0 < 0 → ¬ (c y x).getD 0 < 0 → x = y
def sortL {E : Type} (c : E → E → Option Int) (xs : List E) : List E := xs.mergeSort fun x y => !decide ((c y x).getD 0 < 0)
open Classical in
noncomputable def sortO {E : Type} (c : E → E → Option Int) (xs : List E) : Option (List E) := if SortOk c then some (sortL c xs) else none
theorem sortO_some {E : Type} {c : E → E → Option Int} {xs ys : List E} (h : sortO c xs = some ys) : SortOk c ∧ ys = sortL c xs := by
 unfold sortO at h
 split at h
 ·cases h; exact ⟨by assumption, rfl⟩
 ·cases h
theorem sortO_ok {E : Type} {c : E → E → Option Int} (h : SortOk c) (xs : List E) : sortO c xs = some (sortL c xs) := by
 unfold sortO; rw [if_pos h]
theorem sortL_perm {E : Type} (c : E → E → Option Int) (xs : List E) : (sortL c xs).Perm xs := List.mergeSort_perm _ _
theorem sortL_sorted {E : Type} {c : E → E → Option Int} (h : SortOk c) (xs : List E) : (sortL c xs).Pairwise fun x y => ¬ (c y x).getD 0 < 0 := by
 have := List.pairwise_mergeSort (le := fun x y => !decide ((c y x).getD 0 < 0)) (fun a b d h1 h2 => by
  simp only [Bool.not_eq_true', decide_eq_false_iff_not] at *
  exact h.ntr _ _ _ h2 h1) (fun a b => by
  simp only [Bool.or_eq_true, Bool.not_eq_true', decide_eq_false_iff_not]
  by_cases k : (c b a).getD 0 < 0
  ·exact .inr fun k2 => h.irr _ (h.trn _ _ _ k k2)
  ·exact .inl k) xs
 exact this.imp fun h => by simpa using h
end Go.Vd
