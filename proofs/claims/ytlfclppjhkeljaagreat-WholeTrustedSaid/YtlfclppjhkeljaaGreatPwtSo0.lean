/- Sorting, as a plain function. No program here. -/
import Derived.Test.YtlfclppjhkeljaaGreatPwtVpA
namespace Go.Vd
structure SortOk {E : Type} (c : E → E → Option Int) : Prop where
 ans : ∀ x y, ∃ r, c x y = some r
 irr : ∀ x, ¬ (c x x).getD 0 < 0
 trn : ∀ x y z, (c x y).getD 0 < 0 → (c y z).getD 0 < 0 → (c x z).getD 0 < 0
 ntr : ∀ x y z, ¬ (c x y).getD 0 < 0 → ¬ (c y z).getD 0 < 0 → ¬ (c x z).getD 0 < 0
 tot : ∀ x y, ¬ (c x y).getD 0 < 0 → ¬ (c y x).getD 0 < 0 → x = y
structure SortOn {E : Type} (c : E → E → Option Int) (l : List E) : Prop where
 ans : ∀ x ∈ l, ∀ y ∈ l, ∃ r, c x y = some r
 irr : ∀ x ∈ l, ¬ (c x x).getD 0 < 0
 trn : ∀ x ∈ l, ∀ y ∈ l, ∀ z ∈ l, (c x y).getD 0 < 0 → (c y z).getD 0 < 0 → (c x z).getD 0 < 0
 ntr : ∀ x ∈ l, ∀ y ∈ l, ∀ z ∈ l, ¬ (c x y).getD 0 < 0 → ¬ (c y z).getD 0 < 0 → ¬ (c x z).getD 0 < 0
 tot : ∀ x ∈ l, ∀ y ∈ l, ¬ (c x y).getD 0 < 0 → ¬ (c y x).getD 0 < 0 → x = y
end Go.Vd
