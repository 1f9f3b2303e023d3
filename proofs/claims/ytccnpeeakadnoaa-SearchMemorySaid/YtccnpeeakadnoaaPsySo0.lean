/- Sorting, as a plain function. No program here. -/
import Derived.Test.YtccnpeeakadnoaaPsyVpA
namespace Go.Vd
structure SortOk {E : Type} (c : E → E → Option Int) : Prop where
 ans : ∀ x y, ∃ r, c x y = some r
 irr : ∀ x, ¬ (c x x).getD 0 < 0
 trn : ∀ x y z, (c x y).getD 0 < 0 → (c y z).getD 0 < 0 → (c x z).getD 0 < 0
 ntr : ∀ x y z, ¬ (c x y).getD 0 < 0 → ¬ (c y z).getD 0 < 0 → ¬ (c x z).getD 0 < 0
 tot : ∀ x y, ¬ (c x y).getD 0 < 0 → ¬ (c y x).getD 0 < 0 → x = y
structure SortOn {E : Type} (c : E → E → Option Int) (l : List E) : Prop where
 ans : ∀ x ∈ l, ∀ y ∈ l, ∃ r, c x y = some r
 irr : ∀ x ∈ l, ¬ (c x x).getD 0 < 0
 trn : ∀ x ∈ l, ∀ y ∈ l, ∀ z ∈ l, (c x y).getD 0 < 0 → (c y z).getD 0 < 0 → (c x z).getD 0 < 0
 ntr : ∀ x ∈ l, ∀ y ∈ l, ∀ z ∈ l, ¬ (c x y).getD 0 < 0 → ¬ (c y z).getD 0 < 0 → ¬ (c x z).getD 0 < 0
 tot : ∀ x ∈ l, ∀ y ∈ l, ¬ (c x y).getD 0 < 0 → ¬ (c y x).getD 0 < 0 → x = y
theorem SortOk.on {E : Type} {c : E → E → Option Int} (h : SortOk c) (l : List E) : SortOn c l :=
 ⟨fun x _ y _ => h.ans x y, fun x _ => h.irr x, fun x _ y _ z _ => h.trn x y z, fun x _ y _ z _ => h.ntr x y z, fun x _ y _ => h.tot x y⟩
theorem SortOn.sub {E : Type} {c : E → E → Option Int} {l : List E} (h : SortOn c l) : SortOk fun (x y : {x // x ∈ l}) => c x.1 y.1 :=
 ⟨fun x y => h.ans x.1 x.2 y.1 y.2, fun x => h.irr x.1 x.2, fun x y z => h.trn x.1 x.2 y.1 y.2 z.1 z.2, fun x y z => h.ntr x.1 x.2 y.1 y.2 z.1 z.2, fun x y a b => Subtype.ext (h.tot x.1 x.2 y.1 y.2 a b)⟩
end Go.Vd
