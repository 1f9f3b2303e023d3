/- Sorting, as a plain function. No program here. -/
import Derived.Test.YtmcecdjpconioaaGreatDoorPscVpA
namespace Go.Vd
structure SortOk {E : Type} (c : E → E → Option Int) : Prop where
 ans : ∀ x y, ∃ r, c x y = some r
 irr : ∀ x, ¬ (c x x).getD 0 < 0
 trn : ∀ x y z, (c x y).getD 0 < 0 → (c y z).getD 0 < 0 → (c x z).getD 0 < 0
 ntr : ∀ x y z, ¬ (c x y).getD 0 < 0 → ¬ (c y z).getD 0 < 0 → ¬ (c x z).getD 0 < 0
 tot : ∀ x y, ¬ (c x y).getD 0 < 0 → ¬ (c y x).getD 0 < 0 → x = y
def Zaq {E : Type} (c : E → E → Option Int) (xs : List E) : List E := xs.mergeSort fun x y => !decide ((c y x).getD 0 < 0)
structure SortOn {E : Type} (c : E → E → Option Int) (l : List E) : Prop where
 ans : ∀ x ∈ l, ∀ y ∈ l, ∃ r, c x y = some r
 irr : ∀ x ∈ l, ¬ (c x x).getD 0 < 0
 trn : ∀ x ∈ l, ∀ y ∈ l, ∀ z ∈ l, (c x y).getD 0 < 0 → (c y z).getD 0 < 0 → (c x z).getD 0 < 0
 ntr : ∀ x ∈ l, ∀ y ∈ l, ∀ z ∈ l, ¬ (c x y).getD 0 < 0 → ¬ (c y z).getD 0 < 0 → ¬ (c x z).getD 0 < 0
 tot : ∀ x ∈ l, ∀ y ∈ l, ¬ (c x y).getD 0 < 0 → ¬ (c y x).getD 0 < 0 → x = y
theorem SortOk.on {E : Type} {c : E → E → Option Int} (h : SortOk c) (l : List E) : SortOn c l :=
 ⟨fun x _ y _ => h.ans x y, fun x _ => h.irr x, fun x _ y _ z _ => h.trn x y z, fun x _ y _ z _ => h.ntr x y z, fun x _ y _ => h.tot x y⟩
theorem SortOn.sub {E : Type} {c : E → E → Option Int} {l : List E} (h : SortOn c l) : SortOk fun (x y : {x // x ∈ l}) => c x.1 y.1 :=
 ⟨fun x y => h.ans x.1 x.2 y.1 y.2, fun x => h.irr x.1 x.2, fun x y z => h.trn x.1 x.2 y.1 y.2 z.1 z.2, fun x y z => h.ntr x.1 x.2 y.1 y.2 z.1 z.2, fun x y a b => Subtype.ext (h.tot x.1 x.2 y.1 y.2 a b)⟩
open Classical in
noncomputable def Zfi {E : Type} (c : E → E → Option Int) (xs : List E) : Option (List E) := if SortOn c xs then some (Zaq c xs) else none
theorem ZkC {E : Type} {c : E → E → Option Int} {xs ys : List E} (h : Zfi c xs = some ys) : SortOn c xs ∧ ys = Zaq c xs := by
 unfold Zfi at h
 split at h
 ·cases h; exact ⟨by assumption, rfl⟩
 ·cases h
theorem Zmt {E : Type} {c : E → E → Option Int} {xs : List E} (h : SortOn c xs) : Zfi c xs = some (Zaq c xs) := by
 unfold Zfi; rw [if_pos h]
theorem Zmp {E : Type} {c : E → E → Option Int} (h : SortOk c) (xs : List E) : Zfi c xs = some (Zaq c xs) := Zmt (h.on xs)
theorem Zi9 {E : Type} {c : E → E → Option Int} {xs : List E} : (Zaq (fun (x y : {x // x ∈ xs}) => c x.1 y.1) xs.attach).map Subtype.val = Zaq c xs := by
 unfold Zaq
 rw [List.map_mergeSort (s := fun x y => !decide ((c y x).getD 0 < 0)) (fun a _ b _ => rfl), List.attach_map_subtype_val]
theorem ZhO {E : Type} (c : E → E → Option Int) (xs : List E) : (Zaq c xs).Perm xs := List.mergeSort_perm _ _
theorem Zjq {E : Type} {c : E → E → Option Int} (h : SortOk c) (xs : List E) : (Zaq c xs).Pairwise fun x y => ¬ (c y x).getD 0 < 0 := by
 have := List.pairwise_mergeSort (le := fun x y => !decide ((c y x).getD 0 < 0)) (fun a b d h1 h2 => by
  simp only [Bool.not_eq_true', decide_eq_false_iff_not] at *
  exact h.ntr _ _ _ h2 h1) (fun a b => by
  simp only [Bool.or_eq_true, Bool.not_eq_true', decide_eq_false_iff_not]
  by_cases k : (c b a).getD 0 < 0
  ·exact .inr fun k2 => h.irr _ (h.trn _ _ _ k k2)
  ·exact .inl k) xs
 exact this.imp fun h => by simpa using h
end Go.Vd
