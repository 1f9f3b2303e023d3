/- Several elements at once into a slice of slices; an append to a slice that lies in a slice. -/
import Derived.Test.YtnepbkkdhalbiaaPwgVeN
import Derived.Test.YtnepbkkdhalbiaaPwgVeK
set_option linter.unusedVariables false
set_option linter.unusedSimpArgs false
namespace Go.Vd
set_option linter.unusedSectionVars false
variable [Pins]
section
variable {P : Program} {H H' : AH} {E : Type} {C : CR E} {s : Value} {xs zs : List E} {W fp g : Fp}
structure News (C : CR E) (H : AH) (zs : List E) (css : List (List Value)) (g : Fp) : Prop where
 len : css.length = zs.length
 lt : Lt H g
 is : ∃ G : Nat → Fp, ∀ (i : Nat) (x : E) (cs : List Value), zs[i]? = some x → css[i]? = some cs → C.rel H x cs (G i) ∧ (∀ t ∈ G i, t ∈ g) ∧ ∀ j, j < zs.length → j ≠ i → Dj (G i) (G j)
theorem News.nil : News C H [] [] [] := ⟨rfl, .nil, fun _ => [], fun i x cs h => by simp at h⟩
theorem News.cons {x : E} {cs : List Value} {css : List (List Value)} {f : Fp} (hx : C.rel H x cs f) (h : News C H zs css g) (hd : Dj f g) : News C H (x :: zs) (cs :: css) (f ++ g) := by
 obtain ⟨a, b, G, c⟩ := h
 refine ⟨by simp [a], (C.lt hx).app b, fun i => match i with | 0 => f | i + 1 => G i, fun i y ds hy hds => ?_⟩
 cases i with
 | zero =>
  simp only [List.getElem?_cons_zero, Option.some.injEq] at hy hds
  subst hy; subst hds
  refine ⟨hx, fun t ht => List.mem_append_left _ ht, fun j hj hne => ?_⟩
  cases j with
  | zero => exact absurd rfl hne
  | succ j =>
   have hj' : j < zs.length := by simpa using hj
   exact hd.sub ((c j zs[j] (css[j]'(by omega)) (List.getElem?_eq_getElem hj') (List.getElem?_eq_getElem (by omega))).2.1)
 | succ i =>
  simp only [List.getElem?_cons_succ] at hy hds
  obtain ⟨q1, q2, q3⟩ := c i y ds hy hds
  refine ⟨q1, fun t ht => List.mem_append_right _ (q2 t ht), fun j hj hne => ?_⟩
  cases j with
  | zero => exact (hd.sub q2).symm
  | succ j => exact q3 j (by simpa using hj) (fun e => hne (by rw [e]))
theorem News.os {css : List (List Value)} (h : News C H zs css g) : ∀ x ∈ css, allOne (id x) = true := by
 obtain ⟨a, b, G, c⟩ := h
 intro x hx
 obtain ⟨i, hi⟩ := List.mem_iff_getElem?.1 hx
 have hlt := (List.getElem?_eq_some_iff.1 hi).1
 exact C.one (c i zs[i] x (List.getElem?_eq_getElem (by omega)) hi).1
end
end Go.Vd
