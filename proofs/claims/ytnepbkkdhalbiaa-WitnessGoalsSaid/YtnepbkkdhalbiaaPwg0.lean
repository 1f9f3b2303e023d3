/- Heaps as functions: index and order, swaps. Plain Lean: no program here. -/
import Derived.Test.YtnepbkkdhalbiaaPwgVpB
import Derived.Test.YtnepbkkdhalbiaaPwgIWg
import Derived.Test.YtnepbkkdhalbiaaPwgVeC
import Derived.Test.YtnepbkkdhalbiaaPwgVeL
import Derived.Test.YtnepbkkdhalbiaaPwgVeN
set_option linter.unusedVariables false
set_option linter.unusedSimpArgs false
set_option linter.unusedSectionVars false
/-! (Hp1) -/

set_option linter.unusedVariables false
set_option linter.unusedSimpArgs false
namespace Go.Vd
theorem gt_set {E : Type} [Inhabited E] {l : List E} {i j : Int} {v : E} (i0 : 0 ≤ i) (i1 : i < (l.length : Int)) (j0 : 0 ≤ j) : gt (l.set i.toNat v) j = if j = i then v else gt l j := by
 unfold gt
 rw [List.getD_eq_getElem?_getD, List.getD_eq_getElem?_getD, List.getElem?_set]
 by_cases h : j = i
 ·subst h; rw [if_pos rfl, if_pos (by omega), if_pos rfl]; rfl
 ·rw [if_neg (by omega), if_neg h]
def Less (a b : Int × Int) : Prop := a.1 < b.1 ∨ (a.1 = b.1 ∧ a.2 < b.2)
instance (a b : Int × Int) : Decidable (Less a b) := by unfold Less; exact inferInstance
theorem Less.irr {a b : Int × Int} (h : Less a b) : ¬ Less b a := by unfold Less at *; omega
theorem Less.trans {a b c : Int × Int} (h : Less a b) (k : Less b c) : Less a c := by unfold Less at *; omega
theorem nl_trans {a b c : Int × Int} (h : ¬ Less a b) (k : ¬ Less b c) : ¬ Less a c := by unfold Less at *; omega
theorem nl_mid {a b c : Int × Int} (h : ¬ Less a b) (k : Less c b) : ¬ Less a c := by unfold Less at *; omega
structure Ix (n L : Int) (h : Int → Int × Int) (a : Int → Int) : Prop where
 fwd : ∀ p, 0 ≤ p → p < L → 0 ≤ (h p).2 ∧ (h p).2 < n ∧ a (h p).2 = p + 1
 bwd : ∀ v, 0 ≤ v → v < n → 0 ≤ a v ∧ a v ≤ L ∧ (a v ≠ 0 → (h (a v - 1)).2 = v)
variable {n L : Int} {h h' : Int → Int × Int} {a a' : Int → Int}
theorem Ix.inj (I : Ix n L h a) {p q : Int} (p0 : 0 ≤ p) (p1 : p < L) (q0 : 0 ≤ q) (q1 : q < L) (e : (h p).2 = (h q).2) : p = q := by
 have h1 := (I.fwd p p0 p1).2.2; have h2 := (I.fwd q q0 q1).2.2
 rw [e] at h1; omega
def par4 (p : Int) : Int := (p - 1) / 4
def Ord4 (L : Int) (h : Int → Int × Int) : Prop := ∀ p, 1 ≤ p → p < L → ¬ Less (h p) (h (par4 p))
def Up4 (L : Int) (h : Int → Int × Int) (i : Int) : Prop :=
 (∀ p, 1 ≤ p → p < L → p ≠ i → ¬ Less (h p) (h (par4 p))) ∧ (1 ≤ i → ∀ c, 1 ≤ c → c < L → par4 c = i → ¬ Less (h c) (h (par4 i)))
def Down4 (L : Int) (h : Int → Int × Int) (i : Int) : Prop :=
 (∀ p, 1 ≤ p → p < L → par4 p ≠ i → ¬ Less (h p) (h (par4 p))) ∧ (1 ≤ i → ∀ c, 1 ≤ c → c < L → par4 c = i → ¬ Less (h c) (h (par4 i)))
theorem Up4.done {i : Int} (U : Up4 L h i) (k : i = 0 ∨ ¬ Less (h i) (h (par4 i))) : Ord4 L h := by
 intro p p0 p1
 by_cases e : p = i
 ·subst e; rcases k with k | k
  ·omega
  ·exact k
 ·exact U.1 p p0 p1 e
theorem Up4.step {i : Int} (U : Up4 L h i) (i0 : 1 ≤ i) (i1 : i < L) (k : Less (h i) (h (par4 i)))
  (eh : ∀ p, 0 ≤ p → p < L → h' p = if p = par4 i then h i else if p = i then h (par4 i) else h p) : Up4 L h' (par4 i) := by
 have hq : par4 i < i ∧ 0 ≤ par4 i := by unfold par4; omega
 have e1 : h' (par4 i) = h i := by rw [eh _ hq.2 (by omega), if_pos rfl]
 have e2 : h' i = h (par4 i) := by rw [eh _ (by omega) i1, if_neg (by omega), if_pos rfl]
 have e3 : ∀ p, 0 ≤ p → p < L → p ≠ par4 i → p ≠ i → h' p = h p := fun p p0 p1 h1 h2 => by rw [eh p p0 p1, if_neg h1, if_neg h2]
 have pl : ∀ p, 1 ≤ p → par4 p < p ∧ 0 ≤ par4 p := fun p hp => by unfold par4; omega
 refine ⟨fun p p0 p1 hp => ?_, fun q0 c c0 c1 hc => ?_⟩
 ·have := pl p p0
  by_cases hpi : p = i
  ·subst hpi; rw [e2, e1]; exact k.irr
  ·rw [e3 p (by omega) p1 hp hpi]
   by_cases h1 : par4 p = i
   ·rw [h1, e2]; exact U.2 i0 p p0 p1 h1
   ·by_cases h2 : par4 p = par4 i
    ·rw [h2, e1]
     have := U.1 p p0 p1 hpi
     rw [h2] at this
     exact nl_mid this k
    ·rw [e3 _ (by omega) (by omega) h2 h1]; exact U.1 p p0 p1 hpi
 ·have := pl (par4 i) q0
  have hc' := pl c c0
  have e4 : h' (par4 (par4 i)) = h (par4 (par4 i)) := e3 _ (by omega) (by omega) (by omega) (by omega)
  have hq2 := U.1 (par4 i) q0 (by omega) (by omega)
  rw [e4]
  by_cases hci : c = i
  ·subst hci; rw [e2]; exact hq2
  ·rw [e3 c (by omega) c1 (by omega) hci]
   have := U.1 c c0 c1 hci
   rw [hc] at this
   exact nl_trans this hq2
theorem Down4.done {i : Int} (D : Down4 L h i) (k : ∀ c, 1 ≤ c → c < L → par4 c = i → ¬ Less (h c) (h i)) : Ord4 L h := by
 intro p p0 p1
 by_cases e : par4 p = i
 ·rw [e]; exact k p p0 p1 e
 ·exact D.1 p p0 p1 e
theorem Down4.step {i b : Int} (D : Down4 L h i) (i0 : 0 ≤ i) (b0 : 1 ≤ b) (b1 : b < L) (hb : par4 b = i) (hm : ∀ c, 1 ≤ c → c < L → par4 c = i → ¬ Less (h c) (h b)) (k : Less (h b) (h i))
  (eh : ∀ p, 0 ≤ p → p < L → h' p = if p = b then h i else if p = i then h b else h p) : Down4 L h' b := by
 have pl : ∀ p, 1 ≤ p → par4 p < p ∧ 0 ≤ par4 p := fun p hp => by unfold par4; omega
 have hbi := pl b b0
 have e1 : h' b = h i := by rw [eh _ (by omega) b1, if_pos rfl]
 have e2 : h' i = h b := by rw [eh _ i0 (by omega), if_neg (by omega), if_pos rfl]
 have e3 : ∀ p, 0 ≤ p → p < L → p ≠ b → p ≠ i → h' p = h p := fun p p0 p1 h1 h2 => by rw [eh p p0 p1, if_neg h1, if_neg h2]
 refine ⟨fun p p0 p1 hp => ?_, fun q0 c c0 c1 hc => ?_⟩
 ·have := pl p p0
  by_cases hpb : p = b
  ·subst hpb; rw [e1, hb, e2]; exact k.irr
  ·by_cases h1 : par4 p = i
   ·rw [h1, e2, e3 p (by omega) p1 hpb (by omega)]; exact hm p p0 p1 h1
   ·by_cases hpi : p = i
    ·subst hpi
     rw [e2, e3 (par4 p) (by omega) (by omega) (by omega) (by omega)]
     exact D.2 p0 b b0 b1 hb
    ·rw [e3 p (by omega) p1 hpb hpi, e3 _ (by omega) (by omega) hp h1]; exact D.1 p p0 p1 h1
 ·have := pl c c0
  rw [hb, e2, e3 c (by omega) c1 (by omega) (by omega)]
  have := D.1 c c0 c1 (by omega)
  rwa [hc] at this
theorem Ord4.top (O : Ord4 L h) : ∀ p, 0 ≤ p → p < L → ¬ Less (h p) (h 0) := by
 intro p p0 p1
 generalize hk : p.toNat = k
 induction k using Nat.strongRecOn generalizing p with
 | _ k ih =>
  by_cases e : p = 0
  ·subst e; unfold Less; omega
  ·have hp : par4 p < p ∧ 0 ≤ par4 p := by unfold par4; omega
   exact nl_trans (O p (by omega) p1) (ih (par4 p).toNat (by omega) (par4 p) hp.2 (by omega) rfl)
end Go.Vd

/-! (Hb) -/

set_option linter.unusedVariables false
set_option linter.unusedSimpArgs false
namespace Go.Vd
variable {L : Int} {h h' : Int → Int × Int}
def par2 (p : Int) : Int := (p - 1) / 2
theorem tdiv2 {p : Int} (h : 0 < p) : Int.tdiv (p - 1) 2 = par2 p := by
 unfold par2; rw [Int.tdiv_eq_ediv_of_nonneg (by omega)]
def Ord2 (L : Int) (h : Int → Int × Int) : Prop := ∀ p, 1 ≤ p → p < L → ¬ Less (h p) (h (par2 p))
def Up2 (L : Int) (h : Int → Int × Int) (i : Int) : Prop :=
 (∀ p, 1 ≤ p → p < L → p ≠ i → ¬ Less (h p) (h (par2 p))) ∧ (1 ≤ i → ∀ c, 1 ≤ c → c < L → par2 c = i → ¬ Less (h c) (h (par2 i)))
def Down2 (L : Int) (h : Int → Int × Int) (i : Int) : Prop :=
 (∀ p, 1 ≤ p → p < L → par2 p ≠ i → ¬ Less (h p) (h (par2 p))) ∧ (1 ≤ i → ∀ c, 1 ≤ c → c < L → par2 c = i → ¬ Less (h c) (h (par2 i)))
theorem Up2.done {i : Int} (U : Up2 L h i) (k : i = 0 ∨ ¬ Less (h i) (h (par2 i))) : Ord2 L h := by
 intro p p0 p1
 by_cases e : p = i
 ·subst e; rcases k with k | k
  ·omega
  ·exact k
 ·exact U.1 p p0 p1 e
theorem Up2.step {i : Int} (U : Up2 L h i) (i0 : 1 ≤ i) (i1 : i < L) (k : Less (h i) (h (par2 i)))
  (eh : ∀ p, 0 ≤ p → p < L → h' p = if p = par2 i then h i else if p = i then h (par2 i) else h p) : Up2 L h' (par2 i) := by
 have hq : par2 i < i ∧ 0 ≤ par2 i := by unfold par2; omega
 have e1 : h' (par2 i) = h i := by rw [eh _ hq.2 (by omega), if_pos rfl]
 have e2 : h' i = h (par2 i) := by rw [eh _ (by omega) i1, if_neg (by omega), if_pos rfl]
 have e3 : ∀ p, 0 ≤ p → p < L → p ≠ par2 i → p ≠ i → h' p = h p := fun p p0 p1 h1 h2 => by rw [eh p p0 p1, if_neg h1, if_neg h2]
 have pl : ∀ p, 1 ≤ p → par2 p < p ∧ 0 ≤ par2 p := fun p hp => by unfold par2; omega
 refine ⟨fun p p0 p1 hp => ?_, fun q0 c c0 c1 hc => ?_⟩
 ·have := pl p p0
  by_cases hpi : p = i
  ·subst hpi; rw [e2, e1]; exact k.irr
  ·rw [e3 p (by omega) p1 hp hpi]
   by_cases h1 : par2 p = i
   ·rw [h1, e2]; exact U.2 i0 p p0 p1 h1
   ·by_cases h2 : par2 p = par2 i
    ·rw [h2, e1]
     have := U.1 p p0 p1 hpi
     rw [h2] at this
     exact nl_mid this k
    ·rw [e3 _ (by omega) (by omega) h2 h1]; exact U.1 p p0 p1 hpi
 ·have := pl (par2 i) q0
  have hc' := pl c c0
  have e4 : h' (par2 (par2 i)) = h (par2 (par2 i)) := e3 _ (by omega) (by omega) (by omega) (by omega)
  have hq2 := U.1 (par2 i) q0 (by omega) (by omega)
  rw [e4]
  by_cases hci : c = i
  ·subst hci; rw [e2]; exact hq2
  ·rw [e3 c (by omega) c1 (by omega) hci]
   have := U.1 c c0 c1 hci
   rw [hc] at this
   exact nl_trans this hq2
theorem Down2.done {i : Int} (D : Down2 L h i) (k : ∀ c, 1 ≤ c → c < L → par2 c = i → ¬ Less (h c) (h i)) : Ord2 L h := by
 intro p p0 p1
 by_cases e : par2 p = i
 ·rw [e]; exact k p p0 p1 e
 ·exact D.1 p p0 p1 e
theorem Down2.step {i b : Int} (D : Down2 L h i) (i0 : 0 ≤ i) (b0 : 1 ≤ b) (b1 : b < L) (hb : par2 b = i) (hm : ∀ c, 1 ≤ c → c < L → par2 c = i → ¬ Less (h c) (h b)) (k : Less (h b) (h i))
  (eh : ∀ p, 0 ≤ p → p < L → h' p = if p = b then h i else if p = i then h b else h p) : Down2 L h' b := by
 have pl : ∀ p, 1 ≤ p → par2 p < p ∧ 0 ≤ par2 p := fun p hp => by unfold par2; omega
 have hbi := pl b b0
 have e1 : h' b = h i := by rw [eh _ (by omega) b1, if_pos rfl]
 have e2 : h' i = h b := by rw [eh _ i0 (by omega), if_neg (by omega), if_pos rfl]
 have e3 : ∀ p, 0 ≤ p → p < L → p ≠ b → p ≠ i → h' p = h p := fun p p0 p1 h1 h2 => by rw [eh p p0 p1, if_neg h1, if_neg h2]
 refine ⟨fun p p0 p1 hp => ?_, fun q0 c c0 c1 hc => ?_⟩
 ·have := pl p p0
  by_cases hpb : p = b
  ·subst hpb; rw [e1, hb, e2]; exact k.irr
  ·by_cases h1 : par2 p = i
   ·rw [h1, e2, e3 p (by omega) p1 hpb (by omega)]; exact hm p p0 p1 h1
   ·by_cases hpi : p = i
    ·subst hpi
     rw [e2, e3 (par2 p) (by omega) (by omega) (by omega) (by omega)]
     exact D.2 p0 b b0 b1 hb
    ·rw [e3 p (by omega) p1 hpb hpi, e3 _ (by omega) (by omega) hp h1]; exact D.1 p p0 p1 h1
 ·have := pl c c0
  rw [hb, e2, e3 c (by omega) c1 (by omega) (by omega)]
  have := D.1 c c0 c1 (by omega)
  rwa [hc] at this
theorem Ord2.top (O : Ord2 L h) : ∀ p, 0 ≤ p → p < L → ¬ Less (h p) (h 0) := by
 intro p p0 p1
 generalize hk : p.toNat = k
 induction k using Nat.strongRecOn generalizing p with
 | _ k ih =>
  by_cases e : p = 0
  ·subst e; unfold Less; omega
  ·have hp : par2 p < p ∧ 0 ≤ par2 p := by unfold par2; omega
   exact nl_trans (O p (by omega) p1) (ih (par2 p).toNat (by omega) (par2 p) hp.2 (by omega) rfl)
def swp (l : List (Int × Int)) (i j : Int) : List (Int × Int) := (l.set i.toNat (gt l j)).set j.toNat (gt l i)
theorem swp_len {l : List (Int × Int)} {i j : Int} : (swp l i j).length = l.length := by simp [swp]
theorem gt_swp {l : List (Int × Int)} {i j : Int} (i0 : 0 ≤ i) (i1 : i < (l.length : Int)) (j0 : 0 ≤ j) (j1 : j < (l.length : Int)) {p : Int} (p0 : 0 ≤ p) : gt (swp l i j) p = if p = j then gt l i else if p = i then gt l j else gt l p := by
 unfold swp
 rw [gt_set j0 (by simpa using j1) p0, gt_set i0 i1 p0]
theorem swp_perm {l : List (Int × Int)} {i j : Int} (i0 : 0 ≤ i) (i1 : i < (l.length : Int)) (j0 : 0 ≤ j) (j1 : j < (l.length : Int)) : (swp l i j).Perm l := by
 unfold swp
 have e : ∀ {k : Int}, 0 ≤ k → ∀ hk : k.toNat < l.length, gt l k = l[k.toNat] := fun {k} k0 hk => by
  unfold gt; rw [List.getD_eq_getElem?_getD, List.getElem?_eq_getElem hk]; rfl
 rw [e i0 (by omega), e j0 (by omega)]
 exact List.set_set_perm (by omega) (by omega)
def Hq (q : List (Int × Int)) : Prop := Ord2 q.length (gt q)
theorem Ord2.congr {L : Int} {h h' : Int → Int × Int} (O : Ord2 L h) (eh : ∀ p, 0 ≤ p → p < L → h' p = h p) : Ord2 L h' := fun p p0 p1 => by
 have hp : par2 p < p ∧ 0 ≤ par2 p := by unfold par2; omega
 rw [eh p (by omega) p1, eh _ hp.2 (by omega)]; exact O p p0 p1
end Go.Vd

/-! (LwSimple) -/

namespace Go.Vd
end Go.Vd

/-! (LwSimple2) -/

set_option linter.unusedVariables false
namespace Go.Vd
variable {fi to wt : List Int}
theorem WSum.nn {l : List Int} {k s : Int} (h : WSum fi to wt l k s) : 0 ≤ k := by
 induction h with
 | zero => omega
 | step => omega
theorem WSum.inv {l : List Int} {k s : Int} (h : WSum fi to wt l k s) : (k = 0 ∧ s = 0) ∨ ∃ s' x, 0 ≤ k - 1 ∧ WSum fi to wt l (k - 1) s' ∧ Arcw fi to wt (gt l (k - 1)) (gt l k) x ∧ s = s' + x := by
 cases h with
 | zero => exact .inl ⟨rfl, rfl⟩
 | step k s x h0 h1 h2 =>
  refine .inr ⟨s, x, by omega, ?_, ?_, rfl⟩
  ·rw [show k + 1 - 1 = k from by omega]; exact h1
  ·rw [show k + 1 - 1 = k from by omega]; exact h2
theorem WSum.congr {l l' : List Int} {k s : Int} (h : WSum fi to wt l k s) (he : ∀ j : Int, 0 ≤ j → j ≤ k → gt l j = gt l' j) : WSum fi to wt l' k s := by
 induction h with
 | zero => exact .zero
 | step k s x h0 h1 h2 ih =>
  refine .step k s x h0 (ih fun j j0 j1 => he j j0 (by omega)) ?_
  rw [← he k h0 (by omega), ← he (k + 1) (by omega) (by omega)]; exact h2
theorem Arcw.nn (hc : Chk fi to wt .nil) {v w x : Int} (h : Arcw fi to wt v w x) : 0 ≤ x := by
 obtain ⟨i, hI, _, rfl⟩ := h
 exact (hc.weight hI).1
theorem Arcw.uniq (hc : Chk fi to wt .nil) {v w x y : Int} (h : Arcw fi to wt v w x) (k : Arcw fi to wt v w y) : x = y := by
 obtain ⟨i, hI, hi, rfl⟩ := h
 obtain ⟨j, hJ, hj, rfl⟩ := k
 have key : ∀ {i j : Int}, In fi v i → In fi v j → gt to i = w → gt to j = w → ¬ i < j := by
  intro i j hI hJ hi hj hlt
  have hR := hc.riseSub hI.1 hI.2.1
  obtain ⟨a1, a2, a3, a4⟩ := hc.shp
  have hM := hc.mon
  have b1 := hM.le (u := 0) (w := v) (by omega) (by have := hI.1; omega) (by have := hI.2.1; omega)
  have b2 := hM.le (u := v + 1) (w := (fi.length : Int) - 1) (by have := hI.1; omega) (by have := hI.2.1; omega) (by omega)
  have b0 := hM v hI.1 hI.2.1
  obtain ⟨c1, c2, c3, c4⟩ := hI
  obtain ⟨d1, d2, d3, d4⟩ := hJ
  have hl := len_sub (l := to) (p := gt fi v) (r := gt fi (v + 1)) (by omega) (by omega) (by omega)
  have := hR.lt (i := i - gt fi v) (j := j - gt fi v) (by omega) (by omega) (by omega)
  rw [gt_sub (by omega) (by omega) (by omega) (by omega) (by omega), gt_sub (by omega) (by omega) (by omega) (by omega) (by omega)] at this
  rw [show gt fi v + (i - gt fi v) = i from by omega, show gt fi v + (j - gt fi v) = j from by omega] at this
  omega
 have h1 := key hI hJ hi hj
 have h2 := key hJ hI hj hi
 rw [show i = j from by omega]
theorem WSum.uniq (hc : Chk fi to wt .nil) {l : List Int} {k s t : Int} (h : WSum fi to wt l k s) : WSum fi to wt l k t → s = t := by
 induction h generalizing t with
 | zero =>
  intro h
  rcases h.inv with ⟨_, h⟩ | ⟨_, _, h, _⟩
  ·exact h.symm
  ·omega
 | step k s x h0 h1 h2 ih =>
  intro h
  rcases h.inv with ⟨h, _⟩ | ⟨s', x', _, g1, g2, rfl⟩
  ·omega
  ·rw [show k + 1 - 1 = k from by omega] at g1 g2
   rw [ih g1, Arcw.uniq hc h2 g2]
end Go.Vd

/-! (PrEa) -/

set_option linter.unusedVariables false
set_option linter.unusedSimpArgs false
namespace Go.Vd
variable {F T' W l : List Int}
theorem p_E (n : Int) : z_viaductref01_E n = some n := rfl
theorem p_Bad {c : Int} {ps : List (Int × Int)} : z_viaductref01_Err_Bad c ps = some (decide (c ≠ 0 ∨ ps ≠ [])) := by
 unfold z_viaductref01_Err_Bad
 by_cases h : c = 0
 ·rw [if_pos h]; subst h
  by_cases hp : 0 < (ps.length : Int)
  ·rw [bad_t (.inr hp), decide_eq_true (by omega)]
  ·rw [bad_f ⟨rfl, hp⟩, decide_eq_false (by omega)]
 ·rw [if_neg h, bad_t (.inl h)]
end Go.Vd

/-! (PrEb) -/

set_option linter.unusedVariables false
set_option linter.unusedSimpArgs false
namespace Go.Vd
variable {F T' W l : List Int}
theorem p_At {k i c : Int} {ps : List (Int × Int)} (h : ps.length ≤ 8796093021951) : z_viaductref01_At k i c ps = some (c, (k, i) :: ps) := by
 unfold z_viaductref01_At G
 rw [if_pos (by simp; omega)]; rfl
end Go.Vd

/-! (InA) -/

set_option maxRecDepth 100000
set_option maxHeartbeats 4000000
set_option linter.unusedVariables false
set_option linter.unusedSimpArgs false
namespace Go.Vd
section
variable {α : Type}
theorem ins_grow {a r u : List α} {i m : Nat} {y : α} (ha : a.length = i) (hr : r.length = m + 1) (hu : u.length = m) :
  ((a ++ r).take i ++ [y] ++ (a ++ r).drop (i + 1)).take (i + 1) ++ u ++ ((a ++ r).take i ++ [y] ++ (a ++ r).drop (i + 1)).drop (i + 1 + m) = a ++ ([y] ++ u) := by
 subst ha; subst hu
 have h1 : (a ++ r).take a.length = a := List.take_left
 have h2 : (a ++ r).drop (a.length + 1) = r.drop 1 := by rw [List.drop_append]; simp
 rw [h1, h2]
 have h3 : (a ++ [y] ++ r.drop 1).take (a.length + 1) = a ++ [y] := by
  have : (a ++ [y]).length = a.length + 1 := by simp
  rw [← this]; exact List.take_left
 have h4 : (a ++ [y] ++ r.drop 1).drop (a.length + 1 + u.length) = [] := List.drop_eq_nil_of_le (by simp; omega)
 rw [h3, h4]; simp
theorem ins_here {a J u : List α} {i m : Nat} {y : α} (ha : a.length = i) (hJ : 1 ≤ J.length) (hu : u.length = m) :
  ((a ++ u ++ J).take (i + 1) ++ u ++ (a ++ u ++ J).drop (i + 1 + m)).take i ++ [y] ++ ((a ++ u ++ J).take (i + 1) ++ u ++ (a ++ u ++ J).drop (i + 1 + m)).drop (i + 1) = a ++ ([y] ++ u) ++ J.drop 1 := by
 subst ha; subst hu
 have h1 : ((a ++ u ++ J).take (a.length + 1)).length = a.length + 1 := by rw [List.length_take]; simp; omega
 have h2 : (a ++ u ++ J).drop (a.length + 1 + u.length) = J.drop 1 := by
  have : a.length + 1 + u.length = (a ++ u).length + 1 := by simp; omega
  rw [this, List.drop_append]; simp
 rw [h2]
 have h3 : ((a ++ u ++ J).take (a.length + 1) ++ u ++ J.drop 1).take a.length = a := by
  rw [List.append_assoc, List.take_append_of_le_length (by omega), List.take_take, Nat.min_eq_left (by omega), List.append_assoc]; exact List.take_left
 have h4 : ((a ++ u ++ J).take (a.length + 1) ++ u ++ J.drop 1).drop (a.length + 1) = u ++ J.drop 1 := by
  have : ((a ++ u ++ J).take (a.length + 1) ++ (u ++ J.drop 1)).drop ((a ++ u ++ J).take (a.length + 1)).length = u ++ J.drop 1 := List.drop_left
  rw [h1] at this
  rw [List.append_assoc]; exact this
 rw [h3, h4]; simp
end
section
variable [Pins]
variable {H : AH} {E : Type} {enc : E → List Value} {s t : Value} {xs : List E} {y : E} {fp ft : Fp} {i j : Int}
structure InS (enc : E → List Value) (H : AH) (s : Value) (xs : List E) (fs : Fp) : Prop where
 ow : Ow enc 3 H s xs fs
 is : ((s = .slice none 0 0 ∨ s = voidS) ∧ xs = []) ∨ ∃ b c J, s = .slice (some ⟨b, 0, none⟩) xs.length c ∧ fs = [b] ∧ Rw H b .own 3 (xs.map enc ++ J) ∧ xs.length + J.length = c
theorem a_spread {f : FuncId} {rest : List Value} {P : Program} {R : List E} (wf : WF H) (h : Ow enc 3 H s xs fp)
  (k : ∀ s' H' fs, WF H' → FrS fp H H' → InS enc H' s' xs fs → Inn fp H fs → ACalls P f (s' :: rest).toArray H' fun v H2 => ∃ fp', FrS fs H' H2 ∧ Ow enc 3 H2 v R fp' ∧ Inn fs H' fp') :
  ACalls P f (s :: rest).toArray H fun v H2 => ∃ fp', FrS fp H H2 ∧ Ow enc 3 H2 v R fp' ∧ Inn fp H fp' := by
 have fin : ∀ {s'} {H'} {fs : Fp}, FrS fp H H' → Inn fp H fs → ACalls P f (s' :: rest).toArray H' (fun v H2 => ∃ fp', FrS fs H' H2 ∧ Ow enc 3 H2 v R fp' ∧ Inn fs H' fp') →
   ACalls P f (s' :: rest).toArray H' fun v H2 => ∃ fp', FrS fp H H2 ∧ Ow enc 3 H2 v R fp' ∧ Inn fp H fp' := fun hf hi hk =>
  hk.mono fun v H2 ⟨f', a, b, c⟩ => ⟨f', hf.step wf a hi, b, hi.trans hf.next c⟩
 refine ACalls.spread wf h (fun hx hs => ?_) (fun hx => ?_) (fun H2 b c R' hf hb hn hg hl ho hc hcell => ?_)
 ·subst hx; subst hs
  exact fin (.refl wf) Inn.nil (k _ H [] wf (.refl wf) ⟨.nil (by decide), .inl ⟨.inl rfl, rfl⟩⟩ Inn.nil)
 ·subst hx
  exact fin (.refl wf) Inn.nil (k _ H [] wf (.refl wf) ⟨.void (by decide), .inl ⟨.inr rfl, rfl⟩⟩ Inn.nil)
 ·have hlo : (∀ x ∈ xs, (enc x).length = 3) ∧ ∀ x ∈ xs, allOne (enc x) = true := by
   rcases h.is with ⟨_, rfl⟩ | ⟨φ, _, o⟩
   ·exact ⟨fun x hx => (by cases hx), fun x hx => (by cases hx)⟩
   ·exact ⟨o.len, o.one⟩
  have hlt : b < H2.next := by omega
  obtain ⟨J, hr, hJ⟩ := Rw.of (enc := enc) (xs := xs) hlt (by decide) hg hl hc hlo.1 hcell
  have hin : Inn fp H [b] := fun t ht => .inr (by rw [List.mem_singleton.1 ht]; omega)
  exact fin hf hin (k _ H2 [b] hf.wf hf ⟨hr.ow (.inl ⟨rfl, rfl⟩) rfl hlo.2 hlt rfl (by simpa using hJ), .inr ⟨b, c, J, rfl, rfl, hr, hJ⟩⟩ hin)
end
end Go.Vd

/-! (InB) -/

set_option maxRecDepth 100000
set_option maxHeartbeats 4000000
set_option linter.unusedVariables false
set_option linter.unusedSimpArgs false
namespace Go.Vd
section
variable [Pins]
variable {H : AH} {E : Type} {enc : E → List Value} {s t : Value} {xs : List E} {y : E} {fs ft : Fp} {i : Int}
attribute [local irreducible] wpSeq wpOrd aWp
theorem a_insert0 (wf : WF H) (hs : InS enc H s xs fs) (ht : Ow enc 3 H t [y] ft) (dj : Dj fs ft) (g : 0 ≤ i ∧ i ≤ (xs.length : Int) ∧ (xs.length : Int) ≤ 1000000000) :
  ACalls Go.Proofs.Try.prog 65 #[s, .int .i64 i, t] H fun v H' => ∃ fp', FrS fs H H' ∧ Ow enc 3 H' v (xs.take i.toNat ++ ([y] ++ xs.drop i.toNat)) fp' ∧ Inn fs H fp' := by
 obtain ⟨g0, g1, g2⟩ := g
 obtain ⟨tb, tc, kt, ct, rfl, tlt, tg, tk, tlen, tcell, ty, ty1⟩ : ∃ tb tc kt ct, t = .slice (some ⟨tb, 0, none⟩) 1 tc ∧ tb < H.next ∧ H.get tb = some (.row kt ct) ∧ (kt ≠ .ro ∧ tokOf H tb ∈ ft) ∧ 3 ≤ ct.length ∧ H.cells tb 0 (1 * 3) = some ([enc y].flatMap id) ∧ (enc y).length = 3 ∧ allOne (enc y) = true := by
  rcases ht.is with ⟨_, h⟩ | ⟨φ, hφ, o⟩
  ·cases h
  rcases o.is with ⟨_, h⟩ | ⟨b, c, k, cs, e1, e2, e3, e4, e5, e6, e7⟩
  ·cases h
  have hl := o.len y (List.mem_singleton.2 rfl)
  have e5' : 1 ≤ c := e5
  refine ⟨b, c, k, cs, e1, e2, e3, ⟨?_, ?_⟩, by omega, ?_, hl, o.one y (List.mem_singleton.2 rfl)⟩
  ·rcases e4 with ⟨rfl, _⟩ | rfl <;> simp
  ·rcases e4 with ⟨rfl, rfl⟩ | rfl
   ·rw [show tokOf H φ = φ by simp [tokOf, e3]]; exact hφ
   ·rw [show tokOf H b = φ by simp [tokOf, e3]]; exact hφ
  ·rcases ht.sq.src with ⟨h, _⟩ | h
   ·rw [e1] at h; simp [voidS] at h
   ·rw [e1] at h
    have := h.cells.2
    simpa using this
 refine acalls_of_body mixed Go.Proofs.Try.func65 rfl (Nat.le_of_ble_eq_true rfl) ?_
 refine w_seqk fun K1 k1 => ?_
 refine w_reg (by kernel_rfl) ?_
 refine s_qk (.slice none 0 0) (by kernel_rfl) ?_
 refine s_nil ?_
 refine k1 _ _ ?_
 refine w_seqk fun K2 k2 => ?_
 refine w_reg (by kernel_rfl) ?_
 refine s_qk s (by kernel_rfl) ?_
 refine s_qk (.int .i64 i) (by kernel_rfl) ?_
 obtain ⟨v1, hv1⟩ : ∃ v, aSlice Go.Proofs.Try.prog 69 s (some (.int .i64 i)) none none H = some v := by
  rcases hs.is with ⟨hs0, rfl⟩ | ⟨b, c, J, rfl, _, hr, hJ⟩
  ·obtain rfl : i = 0 := by simp at g1; omega
   obtain ⟨m, z, hT⟩ := slOne_spec (P := Go.Proofs.Try.prog) (t := 69) (n := 3) (by kernel_rfl)
   obtain ⟨e, inf, hu, hi, _⟩ := slT_spec hT
   rcases hs0 with rfl | rfl
   ·exact ⟨_, by unfold aSlice; simp only [hu, hi]; simp [aBound]; rfl⟩
   ·exact ⟨_, by unfold aSlice voidS; simp only [hu, hi]; simp [aBound]; rfl⟩
  ·exact hr.slo0 (by simp) (by kernel_rfl) g0 (by omega) (by omega)
 refine s_ql v1 (x := aSlice Go.Proofs.Try.prog 69 s (some (.int .i64 i)) none none H) (by kernel_rfl) hv1 ?_
 refine s_nil ?_
 refine k2 _ _ ?_
 refine w_seqk fun K3 k3 => ?_
 refine w_reg (by kernel_rfl) ?_
 refine s_qk (.slice (some ⟨tb, 0, none⟩) 1 tc) (by kernel_rfl) ?_
 refine s_ql (.int .i64 1) (x := aLen Go.Proofs.Try.prog 69 (.slice (some ⟨tb, 0, none⟩) 1 tc) H) (by kernel_rfl) (ht.sq.lenb (by kernel_rfl)) ?_
 refine s_qk (.int .i64 1) (by kernel_rfl) ?_
 refine s_nil ?_
 refine k3 _ _ ?_
 refine w_seqk fun K5 k5 => ?_
 refine w_seqk fun K4 k4 => ?_
 refine w_reg (by kernel_rfl) ?_
 refine s_qk (.int .i64 1) (by kernel_rfl) ?_
 refine s_qk (.bool false) (by kernel_rfl) ?_
 refine s_nil ?_
 refine k4 _ _ ?_
 refine w_cond false (by kernel_rfl) rfl (fun h => by cases h) (fun _ => ?_)
 refine w_skip ?_
 refine k5 _ _ ?_
 refine w_seqk fun K6 k6 => ?_
 refine w_reg (by kernel_rfl) ?_
 refine s_qk s (by kernel_rfl) ?_
 refine s_ql (.int .i64 xs.length) (x := aLen Go.Proofs.Try.prog 69 s H) (by kernel_rfl) (hs.ow.sq.lenb (by kernel_rfl)) ?_
 refine s_qk (.int .i64 xs.length) (by kernel_rfl) ?_
 refine s_nil ?_
 refine k6 _ _ ?_
 refine w_seqk fun K8 k8 => ?_
 refine w_seqk fun K7 k7 => ?_
 refine w_reg (by kernel_rfl) ?_
 refine s_qk (.int .i64 i) (by kernel_rfl) ?_
 refine s_qk (.int .i64 xs.length) (by kernel_rfl) ?_
 refine s_qk (.bool (decide (i = (xs.length : Int)))) (by kernel_rfl) ?_
 refine s_nil ?_
 refine k7 _ _ ?_
 refine w_condp (i = (xs.length : Int)) (by kernel_rfl) rfl (fun h => ?_) (fun hi => ?_)
 ·refine w_seqk fun K9 k9 => ?_
  refine w_reg (by kernel_rfl) ?_
  refine s_qk s (by kernel_rfl) ?_
  refine s_qk (.slice (some ⟨tb, 0, none⟩) 1 tc) (by kernel_rfl) ?_
  obtain ⟨s2, H2, f2, ha, hf, ho2, hi2⟩ := Ow.append (P := Go.Proofs.Try.prog) 24 wf hs.ow ht.sq (fun x hx => by rw [List.mem_singleton.1 hx]; exact ty1) (at_ := #[69, 69]) rfl rfl (by kernel_rfl) (by kernel_rfl) (by decide) (by simp only [List.length_cons, List.length_nil]; omega)
  refine s_ek s2 (x := aAppend Go.Proofs.Try.prog #[69, 69] s (.slice (some ⟨tb, 0, none⟩) 1 tc) H) (by kernel_rfl) ha ?_
  refine s_qk s2 (by kernel_rfl) ?_
  refine s_nil ?_
  refine k9 _ _ ?_
  refine w_ret ?_
  dsimp only [thenA]
  refine b_ret (fn := Go.Proofs.Try.f65) (vs := [s2]) (aRes_tmp (by kernel_rfl) (rfl)) ?_
  refine ⟨f2, hf, ?_, hi2⟩
  rw [h, Int.toNat_natCast, List.take_length, List.drop_length, List.append_nil]
  exact ho2
 rcases hs.is with ⟨_, rfl⟩ | ⟨b, c, J, rfl, rfl, hr, hJ⟩
 ·simp at hi g1; omega
 have hmap : (xs.map enc).length = xs.length := List.length_map ..
 have hcl : (xs.map enc ++ J).length = c := by rw [List.length_append, hmap]; exact hJ
 have hone : ∀ x ∈ xs, allOne (enc x) = true := by
  rcases hs.ow.is with ⟨_, rfl⟩ | ⟨φ, _, o⟩
  ·intro x hx; cases hx
  ·exact o.one
 have hlen3 : ∀ x ∈ xs, (enc x).length = 3 := fun x hx => hr.len _ (List.mem_append_left _ (List.mem_map_of_mem hx))
 have htok : tokOf H b = b := by simp [tokOf, hr.get]
 have htb : tb ≠ b := fun e => dj b (List.mem_singleton.2 rfl) (by rw [← htok]; rw [← e]; exact tk.2)
 have hdl : ((xs.drop i.toNat).map enc).length = xs.length - i.toNat := by simp
 have hd3 : ∀ x ∈ (xs.drop i.toNat).map enc, x.length = 3 := fun x hx => by
  obtain ⟨u, hu, rfl⟩ := List.mem_map.1 hx
  exact hlen3 u (List.mem_of_mem_drop hu)
 have hyl : ∀ x ∈ [enc y], x.length = 3 := fun x hx => by rw [List.mem_singleton.1 hx]; exact ty
 have hal : ((xs.take i.toNat).map enc).length = i.toNat := by simp; omega
 have hsplit : xs.map enc = (xs.take i.toNat).map enc ++ (xs.drop i.toNat).map enc := by rw [← List.map_append, List.take_append_drop]
 have hus : ((xs.map enc ++ J).drop i.toNat).take (xs.length - i.toNat) = (xs.drop i.toNat).map enc := by
  have e1 : ((xs.take i.toNat).map enc ++ ((xs.drop i.toNat).map enc ++ J)).drop ((xs.take i.toNat).map enc).length = (xs.drop i.toNat).map enc ++ J := List.drop_left
  have e2 : ((xs.drop i.toNat).map enc ++ J).take ((xs.drop i.toNat).map enc).length = (xs.drop i.toNat).map enc := List.take_left
  rw [hal] at e1
  rw [hdl] at e2
  rw [hsplit, List.append_assoc, e1, e2]
 have hone' : ∀ x ∈ xs.take i.toNat ++ ([y] ++ xs.drop i.toNat), allOne (enc x) = true := fun x hx => by
  rcases List.mem_append.1 hx with hx | hx
  ·exact hone x (List.mem_of_mem_take hx)
  ·rcases List.mem_append.1 hx with hx | hx
   ·rw [List.mem_singleton.1 hx]; exact ty1
   ·exact hone x (List.mem_of_mem_drop hx)
 have hnl : (xs.take i.toNat ++ ([y] ++ xs.drop i.toNat)).length = xs.length + 1 := by simp; omega
 have hnmap : (xs.take i.toNat ++ ([y] ++ xs.drop i.toNat)).map enc = (xs.take i.toNat).map enc ++ ([enc y] ++ (xs.drop i.toNat).map enc) := by simp
 refine w_skip ?_
 refine k8 _ _ ?_
 refine w_seqk fun K11 k11 => ?_
 refine w_seqk fun K10 k10 => ?_
 refine w_reg (by kernel_rfl) ?_
 refine s_qk (.int .i64 xs.length) (by kernel_rfl) ?_
 refine s_qk (.int .i64 1) (by kernel_rfl) ?_
 refine s_w ((xs.length : Int) + 1) (k := .i64) (x := (xs.length : Int) + 1) (by kernel_rfl) (wrap64 ⟨by omega, by omega⟩) ?_
 refine s_qk (.slice (some ⟨b, 0, none⟩) xs.length c) (by kernel_rfl) ?_
 refine s_ql (.int .i64 c) (x := aCap Go.Proofs.Try.prog 69 (.slice (some ⟨b, 0, none⟩) xs.length c) H) (by kernel_rfl) (hr.cap (by kernel_rfl)) ?_
 refine s_qk (.bool (decide ((xs.length : Int) + 1 > (c : Int)))) (by kernel_rfl) ?_
 refine s_nil ?_
 refine k10 _ _ ?_
 refine w_condp ((xs.length : Int) + 1 > (c : Int)) (by kernel_rfl) rfl (fun hc => ?_) (fun hc => ?_)
 ·-- a new row
  refine w_seqk fun K12 k12 => ?_
  refine w_reg (by kernel_rfl) ?_
  refine s_qk (.slice (some ⟨b, 0, none⟩) xs.length c) (by kernel_rfl) ?_
  refine s_qk (.int .i64 i) (by kernel_rfl) ?_
  refine s_ql (.slice (some ⟨b, 0, none⟩) i.toNat c) (x := aSlice Go.Proofs.Try.prog 69 (.slice (some ⟨b, 0, none⟩) xs.length c) none (some (.int .i64 i)) none H) (by kernel_rfl) (hr.shi (by kernel_rfl) g0 (by omega)) ?_
  refine s_qk (.int .i64 xs.length) (by kernel_rfl) ?_
  refine s_qk (.int .i64 1) (by kernel_rfl) ?_
  refine s_w ((xs.length : Int) + 1) (k := .i64) (x := (xs.length : Int) + 1) (by kernel_rfl) (wrap64 ⟨by omega, by omega⟩) ?_
  refine s_qk (.int .i64 i) (by kernel_rfl) ?_
  refine s_w ((xs.length : Int) + 1 - i) (k := .i64) (x := (xs.length : Int) + 1 - i) (by kernel_rfl) (wrap64 ⟨by omega, by omega⟩) ?_
  obtain ⟨H2, zs, ha, he2, hn2, hr2⟩ := hr.grow (P := Go.Proofs.Try.prog) (at_ := #[69, 3]) (t0 := 69) (t1 := 3) (m := 24) (n := i.toNat) (c := c) (kk := .i64) (ki := .i64) (z := (xs.length : Int) + 1 - i) wf rfl rfl (by kernel_rfl) (by kernel_rfl) (by omega) (by omega) (by omega) (by decide) (by omega)
  rw [show i.toNat + ((xs.length : Int) + 1 - i).toNat = xs.length + 1 by omega] at ha
  have hJ0 : J = [] := List.eq_nil_of_length_eq_zero (by omega)
  subst hJ0
  rw [List.append_nil] at hr hus hr2
  rw [show (xs.map enc).take i.toNat = (xs.take i.toNat).map enc from (List.map_take ..).symm] at hr2
  generalize hz : List.replicate ((xs.length : Int) + 1 - i).toNat zs = Z at hr2
  have hzl : Z.length = xs.length - i.toNat + 1 := by rw [← hz, List.length_replicate]; omega
  refine s_ek (.slice (some ⟨H.next, 0, none⟩) (xs.length + 1) (xs.length + 1)) (x := aAppend Go.Proofs.Try.prog #[69, 3] (.slice (some ⟨b, 0, none⟩) i.toNat c) (.int .i64 ((xs.length : Int) + 1 - i)) H) (by kernel_rfl) ha ?_
  refine s_qk (.slice (some ⟨H.next, 0, none⟩) (xs.length + 1) (xs.length + 1)) (by kernel_rfl) ?_
  refine s_nil ?_
  refine k12 _ _ ?_
  refine w_seqk fun K13 k13 => ?_
  refine w_reg (by kernel_rfl) ?_
  refine s_qk (.slice (some ⟨H.next, 0, none⟩) (xs.length + 1) (xs.length + 1)) (by kernel_rfl) ?_
  refine s_qk (.int .i64 i) (by kernel_rfl) ?_
  refine s_ql (.slice (some ⟨H.next, i.toNat * 3, none⟩) (xs.length + 1 - i.toNat) (xs.length + 1 - i.toNat)) (x := aSlice Go.Proofs.Try.prog 69 (.slice (some ⟨H.next, 0, none⟩) (xs.length + 1) (xs.length + 1)) (some (.int .i64 i)) none none H2) (by kernel_rfl) (hr2.slo (by kernel_rfl) g0 (by omega) (by omega) (by omega)) ?_
  refine s_qk (.slice (some ⟨tb, 0, none⟩) 1 tc) (by kernel_rfl) ?_
  have tcell2 : H2.cells tb 0 ([enc y].length * 3) = some ([enc y].flatMap id) := by
   rw [← tcell]; unfold AH.cells; rw [he2.same tb tlt]; rfl
  obtain ⟨H3, hc3, f3, n3, r3⟩ := hr2.copy (P := Go.Proofs.Try.prog) (at_ := #[69, 69]) (t0 := 69) (m := 24) (o := i.toNat) (n1 := xs.length + 1 - i.toNat) (c1 := xs.length + 1 - i.toNat) (b2 := tb) (o2 := 0) (n2 := 1) (c2 := tc) (us := [enc y]) (φ := H.next) he2.wf (.inr rfl) rfl (by kernel_rfl) tcell2 (by simp only [List.length_cons, List.length_nil]; omega) hyl (by rw [List.length_append, hal, hzl]; simp only [List.length_cons, List.length_nil]; omega)
  refine s_ek _ (x := aCopy Go.Proofs.Try.prog #[69, 69] (.slice (some ⟨H.next, i.toNat * 3, none⟩) (xs.length + 1 - i.toNat) (xs.length + 1 - i.toNat)) (.slice (some ⟨tb, 0, none⟩) 1 tc) H2) (by kernel_rfl) hc3 ?_
  refine s_nil ?_
  refine k13 _ _ ?_
  have hbn : b < H2.next := by have := hr.lt; omega
  have hrb : Rw H3 b .own 3 (xs.map enc) := (hr.fr (he2.frS []) (fun h => by cases h)).fr (f3.frS (W := [H.next]) (List.mem_singleton.2 rfl)) (by
   have : tokOf H2 b = b := by simp [tokOf, he2.same b hr.lt, hr.get]
   rw [this]; intro h; have := List.mem_singleton.1 h; have := hr.lt; omega)
  refine w_seqk fun K14 k14 => ?_
  refine w_draw [0, 1, 2, 3, 4, 5, 6, 7, 8] (by kernel_rfl) ?_
  refine d_qk (.slice (some ⟨H.next, 0, none⟩) (xs.length + 1) (xs.length + 1)) (by kernel_rfl) ?_
  refine d_qk (.int .i64 i) (by kernel_rfl) ?_
  refine d_qk (.int .i64 1) (by kernel_rfl) ?_
  refine d_w (i + 1) (k := .i64) (x := i + 1) (by kernel_rfl) (wrap64 ⟨by omega, by omega⟩) ?_
  refine d_ql (.slice (some ⟨H.next, (i + 1).toNat * 3, none⟩) (xs.length + 1 - (i + 1).toNat) (xs.length + 1 - (i + 1).toNat)) (x := aSlice Go.Proofs.Try.prog 69 (.slice (some ⟨H.next, 0, none⟩) (xs.length + 1) (xs.length + 1)) (some (.int .i64 (i + 1))) none none H3) (by kernel_rfl) (r3.slo (by kernel_rfl) (by omega) (by omega) (by omega) (by omega)) ?_
  refine d_qk (.slice (some ⟨b, 0, none⟩) xs.length c) (by kernel_rfl) ?_
  refine d_qk (.int .i64 i) (by kernel_rfl) ?_
  refine d_ql (.slice (some ⟨b, i.toNat * 3, none⟩) (xs.length - i.toNat) (c - i.toNat)) (x := aSlice Go.Proofs.Try.prog 69 (.slice (some ⟨b, 0, none⟩) xs.length c) (some (.int .i64 i)) none none H3) (by kernel_rfl) (hrb.slo (by kernel_rfl) (by omega) (by omega) (by omega) (by omega)) ?_
  have ccell : H3.cells b (i.toNat * 3) (((xs.drop i.toNat).map enc).length * 3) = some (((xs.drop i.toNat).map enc).flatMap id) := by
   rw [hdl]
   have := hrb.cells (o := i.toNat) (n := xs.length - i.toNat) (by rw [hmap]; omega)
   rw [hus] at this; exact this
  obtain ⟨H4, hc4, f4, n4, r4⟩ := r3.copy (P := Go.Proofs.Try.prog) (at_ := #[69, 69]) (t0 := 69) (m := 24) (o := (i + 1).toNat) (n1 := xs.length + 1 - (i + 1).toNat) (c1 := xs.length + 1 - (i + 1).toNat) (b2 := b) (o2 := i.toNat * 3) (n2 := xs.length - i.toNat) (c2 := c - i.toNat) (us := (xs.drop i.toNat).map enc) (φ := H.next) f3.wf (.inr rfl) rfl (by kernel_rfl) ccell (by rw [hdl]; omega) hd3
   (by rw [hdl]; simp only [List.length_append, List.length_take, List.length_drop, hal, hzl, List.length_cons, List.length_nil]; omega)
  refine d_ek _ (x := aCopy Go.Proofs.Try.prog #[69, 69] (.slice (some ⟨H.next, (i + 1).toNat * 3, none⟩) (xs.length + 1 - (i + 1).toNat) (xs.length + 1 - (i + 1).toNat)) (.slice (some ⟨b, i.toNat * 3, none⟩) (xs.length - i.toNat) (c - i.toNat)) H3) (by kernel_rfl) hc4 trivial ?_
  refine d_nil ?_
  refine k14 _ _ ?_
  refine w_seqk fun K15 k15 => ?_
  refine w_reg (by kernel_rfl) ?_
  refine s_qk (.slice (some ⟨H.next, 0, none⟩) (xs.length + 1) (xs.length + 1)) (by kernel_rfl) ?_
  refine s_qk (.slice (some ⟨H.next, 0, none⟩) (xs.length + 1) (xs.length + 1)) (by kernel_rfl) ?_
  refine s_nil ?_
  refine k15 _ _ ?_
  refine w_ret ?_
  dsimp only [thenA]
  refine b_ret (fn := Go.Proofs.Try.f65) (vs := [.slice (some ⟨H.next, 0, none⟩) (xs.length + 1) (xs.length + 1)]) (aRes_tmp (by kernel_rfl) (rfl)) ?_
  have hfin := ins_grow (y := enc y) hal hzl hdl
  rw [hdl, show (i + 1).toNat = i.toNat + 1 by omega] at r4
  rw [show ([enc y] : List (List Value)).length = 1 from rfl, hfin] at r4
  have hlt4 : H.next < H4.next := by omega
  refine ⟨[H.next], ?_, r4.ow (.inr rfl) (J := []) (by rw [hnmap, List.append_nil]) hone' hlt4 hnl ?_, fun u hu => .inr (by rw [List.mem_singleton.1 hu]; exact Nat.le_refl _)⟩
  ·have a1 : FrS [b] H H2 := he2.frS [b]
   have hin : Inn [b] H [H.next] := fun u hu => .inr (by rw [List.mem_singleton.1 hu]; exact Nat.le_refl _)
   have a2 := a1.step wf (f3.frS (W := [H.next]) (List.mem_singleton.2 rfl)) hin
   exact a2.step wf (f4.frS (W := [H.next]) (List.mem_singleton.2 rfl)) hin
  ·simp only [List.length_append, hal, hdl, List.length_cons, List.length_nil]; omega
 -- in place
 refine w_skip ?_
 refine k11 _ _ ?_
 have hJ1 : 1 ≤ J.length := by omega
 have hn1 : ((xs.length : Int) + 1).toNat = xs.length + 1 := by omega
 refine w_seqk fun K21 k21 => ?_
 refine w_reg (by kernel_rfl) ?_
 refine s_qk (.slice (some ⟨b, 0, none⟩) xs.length c) (by kernel_rfl) ?_
 refine s_qk (.int .i64 xs.length) (by kernel_rfl) ?_
 refine s_qk (.int .i64 1) (by kernel_rfl) ?_
 refine s_w ((xs.length : Int) + 1) (k := .i64) (x := (xs.length : Int) + 1) (by kernel_rfl) (wrap64 ⟨by omega, by omega⟩) ?_
 refine s_ql (.slice (some ⟨b, 0, none⟩) (xs.length + 1) c) (x := aSlice Go.Proofs.Try.prog 69 (.slice (some ⟨b, 0, none⟩) xs.length c) none (some (.int .i64 ((xs.length : Int) + 1))) none H) (by kernel_rfl) (by have := hr.shi (P := Go.Proofs.Try.prog) (t := 69) (kk := .i64) (i := (xs.length : Int) + 1) (n := xs.length) (c := c) (by kernel_rfl) (by omega) (by omega); rw [hn1] at this; exact this) ?_
 refine s_qk (.slice (some ⟨b, 0, none⟩) (xs.length + 1) c) (by kernel_rfl) ?_
 refine s_nil ?_
 refine k21 _ _ ?_
 refine w_seqk fun K23 k23 => ?_
 refine w_seqk fun K22 k22 => ?_
 refine w_reg (by kernel_rfl) ?_
 refine s_qk (.slice (some ⟨tb, 0, none⟩) 1 tc) (by kernel_rfl) ?_
 refine s_qk (.slice (some ⟨b, 0, none⟩) (xs.length + 1) c) (by kernel_rfl) ?_
 refine s_qk (.int .i64 i) (by kernel_rfl) ?_
 refine s_qk (.int .i64 1) (by kernel_rfl) ?_
 refine s_w (i + 1) (k := .i64) (x := i + 1) (by kernel_rfl) (wrap64 ⟨by omega, by omega⟩) ?_
 have hsl2 : aSlice Go.Proofs.Try.prog 69 (.slice (some ⟨b, 0, none⟩) (xs.length + 1) c) (some (.int .i64 (i + 1))) none none H = some (.slice (some ⟨b, (i + 1).toNat * 3, none⟩) (xs.length + 1 - (i + 1).toNat) (c - (i + 1).toNat)) := hr.slo (by kernel_rfl) (by omega) (by omega) (by omega) (by omega)
 have hsl1 : aSlice Go.Proofs.Try.prog 69 (.slice (some ⟨b, 0, none⟩) (xs.length + 1) c) (some (.int .i64 i)) none none H = some (.slice (some ⟨b, i.toNat * 3, none⟩) (xs.length + 1 - i.toNat) (c - i.toNat)) := hr.slo (by kernel_rfl) (by omega) (by omega) (by omega) (by omega)
 refine s_ql (.slice (some ⟨b, (i + 1).toNat * 3, none⟩) (xs.length + 1 - (i + 1).toNat) (c - (i + 1).toNat)) (x := aSlice Go.Proofs.Try.prog 69 (.slice (some ⟨b, 0, none⟩) (xs.length + 1) c) (some (.int .i64 (i + 1))) none none H) (by kernel_rfl) hsl2 ?_
 refine s_ov (g := 77) (fn := Go.Proofs.Try.f77) (tS := 69) (tR := 4) (tb := tb) (tc := tc) (b := b) (off := (i + 1).toNat * 3) (n := xs.length + 1 - (i + 1).toNat) (c := c - (i + 1).toNat) (sz := 3) (kt := kt) (ct := ct) rfl (by kernel_rfl) (by kernel_rfl) Go.Proofs.Try.func77 (by kernel_rfl) (by kernel_rfl) (by kernel_rfl) (by kernel_rfl) (by kernel_rfl) (by kernel_rfl) (by kernel_rfl) (by omega) tg tk.1 hr.get ?_ htb ?_
 ·rw [flat_len (enc := id) hr.len]; omega
 refine s_qk (.bool true) (by kernel_rfl) ?_
 refine s_nil ?_
 refine k22 _ _ ?_
 refine w_cond true (by kernel_rfl) rfl (fun _ => ?_) (fun h => by cases h)
 refine w_seqk fun K24 k24 => ?_
 refine w_draw [0, 1, 2, 3, 4, 5, 6, 7, 8] (by kernel_rfl) ?_
 refine d_qk (.slice (some ⟨b, 0, none⟩) (xs.length + 1) c) (by kernel_rfl) ?_
 refine d_qk (.int .i64 i) (by kernel_rfl) ?_
 refine d_qk (.int .i64 1) (by kernel_rfl) ?_
 refine d_w (i + 1) (k := .i64) (x := i + 1) (by kernel_rfl) (wrap64 ⟨by omega, by omega⟩) ?_
 refine d_ql (.slice (some ⟨b, (i + 1).toNat * 3, none⟩) (xs.length + 1 - (i + 1).toNat) (c - (i + 1).toNat)) (x := aSlice Go.Proofs.Try.prog 69 (.slice (some ⟨b, 0, none⟩) (xs.length + 1) c) (some (.int .i64 (i + 1))) none none H) (by kernel_rfl) hsl2 ?_
 refine d_qk (.slice (some ⟨b, 0, none⟩) (xs.length + 1) c) (by kernel_rfl) ?_
 refine d_qk (.int .i64 i) (by kernel_rfl) ?_
 refine d_ql (.slice (some ⟨b, i.toNat * 3, none⟩) (xs.length + 1 - i.toNat) (c - i.toNat)) (x := aSlice Go.Proofs.Try.prog 69 (.slice (some ⟨b, 0, none⟩) (xs.length + 1) c) (some (.int .i64 i)) none none H) (by kernel_rfl) hsl1 ?_
 have ccell : H.cells b (i.toNat * 3) (((xs.drop i.toNat).map enc).length * 3) = some (((xs.drop i.toNat).map enc).flatMap id) := by
  rw [hdl]
  have := hr.cells (o := i.toNat) (n := xs.length - i.toNat) (by rw [List.length_append, hmap]; omega)
  rw [hus] at this; exact this
 obtain ⟨H2, hc2, f2, n2, r2⟩ := hr.copy (P := Go.Proofs.Try.prog) (at_ := #[69, 69]) (t0 := 69) (m := 24) (o := (i + 1).toNat) (n1 := xs.length + 1 - (i + 1).toNat) (c1 := c - (i + 1).toNat) (b2 := b) (o2 := i.toNat * 3) (n2 := xs.length + 1 - i.toNat) (c2 := c - i.toNat) (us := (xs.drop i.toNat).map enc) (φ := b) wf (.inl ⟨rfl, rfl⟩) rfl (by kernel_rfl) ccell (by rw [hdl]; omega) hd3
  (by rw [hdl, List.length_append, hmap]; omega)
 refine d_ek _ (x := aCopy Go.Proofs.Try.prog #[69, 69] (.slice (some ⟨b, (i + 1).toNat * 3, none⟩) (xs.length + 1 - (i + 1).toNat) (c - (i + 1).toNat)) (.slice (some ⟨b, i.toNat * 3, none⟩) (xs.length + 1 - i.toNat) (c - i.toNat)) H) (by kernel_rfl) hc2 trivial ?_
 refine d_nil ?_
 refine k24 _ _ ?_
 refine w_seqk fun K25 k25 => ?_
 refine w_reg (by kernel_rfl) ?_
 refine s_qk (.slice (some ⟨b, 0, none⟩) (xs.length + 1) c) (by kernel_rfl) ?_
 refine s_qk (.int .i64 i) (by kernel_rfl) ?_
 refine s_ql (.slice (some ⟨b, i.toNat * 3, none⟩) (xs.length + 1 - i.toNat) (c - i.toNat)) (x := aSlice Go.Proofs.Try.prog 69 (.slice (some ⟨b, 0, none⟩) (xs.length + 1) c) (some (.int .i64 i)) none none H2) (by kernel_rfl) (r2.slo (by kernel_rfl) g0 (by omega) (by omega) (by omega)) ?_
 refine s_qk (.slice (some ⟨tb, 0, none⟩) 1 tc) (by kernel_rfl) ?_
 have tcell2 : H2.cells tb 0 ([enc y].length * 3) = some ([enc y].flatMap id) := by
  rw [← tcell]; unfold AH.cells
  rw [f2.same tb tlt (fun e => dj b (List.mem_singleton.2 rfl) (by rw [← e]; exact tk.2))]; rfl
 obtain ⟨H3, hc3, f3, n3, r3⟩ := r2.copy (P := Go.Proofs.Try.prog) (at_ := #[69, 69]) (t0 := 69) (m := 24) (o := i.toNat) (n1 := xs.length + 1 - i.toNat) (c1 := c - i.toNat) (b2 := tb) (o2 := 0) (n2 := 1) (c2 := tc) (us := [enc y]) (φ := b) f2.wf (.inl ⟨rfl, rfl⟩) rfl (by kernel_rfl) tcell2 (by simp only [List.length_cons, List.length_nil]; omega) hyl
  (by simp only [List.length_append, List.length_take, List.length_drop, hdl, hmap, List.length_cons, List.length_nil]; omega)
 refine s_ek _ (x := aCopy Go.Proofs.Try.prog #[69, 69] (.slice (some ⟨b, i.toNat * 3, none⟩) (xs.length + 1 - i.toNat) (c - i.toNat)) (.slice (some ⟨tb, 0, none⟩) 1 tc) H2) (by kernel_rfl) hc3 ?_
 refine s_nil ?_
 refine k25 _ _ ?_
 refine w_seqk fun K26 k26 => ?_
 refine w_reg (by kernel_rfl) ?_
 refine s_qk (.slice (some ⟨b, 0, none⟩) (xs.length + 1) c) (by kernel_rfl) ?_
 refine s_qk (.slice (some ⟨b, 0, none⟩) (xs.length + 1) c) (by kernel_rfl) ?_
 refine s_nil ?_
 refine k26 _ _ ?_
 refine w_ret ?_
 dsimp only [thenA]
 refine b_ret (fn := Go.Proofs.Try.f65) (vs := [.slice (some ⟨b, 0, none⟩) (xs.length + 1) c]) (aRes_tmp (by kernel_rfl) (rfl)) ?_
 have hfin := ins_here (y := enc y) hal hJ1 hdl
 rw [hdl, show (i + 1).toNat = i.toNat + 1 by omega, hsplit] at r3
 rw [show ([enc y] : List (List Value)).length = 1 from rfl, hfin] at r3
 have hlt3 : b < H3.next := r3.lt
 refine ⟨[b], ?_, r3.ow (.inl ⟨rfl, rfl⟩) (J := J.drop 1) (by rw [hnmap]) hone' hlt3 hnl ?_, Inn.self⟩
 ·exact (f2.frS (W := [b]) (List.mem_singleton.2 rfl)).step wf (f3.frS (W := [b]) (List.mem_singleton.2 rfl)) Inn.self
 ·simp only [List.length_append, hal, hdl, List.length_drop, List.length_cons, List.length_nil]; omega
end
end Go.Vd

/-! (InC) -/

set_option maxRecDepth 100000
set_option maxHeartbeats 4000000
set_option linter.unusedVariables false
set_option linter.unusedSimpArgs false
namespace Go.Vd
section
variable {α : Type}
theorem del_here {a d u J z : List α} {i j m : Nat} (ha : a.length = i) (hd : d.length = j) (hu : u.length = m) (hz : z.length = j) :
  ((a ++ (d ++ u) ++ J).take i ++ u ++ (a ++ (d ++ u) ++ J).drop (i + m)).take (i + m) ++ z ++ ((a ++ (d ++ u) ++ J).take i ++ u ++ (a ++ (d ++ u) ++ J).drop (i + m)).drop (i + m + j) = a ++ u ++ (z ++ J) := by
 subst ha; subst hd; subst hu
 have h1 : (a ++ (d ++ u) ++ J).take a.length = a := by rw [List.append_assoc]; exact List.take_left
 have hl : (a ++ u).length = a.length + u.length := List.length_append
 have h2 : ∀ W : List α, (a ++ u ++ W).take (a.length + u.length) = a ++ u := fun W => by rw [← hl]; exact List.take_left
 have h3 : ∀ W : List α, (a ++ u ++ W).drop (a.length + u.length + d.length) = W.drop d.length := fun W => by
  rw [← hl, ← List.drop_drop, List.drop_left]
 rw [h1, h2, h3, List.drop_drop]
 have h4 : (a ++ (d ++ u) ++ J).drop (a.length + u.length + d.length) = J := by
  have : a.length + u.length + d.length = (a ++ (d ++ u)).length := by simp; omega
  rw [this]; exact List.drop_left
 rw [h4]; simp
end
section
variable [Pins]
variable {H : AH} {E : Type} {enc : E → List Value} {s t : Value} {xs : List E} {y : E} {fp fs ft : Fp} {i j : Int}
theorem a_Insert (wf : WF H) (h : Ow enc 3 H s xs fp) (ht : Ow enc 3 H t [y] ft) (dj : Dj fp ft) (g : 0 ≤ i ∧ i ≤ (xs.length : Int) ∧ (xs.length : Int) ≤ 1000000000) :
  ACalls Go.Proofs.Try.prog 65 #[s, .int .i64 i, t] H fun v H' => ∃ fp', FrS fp H H' ∧ Ow enc 3 H' v (xs.take i.toNat ++ ([y] ++ xs.drop i.toNat)) fp' ∧ Inn fp H fp' :=
 a_spread (rest := [.int .i64 i, t]) wf h fun s' H' fs wf' hf hs hi => a_insert0 wf' hs (ht.fr hf dj) (hi.dj dj ht.lt) g
theorem Rw.app {P : Program} {b b2 o2 n2 c2 n c m : Nat} {css us : List (List Value)} {at_ : Array TypeId} {t0 t1 : TypeId} (hw : WF H) (h : Rw H b .own 3 css) (a0 : at_[0]? = some t0) (a1 : at_[1]? = some t1) (hT' : slSz P t0 = some (3, m)) (hT1' : isSl P t1 = true)
  (hc : H.cells b2 o2 (us.length * 3) = some (us.flatMap id)) (hn2 : us.length = n2) (h1 : ∀ x ∈ us, allOne x = true) (hl : ∀ x ∈ us, x.length = 3) (hroom : n + us.length ≤ c) (hcc : css.length = c) :
  ∃ H', aAppend P at_ (.slice (some ⟨b, 0, none⟩) n c) (.slice (some ⟨b2, o2, none⟩) n2 c2) H = some (.slice (some ⟨b, 0, none⟩) (n + us.length) c, H') ∧ Fr b H H' ∧ H'.next = H.next ∧ Rw H' b .own 3 (css.take n ++ us ++ css.drop (n + us.length)) := by
 subst hn2
 obtain ⟨z, hT⟩ := slSz_spec hT'
 obtain ⟨e1, hT1⟩ := isSl_spec hT1'
 obtain ⟨e, i, hu1, hi, hel, hs, hb⟩ := slT_spec hT
 have hone : allOne (us.flatMap id) = true := allOne_flat (enc := id) h1
 have key : aAppend P at_ (.slice (some ⟨b, 0, none⟩) n c) (.slice (some ⟨b2, o2, none⟩) us.length c2) H = AH.append H 3 m (.slice (some ⟨b, 0, none⟩) n c) us.length (us.flatMap id) := by
  unfold aAppend
  rw [a0, a1]
  simp only [Option.bind_some, hel, hT1, hs, hb, hc, hone, if_true]
 have hlen := flat_len (enc := id) (sz := 3) hl
 rw [key]
 unfold AH.append
 rw [if_neg (by omega)]
 dsimp only
 rw [if_pos hroom]
 by_cases h0 : us.length = 0
 ·obtain rfl := List.eq_nil_of_length_eq_zero h0
  exact ⟨H, by simp, (Ext.refl hw).toFr b, rfl, by simpa using h⟩
 ·obtain ⟨H', p1, p2, p3, p4⟩ := h.put hw (.inl ⟨rfl, rfl⟩) (o := n) (us := us) hl (by omega)
  refine ⟨H', ?_, p2, p3, p4⟩
  rw [if_neg h0, Nat.zero_add, p1]; rfl
theorem Rw.clear {P : Program} {b o n c m : Nat} {css : List (List Value)} {at_ : Array TypeId} {t0 : TypeId} (hw : WF H) (h : Rw H b .own 3 css) (a0 : at_[0]? = some t0) (hT' : slSz P t0 = some (3, m)) (hroom : o + n ≤ css.length) :
  ∃ H' Z, Z.length = n ∧ aClear P at_ (.slice (some ⟨b, o * 3, none⟩) n c) H = some H' ∧ Fr b H H' ∧ H'.next = H.next ∧ Rw H' b .own 3 (css.take o ++ Z ++ css.drop (o + n)) := by
 obtain ⟨z, hT⟩ := slSz_spec hT'
 obtain ⟨e, i, hu1, hi, hel, hs, hb⟩ := slT_spec hT
 have hzl : z.cells.toList.length = 3 := by
  unfold elemInfo at hel
  rw [hu1] at hel
  dsimp only at hel
  rw [hi] at hel
  dsimp only at hel
  split at hel
  ·split at hel
   ·rename_i hh; cases hel; rw [← hs]; simpa using hh.1
   ·cases hel
  ·cases hel
 have hel0 : at_[0]?.bind (elemInfo P) = some (e, i, z) := by rw [a0]; exact hel
 have hZ : zerosOf z n = (List.replicate n z.cells.toList).flatMap id := by unfold zerosOf; rw [List.flatMap_id]
 have hZl : (List.replicate n z.cells.toList).length = n := List.length_replicate
 obtain ⟨H', p1, p2, p3, p4⟩ := h.put hw (.inl ⟨rfl, rfl⟩) (o := o) (us := List.replicate n z.cells.toList) (fun x hx => by rw [(List.mem_replicate.1 hx).2]; exact hzl) (by rw [hZl]; exact hroom)
 by_cases h0 : n = 0
 ·subst h0
  refine ⟨H, [], rfl, ?_, (Ext.refl hw).toFr b, rfl, by simpa using h⟩
  unfold aClear
  rw [hel0]
  simp
 ·refine ⟨H', List.replicate n z.cells.toList, hZl, ?_, p2, p3, by rw [hZl] at p4; exact p4⟩
  unfold aClear
  rw [hel0]
  dsimp only
  rw [if_neg h0, hZ, p1]
attribute [local irreducible] wpSeq wpOrd aWp
theorem a_delete0 (wf : WF H) (hs : InS enc H s xs fs) (g : 0 ≤ i ∧ i ≤ j ∧ j ≤ (xs.length : Int) ∧ (xs.length : Int) ≤ 1000000000) :
  ACalls Go.Proofs.Try.prog 66 #[s, .int .i64 i, .int .i64 j] H fun v H' => ∃ fp', FrS fs H H' ∧ Ow enc 3 H' v (xs.take i.toNat ++ xs.drop j.toNat) fp' ∧ Inn fs H fp' := by
 obtain ⟨g0, g1, g2, g3⟩ := g
 refine acalls_of_body mixed Go.Proofs.Try.func66 rfl (Nat.le_of_ble_eq_true rfl) ?_
 refine w_seqk fun K1 k1 => ?_
 refine w_reg (by kernel_rfl) ?_
 refine s_qk (.slice none 0 0) (by kernel_rfl) ?_
 refine s_nil ?_
 refine k1 _ _ ?_
 refine w_seqk fun K2 k2 => ?_
 refine w_reg (by kernel_rfl) ?_
 refine s_qk s (by kernel_rfl) ?_
 refine s_qk (.int .i64 i) (by kernel_rfl) ?_
 refine s_qk (.int .i64 j) (by kernel_rfl) ?_
 refine s_qk s (by kernel_rfl) ?_
 refine s_ql (.int .i64 xs.length) (x := aLen Go.Proofs.Try.prog 69 s H) (by kernel_rfl) (hs.ow.sq.lenb (by kernel_rfl)) ?_
 obtain ⟨b0, n0, c0, cb0, hs3, hc0⟩ : ∃ b0 n0 c0 cb0, (((s = .slice none 0 0 ∨ s = voidS) ∧ c0 = 0) ∨ (s = .slice (some ⟨b0, 0, none⟩) n0 c0 ∧ H.get b0 = some (.row .own cb0))) ∧ xs.length ≤ c0 := by
  rcases hs.is with ⟨h, rfl⟩ | ⟨b, c, J, h, _, hr, hJ⟩
  ·exact ⟨0, 0, 0, [], .inl ⟨h, rfl⟩, Nat.le_refl _⟩
  ·exact ⟨b, xs.length, c, _, .inr ⟨h, hr.get⟩, by omega⟩
 refine s_s3 (b := b0) (n := n0) (c := c0) (cb := cb0) (sz := 3) (s := s) (k1 := .i64) (k2 := .i64) (k3 := .i64) (i := i) (j := j) (m := xs.length) rfl (by kernel_rfl) (by kernel_rfl) (by kernel_rfl) hs3 (by kernel_rfl) (by kernel_rfl) (by kernel_rfl) g0 g1 g2 (by omega) fun v3 => ?_
 refine s_nil ?_
 refine k2 _ _ ?_
 refine w_seqk fun K4 k4 => ?_
 refine w_seqk fun K3 k3 => ?_
 refine w_reg (by kernel_rfl) ?_
 refine s_qk (.int .i64 i) (by kernel_rfl) ?_
 refine s_qk (.int .i64 j) (by kernel_rfl) ?_
 refine s_qk (.bool (decide (i = j))) (by kernel_rfl) ?_
 refine s_nil ?_
 refine k3 _ _ ?_
 refine w_condp (i = j) (by kernel_rfl) rfl (fun h => ?_) (fun hi => ?_)
 ·refine w_seqk fun K9 k9 => ?_
  refine w_reg (by kernel_rfl) ?_
  refine s_qk s (by kernel_rfl) ?_
  refine s_qk s (by kernel_rfl) ?_
  refine s_nil ?_
  refine k9 _ _ ?_
  refine w_ret ?_
  dsimp only [thenA]
  refine b_ret (fn := Go.Proofs.Try.f66) (vs := [s]) (aRes_tmp (by kernel_rfl) (rfl)) ?_
  refine ⟨fs, .refl wf, ?_, Inn.self⟩
  rw [h, List.take_append_drop]
  exact hs.ow
 rcases hs.is with ⟨_, rfl⟩ | ⟨b, c, J, rfl, rfl, hr, hJ⟩
 ·simp at g2; omega
 have hmap : (xs.map enc).length = xs.length := List.length_map ..
 have hcl : (xs.map enc ++ J).length = c := by rw [List.length_append, hmap]; exact hJ
 have hone : ∀ x ∈ xs, allOne (enc x) = true := by
  rcases hs.ow.is with ⟨_, rfl⟩ | ⟨φ, _, o⟩
  ·intro x hx; cases hx
  ·exact o.one
 have hlen3 : ∀ x ∈ xs, (enc x).length = 3 := fun x hx => hr.len _ (List.mem_append_left _ (List.mem_map_of_mem hx))
 have hul : ((xs.drop j.toNat).map enc).length = xs.length - j.toNat := by simp
 have hu3 : ∀ x ∈ (xs.drop j.toNat).map enc, x.length = 3 := fun x hx => by
  obtain ⟨u, hu, rfl⟩ := List.mem_map.1 hx
  exact hlen3 u (List.mem_of_mem_drop hu)
 have hu1 : ∀ x ∈ (xs.drop j.toNat).map enc, allOne x = true := fun x hx => by
  obtain ⟨u, hu, rfl⟩ := List.mem_map.1 hx
  exact hone u (List.mem_of_mem_drop hu)
 have hal : ((xs.take i.toNat).map enc).length = i.toNat := by simp; omega
 have hdl : (((xs.drop i.toNat).take (j.toNat - i.toNat)).map enc).length = j.toNat - i.toNat := by simp; omega
 have hsplit : xs.map enc = (xs.take i.toNat).map enc ++ (((xs.drop i.toNat).take (j.toNat - i.toNat)).map enc ++ (xs.drop j.toNat).map enc) := by
  have e1 : xs.drop j.toNat = (xs.drop i.toNat).drop (j.toNat - i.toNat) := by rw [List.drop_drop]; congr 1; omega
  rw [e1, ← List.map_append, ← List.map_append, List.take_append_drop, List.take_append_drop]
 have hus : ((xs.map enc ++ J).drop j.toNat).take (xs.length - j.toNat) = (xs.drop j.toNat).map enc := by
  rw [List.drop_append_of_le_length (by omega), ← List.map_drop, List.take_append_of_le_length (by omega), ← hul, List.take_length]
 have hone' : ∀ x ∈ xs.take i.toNat ++ xs.drop j.toNat, allOne (enc x) = true := fun x hx => by
  rcases List.mem_append.1 hx with hx | hx
  ·exact hone x (List.mem_of_mem_take hx)
  ·exact hone x (List.mem_of_mem_drop hx)
 have hnl : (xs.take i.toNat ++ xs.drop j.toNat).length = i.toNat + (xs.length - j.toNat) := by simp; omega
 refine w_skip ?_
 refine k4 _ _ ?_
 refine w_seqk fun K5 k5 => ?_
 refine w_reg (by kernel_rfl) ?_
 refine s_qk (.slice (some ⟨b, 0, none⟩) xs.length c) (by kernel_rfl) ?_
 refine s_ql (.int .i64 xs.length) (x := aLen Go.Proofs.Try.prog 69 (.slice (some ⟨b, 0, none⟩) xs.length c) H) (by kernel_rfl) (hs.ow.sq.lenb (by kernel_rfl)) ?_
 refine s_qk (.int .i64 xs.length) (by kernel_rfl) ?_
 refine s_nil ?_
 refine k5 _ _ ?_
 -- what stays is put behind the beginning
 obtain ⟨o2, c2, hsl, hcell⟩ : ∃ o2 c2, aSlice Go.Proofs.Try.prog 69 (.slice (some ⟨b, 0, none⟩) xs.length c) (some (.int .i64 j)) none none H = some (.slice (some ⟨b, o2, none⟩) (xs.length - j.toNat) c2) ∧ H.cells b o2 (((xs.drop j.toNat).map enc).length * 3) = some (((xs.drop j.toNat).map enc).flatMap id) := by
  by_cases hjc : j < (c : Int)
  ·refine ⟨_, _, hr.slo (by kernel_rfl) (by omega) g2 (by omega) hjc, ?_⟩
   rw [hul]
   have := hr.cells (o := j.toNat) (n := xs.length - j.toNat) (by rw [hcl]; omega)
   rw [hus] at this; exact this
  ·obtain ⟨m, z, hT⟩ := slOne_spec (P := Go.Proofs.Try.prog) (t := 69) (n := 3) (by kernel_rfl)
   obtain ⟨e, inf, hu, hi', _⟩ := slT_spec hT
   refine ⟨0, c - j.toNat, ?_, ?_⟩
   ·unfold aSlice
    simp only [hu, hi', aBound, show 0 ≤ j by omega, if_true, hr.get]
    rw [if_pos (by omega), if_neg (by simp [AObj.isLoose]; omega)]
   ·rw [show (xs.drop j.toNat).map enc = [] from List.eq_nil_of_length_eq_zero (by omega)]
    have := hr.cells (o := 0) (n := 0) (by omega)
    simpa using this
 refine w_seqk fun K6 k6 => ?_
 refine w_draw [0, 1, 2, 3, 4, 5, 6, 7] (by kernel_rfl) ?_
 refine d_qk (.slice (some ⟨b, 0, none⟩) xs.length c) (by kernel_rfl) ?_
 refine d_qk (.int .i64 i) (by kernel_rfl) ?_
 refine d_ql (.slice (some ⟨b, 0, none⟩) i.toNat c) (x := aSlice Go.Proofs.Try.prog 69 (.slice (some ⟨b, 0, none⟩) xs.length c) none (some (.int .i64 i)) none H) (by kernel_rfl) (hr.shi (by kernel_rfl) g0 (by omega)) ?_
 refine d_qk (.slice (some ⟨b, 0, none⟩) xs.length c) (by kernel_rfl) ?_
 refine d_qk (.int .i64 j) (by kernel_rfl) ?_
 refine d_ql (.slice (some ⟨b, o2, none⟩) (xs.length - j.toNat) c2) (x := aSlice Go.Proofs.Try.prog 69 (.slice (some ⟨b, 0, none⟩) xs.length c) (some (.int .i64 j)) none none H) (by kernel_rfl) hsl ?_
 obtain ⟨H2, ha2, f2, n2, r2⟩ := hr.app (P := Go.Proofs.Try.prog) (at_ := #[69, 69]) (t0 := 69) (t1 := 69) (m := 24) (n := i.toNat) (c := c) (b2 := b) (o2 := o2) (n2 := xs.length - j.toNat) (c2 := c2) (us := (xs.drop j.toNat).map enc) wf rfl rfl (by kernel_rfl) (by kernel_rfl) hcell hul hu1 hu3 (by rw [hul]; omega) hcl
 refine d_ek _ (x := aAppend Go.Proofs.Try.prog #[69, 69] (.slice (some ⟨b, 0, none⟩) i.toNat c) (.slice (some ⟨b, o2, none⟩) (xs.length - j.toNat) c2) H) (by kernel_rfl) ha2 trivial ?_
 generalize hnn : i.toNat + ((xs.drop j.toNat).map enc).length = nn at r2
 refine d_qk (.slice (some ⟨b, 0, none⟩) nn c) (by kernel_rfl) ?_
 refine d_nil ?_
 refine k6 _ _ ?_
 have hnn' : nn = i.toNat + (xs.length - j.toNat) := by rw [← hnn, hul]
 refine w_seqk fun K7 k7 => ?_
 refine w_reg (by kernel_rfl) ?_
 refine s_qk (.slice (some ⟨b, 0, none⟩) nn c) (by kernel_rfl) ?_
 refine s_qk (.slice (some ⟨b, 0, none⟩) nn c) (by kernel_rfl) ?_
 refine s_ql (.int .i64 nn) (x := aLen Go.Proofs.Try.prog 69 (.slice (some ⟨b, 0, none⟩) nn c) H2) (by kernel_rfl) (by
  obtain ⟨e, hu⟩ := isSl_spec (P := Go.Proofs.Try.prog) (t := 69) (by kernel_rfl)
  unfold aLen; simp only [hu]) ?_
 refine s_qk (.int .i64 xs.length) (by kernel_rfl) ?_
 refine s_ql (.slice (some ⟨b, nn * 3, none⟩) (xs.length - nn) (c - nn)) (x := aSlice Go.Proofs.Try.prog 69 (.slice (some ⟨b, 0, none⟩) nn c) (some (.int .i64 nn)) (some (.int .i64 xs.length)) none H2) (by kernel_rfl) (by
  have := r2.sboth (P := Go.Proofs.Try.prog) (t := 69) (k1 := .i64) (k2 := .i64) (i := nn) (j := xs.length) (n := nn) (c := c) (by kernel_rfl) (by omega) (by omega) (by omega) (by omega)
  simpa using this) ?_
 have hr2l : ((xs.map enc ++ J).take i.toNat ++ (xs.drop j.toNat).map enc ++ (xs.map enc ++ J).drop nn).length = c := by
  simp only [List.length_append, List.length_take, List.length_drop, hul, hmap]; omega
 obtain ⟨H3, Z, hZ, ha3, f3, n3, r3⟩ := r2.clear (P := Go.Proofs.Try.prog) (at_ := #[69]) (t0 := 69) (m := 24) (o := nn) (n := xs.length - nn) (c := c - nn) f2.wf rfl (by kernel_rfl) (by rw [hr2l]; omega)
 refine s_ek (.tuple #[]) (x := (aClear Go.Proofs.Try.prog #[69] (.slice (some ⟨b, nn * 3, none⟩) (xs.length - nn) (c - nn)) H2).map fun H' => (.tuple #[], H')) (by kernel_rfl) (by rw [ha3]; rfl) ?_
 refine s_nil ?_
 refine k7 _ _ ?_
 refine w_seqk fun K8 k8 => ?_
 refine w_reg (by kernel_rfl) ?_
 refine s_qk (.slice (some ⟨b, 0, none⟩) nn c) (by kernel_rfl) ?_
 refine s_qk (.slice (some ⟨b, 0, none⟩) nn c) (by kernel_rfl) ?_
 refine s_nil ?_
 refine k8 _ _ ?_
 refine w_ret ?_
 dsimp only [thenA]
 refine b_ret (fn := Go.Proofs.Try.f66) (vs := [.slice (some ⟨b, 0, none⟩) nn c]) (aRes_tmp (by kernel_rfl) (rfl)) ?_
 have hfin := del_here (z := Z) (J := J) hal hdl hul (by omega)
 rw [hnn', show i.toNat + (xs.length - j.toNat) + (xs.length - (i.toNat + (xs.length - j.toNat))) = i.toNat + (xs.length - j.toNat) + (j.toNat - i.toNat) by omega, hsplit, hfin] at r3
 refine ⟨[b], ?_, r3.ow (.inl ⟨rfl, rfl⟩) (J := Z ++ J) (by rw [List.map_append]) hone' r3.lt (by rw [hnl, hnn']) ?_, Inn.self⟩
 ·exact (f2.frS (W := [b]) (List.mem_singleton.2 rfl)).step wf (f3.frS (W := [b]) (List.mem_singleton.2 rfl)) Inn.self
 ·simp only [List.length_append, hal, hul, hZ]; omega
theorem a_Delete (wf : WF H) (h : Ow enc 3 H s xs fp) (g : 0 ≤ i ∧ i ≤ j ∧ j ≤ (xs.length : Int) ∧ (xs.length : Int) ≤ 1000000000) :
  ACalls Go.Proofs.Try.prog 66 #[s, .int .i64 i, .int .i64 j] H fun v H' => ∃ fp', FrS fp H H' ∧ Ow enc 3 H' v (xs.take i.toNat ++ xs.drop j.toNat) fp' ∧ Inn fp H fp' :=
 a_spread (rest := [.int .i64 i, .int .i64 j]) wf h fun s' H' fs wf' hf hs hi => a_delete0 wf' hs g
end
end Go.Vd
