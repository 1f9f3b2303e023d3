/- Plain law: what a list without its loops is. No program here. -/
import Derived.Test.YtccnpeeakadnoaaPsyVpB
import Derived.Test.YtccnpeeakadnoaaPsyISy
set_option linter.unusedVariables false
set_option linter.unusedSimpArgs false
set_option linter.unusedSectionVars false
/-! (LwSimple) -/

namespace Go.Vd
end Go.Vd

/-! (LwSimple2) -/

set_option linter.unusedVariables false
namespace Go.Vd
variable {fi to wt : List Int}
theorem WSum.nn {l : List Int} {k s : Int} (h : WSum fi to wt l k s) : 0 ≤ k := by
 induction h with
 | zero => omega
 | step => omega
theorem WSum.inv {l : List Int} {k s : Int} (h : WSum fi to wt l k s) : (k = 0 ∧ s = 0) ∨ ∃ s' x, 0 ≤ k - 1 ∧ WSum fi to wt l (k - 1) s' ∧ Arcw fi to wt (gt l (k - 1)) (gt l k) x ∧ s = s' + x := by
 cases h with
 | zero => exact .inl ⟨rfl, rfl⟩
 | step k s x h0 h1 h2 =>
  refine .inr ⟨s, x, by omega, ?_, ?_, rfl⟩
  ·rw [show k + 1 - 1 = k from by omega]; exact h1
  ·rw [show k + 1 - 1 = k from by omega]; exact h2
theorem WSum.congr {l l' : List Int} {k s : Int} (h : WSum fi to wt l k s) (he : ∀ j : Int, 0 ≤ j → j ≤ k → gt l j = gt l' j) : WSum fi to wt l' k s := by
 induction h with
 | zero => exact .zero
 | step k s x h0 h1 h2 ih =>
  refine .step k s x h0 (ih fun j j0 j1 => he j j0 (by omega)) ?_
  rw [← he k h0 (by omega), ← he (k + 1) (by omega) (by omega)]; exact h2
theorem Arcw.nn (hc : Chk fi to wt .nil) {v w x : Int} (h : Arcw fi to wt v w x) : 0 ≤ x := by
 obtain ⟨i, hI, _, rfl⟩ := h
 exact (hc.weight hI).1
theorem Arcw.uniq (hc : Chk fi to wt .nil) {v w x y : Int} (h : Arcw fi to wt v w x) (k : Arcw fi to wt v w y) : x = y := by
 obtain ⟨i, hI, hi, rfl⟩ := h
 obtain ⟨j, hJ, hj, rfl⟩ := k
 have key : ∀ {i j : Int}, In fi v i → In fi v j → gt to i = w → gt to j = w → ¬ i < j := by
  intro i j hI hJ hi hj hlt
  have hR := hc.riseSub hI.1 hI.2.1
  obtain ⟨a1, a2, a3, a4⟩ := hc.shp
  have hM := hc.mon
  have b1 := hM.le (u := 0) (w := v) (by omega) (by have := hI.1; omega) (by have := hI.2.1; omega)
  have b2 := hM.le (u := v + 1) (w := (fi.length : Int) - 1) (by have := hI.1; omega) (by have := hI.2.1; omega) (by omega)
  have b0 := hM v hI.1 hI.2.1
  obtain ⟨c1, c2, c3, c4⟩ := hI
  obtain ⟨d1, d2, d3, d4⟩ := hJ
  have hl := len_sub (l := to) (p := gt fi v) (r := gt fi (v + 1)) (by omega) (by omega) (by omega)
  have := hR.lt (i := i - gt fi v) (j := j - gt fi v) (by omega) (by omega) (by omega)
  rw [gt_sub (by omega) (by omega) (by omega) (by omega) (by omega), gt_sub (by omega) (by omega) (by omega) (by omega) (by omega)] at this
  rw [show gt fi v + (i - gt fi v) = i from by omega, show gt fi v + (j - gt fi v) = j from by omega] at this
  omega
 have h1 := key hI hJ hi hj
 have h2 := key hJ hI hj hi
 rw [show i = j from by omega]
theorem WSum.uniq (hc : Chk fi to wt .nil) {l : List Int} {k s t : Int} (h : WSum fi to wt l k s) : WSum fi to wt l k t → s = t := by
 induction h generalizing t with
 | zero =>
  intro h
  rcases h.inv with ⟨_, h⟩ | ⟨_, _, h, _⟩
  ·exact h.symm
  ·omega
 | step k s x h0 h1 h2 ih =>
  intro h
  rcases h.inv with ⟨h, _⟩ | ⟨s', x', _, g1, g2, rfl⟩
  ·omega
  ·rw [show k + 1 - 1 = k from by omega] at g1 g2
   rw [ih g1, Arcw.uniq hc h2 g2]
end Go.Vd

/-! (Hp1) -/

set_option linter.unusedVariables false
set_option linter.unusedSimpArgs false
namespace Go.Vd
theorem gt_set {E : Type} [Inhabited E] {l : List E} {i j : Int} {v : E} (i0 : 0 ≤ i) (i1 : i < (l.length : Int)) (j0 : 0 ≤ j) : gt (l.set i.toNat v) j = if j = i then v else gt l j := by
 unfold gt
 rw [List.getD_eq_getElem?_getD, List.getD_eq_getElem?_getD, List.getElem?_set]
 by_cases h : j = i
 ·subst h; rw [if_pos rfl, if_pos (by omega), if_pos rfl]; rfl
 ·rw [if_neg (by omega), if_neg h]
def Less (a b : Int × Int) : Prop := a.1 < b.1 ∨ (a.1 = b.1 ∧ a.2 < b.2)
instance (a b : Int × Int) : Decidable (Less a b) := by unfold Less; exact inferInstance
theorem Less.irr {a b : Int × Int} (h : Less a b) : ¬ Less b a := by unfold Less at *; omega
theorem Less.trans {a b c : Int × Int} (h : Less a b) (k : Less b c) : Less a c := by unfold Less at *; omega
theorem nl_trans {a b c : Int × Int} (h : ¬ Less a b) (k : ¬ Less b c) : ¬ Less a c := by unfold Less at *; omega
theorem nl_mid {a b c : Int × Int} (h : ¬ Less a b) (k : Less c b) : ¬ Less a c := by unfold Less at *; omega
structure Ix (n L : Int) (h : Int → Int × Int) (a : Int → Int) : Prop where
 fwd : ∀ p, 0 ≤ p → p < L → 0 ≤ (h p).2 ∧ (h p).2 < n ∧ a (h p).2 = p + 1
 bwd : ∀ v, 0 ≤ v → v < n → 0 ≤ a v ∧ a v ≤ L ∧ (a v ≠ 0 → (h (a v - 1)).2 = v)
def Kf (h : Int → Int × Int) (a : Int → Int) (v : Int) : Option Int := if a v = 0 then none else some (h (a v - 1)).1
variable {n L : Int} {h h' : Int → Int × Int} {a a' : Int → Int}
theorem Ix.inj (I : Ix n L h a) {p q : Int} (p0 : 0 ≤ p) (p1 : p < L) (q0 : 0 ≤ q) (q1 : q < L) (e : (h p).2 = (h q).2) : p = q := by
 have h1 := (I.fwd p p0 p1).2.2; have h2 := (I.fwd q q0 q1).2.2
 rw [e] at h1; omega
theorem Ix.swap (I : Ix n L h a) {i q : Int} (i0 : 0 ≤ i) (i1 : i < L) (q0 : 0 ≤ q) (q1 : q < L) (hne : i ≠ q)
  (eh : ∀ p, 0 ≤ p → p < L → h' p = if p = q then h i else if p = i then h q else h p)
  (ea : ∀ v, 0 ≤ v → v < n → a' v = if v = (h i).2 then q + 1 else if v = (h q).2 then i + 1 else a v) :
  Ix n L h' a' ∧ ∀ v, 0 ≤ v → v < n → Kf h' a' v = Kf h a v := by
 obtain ⟨fi0, fi1, fi2⟩ := I.fwd i i0 i1
 obtain ⟨fq0, fq1, fq2⟩ := I.fwd q q0 q1
 have hid : (h q).2 ≠ (h i).2 := fun e => hne (I.inj i0 i1 q0 q1 e.symm)
 have hq' : h' q = h i := by rw [eh q q0 q1, if_pos rfl]
 have hi' : h' i = h q := by rw [eh i i0 i1, if_neg hne, if_pos rfl]
 have ho' : ∀ p, 0 ≤ p → p < L → p ≠ q → p ≠ i → h' p = h p := fun p p0 p1 h1 h2 => by rw [eh p p0 p1, if_neg h1, if_neg h2]
 have ai' : a' (h i).2 = q + 1 := by rw [ea _ fi0 fi1, if_pos rfl]
 have aq' : a' (h q).2 = i + 1 := by rw [ea _ fq0 fq1, if_neg hid, if_pos rfl]
 have ao' : ∀ v, 0 ≤ v → v < n → v ≠ (h i).2 → v ≠ (h q).2 → a' v = a v := fun v v0 v1 h1 h2 => by rw [ea v v0 v1, if_neg h1, if_neg h2]
 refine ⟨⟨fun p p0 p1 => ?_, fun v v0 v1 => ?_⟩, fun v v0 v1 => ?_⟩
 ·by_cases hpq : p = q
  ·subst hpq; rw [hq']; exact ⟨fi0, fi1, ai'⟩
  ·by_cases hpi : p = i
   ·subst hpi; rw [hi']; exact ⟨fq0, fq1, aq'⟩
   ·rw [ho' p p0 p1 hpq hpi]
    obtain ⟨f0, f1, f2⟩ := I.fwd p p0 p1
    refine ⟨f0, f1, ?_⟩
    rw [ao' _ f0 f1 (fun e => hpi (I.inj p0 p1 i0 i1 e)) (fun e => hpq (I.inj p0 p1 q0 q1 e))]; exact f2
 ·by_cases hvi : v = (h i).2
  ·subst hvi; rw [ai']; exact ⟨by omega, by omega, fun _ => by rw [show q + 1 - 1 = q from by omega, hq']⟩
  ·by_cases hvq : v = (h q).2
   ·subst hvq; rw [aq']; exact ⟨by omega, by omega, fun _ => by rw [show i + 1 - 1 = i from by omega, hi']⟩
   ·rw [ao' v v0 v1 hvi hvq]
    obtain ⟨b0, b1, b2⟩ := I.bwd v v0 v1
    refine ⟨b0, b1, fun hz => ?_⟩
    have hb := b2 hz
    rw [ho' _ (by omega) (by omega) (fun e => hvq (by rw [← hb, e])) (fun e => hvi (by rw [← hb, e]))]; exact hb
 ·unfold Kf
  by_cases hvi : v = (h i).2
  ·subst hvi; rw [ai', fi2, if_neg (by omega), if_neg (by omega), show q + 1 - 1 = q from by omega, show i + 1 - 1 = i from by omega, hq']
  ·by_cases hvq : v = (h q).2
   ·subst hvq; rw [aq', fq2, if_neg (by omega), if_neg (by omega), show q + 1 - 1 = q from by omega, show i + 1 - 1 = i from by omega, hi']
   ·rw [ao' v v0 v1 hvi hvq]
    by_cases hz : a v = 0
    ·rw [if_pos hz, if_pos hz]
    ·obtain ⟨b0, b1, b2⟩ := I.bwd v v0 v1
     have hb := b2 hz
     rw [if_neg hz, if_neg hz, ho' _ (by omega) (by omega) (fun e => hvq (by rw [← hb, e])) (fun e => hvi (by rw [← hb, e]))]
def par4 (p : Int) : Int := (p - 1) / 4
theorem tdiv4 {p : Int} (h : 0 < p) : Int.tdiv (p - 1) 4 = par4 p := by
 unfold par4; rw [Int.tdiv_eq_ediv_of_nonneg (by omega)]
def Ord4 (L : Int) (h : Int → Int × Int) : Prop := ∀ p, 1 ≤ p → p < L → ¬ Less (h p) (h (par4 p))
def Up4 (L : Int) (h : Int → Int × Int) (i : Int) : Prop :=
 (∀ p, 1 ≤ p → p < L → p ≠ i → ¬ Less (h p) (h (par4 p))) ∧ (1 ≤ i → ∀ c, 1 ≤ c → c < L → par4 c = i → ¬ Less (h c) (h (par4 i)))
def Down4 (L : Int) (h : Int → Int × Int) (i : Int) : Prop :=
 (∀ p, 1 ≤ p → p < L → par4 p ≠ i → ¬ Less (h p) (h (par4 p))) ∧ (1 ≤ i → ∀ c, 1 ≤ c → c < L → par4 c = i → ¬ Less (h c) (h (par4 i)))
theorem Up4.done {i : Int} (U : Up4 L h i) (k : i = 0 ∨ ¬ Less (h i) (h (par4 i))) : Ord4 L h := by
 intro p p0 p1
 by_cases e : p = i
 ·subst e; rcases k with k | k
  ·omega
  ·exact k
 ·exact U.1 p p0 p1 e
theorem Up4.step {i : Int} (U : Up4 L h i) (i0 : 1 ≤ i) (i1 : i < L) (k : Less (h i) (h (par4 i)))
  (eh : ∀ p, 0 ≤ p → p < L → h' p = if p = par4 i then h i else if p = i then h (par4 i) else h p) : Up4 L h' (par4 i) := by
 have hq : par4 i < i ∧ 0 ≤ par4 i := by unfold par4; omega
 have e1 : h' (par4 i) = h i := by rw [eh _ hq.2 (by omega), if_pos rfl]
 have e2 : h' i = h (par4 i) := by rw [eh _ (by omega) i1, if_neg (by omega), if_pos rfl]
 have e3 : ∀ p, 0 ≤ p → p < L → p ≠ par4 i → p ≠ i → h' p = h p := fun p p0 p1 h1 h2 => by rw [eh p p0 p1, if_neg h1, if_neg h2]
 have pl : ∀ p, 1 ≤ p → par4 p < p ∧ 0 ≤ par4 p := fun p hp => by unfold par4; omega
 refine ⟨fun p p0 p1 hp => ?_, fun q0 c c0 c1 hc => ?_⟩
 ·have := pl p p0
  by_cases hpi : p = i
  ·subst hpi; rw [e2, e1]; exact k.irr
  ·rw [e3 p (by omega) p1 hp hpi]
   by_cases h1 : par4 p = i
   ·rw [h1, e2]; exact U.2 i0 p p0 p1 h1
   ·by_cases h2 : par4 p = par4 i
    ·rw [h2, e1]
     have := U.1 p p0 p1 hpi
     rw [h2] at this
     exact nl_mid this k
    ·rw [e3 _ (by omega) (by omega) h2 h1]; exact U.1 p p0 p1 hpi
 ·have := pl (par4 i) q0
  have hc' := pl c c0
  have e4 : h' (par4 (par4 i)) = h (par4 (par4 i)) := e3 _ (by omega) (by omega) (by omega) (by omega)
  have hq2 := U.1 (par4 i) q0 (by omega) (by omega)
  rw [e4]
  by_cases hci : c = i
  ·subst hci; rw [e2]; exact hq2
  ·rw [e3 c (by omega) c1 (by omega) hci]
   have := U.1 c c0 c1 hci
   rw [hc] at this
   exact nl_trans this hq2
theorem Down4.done {i : Int} (D : Down4 L h i) (k : ∀ c, 1 ≤ c → c < L → par4 c = i → ¬ Less (h c) (h i)) : Ord4 L h := by
 intro p p0 p1
 by_cases e : par4 p = i
 ·rw [e]; exact k p p0 p1 e
 ·exact D.1 p p0 p1 e
theorem Down4.step {i b : Int} (D : Down4 L h i) (i0 : 0 ≤ i) (b0 : 1 ≤ b) (b1 : b < L) (hb : par4 b = i) (hm : ∀ c, 1 ≤ c → c < L → par4 c = i → ¬ Less (h c) (h b)) (k : Less (h b) (h i))
  (eh : ∀ p, 0 ≤ p → p < L → h' p = if p = b then h i else if p = i then h b else h p) : Down4 L h' b := by
 have pl : ∀ p, 1 ≤ p → par4 p < p ∧ 0 ≤ par4 p := fun p hp => by unfold par4; omega
 have hbi := pl b b0
 have e1 : h' b = h i := by rw [eh _ (by omega) b1, if_pos rfl]
 have e2 : h' i = h b := by rw [eh _ i0 (by omega), if_neg (by omega), if_pos rfl]
 have e3 : ∀ p, 0 ≤ p → p < L → p ≠ b → p ≠ i → h' p = h p := fun p p0 p1 h1 h2 => by rw [eh p p0 p1, if_neg h1, if_neg h2]
 refine ⟨fun p p0 p1 hp => ?_, fun q0 c c0 c1 hc => ?_⟩
 ·have := pl p p0
  by_cases hpb : p = b
  ·subst hpb; rw [e1, hb, e2]; exact k.irr
  ·by_cases h1 : par4 p = i
   ·rw [h1, e2, e3 p (by omega) p1 hpb (by omega)]; exact hm p p0 p1 h1
   ·by_cases hpi : p = i
    ·subst hpi
     rw [e2, e3 (par4 p) (by omega) (by omega) (by omega) (by omega)]
     exact D.2 p0 b b0 b1 hb
    ·rw [e3 p (by omega) p1 hpb hpi, e3 _ (by omega) (by omega) hp h1]; exact D.1 p p0 p1 h1
 ·have := pl c c0
  rw [hb, e2, e3 c (by omega) c1 (by omega) (by omega)]
  have := D.1 c c0 c1 (by omega)
  rwa [hc] at this
theorem Ord4.down (O : Ord4 L h) {i : Int} (i1 : i < L) : Down4 L h i :=
 ⟨fun p p0 p1 _ => O p p0 p1, fun q0 c c0 c1 hc => by have := O c c0 c1; rw [hc] at this; exact nl_trans this (O i q0 i1)⟩
theorem Ord4.top (O : Ord4 L h) : ∀ p, 0 ≤ p → p < L → ¬ Less (h p) (h 0) := by
 intro p p0 p1
 generalize hk : p.toNat = k
 induction k using Nat.strongRecOn generalizing p with
 | _ k ih =>
  by_cases e : p = 0
  ·subst e; unfold Less; omega
  ·have hp : par4 p < p ∧ 0 ≤ par4 p := by unfold par4; omega
   exact nl_trans (O p (by omega) p1) (ih (par4 p).toNat (by omega) (par4 p) hp.2 (by omega) rfl)
end Go.Vd

/-! (Hp2) -/

set_option linter.unusedVariables false
set_option linter.unusedSimpArgs false
namespace Go.Vd
theorem p_less {k i k' i' : Int} : z_heap_item_less k i k' i' = some (decide (Less (k, i) (k', i'))) := by
 unfold z_heap_item_less
 by_cases h1 : k < k'
 ·rw [if_pos h1, decide_eq_true (show Less (k, i) (k', i') from Or.inl h1)]
 ·rw [if_neg h1]
  by_cases h2 : k = k'
  ·subst h2
   rw [if_pos rfl]
   congr 1
   by_cases h3 : i < i'
   ·rw [decide_eq_true h3, decide_eq_true (show Less (k, i) (k, i') from Or.inr ⟨rfl, h3⟩)]
   ·rw [decide_eq_false h3, decide_eq_false (show ¬ Less (k, i) (k, i') by unfold Less; dsimp only; omega)]
  ·rw [if_neg h2, decide_eq_false (show ¬ Less (k, i) (k', i') by unfold Less; dsimp only; omega)]
def vh (h : List (Int × Int)) (i : Int) (x : Int × Int) : Int → Int × Int := fun p => if p = i then x else gt h p
def va (a : List Int) (v i : Int) : Int → Int := fun w => if w = v then i + 1 else gt a w
theorem p_put {h : List (Int × Int)} {a : List Int} {i k v : Int} (i0 : 0 ≤ i) (i1 : i < (h.length : Int)) (v0 : 0 ≤ v) (v1 : v < (a.length : Int)) (hl : h.length ≤ 1099511627776) :
  z_heap_Heap_put h a i k v = some (h.set i.toNat (k, v), a.set v.toNat (i + 1)) := by
 unfold z_heap_Heap_put G
 rw [if_pos ⟨i0, i1⟩, if_pos (by omega), if_pos ⟨v0, v1⟩]
structure Hv (n : Int) (h : List (Int × Int)) (a : List Int) (i : Int) (x : Int × Int) (K : Int → Option Int) : Prop where
 len : (a.length : Int) = n
 small : h.length ≤ 1099511627776
 i0 : 0 ≤ i
 i1 : i < (h.length : Int)
 x0 : 0 ≤ x.2
 x1 : x.2 < n
 ix : Ix n h.length (vh h i x) (va a x.2 i)
 key : ∀ v, 0 ≤ v → v < n → Kf (vh h i x) (va a x.2 i) v = K v
theorem Hv.move {n : Int} {h : List (Int × Int)} {a : List Int} {i q : Int} {x : Int × Int} {K : Int → Option Int} (H : Hv n h a i x K) (q0 : 0 ≤ q) (q1 : q < (h.length : Int)) (hne : i ≠ q) :
  0 ≤ (gt h q).2 ∧ (gt h q).2 < n ∧ Hv n (h.set i.toNat (gt h q)) (a.set (gt h q).2.toNat (i + 1)) q x K ∧
   ∀ p, 0 ≤ p → p < (h.length : Int) → vh (h.set i.toNat (gt h q)) q x p = if p = q then vh h i x i else if p = i then vh h i x q else vh h i x p := by
 have hvq : vh h i x q = gt h q := if_neg (Ne.symm hne)
 have hvi : vh h i x i = x := if_pos rfl
 obtain ⟨f0, f1, f2⟩ := H.ix.fwd q q0 q1
 rw [hvq] at f0 f1 f2
 have eh : ∀ p, 0 ≤ p → p < (h.length : Int) → vh (h.set i.toNat (gt h q)) q x p = if p = q then vh h i x i else if p = i then vh h i x q else vh h i x p := by
  intro p p0 p1
  rw [hvq, hvi]
  unfold vh
  by_cases e : p = q
  ·rw [if_pos e, if_pos e]
  ·rw [if_neg e, if_neg e, gt_set H.i0 H.i1 p0]
   by_cases e2 : p = i
   ·rw [if_pos e2, if_pos e2]
   ·rw [if_neg e2, if_neg e2, if_neg e2]
 have ea : ∀ v, 0 ≤ v → v < n → va (a.set (gt h q).2.toNat (i + 1)) x.2 q v = if v = (vh h i x i).2 then q + 1 else if v = (vh h i x q).2 then i + 1 else va a x.2 i v := by
  intro v v0 v1
  rw [hvq, hvi]
  unfold va
  by_cases e : v = x.2
  ·rw [if_pos e, if_pos e]
  ·rw [if_neg e, if_neg e, gt_set f0 (by rw [H.len]; exact f1) v0]
   by_cases e2 : v = (gt h q).2
   ·rw [if_pos e2, if_pos e2]
   ·rw [if_neg e2, if_neg e2, if_neg e]
 obtain ⟨s1, s2⟩ := H.ix.swap H.i0 H.i1 q0 q1 hne eh ea
 refine ⟨f0, f1, ⟨by simpa using H.len, by simpa using H.small, q0, by simpa using q1, H.x0, H.x1, by simpa using s1, fun v v0 v1 => (s2 v v0 v1).trans (H.key v v0 v1)⟩, eh⟩
structure Hp (n : Int) (h : List (Int × Int)) (a : List Int) (K : Int → Option Int) : Prop where
 len : (a.length : Int) = n
 small : h.length ≤ 1099511627776
 ix : Ix n h.length (gt h) (gt a)
 key : ∀ v, 0 ≤ v → v < n → Kf (gt h) (gt a) v = K v
theorem vh_set {h : List (Int × Int)} {i : Int} {x : Int × Int} (i0 : 0 ≤ i) (i1 : i < (h.length : Int)) {p : Int} (p0 : 0 ≤ p) : gt (h.set i.toNat x) p = vh h i x p := by
 rw [gt_set i0 i1 p0]; rfl
theorem va_set {a : List Int} {v i : Int} (v0 : 0 ≤ v) (v1 : v < (a.length : Int)) {w : Int} (w0 : 0 ≤ w) : gt (a.set v.toNat (i + 1)) w = va a v i w := by
 rw [gt_set v0 v1 w0]; rfl
theorem Ix.congr {n L : Int} {h h' : Int → Int × Int} {a a' : Int → Int} (I : Ix n L h a) (eh : ∀ p, 0 ≤ p → h' p = h p) (ea : ∀ v, 0 ≤ v → a' v = a v) : Ix n L h' a' :=
 ⟨fun p p0 p1 => by rw [eh p p0]; obtain ⟨f0, f1, f2⟩ := I.fwd p p0 p1; exact ⟨f0, f1, by rw [ea _ f0]; exact f2⟩,
  fun v v0 v1 => by
   rw [ea v v0]; obtain ⟨b0, b1, b2⟩ := I.bwd v v0 v1
   exact ⟨b0, b1, fun hz => by rw [eh _ (by omega)]; exact b2 hz⟩⟩
theorem Kf.congr {n L : Int} {h h' : Int → Int × Int} {a a' : Int → Int} (I : Ix n L h a) (eh : ∀ p, 0 ≤ p → h' p = h p) (ea : ∀ v, 0 ≤ v → a' v = a v) {v : Int} (v0 : 0 ≤ v) (v1 : v < n) : Kf h' a' v = Kf h a v := by
 unfold Kf; rw [ea v v0]
 obtain ⟨b0, b1, b2⟩ := I.bwd v v0 v1
 by_cases hz : a v = 0
 ·rw [if_pos hz, if_pos hz]
 ·rw [if_neg hz, if_neg hz, eh _ (by omega)]
theorem Hv.lay {n : Int} {h : List (Int × Int)} {a : List Int} {i : Int} {x : Int × Int} {K : Int → Option Int} (H : Hv n h a i x K) :
  Hp n (h.set i.toNat x) (a.set x.2.toNat (i + 1)) K := by
 have eh : ∀ p, 0 ≤ p → gt (h.set i.toNat x) p = vh h i x p := fun p p0 => vh_set H.i0 H.i1 p0
 have ea : ∀ v, 0 ≤ v → gt (a.set x.2.toNat (i + 1)) v = va a x.2 i v := fun v v0 => va_set H.x0 (by rw [H.len]; exact H.x1) v0
 exact ⟨by simpa using H.len, by simpa using H.small, by simpa using H.ix.congr eh ea, fun v v0 v1 => (Kf.congr H.ix eh ea v0 v1).trans (H.key v v0 v1)⟩
theorem Hp.pick {n : Int} {h : List (Int × Int)} {a : List Int} {K : Int → Option Int} (H : Hp n h a K) {i : Int} (i0 : 0 ≤ i) (i1 : i < (h.length : Int)) :
  Hv n h a i (gt h i) K ∧ ∀ p, vh h i (gt h i) p = gt h p := by
 obtain ⟨f0, f1, f2⟩ := H.ix.fwd i i0 i1
 have eh : ∀ p, vh h i (gt h i) p = gt h p := fun p => by unfold vh; split <;> simp_all
 have ea : ∀ v, va a (gt h i).2 i v = gt a v := fun v => by unfold va; split <;> simp_all
 exact ⟨⟨H.len, H.small, i0, i1, f0, f1, H.ix.congr (fun p _ => eh p) (fun v _ => ea v), fun v v0 v1 => (Kf.congr H.ix (fun p _ => eh p) (fun v _ => ea v) v0 v1).trans (H.key v v0 v1)⟩, eh⟩
theorem Ord4.congr {L : Int} {h h' : Int → Int × Int} (O : Ord4 L h) (eh : ∀ p, 0 ≤ p → h' p = h p) : Ord4 L h' := fun p p0 p1 => by
 rw [eh p (by omega), eh _ (by unfold par4; omega)]; exact O p p0 p1
theorem Up4.congr {L i : Int} {h h' : Int → Int × Int} (O : Up4 L h i) (eh : ∀ p, 0 ≤ p → h' p = h p) : Up4 L h' i :=
 ⟨fun p p0 p1 hp => by rw [eh p (by omega), eh _ (by unfold par4; omega)]; exact O.1 p p0 p1 hp,
  fun i0 c c0 c1 hc => by rw [eh c (by omega), eh _ (by unfold par4; omega)]; exact O.2 i0 c c0 c1 hc⟩
theorem Down4.congr {L i : Int} {h h' : Int → Int × Int} (O : Down4 L h i) (eh : ∀ p, 0 ≤ p → h' p = h p) : Down4 L h' i :=
 ⟨fun p p0 p1 hp => by rw [eh p (by omega), eh _ (by unfold par4; omega)]; exact O.1 p p0 p1 hp,
  fun i0 c c0 c1 hc => by rw [eh c (by omega), eh _ (by unfold par4; omega)]; exact O.2 i0 c c0 c1 hc⟩
theorem p_up {n : Int} {h : List (Int × Int)} {a : List Int} {K : Int → Option Int} (H : Hp n h a K) {i : Int} (i0 : 0 ≤ i) (i1 : i < (h.length : Int)) (U : Up4 h.length (gt h) i) :
  T (z_heap_Heap_up h a i) fun r => r.1.length = h.length ∧ Hp n r.1 r.2 K ∧ Ord4 h.length (gt r.1) := by
 obtain ⟨Hv0, e0⟩ := H.pick i0 i1
 unfold z_heap_Heap_up
 rw [T_G]
 refine ⟨⟨i0, i1⟩, T_bindr (fun s => s.1.length = h.length ∧ Hv n s.1 s.2.1 s.2.2 (gt h i) K ∧ Ord4 h.length (vh s.1 s.2.2 (gt h i))) ?_ ?_⟩
 ·refine T_loop (fun s => s.1.length = h.length ∧ Hv n s.1 s.2.1 s.2.2 (gt h i) K ∧ Up4 h.length (vh s.1 s.2.2 (gt h i)) s.2.2) (fun s => s.2.2.toNat) ?_ ⟨rfl, Hv0, U.congr fun p _ => e0 p⟩
  rintro ⟨h0, a0, j⟩ ⟨hl, hv, hu⟩
  dsimp only at *
  unfold z_heap_Heap_up_l0
  rw [T_ite]
  refine ⟨fun hj => ?_, fun hj => ?_⟩
  ·rw [tdiv4 hj]
   have j1 := hv.i1
   have hsm := hv.small
   have hq : par4 j < j ∧ 0 ≤ par4 j := by unfold par4; omega
   have hpx : ((gt h i).1, (gt h i).2) = gt h i := rfl
   have hpy : ((gt h0 (par4 j)).1, (gt h0 (par4 j)).2) = gt h0 (par4 j) := rfl
   have hvj : vh h0 j (gt h i) j = gt h i := if_pos rfl
   have hvq : vh h0 j (gt h i) (par4 j) = gt h0 (par4 j) := if_neg (by omega)
   simp only [T_G, p_less, Option.bind_some, T_ite, Bool.not_eq_true', decide_eq_false_iff_not, T_some, Sum.elim_inl, Sum.elim_inr, hpx, hpy]
   refine ⟨by omega, by omega, by omega, fun hn => ⟨hl, hv, hu.done (.inr ?_)⟩, fun hy => ?_⟩
   ·rw [hvj, hvq]; exact hn
   ·have hy' : Less (gt h i) (gt h0 (par4 j)) := Classical.not_not.1 hy
    obtain ⟨m0, m1, m2, m3⟩ := hv.move hq.2 (by omega) (by omega)
    rw [p_put (by omega) j1 m0 (by rw [hv.len]; exact m1) hsm]
    simp only [Option.bind_some, T_some, Sum.elim_inl]
    refine ⟨⟨by simpa using hl, m2, hu.step (by omega) (by omega) (by rw [hvj, hvq]; exact hy') fun p p0 p1 => ?_⟩, by omega⟩
    rw [m3 p p0 (by omega)]
  ·simp only [T_some, Sum.elim_inr]
   exact ⟨hl, hv, hu.done (.inl (by have := hv.i0; omega))⟩
 ·rintro ⟨h0, a0, j⟩ ⟨hl, hv, ho⟩
  dsimp only at *
  rw [p_put hv.i0 hv.i1 hv.x0 (by rw [hv.len]; exact hv.x1) hv.small]
  simp only [Option.bind_some, T_some]
  exact ⟨by simpa using hl, hv.lay, ho.congr fun p p0 => vh_set hv.i0 hv.i1 p0⟩
end Go.Vd

/-! (Hp3) -/

set_option linter.unusedVariables false
set_option linter.unusedSimpArgs false
namespace Go.Vd
theorem p_down0 {h : List (Int × Int)} {i : Int} (i0 : 0 ≤ i) (i1 : i < 1099511627776) :
  T (loopO (fun zz_ => z_heap_Heap_down_l0 h i zz_.1 zz_.2) (0, (-1))) fun b => (b = -1 ∧ (h.length : Int) ≤ 4 * i + 1) ∨ (1 ≤ b ∧ b < (h.length : Int) ∧ par4 b = i ∧ ∀ c, 1 ≤ c → c < (h.length : Int) → par4 c = i → ¬ Less (gt h c) (gt h b)) := by
 refine T_loop (fun s => 0 ≤ s.1 ∧ s.1 ≤ 4 ∧ ((s.2 = -1 ∧ (s.1 = 0 ∨ (h.length : Int) ≤ 4 * i + 1)) ∨ (4 * i + 1 ≤ s.2 ∧ s.2 < 4 * i + 1 + s.1 ∧ s.2 < (h.length : Int) ∧ ∀ c, 4 * i + 1 ≤ c → c < 4 * i + 1 + s.1 → c < (h.length : Int) → ¬ Less (gt h c) (gt h s.2)))) (fun s => (4 - s.1).toNat) ?_ ⟨by simp, by simp, .inl ⟨rfl, .inl rfl⟩⟩
 rintro ⟨k, b⟩ ⟨k0, k1, hb⟩
 dsimp only at *
 unfold z_heap_Heap_down_l0
 simp only [T_ite, T_G, T_some, Sum.elim_inl, Sum.elim_inr, p_less, Option.bind_some, decide_eq_true_eq]
 have e1 : i * 4 + 1 + k = 4 * i + 1 + k := by omega
 rw [e1]
 refine ⟨fun hk => ⟨by omega, by omega, by omega, fun hc => ⟨fun hn => ⟨by omega, ⟨by omega, by omega, .inr ⟨by omega, by omega, hc, fun c c0 c1 c2 => ?_⟩⟩, by omega⟩, fun hn => ⟨by omega, by omega, fun hl => ⟨by omega, ⟨by omega, by omega, .inr ⟨by omega, by omega, hc, fun c c0 c1 c2 => ?_⟩⟩, by omega⟩, fun hl => ⟨by omega, ⟨by omega, by omega, .inr ⟨by omega, by omega, by omega, fun c c0 c1 c2 => ?_⟩⟩, by omega⟩⟩⟩, fun hc => ⟨by omega, ⟨by omega, by omega, ?_⟩, by omega⟩⟩, fun hk => ?_⟩
 ·rcases hb with ⟨rfl, h1⟩ | ⟨h1, _⟩
  ·rcases h1 with rfl | h1
   ·rw [show c = 4 * i + 1 + 0 from by omega]; unfold Less; omega
   ·omega
  ·omega
 ·rcases hb with ⟨rfl, h1⟩ | ⟨h1, h2, h3, h4⟩
  ·omega
  ·by_cases e : c = 4 * i + 1 + k
   ·subst e; unfold Less; omega
   ·have := h4 c c0 (by omega) c2
    have hl' : Less (gt h (4 * i + 1 + k)) (gt h b) := hl
    exact nl_mid this hl'
 ·rcases hb with ⟨rfl, h1⟩ | ⟨h1, h2, h3, h4⟩
  ·omega
  ·by_cases e : c = 4 * i + 1 + k
   ·subst e; exact hl
   ·exact h4 c c0 (by omega) c2
 ·rcases hb with ⟨rfl, h1⟩ | ⟨h1, h2, h3, h4⟩
  ·exact .inl ⟨rfl, .inr (by omega)⟩
  ·exact .inr ⟨h1, by omega, h3, fun c c0 c1 c2 => h4 c c0 (by omega) c2⟩
 ·rcases hb with ⟨rfl, h1⟩ | ⟨h1, h2, h3, h4⟩
  ·exact .inl ⟨rfl, by omega⟩
  ·exact .inr ⟨by omega, h3, by unfold par4; omega, fun c c0 c1 hc => h4 c (by unfold par4 at hc; omega) (by unfold par4 at hc; omega) c1⟩
theorem p_down {n : Int} {h : List (Int × Int)} {a : List Int} {K : Int → Option Int} (H : Hp n h a K) {i : Int} (i0 : 0 ≤ i) (i1 : i < (h.length : Int)) (D : Down4 h.length (gt h) i) :
  T (z_heap_Heap_down h a i) fun r => r.1.length = h.length ∧ Hp n r.1 r.2 K ∧ Ord4 h.length (gt r.1) := by
 obtain ⟨Hv0, e0⟩ := H.pick i0 i1
 unfold z_heap_Heap_down
 rw [T_G]
 refine ⟨⟨i0, i1⟩, T_bindr (fun s => s.1.length = h.length ∧ Hv n s.1 s.2.1 s.2.2 (gt h i) K ∧ Ord4 h.length (vh s.1 s.2.2 (gt h i))) ?_ ?_⟩
 ·refine T_loop (fun s => s.1.length = h.length ∧ Hv n s.1 s.2.1 s.2.2 (gt h i) K ∧ Down4 h.length (vh s.1 s.2.2 (gt h i)) s.2.2) (fun s => ((h.length : Int) - s.2.2).toNat) ?_ ⟨rfl, Hv0, D.congr fun p _ => e0 p⟩
  rintro ⟨h0, a0, j⟩ ⟨hl, hv, hd⟩
  dsimp only at *
  unfold z_heap_Heap_down_l1
  have j0 := hv.i0
  have j1 := hv.i1
  have hsm := hv.small
  refine T_bindr _ (p_down0 (h := h0) j0 (by omega)) fun b hb => ?_
  have hvj : vh h0 j (gt h i) j = gt h i := if_pos rfl
  have hvn : ∀ c, c ≠ j → vh h0 j (gt h i) c = gt h0 c := fun c hc => if_neg hc
  have hch : ∀ c, 1 ≤ c → par4 c = j → j < c := fun c c0 hc => by unfold par4 at hc; omega
  refine T_bindr (fun o => o = true ↔ (b < 0 ∨ ¬ Less (gt h0 b) (gt h i))) ?_ fun o ho => ?_
  ·simp only [T_ite, T_G, T_some, p_less, Option.bind_some, true_iff, Bool.not_eq_true', decide_eq_false_iff_not]
   refine ⟨fun hn => .inl hn, fun hn => ⟨by omega, ⟨fun k => .inr k, fun k => k.resolve_left hn⟩⟩⟩
  rw [T_ite]
  refine ⟨fun ht => ?_, fun hf => ?_⟩
  ·simp only [T_some, Sum.elim_inr]
   refine ⟨hl, hv, hd.done fun c c0 c1 hc => ?_⟩
   have hjc := hch c c0 hc
   rw [hvn c (by omega), hvj]
   rcases hb with ⟨rfl, hb⟩ | ⟨b0, b1, b2, b3⟩
   ·unfold par4 at hc; omega
   ·rcases ho.1 ht with hx | hx
    ·omega
    ·exact nl_trans (b3 c c0 (by omega) hc) hx
  ·have hx : ¬ (b < 0 ∨ ¬ Less (gt h0 b) (gt h i)) := fun k => hf (ho.2 k)
   rcases hb with ⟨rfl, hb⟩ | ⟨b0, b1, b2, b3⟩
   ·omega
   have hlx : Less (gt h0 b) (gt h i) := Classical.not_not.1 fun k => hx (.inr k)
   have hjb := hch b b0 b2
   obtain ⟨m0, m1, m2, m3⟩ := hv.move (by omega) b1 (by omega)
   rw [T_G, p_put j0 j1 m0 (by rw [hv.len]; exact m1) hsm]
   simp only [Option.bind_some, T_some, Sum.elim_inl]
   refine ⟨by omega, ⟨by simpa using hl, m2, hd.step j0 b0 (by omega) b2 (fun c c0 c1 hc => ?_) (by rw [hvn b (by omega), hvj]; exact hlx) fun p p0 p1 => m3 p p0 (by omega)⟩, by omega⟩
   rw [hvn c (by have := hch c c0 hc; omega), hvn b (by omega)]
   exact b3 c c0 (by omega) hc
 ·rintro ⟨h0, a0, j⟩ ⟨hl, hv, ho⟩
  dsimp only at *
  rw [p_put hv.i0 hv.i1 hv.x0 (by rw [hv.len]; exact hv.x1) hv.small]
  simp only [Option.bind_some, T_some]
  exact ⟨by simpa using hl, hv.lay, ho.congr fun p p0 => vh_set hv.i0 hv.i1 p0⟩
theorem p_up0 {n : Int} {h : List (Int × Int)} {a : List Int} {K : Int → Option Int} (H : Hp n h a K) (i1 : 0 < (h.length : Int)) :
  T (z_heap_Heap_up h a 0) fun r => r.1.length = h.length ∧ Hp n r.1 r.2 K ∧ ∀ p, 0 ≤ p → gt r.1 p = gt h p := by
 obtain ⟨hv, e0⟩ := H.pick (Int.le_refl 0) i1
 unfold z_heap_Heap_up
 rw [T_G]
 refine ⟨⟨by omega, i1⟩, T_bindr (fun s => s = (h, a, 0)) ?_ ?_⟩
 ·refine T_loop (fun s => s = (h, a, 0)) (fun s => 0) ?_ rfl
  rintro _ rfl
  unfold z_heap_Heap_up_l0
  rw [if_neg (by simp)]
  simp
 ·rintro _ rfl
  dsimp only
  rw [p_put hv.i0 hv.i1 hv.x0 (by rw [hv.len]; exact hv.x1) hv.small]
  simp only [Option.bind_some, T_some]
  exact ⟨by simp, hv.lay, fun p p0 => (vh_set hv.i0 hv.i1 p0).trans (e0 p)⟩
section
variable {n L : Int} {h h' : Int → Int × Int} {a a' : Int → Int} {x : Int × Int}
theorem Ix.add (I : Ix n L h a) (L0 : 0 ≤ L) (x0 : 0 ≤ x.2) (x1 : x.2 < n) (hz : a x.2 = 0) (eh : ∀ p, 0 ≤ p → p ≤ L → h' p = if p = L then x else h p) (ea : ∀ v, 0 ≤ v → a' v = if v = x.2 then L + 1 else a v) :
  Ix n (L + 1) h' a' ∧ ∀ v, 0 ≤ v → v < n → Kf h' a' v = if v = x.2 then some x.1 else Kf h a v := by
 have hL : h' L = x := by rw [eh L L0 (by omega), if_pos rfl]
 have hp : ∀ p, 0 ≤ p → p < L → h' p = h p := fun p p0 p1 => by rw [eh p p0 (by omega), if_neg (by omega)]
 have ax : a' x.2 = L + 1 := by rw [ea _ x0, if_pos rfl]
 have ao : ∀ v, 0 ≤ v → v ≠ x.2 → a' v = a v := fun v v0 hv => by rw [ea v v0, if_neg hv]
 refine ⟨⟨fun p p0 p1 => ?_, fun v v0 v1 => ?_⟩, fun v v0 v1 => ?_⟩
 ·by_cases e : p = L
  ·subst e; rw [hL]; exact ⟨x0, x1, ax⟩
  ·rw [hp p p0 (by omega)]
   obtain ⟨f0, f1, f2⟩ := I.fwd p p0 (by omega)
   exact ⟨f0, f1, by rw [ao _ f0 (fun e => by rw [e, hz] at f2; omega)]; exact f2⟩
 ·by_cases e : v = x.2
  ·subst e; rw [ax]; exact ⟨by omega, by omega, fun _ => by rw [show L + 1 - 1 = L from by omega, hL]⟩
  ·rw [ao v v0 e]
   obtain ⟨b0, b1, b2⟩ := I.bwd v v0 v1
   exact ⟨b0, by omega, fun k => by rw [hp _ (by omega) (by omega)]; exact b2 k⟩
 ·unfold Kf
  by_cases e : v = x.2
  ·subst e; rw [ax, if_neg (by omega), if_pos rfl, show L + 1 - 1 = L from by omega, hL]
  ·rw [ao v v0 e, if_neg e]
   obtain ⟨b0, b1, b2⟩ := I.bwd v v0 v1
   by_cases k : a v = 0
   ·rw [if_pos k, if_pos k]
   ·rw [if_neg k, if_neg k, hp _ (by omega) (by omega)]
theorem Ix.rekey (I : Ix n L h a) {i : Int} (i0 : 0 ≤ i) (i1 : i < L) (hx : (h i).2 = x.2) (eh : ∀ p, 0 ≤ p → p < L → h' p = if p = i then x else h p) (ea : ∀ v, 0 ≤ v → a' v = if v = x.2 then i + 1 else a v) :
  Ix n L h' a' ∧ ∀ v, 0 ≤ v → v < n → Kf h' a' v = if v = x.2 then some x.1 else Kf h a v := by
 obtain ⟨fi0, fi1, fi2⟩ := I.fwd i i0 i1
 rw [hx] at fi0 fi1 fi2
 have hi : h' i = x := by rw [eh i i0 i1, if_pos rfl]
 have hp : ∀ p, 0 ≤ p → p < L → p ≠ i → h' p = h p := fun p p0 p1 e => by rw [eh p p0 p1, if_neg e]
 have h2 : ∀ p, 0 ≤ p → p < L → (h' p).2 = (h p).2 := fun p p0 p1 => by
  by_cases e : p = i
  ·subst e; rw [hi, hx]
  ·rw [hp p p0 p1 e]
 have av : ∀ v, 0 ≤ v → a' v = a v := fun v v0 => by
  rw [ea v v0]; split
  ·rename_i e; subst e; exact fi2.symm
  ·rfl
 refine ⟨⟨fun p p0 p1 => ?_, fun v v0 v1 => ?_⟩, fun v v0 v1 => ?_⟩
 ·rw [h2 p p0 p1]
  obtain ⟨f0, f1, f2⟩ := I.fwd p p0 p1
  exact ⟨f0, f1, by rw [av _ f0]; exact f2⟩
 ·rw [av v v0]
  obtain ⟨b0, b1, b2⟩ := I.bwd v v0 v1
  exact ⟨b0, b1, fun k => by rw [h2 _ (by omega) (by omega)]; exact b2 k⟩
 ·unfold Kf
  rw [av v v0]
  obtain ⟨b0, b1, b2⟩ := I.bwd v v0 v1
  by_cases e : v = x.2
  ·subst e; rw [fi2, if_neg (by omega), if_pos rfl, show i + 1 - 1 = i from by omega, hi]
  ·rw [if_neg e]
   by_cases k : a v = 0
   ·rw [if_pos k, if_pos k]
   ·rw [if_neg k, if_neg k, hp _ (by omega) (by omega) (fun e2 => e (by rw [← b2 k, e2, hx]))]
theorem Ix.rem0 (I : Ix n L h a) (L1 : 1 ≤ L) (eh : ∀ p, 0 ≤ p → p < L - 1 → h' p = if p = 0 then h (L - 1) else h p)
  (ea : ∀ v, 0 ≤ v → a' v = if v = (h 0).2 then 0 else if v = (h (L - 1)).2 then 1 else a v) :
  Ix n (L - 1) h' a' ∧ ∀ v, 0 ≤ v → v < n → Kf h' a' v = if v = (h 0).2 then none else Kf h a v := by
 obtain ⟨f0, f1, f2⟩ := I.fwd 0 (by omega) (by omega)
 obtain ⟨l0, l1, l2⟩ := I.fwd (L - 1) (by omega) (by omega)
 have a0 : a' (h 0).2 = 0 := by rw [ea _ f0, if_pos rfl]
 have ao : ∀ v, 0 ≤ v → v ≠ (h 0).2 → v ≠ (h (L - 1)).2 → a' v = a v := fun v v0 h1 h2 => by rw [ea v v0, if_neg h1, if_neg h2]
 have hp : ∀ p, 0 ≤ p → p < L - 1 → p ≠ 0 → h' p = h p := fun p p0 p1 e => by rw [eh p p0 p1, if_neg e]
 refine ⟨⟨fun p p0 p1 => ?_, fun v v0 v1 => ?_⟩, fun v v0 v1 => ?_⟩
 ·by_cases e : p = 0
  ·subst e
   rw [eh 0 p0 p1, if_pos rfl]
   refine ⟨l0, l1, ?_⟩
   rw [ea _ l0, if_neg (fun e => by have := I.inj (by omega) (by omega) (by omega) (by omega) e; omega), if_pos rfl]; omega
  ·rw [hp p p0 p1 e]
   obtain ⟨g0, g1, g2⟩ := I.fwd p p0 (by omega)
   refine ⟨g0, g1, ?_⟩
   rw [ao _ g0 (fun e2 => by have := I.inj p0 (by omega) (by omega) (by omega) e2; omega) (fun e2 => by have := I.inj p0 (by omega) (by omega) (by omega) e2; omega)]
   exact g2
 ·by_cases e : v = (h 0).2
  ·subst e; rw [a0]; exact ⟨by omega, by omega, fun k => absurd rfl k⟩
  ·by_cases e2 : v = (h (L - 1)).2
   ·subst e2
    have hL : L - 1 ≠ 0 := fun k => e (by rw [k])
    rw [ea _ l0, if_neg e, if_pos rfl]
    exact ⟨by omega, by omega, fun _ => by rw [show (1 : Int) - 1 = 0 from rfl, eh 0 (by omega) (by omega), if_pos rfl]⟩
   ·rw [ao v v0 e e2]
    obtain ⟨b0, b1, b2⟩ := I.bwd v v0 v1
    have hb : a v ≠ 0 → a v - 1 ≠ 0 ∧ a v - 1 ≠ L - 1 := fun k => ⟨fun q => e (by rw [← b2 k, q]), fun q => e2 (by rw [← b2 k, q])⟩
    refine ⟨b0, ?_, fun k => ?_⟩
    ·by_cases k : a v = 0
     ·omega
     ·have := hb k; omega
    ·have := hb k
     rw [hp _ (by omega) (by omega) this.1]; exact b2 k
 ·unfold Kf
  by_cases e : v = (h 0).2
  ·subst e; rw [a0, if_pos rfl, if_pos rfl]
  ·rw [if_neg e]
   by_cases e2 : v = (h (L - 1)).2
   ·subst e2
    have hL : L - 1 ≠ 0 := fun k => e (by rw [k])
    rw [ea _ l0, if_neg e, if_pos rfl, l2, if_neg (by omega), if_neg (by omega), show (1 : Int) - 1 = 0 from rfl, eh 0 (by omega) (by omega), if_pos rfl, show L - 1 + 1 - 1 = L - 1 from by omega]
   ·rw [ao v v0 e e2]
    obtain ⟨b0, b1, b2⟩ := I.bwd v v0 v1
    by_cases k : a v = 0
    ·rw [if_pos k, if_pos k]
    ·have h1 : a v - 1 ≠ 0 := fun q => e (by rw [← b2 k, q])
     have h2 : a v - 1 ≠ L - 1 := fun q => e2 (by rw [← b2 k, q])
     rw [if_neg k, if_neg k, hp _ (by omega) (by omega) h1]
end
end Go.Vd

/-! (Hp4) -/

set_option linter.unusedVariables false
set_option linter.unusedSimpArgs false
namespace Go.Vd
theorem gt_snoc {E : Type} [Inhabited E] {l : List E} {x : E} {p : Int} (p0 : 0 ≤ p) : gt (l ++ [x]) p = if p = (l.length : Int) then x else gt l p := by
 unfold gt
 rw [List.getD_eq_getElem?_getD, List.getD_eq_getElem?_getD]
 by_cases h : p = (l.length : Int)
 ·subst h; simp
 ·rw [if_neg h]
  by_cases h2 : p < (l.length : Int)
  ·rw [List.getElem?_append_left (by omega)]
  ·rw [List.getElem?_eq_none (by simp; omega), List.getElem?_eq_none (by omega)]
theorem gt_take {E : Type} [Inhabited E] {l : List E} {m : Nat} {p : Int} (p0 : 0 ≤ p) (p1 : p < (m : Int)) : gt (l.take m) p = gt l p := by
 unfold gt
 rw [List.getD_eq_getElem?_getD, List.getD_eq_getElem?_getD, List.getElem?_take, if_pos (by omega)]
theorem Hp.key_in {n : Int} {h : List (Int × Int)} {a : List Int} {K : Int → Option Int} (H : Hp n h a K) {v k : Int} (v0 : 0 ≤ v) (v1 : v < n) (hk : K v = some k) : 1 ≤ gt a v ∧ gt a v ≤ (h.length : Int) ∧ gt h (gt a v - 1) = (k, v) := by
 have e := H.key v v0 v1
 rw [hk] at e
 unfold Kf at e
 obtain ⟨b0, b1, b2⟩ := H.ix.bwd v v0 v1
 by_cases hz : gt a v = 0
 ·rw [if_pos hz] at e; cases e
 ·rw [if_neg hz] at e
  refine ⟨by omega, b1, Prod.ext ?_ (b2 hz)⟩
  exact Option.some.inj e
theorem p_Set {n : Int} {h : List (Int × Int)} {a : List Int} {K : Int → Option Int} (H : Hp n h a K) (O : Ord4 h.length (gt h)) {id key : Int} (v0 : 0 ≤ id) (v1 : id < n) (hn : n ≤ 1099511627776)
  (hk : ∀ old, K id = some old → key ≤ old) (room : h.length + 1 ≤ 1099511627776) :
  T (z_heap_Heap_Set h a id key) fun r => r.1 = Er.nil ∧ r.2.2.length ≤ h.length + 1 ∧ Hp n r.2.2 r.2.1 (fun v => if v = id then some key else K v) ∧ Ord4 r.2.2.length (gt r.2.2) := by
 unfold z_heap_Heap_Set
 have hal := H.len
 have hchk : z_heap_Heap_check h a id = some Er.nil := by
  unfold z_heap_Heap_check G; rw [if_pos (by omega), if_neg (by omega)]
 obtain ⟨b0, b1, b2⟩ := H.ix.bwd id v0 v1
 rw [hchk, Option.bind_some, if_pos rfl]
 simp only [T_G]
 refine ⟨by omega, by omega, ?_⟩
 -- the item is laid
 suffices key' : ∀ (h1 : List (Int × Int)) (i : Int), 0 ≤ i → i < (h1.length : Int) → h1.length ≤ h.length + 1 → Hp n (h1.set i.toNat (key, id)) (a.set id.toNat (i + 1)) (fun v => if v = id then some key else K v) → Up4 h1.length (gt (h1.set i.toNat (key, id))) i →
   T ((z_heap_Heap_put h1 a i key id).bind fun y94 => ((z_heap_Heap_up y94.1 y94.2 i).bind fun y103 => G (id < (y103.2.length : Int)) (G (-9223372036854775808 ≤ ((gt y103.2 id) - 1) ∧ ((gt y103.2 id) - 1) ≤ 9223372036854775807) (((z_heap_Heap_down y103.1 y103.2 ((gt y103.2 id) - 1)).bind fun y116 => some (Er.nil, y116.2, y116.1))))))
    fun r => r.1 = Er.nil ∧ r.2.2.length ≤ h.length + 1 ∧ Hp n r.2.2 r.2.1 (fun v => if v = id then some key else K v) ∧ Ord4 r.2.2.length (gt r.2.2) by
  by_cases hz : gt a id = 0
  ·refine T_bindr (fun o => o = (h ++ [(0, 0)], (h.length : Int))) ?_ ?_
   ·rw [if_pos (by omega)]; simp only [T_G, T_some, and_true]; omega
   ·rintro _ rfl
    have hl : (h ++ [((0 : Int), (0 : Int))]).length = h.length + 1 := by simp
    have eh : ∀ p, 0 ≤ p → p ≤ (h.length : Int) → gt ((h ++ [((0 : Int), (0 : Int))]).set ((h.length : Int)).toNat (key, id)) p = if p = (h.length : Int) then (key, id) else gt h p := fun p p0 p1 => by
     rw [gt_set (by omega) (by rw [hl]; omega) p0, gt_snoc p0]
     by_cases e : p = (h.length : Int)
     ·rw [if_pos e, if_pos e]
     ·rw [if_neg e, if_neg e, if_neg e]
    have ea : ∀ v, 0 ≤ v → gt (a.set id.toNat ((h.length : Int) + 1)) v = if v = id then (h.length : Int) + 1 else gt a v := fun v w0 => gt_set v0 (by omega) w0
    obtain ⟨s1, s2⟩ := H.ix.add (x := (key, id)) (by omega) v0 v1 hz eh ea
    refine key' (h ++ [(0, 0)]) h.length (by omega) (by rw [hl]; omega) (by omega) ⟨by simpa using hal, by simp; omega, by simpa using s1, fun v w0 w1 => ?_⟩ ?_
    ·rw [s2 v w0 w1, H.key v w0 w1]
    ·rw [hl]
     have pl : ∀ p, 1 ≤ p → par4 p < p ∧ 0 ≤ par4 p := fun p hp => by unfold par4; omega
     refine ⟨fun p p0 p1 hp => ?_, fun i0 c c0 c1 hc => ?_⟩
     ·have := pl p p0
      rw [eh p (by omega) (by omega), if_neg hp, eh _ (by omega) (by omega), if_neg (by omega)]
      exact O p p0 (by omega)
     ·have := pl c c0; omega
  ·refine T_bindr (fun o => o = (h, gt a id - 1)) ?_ ?_
   ·rw [if_neg (by omega)]; simp only [T_some]
   ·rintro _ rfl
    have hb := b2 hz
    have hK : K id = some (gt h (gt a id - 1)).1 := by
     rw [← H.key id v0 v1]; unfold Kf; rw [if_neg hz]
    have hle := hk _ hK
    have eh : ∀ p, 0 ≤ p → p < (h.length : Int) → gt (h.set (gt a id - 1).toNat (key, id)) p = if p = gt a id - 1 then (key, id) else gt h p := fun p p0 p1 => gt_set (by omega) (by omega) p0
    have ea : ∀ v, 0 ≤ v → gt (a.set id.toNat (gt a id - 1 + 1)) v = if v = id then gt a id - 1 + 1 else gt a v := fun v w0 => gt_set v0 (by omega) w0
    obtain ⟨s1, s2⟩ := H.ix.rekey (x := (key, id)) (by omega) (by omega) hb eh ea
    refine key' h (gt a id - 1) (by omega) (by omega) (by omega) ⟨by simpa using hal, by simpa using H.small, by simpa using s1, fun v w0 w1 => ?_⟩ ?_
    ·rw [s2 v w0 w1, H.key v w0 w1]
    ·have pl : ∀ p, 1 ≤ p → par4 p < p ∧ 0 ≤ par4 p := fun p hp => by unfold par4; omega
     refine ⟨fun p p0 p1 hp => ?_, fun i0 c c0 c1 hc => ?_⟩
     ·have := pl p p0
      rw [eh p (by omega) p1, if_neg hp, eh _ (by omega) (by omega)]
      have hO := O p p0 p1
      split
      ·rename_i e
       rw [e] at hO
       revert hO
       generalize hg : gt h (gt a id - 1) = y at *
       unfold Less; dsimp only; omega
      ·exact hO
     ·have := pl c c0
      have := pl (gt a id - 1) i0
      rw [eh c (by omega) c1, if_neg (by omega), eh _ (by omega) (by omega), if_neg (by omega)]
      have h1 := O c c0 c1
      rw [hc] at h1
      exact nl_trans h1 (O _ i0 (by omega))
 intro h1 i i0 i1 hl hH hU
 rw [p_put i0 i1 v0 (by omega) (by omega), Option.bind_some]
 have hl2 : (h1.set i.toNat (key, id)).length = h1.length := by simp
 refine T_bindr _ (p_up hH i0 (by rw [hl2]; exact i1) (by rw [hl2]; exact hU)) ?_
 rintro ⟨h2, a2⟩ ⟨l2, H2, O2⟩
 dsimp only at *
 obtain ⟨k1, k2, k3⟩ := H2.key_in v0 v1 (if_pos rfl)
 have hl2' := H2.len
 rw [hl2] at l2 O2
 simp only [T_G]
 refine ⟨by omega, by omega, ?_⟩
 rw [← l2] at O2
 refine T_bindr _ (p_down H2 (by omega) (by omega) (O2.down (by omega))) ?_
 rintro ⟨h3, a3⟩ ⟨l3, H3, O3⟩
 dsimp only at *
 simp only [T_some]
 exact ⟨trivial, by omega, H3, by rw [l3]; exact O3⟩
theorem p_Top {h : List (Int × Int)} {a : List Int} : z_heap_Heap_Top h a = some (if (h.length : Int) = 0 then (0, 0, false) else ((gt h 0).2, (gt h 0).1, true)) := by
 unfold z_heap_Heap_Top G
 by_cases e : (h.length : Int) = 0
 ·rw [if_pos e, if_pos e]
 ·rw [if_neg e, if_neg e, if_pos (by omega)]
theorem p_Pop {n : Int} {h : List (Int × Int)} {a : List Int} {K : Int → Option Int} (H : Hp n h a K) (O : Ord4 h.length (gt h)) (hn : n ≤ 1099511627776) (hl : 0 < (h.length : Int)) :
  T (z_heap_Heap_Pop h a) fun r => (r.2.2.2.2.length : Int) = h.length - 1 ∧ Hp n r.2.2.2.2 r.2.2.2.1 (fun v => if v = (gt h 0).2 then none else K v) ∧ Ord4 r.2.2.2.2.length (gt r.2.2.2.2) := by
 unfold z_heap_Heap_Pop
 have hsm := H.small
 have hal := H.len
 obtain ⟨f0, f1, f2⟩ := H.ix.fwd 0 (by omega) hl
 obtain ⟨g0, g1, g2⟩ := H.ix.fwd ((h.length : Int) - 1) (by omega) (by omega)
 have hT : z_heap_Heap_Top h a = some ((gt h 0).2, (gt h 0).1, true) := by rw [p_Top, if_neg (by omega)]
 rw [hT, Option.bind_some, if_pos rfl]
 have hkey : z_heap_Heap_Key h a (gt h 0).2 = some ((gt h 0).1, true) := by
  have hchk : z_heap_Heap_check h a (gt h 0).2 = some Er.nil := by
   unfold z_heap_Heap_check G; rw [if_pos (by omega), if_neg (by omega)]
  refine T_eq.1 ?_
  unfold z_heap_Heap_Key
  rw [hchk, Option.bind_some, if_pos rfl, f2]
  refine T_bindr (fun o => o = false) ?_ ?_
  ·simp only [T_G, T_some]; exact ⟨by omega, rfl⟩
  ·rintro _ rfl
   rw [if_neg (by decide)]
   simp only [T_G, T_some]
   exact ⟨by omega, by omega, by omega, rfl⟩
 suffices rem : T (z_heap_Heap_Remove h a (gt h 0).2) fun r => (r.2.2.length : Int) = h.length - 1 ∧ Hp n r.2.2 r.2.1 (fun v => if v = (gt h 0).2 then none else K v) ∧ Ord4 r.2.2.length (gt r.2.2) by
  refine T_bindr _ rem ?_
  rintro ⟨b, a', h'⟩ hr
  simpa using hr
 unfold z_heap_Heap_Remove
 rw [hkey, Option.bind_some]
 dsimp only
 rw [if_neg (by decide)]
 simp only [T_G]
 have htl : ((h.take ((h.length : Int) - 1).toNat).length : Int) = h.length - 1 := by rw [List.length_take]; omega
 refine ⟨by omega, by omega, by omega, by omega, by omega, ?_⟩
 rw [f2, T_ite]
 have ea0 : ∀ v, 0 ≤ v → gt (a.set (gt h 0).2.toNat 0) v = if v = (gt h 0).2 then 0 else gt a v := fun v w0 => gt_set f0 (by omega) w0
 refine ⟨fun hlt => ?_, fun hge => ?_⟩
 ·have hid : (gt h 0).2 ≠ (gt h ((h.length : Int) - 1)).2 := fun e => by have := H.ix.inj (by omega) hl (by omega) (by omega) e; omega
  rw [show (0 : Int) + 1 - 1 = 0 from rfl, p_put (by omega) (by rw [htl]; omega) g0 (by simp; omega) (by omega), Option.bind_some]
  dsimp only
  have eh : ∀ p, 0 ≤ p → p < (h.length : Int) - 1 → gt ((h.take ((h.length : Int) - 1).toNat).set (0 : Int).toNat ((gt h ((h.length : Int) - 1)).1, (gt h ((h.length : Int) - 1)).2)) p = if p = 0 then gt h ((h.length : Int) - 1) else gt h p := fun p p0 p1 => by
   rw [gt_set (by omega) (by rw [htl]; omega) p0]
   by_cases e : p = 0
   ·rw [if_pos e, if_pos e]
   ·rw [if_neg e, if_neg e, gt_take p0 (by omega)]
  have ea : ∀ v, 0 ≤ v → gt ((a.set (gt h 0).2.toNat 0).set (gt h ((h.length : Int) - 1)).2.toNat (0 + 1)) v = if v = (gt h 0).2 then 0 else if v = (gt h ((h.length : Int) - 1)).2 then 1 else gt a v := fun v w0 => by
   rw [gt_set g0 (by simp; omega) w0, ea0 v w0]
   by_cases e : v = (gt h 0).2
   ·rw [if_neg (fun e2 => hid (e.symm.trans e2)), if_pos e, if_pos e]
   ·rw [if_neg e, if_neg e]; rfl
  obtain ⟨s1, s2⟩ := H.ix.rem0 (by omega) eh ea
  have hl1 : (((h.take ((h.length : Int) - 1).toNat).set (0 : Int).toNat ((gt h ((h.length : Int) - 1)).1, (gt h ((h.length : Int) - 1)).2)).length : Int) = h.length - 1 := by rw [List.length_set]; exact htl
  have HH : Hp n ((h.take ((h.length : Int) - 1).toNat).set (0 : Int).toNat ((gt h ((h.length : Int) - 1)).1, (gt h ((h.length : Int) - 1)).2)) ((a.set (gt h 0).2.toNat 0).set (gt h ((h.length : Int) - 1)).2.toNat (0 + 1)) (fun v => if v = (gt h 0).2 then none else K v) :=
   ⟨by simpa using hal, by omega, by rw [hl1]; exact s1, fun v w0 w1 => by rw [s2 v w0 w1, H.key v w0 w1]⟩
  have e0 : gt ((a.set (gt h 0).2.toNat 0).set (gt h ((h.length : Int) - 1)).2.toNat (0 + 1)) (gt h ((h.length : Int) - 1)).2 = 1 := by
   rw [ea _ g0, if_neg (Ne.symm hid), if_pos rfl]
  refine T_bindr _ (p_up0 HH (by rw [hl1]; omega)) ?_
  rintro ⟨h2, a2⟩ ⟨l2, H2, q2⟩
  dsimp only at *
  have hl2 := H2.len
  have hL2 : (h2.length : Int) = h.length - 1 := by omega
  -- the place of the item that was moved
  have hpos : gt a2 (gt h ((h.length : Int) - 1)).2 = 1 := by
   obtain ⟨_, _, w⟩ := H2.ix.fwd 0 (by omega) (by omega)
   rw [q2 0 (by omega), eh 0 (by omega) (by omega), if_pos rfl] at w
   simpa using w
  simp only [T_G]
  refine ⟨by omega, by omega, ?_⟩
  rw [hpos]
  have D : Down4 h2.length (gt h2) 0 := by
   refine ⟨fun p p0 p1 hp => ?_, fun i0 => by omega⟩
   have hpp : par4 p < p ∧ 0 ≤ par4 p := by unfold par4; omega
   rw [q2 p (by omega), q2 _ hpp.2, eh p (by omega) (by omega), if_neg (by omega), eh _ hpp.2 (by omega), if_neg hp]
   exact O p p0 (by omega)
  refine T_bindr _ (p_down H2 (i := 1 - 1) (by omega) (by omega) D) ?_
  rintro ⟨h3, a3⟩ ⟨l3, H3, O3⟩
  dsimp only at *
  simp only [T_some]
  exact ⟨by omega, H3, by rw [l3]; exact O3⟩
 ·have hL : (h.length : Int) = 1 := by omega
  simp only [T_some]
  have eh : ∀ p, 0 ≤ p → p < (h.length : Int) - 1 → gt (h.take ((h.length : Int) - 1).toNat) p = if p = 0 then gt h ((h.length : Int) - 1) else gt h p := fun p p0 p1 => by omega
  have ea : ∀ v, 0 ≤ v → gt (a.set (gt h 0).2.toNat 0) v = if v = (gt h 0).2 then 0 else if v = (gt h ((h.length : Int) - 1)).2 then 1 else gt a v := fun v w0 => by
   rw [ea0 v w0, show (h.length : Int) - 1 = 0 from by omega]
   by_cases e : v = (gt h 0).2
   ·rw [if_pos e, if_pos e]
   ·rw [if_neg e, if_neg e, if_neg e]
  obtain ⟨s1, s2⟩ := H.ix.rem0 (by omega) eh ea
  exact ⟨htl, ⟨by simpa using hal, by omega, by rw [htl]; exact s1, fun v w0 w1 => by rw [s2 v w0 w1, H.key v w0 w1]⟩, fun p p0 p1 => by omega⟩
end Go.Vd

/-! (LwSimple3) -/

namespace Go.Vd
theorem gt_tk {l : List Int} {r : Nat} {k : Int} (k0 : 0 ≤ k) (k1 : k < (r : Int)) : gt (l.take r) k = gt l k := by
 simp only [gt, List.getD_eq_getElem?_getD]
 rw [List.getElem?_take, if_pos (by omega)]
variable {fi to wt : List Int}
theorem Len.zero {l : List Int} {n : Int} {er : Er} (h : Len fi to wt l n er) (he : er ≠ .nil) : n = 0 := by
 cases h with
 | ok => exact absurd rfl he
 | _ => rfl
end Go.Vd

/-! (LwSimple4) -/

namespace Go.Vd
theorem dup_absurd {s : List Int} (hd : s.Nodup) {i j : Int} (j0 : 0 ≤ j) (j1 : j < i) (i1 : i < (s.length : Int)) (h : gt ((s.take i.toNat).drop 0) j = gt s i) : False := by
 rw [List.drop_zero, gt_tk j0 (by omega)] at h
 obtain ⟨a, rfl⟩ : ∃ a : Nat, j = a := ⟨j.toNat, by omega⟩
 obtain ⟨b, rfl⟩ : ∃ b : Nat, i = b := ⟨i.toNat, by omega⟩
 rw [gt_nat (by omega), gt_nat (by omega)] at h
 have := (List.getElem_inj hd).1 h
 omega
end Go.Vd

/-! (Ds1) -/

set_option linter.unusedVariables false
set_option linter.unusedSimpArgs false
namespace Go.Vd
variable {F T' W : List Int} {s : Int}
inductive Way (F T' W : List Int) (s : Int) : Int → Int → Prop
 | refl : Way F T' W s s 0
 | step (u d x w : Int) : Way F T' W s u d → Arcw F T' W u x w → Way F T' W s x (d + w)
structure Cd (F T' W : List Int) (s : Int) (d : Int → Option Int) : Prop where
 src : d s = some 0
 way : ∀ v k, d v = some k → Way F T' W s v k
 arc : ∀ u k x w, d u = some k → Arcw F T' W u x w → ∃ m, d x = some m ∧ m ≤ k + w
theorem Cd.low {d : Int → Option Int} (C : Cd F T' W s d) {v L : Int} (h : Way F T' W s v L) : ∃ k, d v = some k ∧ k ≤ L := by
 induction h with
 | refl => exact ⟨0, C.src, Int.le_refl _⟩
 | step u e x w _ ha ih =>
  obtain ⟨k, h1, h2⟩ := ih
  obtain ⟨m, h3, h4⟩ := C.arc u k x w h1 ha
  exact ⟨m, h3, by omega⟩
theorem Cd.uniq {d e : Int → Option Int} (C : Cd F T' W s d) (C' : Cd F T' W s e) (v : Int) : d v = e v := by
 cases h : d v with
 | some k =>
  obtain ⟨m, h1, h2⟩ := C'.low (C.way v k h)
  obtain ⟨k', h3, h4⟩ := C.low (C'.way v m h1)
  rw [h] at h3; cases h3
  rw [h1, show k = m from by omega]
 | none =>
  cases h' : e v with
  | none => rfl
  | some m =>
   obtain ⟨k, h1, _⟩ := C.low (C'.way v m h')
   rw [h] at h1; cases h1
def LD (l : List Int) (v : Int) : Option Int := if 0 ≤ v ∧ v < (l.length : Int) ∧ gt l v ≠ 18446744073709551615 then some (gt l v) else none
structure DistL (F T' W : List Int) (s : Int) (l : List Int) : Prop where
 len : (l.length : Int) = (F.length : Int) - 1
 cd : Cd F T' W s (LD l)
theorem DistL.uniq {l m : List Int} (h : DistL F T' W s l) (k : DistL F T' W s m) : l = m := by
 have hl := h.len; have hk := k.len
 refine list_gt (by omega) fun j j0 j1 => ?_
 have e := h.cd.uniq k.cd j
 unfold LD at e
 by_cases a : gt l j = 18446744073709551615
 ·by_cases b : gt m j = 18446744073709551615
  ·rw [a, b]
  ·rw [if_neg (by omega), if_pos ⟨j0, by omega, b⟩] at e; cases e
 ·by_cases b : gt m j = 18446744073709551615
  ·rw [if_pos ⟨j0, j1, a⟩, if_neg (by omega)] at e; cases e
  ·rw [if_pos ⟨j0, j1, a⟩, if_pos ⟨j0, by omega, b⟩] at e
   exact Option.some.inj e
def cntT (l : List Bool) : Int := ((l.filter id).length : Int)
theorem cntT_le (l : List Bool) : cntT l ≤ l.length := by
 unfold cntT; have := List.length_filter_le id l; omega
theorem cntT_set : ∀ {l : List Bool} {i : Nat}, (h : i < l.length) → l[i] = false → cntT (l.set i true) = cntT l + 1 := by
 intro l
 induction l with
 | nil => intro i h; simp at h
 | cons b l ih =>
  intro i h hb
  cases i with
  | zero =>
   simp only [List.getElem_cons_zero] at hb
   subst hb
   simp [cntT]
  | succ i =>
   simp only [List.getElem_cons_succ] at hb
   have := ih (by simpa using h) hb
   unfold cntT at *
   cases b <;> simp at * <;> omega
theorem cntT_zero (n : Nat) : cntT (List.replicate n false) = 0 := by
 unfold cntT
 simp
end Go.Vd

/-! (Bf0) -/

set_option linter.unusedVariables false
set_option linter.unusedSimpArgs false
namespace Go.Vd
variable {F T' W : List Int} {s : Int}
theorem Chk.node' (hc : Chk F T' W .nil) {u j : Int} (hI : In F u j) : 0 ≤ gt T' j ∧ gt T' j < (F.length : Int) - 1 := by
 have := hc.arcs u j hI
 unfold arcNo at this
 by_cases h : gt T' j < 0 ∨ gt T' j ≥ (F.length : Int) - 1
 ·rw [if_pos h] at this; omega
 ·omega
theorem Chk.inb' (hc : Chk F T' W .nil) {v : Int} (v0 : 0 ≤ v) (v1 : v < (F.length : Int) - 1) : 0 ≤ gt F v ∧ gt F v ≤ gt F (v + 1) ∧ gt F (v + 1) ≤ (T'.length : Int) ∧ (T'.length : Int) = W.length ∧ (T'.length : Int) ≤ 262144 := by
 obtain ⟨s1, s2, s3, s4⟩ := hc.shp
 obtain ⟨m1, m2⟩ := hc.small
 have hM := hc.mon
 have hb0 := hM v v0 v1
 have hb1 := hM.le (u := 0) (w := v) (by omega) (by omega) (by omega)
 have hb2 := hM.le (u := v + 1) (w := (F.length : Int) - 1) (by omega) (by omega) (by omega)
 omega
theorem p_Row (hc : Chk F T' W .nil) {v : Int} (v0 : 0 ≤ v) (v1 : v < (F.length : Int) - 1) : T (z_viaductref05_Row F T' W v) fun l => (l.length : Int) = gt F (v + 1) - gt F v ∧
  (∀ y ∈ l, ∃ j, In F v j ∧ y = (v, gt T' j, gt W j)) ∧ ∀ j, In F v j → (v, gt T' j, gt W j) ∈ l := by
 obtain ⟨b0, b1, b2, b3, b4⟩ := hc.inb' v0 v1
 obtain ⟨m1, m2⟩ := hc.small
 unfold z_viaductref05_Row
 rw [T_G, T_bind]
 refine ⟨by omega, ?_⟩
 refine T_loop (fun z => gt F v ≤ z.2 ∧ z.2 ≤ gt F (v + 1) ∧ (z.1.length : Int) = z.2 - gt F v ∧ (∀ y ∈ z.1, ∃ j, In F v j ∧ y = (v, gt T' j, gt W j)) ∧ ∀ j, In F v j → j < z.2 → (v, gt T' j, gt W j) ∈ z.1) (fun z => (gt F (v + 1) - z.2).toNat) ?_ ⟨by simp, b1, by simp, by simp, fun j hj h => by have := hj.2.2.1; dsimp only at h; omega⟩
 rintro ⟨l, i⟩ ⟨i0, i1, hl, h1, h2⟩
 dsimp only at *
 unfold z_viaductref05_Row_l0
 simp only [T_G, T_ite, T_some, Sum.elim_inl, Sum.elim_inr]
 refine ⟨by omega, by omega, fun hi => ⟨by omega, by omega, by simp; omega, by omega, ⟨by omega, by omega, by simp; omega, fun y hy => ?_, fun j hj hlt => ?_⟩, by omega⟩, fun hi => ⟨by omega, h1, fun j hj => h2 j hj (by have := hj.2.2.2; omega)⟩⟩
 ·rcases List.mem_append.1 hy with hy | hy
  ·exact h1 y hy
  ·exact ⟨i, ⟨v0, v1, i0, hi⟩, List.mem_singleton.1 hy⟩
 ·by_cases e : j = i
  ·subst e; simp
  ·exact List.mem_append_left _ (h2 j hj (by omega))
end Go.Vd

/-! (Bf1) -/

set_option linter.unusedVariables false
set_option linter.unusedSimpArgs false
namespace Go.Vd
variable {F T' W : List Int} {s : Int}
theorem p_Graph (hc : Chk F T' W .nil) : T (z_viaductref05_Graph F T' W) fun r => r.1 = (F.length : Int) - 1 ∧ (r.2.length : Int) ≤ 262144 ∧
  (∀ y ∈ r.2, ∃ u j, In F u j ∧ y = (u, gt T' j, gt W j)) ∧ ∀ u j, In F u j → (u, gt T' j, gt W j) ∈ r.2 := by
 obtain ⟨s1, s2, s3, s4⟩ := hc.shp
 obtain ⟨m1, m2⟩ := hc.small
 unfold z_viaductref05_Graph
 rw [T_G]
 refine ⟨by omega, T_bindr (fun l => (l.length : Int) ≤ 262144 ∧ (∀ y ∈ l, ∃ u j, In F u j ∧ y = (u, gt T' j, gt W j)) ∧ ∀ u j, In F u j → (u, gt T' j, gt W j) ∈ l) ?_ fun l h => by simp only [T_some]; exact ⟨trivial, h⟩⟩
 refine T_loop (fun z => 0 ≤ z.2 ∧ z.2 ≤ (F.length : Int) - 1 ∧ (z.1.length : Int) = gt F z.2 ∧ (∀ y ∈ z.1, ∃ u j, In F u j ∧ y = (u, gt T' j, gt W j)) ∧ ∀ u j, In F u j → u < z.2 → (u, gt T' j, gt W j) ∈ z.1) (fun z => ((F.length : Int) - z.2).toNat) ?_ ⟨by simp, by dsimp only; omega, by simp [s2], by simp, fun u j hj h => by have := hj.1; dsimp only at h; omega⟩
 rintro ⟨l, v⟩ ⟨v0, v1, hl, h1, h2⟩
 dsimp only at *
 unfold z_viaductref05_Graph_l0
 rw [T_ite]
 refine ⟨fun hv => ?_, fun hv => ?_⟩
 ·obtain ⟨b0, b1, b2, b3, b4⟩ := hc.inb' v0 hv
  refine T_bindr _ (p_Row hc v0 hv) fun y ⟨y1, y2, y3⟩ => ?_
  simp only [T_G, T_some, Sum.elim_inl]
  refine ⟨by omega, by omega, ⟨by omega, by omega, by simp; omega, fun z hz => ?_, fun u j hj hlt => ?_⟩, by omega⟩
  ·rcases List.mem_append.1 hz with hz | hz
   ·exact h1 z hz
   ·obtain ⟨j, q1, q2⟩ := y2 z hz; exact ⟨v, j, q1, q2⟩
  ·by_cases e : u = v
   ·subst e; exact List.mem_append_right _ (y3 j hj)
   ·exact List.mem_append_left _ (h2 u j hj (by omega))
 ·simp only [T_some, Sum.elim_inr]
  have : v = (F.length : Int) - 1 := by omega
  subst this
  exact ⟨by omega, h1, fun u j hj => h2 u j hj hj.2.1⟩
def Far : Int := 18446744073709551615
def sumN (l : List Int) : Nat := (l.map Int.toNat).sum
theorem sumN_set : ∀ {l : List Int} {i : Nat} {y : Int}, (h : i < l.length) → 0 ≤ y → y < l[i] → sumN (l.set i y) < sumN l := by
 intro l
 induction l with
 | nil => intro i y h; simp at h
 | cons b l ih =>
  intro i y h hy hb
  cases i with
  | zero => simp [sumN] at *; omega
  | succ i =>
   simp only [List.getElem_cons_succ] at hb
   have := ih (by simpa using h) hy hb
   simp [sumN] at *; omega
def fin (l : List Int) : List Bool := l.map fun x => decide (x ≠ Far)
theorem fin_set {l : List Int} {i : Nat} {y : Int} (h : i < l.length) (hy : y ≠ Far) : (l[i] = Far → cntT (fin (l.set i y)) = cntT (fin l) + 1) ∧ (l[i] ≠ Far → cntT (fin (l.set i y)) = cntT (fin l)) := by
 have e : fin (l.set i y) = (fin l).set i true := by unfold fin; rw [List.map_set]; simp [hy]
 have hl : i < (fin l).length := by simpa [fin] using h
 have hg : (fin l)[i] = decide (l[i] ≠ Far) := by simp [fin]
 refine ⟨fun k => ?_, fun k => ?_⟩
 ·rw [e]; exact cntT_set hl (by rw [hg]; simp [k])
 ·rw [e]
  have : (fin l).set i true = fin l := by
   have h3 : (fin l)[i] = true := by rw [hg]; simp [k]
   rw [← h3]; exact List.set_getElem_self hl
  rw [this]
structure BI (F T' W : List Int) (s : Int) (l : List Int) : Prop where
 len : (l.length : Int) = (F.length : Int) - 1
 src : gt l s = 0
 way : ∀ v, 0 ≤ v → v < (F.length : Int) - 1 → gt l v ≠ Far → Way F T' W s v (gt l v) ∧ 0 ≤ gt l v ∧ gt l v ≤ cntT (fin l) * 2147483647
theorem BI.small {l : List Int} (B : BI F T' W s l) (hc : Chk F T' W .nil) {v : Int} (v0 : 0 ≤ v) (v1 : v < (F.length : Int) - 1) (h : gt l v ≠ Far) : gt l v ≤ 140737488289792 := by
 obtain ⟨_, _, h3⟩ := B.way v v0 v1 h
 have h4 := cntT_le (fin l)
 have h5 : ((fin l).length : Int) = (F.length : Int) - 1 := by simp [fin]; exact B.len
 obtain ⟨m1, _⟩ := hc.small
 omega
theorem BI.turn {l : List Int} (B : BI F T' W s l) (hc : Chk F T' W .nil) (s0 : 0 ≤ s) (s1 : s < (F.length : Int) - 1) {u j : Int} (hI : In F u j) (hu : gt l u ≠ Far) (hlt : gt l u + gt W j < gt l (gt T' j)) :
  BI F T' W s (l.set (gt T' j).toNat (gt l u + gt W j)) ∧ sumN (l.set (gt T' j).toNat (gt l u + gt W j)) < sumN l := by
 obtain ⟨x0, x1⟩ := hc.node' hI
 obtain ⟨w0, w1⟩ := hc.weight hI
 have hlen := B.len
 have hsm := B.small hc hI.1 hI.2.1 hu
 obtain ⟨hw, hu0, hub⟩ := B.way u hI.1 hI.2.1 hu
 have hi : (gt T' j).toNat < l.length := by omega
 have hg : gt l (gt T' j) = l[(gt T' j).toNat] := by
  have := gt_nat (xs := l) hi
  rwa [show (((gt T' j).toNat : Nat) : Int) = gt T' j from by omega] at this
 have hne : gt l u + gt W j ≠ Far := by unfold Far; omega
 obtain ⟨c1, c2⟩ := fin_set (y := gt l u + gt W j) hi hne
 have hcnt : cntT (fin l) ≤ cntT (fin (l.set (gt T' j).toNat (gt l u + gt W j))) := by
  by_cases e : l[(gt T' j).toNat] = Far
  ·rw [c1 e]; omega
  ·rw [c2 e]; exact Int.le_refl _
 refine ⟨⟨by simpa using hlen, ?_, fun v v0 v1 hv => ?_⟩, sumN_set hi (by omega) (by rw [← hg]; exact hlt)⟩
 ·rw [gt_set x0 (by omega) s0]
  split
  ·rename_i e
   rw [← e, B.src] at hlt; omega
  ·exact B.src
 ·rw [gt_set x0 (by omega) v0] at hv ⊢
  by_cases e : v = gt T' j
  ·rw [if_pos e] at hv ⊢
   refine ⟨?_, by omega, ?_⟩
   ·rw [e]; exact .step u _ _ _ hw ⟨j, hI, rfl, rfl⟩
   ·by_cases k : l[(gt T' j).toNat] = Far
    ·rw [c1 k]; omega
    ·have hx := (B.way _ x0 x1 (by rw [hg]; exact k)).2.2
     rw [c2 k]; omega
  ·rw [if_neg e] at hv ⊢
   obtain ⟨q1, q2, q3⟩ := B.way v v0 v1 hv
   exact ⟨q1, q2, by omega⟩
theorem BI.done {l : List Int} (B : BI F T' W s l) (hc : Chk F T' W .nil) (s0 : 0 ≤ s) (s1 : s < (F.length : Int) - 1) (h : ∀ u j, In F u j → gt l u ≠ Far → ¬ gt l u + gt W j < gt l (gt T' j)) : DistL F T' W s l := by
 have hlen := B.len
 refine ⟨hlen, ⟨?_, fun v k hk => ?_, fun u k x w hk ⟨j, hI, e1, e2⟩ => ?_⟩⟩
 ·unfold LD; rw [if_pos ⟨s0, by omega, by rw [B.src]; decide⟩, B.src]
 ·unfold LD at hk
  by_cases e : 0 ≤ v ∧ v < (l.length : Int) ∧ gt l v ≠ 18446744073709551615
  ·rw [if_pos e] at hk; cases hk; exact (B.way v e.1 (by omega) e.2.2).1
  ·rw [if_neg e] at hk; cases hk
 ·unfold LD at hk
  by_cases e : 0 ≤ u ∧ u < (l.length : Int) ∧ gt l u ≠ 18446744073709551615
  ·rw [if_pos e] at hk; cases hk
   subst e1; subst e2
   obtain ⟨x0, x1⟩ := hc.node' hI
   obtain ⟨w0, w1⟩ := hc.weight hI
   have hsm := B.small hc hI.1 hI.2.1 e.2.2
   have := h u j hI e.2.2
   refine ⟨gt l (gt T' j), ?_, by omega⟩
   unfold LD
   rw [if_pos ⟨x0, by omega, by omega⟩]
  ·rw [if_neg e] at hk; cases hk
end Go.Vd

/-! (Ds2) -/

set_option linter.unusedVariables false
set_option linter.unusedSimpArgs false
namespace Go.Vd
def DC (cs : List (Int × Int)) (v : Int) : Option Int := if 0 ≤ v ∧ v < (cs.length : Int) ∧ (gt cs v).2 = 1 then some (gt cs v).1 else none
theorem DC_set {cs : List (Int × Int)} {x d : Int} (x0 : 0 ≤ x) (x1 : x < (cs.length : Int)) (v : Int) : DC (cs.set x.toNat (d, 1)) v = if v = x then some d else DC cs v := by
 unfold DC
 rw [List.length_set]
 by_cases h0 : 0 ≤ v
 ·rw [gt_set x0 x1 h0]
  by_cases e : v = x
  ·subst e; simp [x0, x1]
  ·simp [e]
 ·rw [if_neg (by omega), if_neg (by omega), if_neg (by omega)]
theorem p_SGet {cs : List (Int × Int)} {c i : Int} (i0 : 0 ≤ i) (i1 : i < (cs.length : Int)) : z_stamp_Stamp_Get cs 1 c i = some (match DC cs i with | some k => (k, true) | none => (0, false)) := by
 refine T_eq.1 ?_
 unfold z_stamp_Stamp_Get
 refine T_bindr (fun o => o = !decide ((gt cs i).2 = 1)) ?_ fun o ho => ?_
 ·simp only [T_ite, T_G, T_some]
  exact ⟨fun h => by omega, fun _ => ⟨fun h => by omega, fun _ => ⟨⟨i0, i1⟩, trivial⟩⟩⟩
 subst ho
 by_cases h : (gt cs i).2 = 1
 ·have hd : DC cs i = some (gt cs i).1 := if_pos ⟨i0, i1, h⟩
  rw [hd]
  simp [h, i0, i1]
 ·have hd : DC cs i = none := if_neg (fun k => h k.2.2)
  rw [hd]
  simp [h]
theorem Hp.keys {n : Int} {h : List (Int × Int)} {a : List Int} {K K' : Int → Option Int} (H : Hp n h a K) (e : ∀ v, 0 ≤ v → v < n → K v = K' v) : Hp n h a K' :=
 ⟨H.len, H.small, H.ix, fun v v0 v1 => (H.key v v0 v1).trans (e v v0 v1)⟩
theorem p_label {F T' W : List Int} {S : List Bool} {n : Int} {h : List (Int × Int)} {a : List Int} {K : Int → Option Int} {cs : List (Int × Int)} {c : Int} {hp : List Int} {x d g : Int}
  (H : Hp n h a K) (O : Ord4 h.length (gt h)) (x0 : 0 ≤ x) (x1 : x < n) (hn : n ≤ 65536) (lc : (cs.length : Int) = n) (lh : (hp.length : Int) = n) (c0 : 0 ≤ c) (c1 : c ≤ 1099511627776)
  (room : h.length + 1 ≤ 1099511627776) (hk : ∀ old, K x = some old → d ≤ old) :
  T (z_search_state_label F T' W h a cs 1 c hp S x d g) fun r => r.2.1.length ≤ h.length + 1 ∧ Hp n r.2.1 r.1 (fun y => if y = x then some d else K y) ∧ Ord4 r.2.1.length (gt r.2.1) ∧ r.2.2.1 = cs.set x.toNat (d, 1) ∧
   (c ≤ r.2.2.2.1 ∧ r.2.2.2.1 ≤ c + 1) ∧ r.2.2.2.2 = hp.set x.toNat g := by
 unfold z_search_state_label
 refine T_bindr (fun r => r.2.1 = cs.set x.toNat (d, 1) ∧ c ≤ r.2.2 ∧ r.2.2 ≤ c + 1) ?_ ?_
 ·unfold z_stamp_Stamp_Set
  refine T_bindr (fun o => o = false) ?_ fun o ho => ?_
  ·simp only [T_ite, T_some]
   exact ⟨fun k => by omega, fun _ => by simp; omega⟩
  subst ho
  rw [if_neg (by decide), T_G]
  refine ⟨by omega, T_bindr (fun o => c ≤ o ∧ o ≤ c + 1) ?_ fun o ho => ?_⟩
  ·simp only [T_ite, T_G, T_some]
   exact ⟨fun _ => by omega, fun _ => by omega⟩
  ·simp only [T_some]; exact ⟨trivial, ho⟩
 ·rintro ⟨_, cs', c'⟩ ⟨e1, e2⟩
  dsimp only at *
  subst e1
  simp only [T_G]
  refine ⟨by omega, by omega, T_bindr _ (p_Set H O x0 x1 (by omega) hk room) ?_⟩
  rintro ⟨_, a', h'⟩ ⟨_, r1, r2, r3⟩
  simp only [T_some]
  exact ⟨r1, r2, r3, trivial, e2, trivial⟩
structure DM (F T' W : List Int) (n s R v d i : Int) (S : List Bool) (B : Int) (h : List (Int × Int)) (a : List Int) (cs : List (Int × Int)) (c : Int) (hp : List Int) : Prop where
 lc : (cs.length : Int) = n
 lh : (hp.length : Int) = n
 heap : Hp n h a (fun x => if gt S x = true then none else DC cs x)
 ord : Ord4 h.length (gt h)
 room : (h.length : Int) ≤ B
 c0 : 0 ≤ c
 c1 : c ≤ B
 hop : ∀ x, 0 ≤ x → x < n → 0 ≤ gt hp x ∧ gt hp x ≤ R + 1
 hopv : gt hp v ≤ R
 src : DC cs s = some 0
 way : ∀ x k, DC cs x = some k → Way F T' W s x k
 big : ∀ x k, DC cs x = some k → 0 ≤ k ∧ k ≤ (R + 1) * 2147483647
 dv : DC cs v = some d
 dS : gt S v = true
 d0 : 0 ≤ d
 dR : d ≤ R * 2147483647
 fin : ∀ x k, 0 ≤ x → x < n → ¬ gt S x = true → DC cs x = some k → d ≤ k
 low : ∀ u k, gt S u = true → DC cs u = some k → k ≤ d
 sd : ∀ u, 0 ≤ u → u < n → gt S u = true → ∃ k, DC cs u = some k
 arc : ∀ u k j, gt S u = true → DC cs u = some k → In F u j → (u ≠ v ∨ j < i) → ∃ m, DC cs (gt T' j) = some m ∧ m ≤ k + gt W j
variable {F T' W : List Int} {n s R v d i : Int} {S : List Bool} {B : Int} {h : List (Int × Int)} {a : List Int} {cs : List (Int × Int)} {c : Int} {hp : List Int}
theorem DM.keep (D : DM F T' W n s R v d i S B h a cs c hp) (hI : In F v i) (ok : ∃ m, DC cs (gt T' i) = some m ∧ m ≤ d + gt W i) : DM F T' W n s R v d (i + 1) S (B + 1) h a cs c hp :=
 { D with
   room := by have := D.room; omega
   c1 := by have := D.c1; omega
   arc := fun u k j hS hk hj ho => by
    by_cases e : u = v ∧ j = i
    ·obtain ⟨rfl, rfl⟩ := e
     rw [D.dv] at hk; cases hk
     exact ok
    ·exact D.arc u k j hS hk hj (by omega) }
theorem DM.relabel (D : DM F T' W n s R v d i S B h a cs c hp) (hc : Chk F T' W .nil) (hn : n = (F.length : Int) - 1) (hI : In F v i) (x0 : 0 ≤ gt T' i) (x1 : gt T' i < n) (hS : ¬ gt S (gt T' i) = true) (ho : ∀ old, DC cs (gt T' i) = some old → d + gt W i < old) {h' a' c' g}
  (r1 : h'.length ≤ h.length + 1) (r2 : Hp n h' a' (fun y => if y = gt T' i then some (d + gt W i) else (if gt S y = true then none else DC cs y))) (r3 : Ord4 h'.length (gt h')) (r4 : c ≤ c' ∧ c' ≤ c + 1) (g0 : 0 ≤ g) (g1 : g ≤ R + 1) :
  DM F T' W n s R v d (i + 1) S (B + 1) h' a' (cs.set (gt T' i).toNat (d + gt W i, 1)) c' (hp.set (gt T' i).toNat g) := by
 have hlc := D.lc; have hlh := D.lh
 have hset := fun y => DC_set (cs := cs) (d := d + gt W i) x0 (by omega) y
 obtain ⟨w0, w1⟩ := hc.weight hI
 have hvx : v ≠ gt T' i := fun e => hS (by rw [← e]; exact D.dS)
 have hsx : s ≠ gt T' i := fun e => by have := ho 0 (by rw [← e]; exact D.src); have := D.d0; omega
 have hSn : ∀ u, gt S u = true → u ≠ gt T' i := fun u hu e => hS (by rw [← e]; exact hu)
 have hd0 := D.d0; have hdR := D.dR
 refine ⟨by simpa using hlc, by simpa using hlh, r2.keys fun y y0 y1 => ?_, r3, by have := D.room; omega, by have := D.c0; omega, by have := D.c1; omega, fun y y0 y1 => ?_, ?_, ?_, fun y k hk => ?_, fun y k hk => ?_, ?_, D.dS, hd0, hdR, fun y k y0 y1 hy hk => ?_, fun u k hu hk => ?_, fun u u0 u1 hu => ?_, fun u k j hu hk hj hoj => ?_⟩
 ·rw [hset y]
  by_cases e : y = gt T' i
  ·rw [if_pos e, if_pos e, if_neg (by rw [e]; exact hS)]
  ·rw [if_neg e, if_neg e]
 ·rw [gt_set x0 (by omega) y0]
  split
  ·exact ⟨g0, g1⟩
  ·exact D.hop y y0 y1
 ·rw [gt_set x0 (by omega) (by have := hI.1; omega), if_neg hvx]; exact D.hopv
 ·rw [hset s, if_neg hsx]; exact D.src
 ·rw [hset y] at hk
  by_cases e : y = gt T' i
  ·rw [if_pos e] at hk; cases hk; subst e
   exact .step v d _ _ (D.way v d D.dv) ⟨i, hI, rfl, rfl⟩
  ·rw [if_neg e] at hk; exact D.way y k hk
 ·rw [hset y] at hk
  by_cases e : y = gt T' i
  ·rw [if_pos e] at hk; cases hk; omega
  ·rw [if_neg e] at hk; exact D.big y k hk
 ·rw [hset v, if_neg hvx]; exact D.dv
 ·rw [hset y] at hk
  by_cases e : y = gt T' i
  ·rw [if_pos e] at hk; cases hk; omega
  ·rw [if_neg e] at hk; exact D.fin y k y0 y1 hy hk
 ·rw [hset u, if_neg (hSn u hu)] at hk; exact D.low u k hu hk
 ·obtain ⟨k, hk⟩ := D.sd u u0 u1 hu
  exact ⟨k, by rw [hset u, if_neg (hSn u hu)]; exact hk⟩
 ·rw [hset u, if_neg (hSn u hu)] at hk
  by_cases e : u = v ∧ j = i
  ·obtain ⟨rfl, rfl⟩ := e
   rw [D.dv] at hk; cases hk
   exact ⟨_, by rw [hset, if_pos rfl], Int.le_refl _⟩
  ·obtain ⟨m, m1, m2⟩ := D.arc u k j hu hk hj (by omega)
   by_cases ex : gt T' j = gt T' i
   ·rw [ex] at m1
    have := ho m m1
    exact ⟨_, by rw [hset, if_pos ex], by omega⟩
   ·exact ⟨m, by rw [hset, if_neg ex]; exact m1, m2⟩
end Go.Vd

/-! (Ds3) -/

set_option linter.unusedVariables false
set_option linter.unusedSimpArgs false
namespace Go.Vd
variable {F T' W : List Int} {n s R v d i : Int} {S S0 : List Bool} {B : Int} {h : List (Int × Int)} {a : List Int} {cs : List (Int × Int)} {c : Int} {hp : List Int}
theorem Chk.node (hc : Chk F T' W .nil) {u j : Int} (hI : In F u j) : 0 ≤ gt T' j ∧ gt T' j < (F.length : Int) - 1 := by
 have := hc.arcs u j hI
 unfold arcNo at this
 by_cases h : gt T' j < 0 ∨ gt T' j ≥ (F.length : Int) - 1
 ·rw [if_pos h] at this; omega
 ·omega
theorem Chk.inb (hc : Chk F T' W .nil) {v : Int} (v0 : 0 ≤ v) (v1 : v < (F.length : Int) - 1) : 0 ≤ gt F v ∧ gt F v ≤ gt F (v + 1) ∧ gt F (v + 1) ≤ (T'.length : Int) ∧ (T'.length : Int) = W.length ∧ (T'.length : Int) ≤ 262144 := by
 obtain ⟨s1, s2, s3, s4⟩ := hc.shp
 obtain ⟨m1, m2⟩ := hc.small
 have hM := hc.mon
 have hb0 := hM v v0 v1
 have hb1 := hM.le (u := 0) (w := v) (by omega) (by omega) (by omega)
 have hb2 := hM.le (u := v + 1) (w := (F.length : Int) - 1) (by omega) (by omega) (by omega)
 omega
theorem p_settle (hc : Chk F T' W .nil) (hn : n = (F.length : Int) - 1) (hS : (S0.length : Int) = n) (v0 : 0 ≤ v) (v1 : v < n) (R0 : 0 ≤ R) (R1 : R ≤ 65536) {hops : Int} (hh : 70000 ≤ hops)
  (D : DM F T' W n s R v d (gt F v) (S0.set v.toNat true) B h a cs c hp) (hB : B ≤ 1099511000000) :
  T (z_search_state_settle F T' W h a cs 1 c hp S0 v d hops) fun r => DM F T' W n s R v d (gt F (v + 1)) (S0.set v.toNat true) (B + 262144) r.2.1 r.1 r.2.2.1 r.2.2.2.1 r.2.2.2.2.1 ∧ r.2.2.2.2.2 = S0.set v.toNat true := by
 obtain ⟨b0, b1, b2, b3, b4⟩ := hc.inb v0 (by omega)
 obtain ⟨m1, m2⟩ := hc.small
 have hlh := D.lh
 unfold z_search_state_settle
 simp only [T_G, T_ite]
 have hhv := D.hopv
 refine ⟨by omega, by omega, fun hx => by omega, fun _ => ⟨by omega, ?_⟩⟩
 refine T_bindr (fun r => DM F T' W n s R v d (gt F (v + 1)) (S0.set v.toNat true) (B + (gt F (v + 1) - gt F v)) r.2.1 r.1 r.2.2.1 r.2.2.2.1 r.2.2.2.2) ?_ ?_
 ·refine T_loop (fun z => gt F v ≤ z.2.2.2.2.2 ∧ z.2.2.2.2.2 ≤ gt F (v + 1) ∧ DM F T' W n s R v d z.2.2.2.2.2 (S0.set v.toNat true) (B + (z.2.2.2.2.2 - gt F v)) z.1 z.2.1 z.2.2.1 z.2.2.2.1 z.2.2.2.2.1) (fun z => (gt F (v + 1) - z.2.2.2.2.2).toNat) ?_ ⟨by simp, b1, by simpa using D⟩
  rintro ⟨h, a, cs, c, hp, i⟩ ⟨i0, i1, D⟩
  dsimp only at *
  unfold z_search_state_settle_l0
  have hlc := D.lc; have hlh := D.lh
  simp only [T_G]
  refine ⟨by omega, by omega, ?_⟩
  rw [T_ite]
  refine ⟨fun hi => ?_, fun hi => ?_⟩
  rotate_left
  ·simp only [T_some, Sum.elim_inr]
   have : i = gt F (v + 1) := by omega
   subst this; exact D
  have hI : In F v i := ⟨v0, by omega, i0, hi⟩
  obtain ⟨w0, w1⟩ := hc.weight hI
  obtain ⟨x0, x1⟩ := hc.node hI
  have hd0 := D.d0; have hdR := D.dR
  simp only [T_G]
  refine ⟨by omega, by omega, by omega, by omega, ?_⟩
  rw [p_SGet x0 (by omega), Option.bind_some]
  have hSl : ((S0.set v.toNat true).length : Int) = n := by simpa using hS
  refine T_bindr (fun o => o = true ↔ (¬ gt (S0.set v.toNat true) (gt T' i) = true ∧ ∀ old, DC cs (gt T' i) = some old → d + gt W i < old)) ?_ fun o ho => ?_
  ·simp only [T_G, T_ite, T_some]
   refine ⟨by omega, fun h1 => ⟨fun h2 => ?_, fun h2 => ?_⟩, fun h1 => ?_⟩
   ·cases hd : DC cs (gt T' i) with
    | none => simp at h1; simp [h1]
    | some k => rw [hd] at h2; simp at h2
   ·cases hd : DC cs (gt T' i) with
    | none => rw [hd] at h2; simp at h2
    | some k => simp at h1; simp [h1]
   ·simp at h1
    simp [h1]
  rw [T_ite]
  refine ⟨fun ht => ?_, fun hf => ?_⟩
  ·obtain ⟨hxS, hlt⟩ := ho.1 ht
   have hhop := D.hop v v0 v1
   have hroom := D.room
   have hc1 := D.c1
   have hhv := D.hopv
   simp only [T_G]
   refine ⟨by omega, by omega, T_bindr _ (p_label (n := n) D.heap D.ord x0 (by omega) (by omega) hlc hlh D.c0 (by omega) (by omega) fun old ho => ?_) ?_⟩
   ·rw [if_neg hxS] at ho
    have := hlt old ho; omega
   ·rintro ⟨a', h', cs', c', hp'⟩ ⟨r1, r2, r3, r4, r5, r6⟩
    dsimp only at *
    subst r4; subst r6
    simp only [T_G, T_some, Sum.elim_inl]
    refine ⟨by omega, ⟨by omega, by omega, ?_⟩, by omega⟩
    have := D.relabel hc hn hI x0 (by omega) hxS hlt r1 r2 r3 r5 (g := gt hp v + 1) (by omega) (by omega)
    rwa [show B + (i + 1 - gt F v) = B + (i - gt F v) + 1 from by omega]
  ·simp only [T_G, T_some, Sum.elim_inl]
   refine ⟨by omega, ⟨by omega, by omega, ?_⟩, by omega⟩
   rw [show B + (i + 1 - gt F v) = B + (i - gt F v) + 1 from by omega]
   refine D.keep hI ?_
   by_cases hxS : gt (S0.set v.toNat true) (gt T' i) = true
   ·obtain ⟨k, hk⟩ := D.sd _ x0 (by omega) hxS
    exact ⟨k, hk, by have := D.low _ k hxS hk; omega⟩
   ·have : ¬ ∀ old, DC cs (gt T' i) = some old → d + gt W i < old := fun q => hf (ho.2 ⟨hxS, q⟩)
    cases hd : DC cs (gt T' i) with
    | none => exact absurd (fun old ho => by rw [hd] at ho; cases ho) this
    | some k =>
     refine ⟨k, rfl, ?_⟩
     by_cases hle : k ≤ d + gt W i
     ·exact hle
     ·exact absurd (fun old ho => by rw [hd] at ho; cases ho; omega) this
 ·rintro ⟨a', h', cs', c', hp'⟩ D'
  dsimp only at *
  simp only [T_some, and_true]
  exact { D' with room := by have := D'.room; omega, c1 := by have := D'.c1; omega }
end Go.Vd

/-! (Ds4) -/

set_option linter.unusedVariables false
set_option linter.unusedSimpArgs false
namespace Go.Vd
variable {F T' W : List Int} {n s R v d i : Int} {S S0 : List Bool} {B : Int} {h : List (Int × Int)} {a : List Int} {cs : List (Int × Int)} {c : Int} {hp : List Int}
structure DO (F T' W : List Int) (n s R : Int) (S : List Bool) (B : Int) (h : List (Int × Int)) (a : List Int) (cs : List (Int × Int)) (c : Int) (hp : List Int) : Prop where
 lc : (cs.length : Int) = n
 lh : (hp.length : Int) = n
 lS : (S.length : Int) = n
 heap : Hp n h a (fun x => if gt S x = true then none else DC cs x)
 ord : Ord4 h.length (gt h)
 room : (h.length : Int) ≤ B
 c0 : 0 ≤ c
 c1 : c ≤ B
 hop : ∀ x, 0 ≤ x → x < n → 0 ≤ gt hp x ∧ gt hp x ≤ R
 src : DC cs s = some 0
 way : ∀ x k, DC cs x = some k → Way F T' W s x k
 big : ∀ x k, DC cs x = some k → 0 ≤ k ∧ k ≤ R * 2147483647
 lim : ∀ u k x k', gt S u = true → DC cs u = some k → 0 ≤ x → x < n → ¬ gt S x = true → DC cs x = some k' → k ≤ k'
 sd : ∀ u, 0 ≤ u → u < n → gt S u = true → ∃ k, DC cs u = some k
 arc : ∀ u k j, gt S u = true → DC cs u = some k → In F u j → ∃ m, DC cs (gt T' j) = some m ∧ m ≤ k + gt W j
 cnt : cntT S = R
theorem DO.le (D : DO F T' W n s R S B h a cs c hp) : 0 ≤ R ∧ R ≤ n := by
 have h1 := D.cnt; have h2 := cntT_le S; have h3 := D.lS
 have h4 : 0 ≤ cntT S := by unfold cntT; omega
 omega
theorem DC_rng {x k : Int} (hx : DC cs x = some k) : 0 ≤ x ∧ x < (cs.length : Int) := by
 unfold DC at hx
 by_cases e : 0 ≤ x ∧ x < (cs.length : Int) ∧ (gt cs x).2 = 1
 ·exact ⟨e.1, e.2.1⟩
 ·rw [if_neg e] at hx; cases hx
theorem DO.top (D : DO F T' W n s R S B h a cs c hp) (hl : 0 < (h.length : Int)) :
  0 ≤ (gt h 0).2 ∧ (gt h 0).2 < n ∧ ¬ gt S (gt h 0).2 = true ∧ DC cs (gt h 0).2 = some (gt h 0).1 ∧ ∀ x k, 0 ≤ x → x < n → ¬ gt S x = true → DC cs x = some k → (gt h 0).1 ≤ k := by
 obtain ⟨f0, f1, f2⟩ := D.heap.ix.fwd 0 (by omega) hl
 have hk := D.heap.key _ f0 f1
 unfold Kf at hk
 rw [f2, if_neg (by omega), show (0 : Int) + 1 - 1 = 0 from rfl] at hk
 have hS : ¬ gt S (gt h 0).2 = true := fun e => by rw [if_pos e] at hk; cases hk
 rw [if_neg hS] at hk
 refine ⟨f0, f1, hS, hk.symm, fun x k x0 x1 hx hd => ?_⟩
 obtain ⟨a0, a1, a2⟩ := D.heap.key_in (v := x) (k := k) x0 x1 (by rw [if_neg hx]; exact hd)
 have := D.ord.top (gt a x - 1) (by omega) (by omega)
 rw [a2] at this
 unfold Less at this
 dsimp only at this
 omega
theorem DO.enter (D : DO F T' W n s R S B h a cs c hp) (hl : 0 < (h.length : Int)) {h' : List (Int × Int)} {a' : List Int}
  (l' : (h'.length : Int) = h.length - 1) (H' : Hp n h' a' (fun y => if y = (gt h 0).2 then none else (if gt S y = true then none else DC cs y))) (O' : Ord4 h'.length (gt h')) :
  DM F T' W n s R (gt h 0).2 (gt h 0).1 (gt F (gt h 0).2) (S.set (gt h 0).2.toNat true) B h' a' cs c hp := by
 obtain ⟨v0, v1, vS, vd, vm⟩ := D.top hl
 have lS := D.lS
 have gS : ∀ y, 0 ≤ y → gt (S.set (gt h 0).2.toNat true) y = if y = (gt h 0).2 then true else gt S y := fun y y0 => gt_set v0 (by omega) y0
 have hS' : ∀ y, 0 ≤ y → y ≠ (gt h 0).2 → (gt (S.set (gt h 0).2.toNat true) y = true ↔ gt S y = true) := fun y y0 e => by rw [gS y y0, if_neg e]
 obtain ⟨R0, _⟩ := D.le
 have hbv := D.big _ _ vd
 refine ⟨D.lc, D.lh, H'.keys fun y y0 y1 => ?_, O', by have := D.room; omega, D.c0, D.c1, fun x x0 x1 => ?_, (D.hop _ v0 v1).2, D.src, D.way, fun x k hx => ?_, vd, by rw [gS _ v0, if_pos rfl], hbv.1, hbv.2, fun x k x0 x1 hx hd => ?_, fun u k hu hd => ?_, fun u u0 u1 hu => ?_, fun u k j hu hd hI ho => ?_⟩
 ·rw [gS y y0]
  by_cases e : y = (gt h 0).2
  ·rw [if_pos e, if_pos e, if_pos rfl]
  ·rw [if_neg e, if_neg e]
 ·have := D.hop x x0 x1; omega
 ·have := D.big x k hx; omega
 ·by_cases e : x = (gt h 0).2
  ·rw [gS x x0, if_pos e] at hx; exact absurd rfl hx
  ·exact vm x k x0 x1 (fun q => hx ((hS' x x0 e).2 q)) hd
 ·have hr := DC_rng hd
  by_cases e : u = (gt h 0).2
  ·subst e; rw [vd] at hd; cases hd; exact Int.le_refl _
  ·exact D.lim u k _ _ ((hS' u hr.1 e).1 hu) hd v0 v1 vS vd
 ·by_cases e : u = (gt h 0).2
  ·subst e; exact ⟨_, vd⟩
  ·exact D.sd u u0 u1 ((hS' u u0 e).1 hu)
 ·have hr := DC_rng hd
  by_cases e : u = (gt h 0).2
  ·subst e
   rcases ho with ho | ho
   ·exact absurd rfl ho
   ·have := hI.2.2.1; omega
  ·exact D.arc u k j ((hS' u hr.1 e).1 hu) hd hI
theorem DM.leave {v d : Int} (D : DM F T' W n s R v d (gt F (v + 1)) (S.set v.toNat true) B h a cs c hp) (lS : (S.length : Int) = n) (v0 : 0 ≤ v) (v1 : v < n) (vS : ¬ gt S v = true) (cnt : cntT S = R) : DO F T' W n s (R + 1) (S.set v.toNat true) B h a cs c hp :=
 { D with
   lS := by simpa using lS
   lim := fun u k x k' hu hk x0 x1 hx hk' => Int.le_trans (D.low u k hu hk) (D.fin x k' x0 x1 hx hk')
   arc := fun u k j hu hk hI => D.arc u k j hu hk hI (by
    by_cases e : u = v
    ·subst e; exact .inr hI.2.2.2
    ·exact .inl e)
   cnt := by
    have hv : v.toNat < S.length := by omega
    have hg : gt S ((v.toNat : Nat) : Int) = S[v.toNat] := gt_nat hv
    rw [show ((v.toNat : Nat) : Int) = v from by omega] at hg
    have hf : S[v.toNat] = false := by
     rw [← hg]; exact Bool.eq_false_iff.2 vS
    rw [cntT_set hv hf, cnt] }
theorem DO.done (D : DO F T' W n s R S B h a cs c hp) (hl : (h.length : Int) = 0) (hn : n ≤ 65536) : Cd F T' W s (DC cs) ∧ (∀ x k, DC cs x = some k → 0 ≤ k ∧ k < 281474976710656) ∧ ∀ x k, DC cs x = some k → gt S x = true := by
 have all : ∀ x k, DC cs x = some k → gt S x = true := fun x k hx => by
  have hr := DC_rng hx
  have lc := D.lc
  refine Classical.not_not.1 fun hS => ?_
  obtain ⟨a0, a1, _⟩ := D.heap.key_in (v := x) (k := k) hr.1 (by omega) (by rw [if_neg hS]; exact hx)
  omega
 refine ⟨⟨D.src, D.way, fun u k x w hk ⟨j, hI, e1, e2⟩ => ?_⟩, fun x k hx => ?_, all⟩
 ·subst e1; subst e2
  exact D.arc u k j (all u k hk) hk hI
 ·have h1 := D.big x k hx
  obtain ⟨_, h2⟩ := D.le
  omega
theorem gt_rep {E : Type} [Inhabited E] {m : Nat} {x : Int} : gt (List.replicate m (default : E)) x = default := by
 unfold gt
 rw [List.getD_eq_getElem?_getD, List.getElem?_replicate]
 split <;> rfl
theorem DO.start (s0 : 0 ≤ s) (s1 : s < n) {m : Nat} (hm : (m : Int) = n) (l1 : h.length ≤ 1) (H : Hp n h a (fun y => if y = s then some 0 else none)) (O : Ord4 h.length (gt h)) (c0 : 0 ≤ c) (c1 : c ≤ 1) :
  DO F T' W n s 0 (List.replicate m false) 1 h a ((List.replicate m ((0 : Int), (0 : Int))).set s.toNat (0, 1)) c ((List.replicate m (0 : Int)).set s.toNat 0) := by
 have hset := fun y => DC_set (cs := List.replicate m ((0 : Int), (0 : Int))) (d := 0) s0 (by simp; omega) y
 have hno : ∀ y, DC (List.replicate m ((0 : Int), (0 : Int))) y = none := fun y => by
  unfold DC
  rw [if_neg]
  rintro ⟨_, _, e⟩
  have := gt_rep (E := Int × Int) (m := m) (x := y)
  rw [show (default : Int × Int) = (0, 0) from rfl] at this
  rw [this] at e; cases e
 have hd : ∀ y, DC ((List.replicate m ((0 : Int), (0 : Int))).set s.toNat (0, 1)) y = if y = s then some 0 else none := fun y => by rw [hset y, hno]
 have hS : ∀ y, gt (List.replicate m false) y = false := fun y => gt_rep (E := Bool)
 refine ⟨by simp; omega, by simp; omega, by simp; omega, H.keys fun y y0 y1 => ?_, O, by omega, c0, c1, fun x x0 x1 => ?_, ?_, fun x k hx => ?_, fun x k hx => ?_, fun u k x k' hu => ?_, fun u u0 u1 hu => ?_, fun u k j hu => ?_, cntT_zero m⟩
 ·rw [hS y, hd y]; simp
 ·rw [gt_set s0 (by simp; omega) x0]
  have := gt_rep (E := Int) (m := m) (x := x)
  rw [show (default : Int) = 0 from rfl] at this
  rw [this]; split <;> omega
 ·rw [hd, if_pos rfl]
 ·rw [hd] at hx
  by_cases e : x = s
  ·rw [if_pos e] at hx; cases hx; subst e; exact .refl
  ·rw [if_neg e] at hx; cases hx
 ·rw [hd] at hx
  by_cases e : x = s
  ·rw [if_pos e] at hx; cases hx; omega
  ·rw [if_neg e] at hx; cases hx
 ·rw [hS u] at hu; cases hu
 ·rw [hS u] at hu; cases hu
 ·rw [hS u] at hu; cases hu
end Go.Vd

/-! (Bd0) -/

set_option linter.unusedVariables false
set_option linter.unusedSimpArgs false
namespace Go.Vd
abbrev BS := List Int × List Int × List Bool
def bstep (S : List Bool) (v : Int) (st : BS) (x w : Int) : BS :=
 if ¬ gt S x = true ∧ (¬ gt st.2.2 x = true ∨ gt st.1 v + w < gt st.1 x) then (st.1.set x.toNat (gt st.1 v + w), st.2.1.set x.toNat (gt st.2.1 v + 1), st.2.2.set x.toNat true) else st
def brel (T' W : List Int) (S : List Bool) (v : Int) (st : BS) (p : Int) : Nat → BS
 | 0 => st
 | k + 1 => bstep S v (brel T' W S v st p k) (gt T' (p + k)) (gt W (p + k))
structure BM (n R v : Int) (S : List Bool) (st : BS) : Prop where
 lD : (st.1.length : Int) = n
 lH : (st.2.1.length : Int) = n
 lA : (st.2.2.length : Int) = n
 hop : ∀ x, 0 ≤ x → x < n → 0 ≤ gt st.2.1 x ∧ gt st.2.1 x ≤ R + 1
 hopv : 0 ≤ gt st.2.1 v ∧ gt st.2.1 v ≤ R
 big : ∀ x, 0 ≤ x → x < n → gt st.2.2 x = true → 0 ≤ gt st.1 x ∧ gt st.1 x ≤ (R + 1) * 2147483647
 dv : 0 ≤ gt st.1 v ∧ gt st.1 v ≤ R * 2147483647
 hv : gt st.2.2 v = true
 sv : gt S v = true
 v0 : 0 ≤ v
 v1 : v < n
 sd : ∀ x, 0 ≤ x → x < n → gt S x = true → gt st.2.2 x = true
variable {F T' W : List Int} {n s R v i hops settles most : Int} {S : List Bool} {st : BS} {B : Int}
theorem BM.step (D : BM n R v S st) {x w : Int} (x0 : 0 ≤ x) (x1 : x < n) (w0 : 0 ≤ w) (w1 : w ≤ 2147483647) : BM n R v S (bstep S v st x w) ∧ gt (bstep S v st x w).1 v = gt st.1 v ∧ gt (bstep S v st x w).2.1 v = gt st.2.1 v := by
 unfold bstep
 by_cases h : ¬ gt S x = true ∧ (¬ gt st.2.2 x = true ∨ gt st.1 v + w < gt st.1 x)
 ·rw [if_pos h]
  have hx : v ≠ x := fun e => h.1 (by rw [← e]; exact D.sv)
  have lD := D.lD; have lH := D.lH; have lA := D.lA
  have hv0 := D.v0; have hdv := D.dv; have hhv := D.hopv
  have g1 : ∀ y, 0 ≤ y → gt (st.1.set x.toNat (gt st.1 v + w)) y = if y = x then gt st.1 v + w else gt st.1 y := fun y y0 => gt_set x0 (by omega) y0
  have g2 : ∀ y, 0 ≤ y → gt (st.2.1.set x.toNat (gt st.2.1 v + 1)) y = if y = x then gt st.2.1 v + 1 else gt st.2.1 y := fun y y0 => gt_set x0 (by omega) y0
  have g3 : ∀ y, 0 ≤ y → gt (st.2.2.set x.toNat true) y = if y = x then true else gt st.2.2 y := fun y y0 => gt_set x0 (by omega) y0
  refine ⟨⟨by simpa using lD, by simpa using lH, by simpa using lA, fun y y0 y1 => ?_, ?_, fun y y0 y1 hy => ?_, ?_, ?_, D.sv, D.v0, D.v1, fun y y0 y1 hy => ?_⟩, ?_, ?_⟩
  ·dsimp only; rw [g2 y y0]
   split
   ·omega
   ·exact D.hop y y0 y1
  ·dsimp only; rw [g2 v hv0, if_neg hx]; exact hhv
  ·dsimp only at *
   rw [g1 y y0]
   rw [g3 y y0] at hy
   by_cases e : y = x
   ·rw [if_pos e]; omega
   ·rw [if_neg e] at hy ⊢; exact D.big y y0 y1 hy
  ·dsimp only; rw [g1 v hv0, if_neg hx]; exact hdv
  ·dsimp only; rw [g3 v hv0, if_neg hx]; exact D.hv
  ·dsimp only; rw [g3 y y0]
   split
   ·rfl
   ·exact D.sd y y0 y1 hy
  ·dsimp only; rw [g1 v hv0, if_neg hx]
  ·dsimp only; rw [g2 v hv0, if_neg hx]
 ·rw [if_neg h]; exact ⟨D, rfl, rfl⟩
theorem BM.rel (D : BM n R v S st) {p : Int} : ∀ (k : Nat), (∀ q : Nat, q < k → (0 ≤ gt T' (p + q) ∧ gt T' (p + q) < n) ∧ 0 ≤ gt W (p + q) ∧ gt W (p + q) ≤ 2147483647) → BM n R v S (brel T' W S v st p k) ∧ gt (brel T' W S v st p k).1 v = gt st.1 v ∧ gt (brel T' W S v st p k).2.1 v = gt st.2.1 v := by
 intro k
 induction k with
 | zero => intro _; exact ⟨D, rfl, rfl⟩
 | succ k ih =>
  intro h
  obtain ⟨D', e1, e2⟩ := ih fun q hq => h q (by omega)
  obtain ⟨⟨x0, x1⟩, w0, w1⟩ := h k (by omega)
  obtain ⟨D2, f1, f2⟩ := D'.step x0 x1 w0 w1
  exact ⟨D2, f1.trans e1, f2.trans e2⟩
structure BO (n R : Int) (S : List Bool) (st : BS) : Prop where
 lD : (st.1.length : Int) = n
 lH : (st.2.1.length : Int) = n
 lA : (st.2.2.length : Int) = n
 lS : (S.length : Int) = n
 hop : ∀ x, 0 ≤ x → x < n → 0 ≤ gt st.2.1 x ∧ gt st.2.1 x ≤ R
 big : ∀ x, 0 ≤ x → x < n → gt st.2.2 x = true → 0 ≤ gt st.1 x ∧ gt st.1 x ≤ R * 2147483647
 sd : ∀ x, 0 ≤ x → x < n → gt S x = true → gt st.2.2 x = true
 cnt : cntT S = R
theorem BO.le (D : BO n R S st) : 0 ≤ R ∧ R ≤ n := by
 have h1 := D.cnt; have h2 := cntT_le S; have h3 := D.lS
 have h4 : 0 ≤ cntT S := by unfold cntT; omega
 omega
def Pick (n : Int) (S : List Bool) (st : BS) (v : Int) : Prop :=
 0 ≤ v ∧ v < n ∧ gt st.2.2 v = true ∧ ¬ gt S v = true ∧ ∀ x, 0 ≤ x → x < n → gt st.2.2 x = true → ¬ gt S x = true → gt st.1 v < gt st.1 x ∨ (gt st.1 v = gt st.1 x ∧ v ≤ x)
def NoPick (n : Int) (S : List Bool) (st : BS) : Prop := ∀ x, 0 ≤ x → x < n → gt st.2.2 x = true → gt S x = true
theorem Pick.uniq {v w : Int} (h : Pick n S st v) (k : Pick n S st w) : v = w := by
 have h1 := h.2.2.2.2 w k.1 k.2.1 k.2.2.1 k.2.2.2.1
 have h2 := k.2.2.2.2 v h.1 h.2.1 h.2.2.1 h.2.2.2.1
 omega
theorem Pick.no {v : Int} (h : Pick n S st v) (k : NoPick n S st) : False := h.2.2.2.1 (k v h.1 h.2.1 h.2.2.1)
theorem cnt_set (lS : (S.length : Int) = n) (v0 : 0 ≤ v) (v1 : v < n) (hv : ¬ gt S v = true) : cntT (S.set v.toNat true) = cntT S + 1 := by
 have hl : v.toNat < S.length := by omega
 refine cntT_set hl ?_
 obtain ⟨v, rfl⟩ := Int.eq_ofNat_of_zero_le v0
 rw [gt_nat (by omega)] at hv
 simpa using hv
theorem BO.enter (D : BO n R S st) {v : Int} (hp : Pick n S st v) : BM n R v (S.set v.toNat true) st := by
 obtain ⟨v0, v1, h1, h2, _⟩ := hp
 have lS := D.lS
 have gS : ∀ y, 0 ≤ y → gt (S.set v.toNat true) y = if y = v then true else gt S y := fun y y0 => gt_set v0 (by omega) y0
 have hb := D.big v v0 v1 h1
 have hR := D.le
 refine ⟨D.lD, D.lH, D.lA, fun x x0 x1 => by have := D.hop x x0 x1; omega, D.hop v v0 v1, fun x x0 x1 hx => by have := D.big x x0 x1 hx; omega, hb, h1, by rw [gS v v0, if_pos rfl], v0, v1, fun x x0 x1 hx => ?_⟩
 rw [gS x x0] at hx
 by_cases e : x = v
 ·rw [e]; exact h1
 ·rw [if_neg e] at hx; exact D.sd x x0 x1 hx
theorem BO.settled (D : BO n R S st) {v : Int} (hp : Pick n S st v) {st' : BS} (M : BM n R v (S.set v.toNat true) st') : BO n (R + 1) (S.set v.toNat true) st' :=
 ⟨M.lD, M.lH, M.lA, by have := D.lS; simpa using this, fun x x0 x1 => M.hop x x0 x1, fun x x0 x1 hx => M.big x x0 x1 hx, M.sd, by rw [cnt_set D.lS hp.1 hp.2.1 hp.2.2.2.1, D.cnt]⟩
def brow (F T' W : List Int) (S : List Bool) (v : Int) (st : BS) : BS := brel T' W S v st (gt F v) (gt F (v + 1) - gt F v).toNat
inductive BR (F T' W : List Int) (n hops settles most : Int) : Int → BS → List Bool → BS → List Bool → Prop
 | full (c : Int) (st : BS) (S : List Bool) : settles ≤ c → BR F T' W n hops settles most c st S st S
 | none (c : Int) (st : BS) (S : List Bool) : c < settles → NoPick n S st → BR F T' W n hops settles most c st S st S
 | far (c : Int) (st : BS) (S : List Bool) (v : Int) : c < settles → Pick n S st v → gt st.1 v > most → BR F T' W n hops settles most c st S st S
 | leaf (c : Int) (st : BS) (S : List Bool) (v : Int) (st' : BS) (S' : List Bool) : c < settles → Pick n S st v → ¬ gt st.1 v > most → gt st.2.1 v ≥ hops → BR F T' W n hops settles most (c + 1) st (S.set v.toNat true) st' S' → BR F T' W n hops settles most c st S st' S'
 | row (c : Int) (st : BS) (S : List Bool) (v : Int) (st' : BS) (S' : List Bool) : c < settles → Pick n S st v → ¬ gt st.1 v > most → ¬ gt st.2.1 v ≥ hops → BR F T' W n hops settles most (c + 1) (brow F T' W (S.set v.toNat true) v st) (S.set v.toNat true) st' S' → BR F T' W n hops settles most c st S st' S'
theorem BR.uniq {c : Int} {a b : BS} {A A' : List Bool} (h : BR F T' W n hops settles most c st S a A) (k : BR F T' W n hops settles most c st S b A') : a = b ∧ A = A' := by
 induction h with
 | full c st S h1 =>
  cases k with
  | full => exact ⟨rfl, rfl⟩
  | none => exact ⟨rfl, rfl⟩
  | far => exact ⟨rfl, rfl⟩
  | leaf _ _ _ _ _ _ k1 => omega
  | row _ _ _ _ _ _ k1 => omega
 | none c st S h1 h2 =>
  cases k with
  | full => exact ⟨rfl, rfl⟩
  | none => exact ⟨rfl, rfl⟩
  | far => exact ⟨rfl, rfl⟩
  | leaf _ _ _ _ _ _ k1 k2 => exact (k2.no h2).elim
  | row _ _ _ _ _ _ k1 k2 => exact (k2.no h2).elim
 | far c st S v h1 h2 h3 =>
  cases k with
  | full => exact ⟨rfl, rfl⟩
  | none => exact ⟨rfl, rfl⟩
  | far => exact ⟨rfl, rfl⟩
  | leaf _ _ _ w _ _ k1 k2 k3 => rw [h2.uniq k2] at h3; exact absurd h3 k3
  | row _ _ _ w _ _ k1 k2 k3 => rw [h2.uniq k2] at h3; exact absurd h3 k3
 | leaf c st S v st' S' h1 h2 h3 h4 _ ih =>
  cases k with
  | full _ _ _ k1 => omega
  | none _ _ _ k1 k2 => exact (h2.no k2).elim
  | far _ _ _ w k1 k2 k3 => rw [← h2.uniq k2] at k3; exact absurd k3 h3
  | leaf _ _ _ w _ _ k1 k2 k3 k4 k5 => obtain rfl := h2.uniq k2; exact ih k5
  | row _ _ _ w _ _ k1 k2 k3 k4 k5 => obtain rfl := h2.uniq k2; exact absurd h4 k4
 | row c st S v st' S' h1 h2 h3 h4 _ ih =>
  cases k with
  | full _ _ _ k1 => omega
  | none _ _ _ k1 k2 => exact (h2.no k2).elim
  | far _ _ _ w k1 k2 k3 => rw [← h2.uniq k2] at k3; exact absurd k3 h3
  | leaf _ _ _ w _ _ k1 k2 k3 k4 k5 => obtain rfl := h2.uniq k2; exact absurd k4 h4
  | row _ _ _ w _ _ k1 k2 k3 k4 k5 => obtain rfl := h2.uniq k2; exact ih k5
def b0st (n s : Int) : BS := (List.replicate n.toNat 0, List.replicate n.toNat 0, (List.replicate n.toNat false).set s.toNat true)
theorem b0_ok (s0 : 0 ≤ s) (s1 : s < n) : BO n 0 (List.replicate n.toNat false) (b0st n s) := by
 have hr : ∀ x, gt (List.replicate n.toNat (0 : Int)) x = 0 := fun x => gt_rep (E := Int)
 have hf : ∀ x, gt (List.replicate n.toNat false) x = false := fun x => gt_rep (E := Bool)
 refine ⟨by simp [b0st]; omega, by simp [b0st]; omega, by simp [b0st]; omega, by simp; omega, fun x x0 x1 => ?_, fun x x0 x1 _ => ?_, fun x x0 x1 hx => ?_, cntT_zero _⟩
 ·simp [b0st, hr]
 ·simp [b0st, hr]
 ·rw [hf] at hx; cases hx
end Go.Vd

/-! (Ds5) -/

set_option linter.unusedVariables false
set_option linter.unusedSimpArgs false
namespace Go.Vd
variable {F T' W : List Int} {s : Int}
theorem p_hNew {n : Int} (n0 : 0 ≤ n) (n1 : n ≤ 65536) : z_heap_New n = some (Sum.inr (List.replicate n.toNat 0)) := by
 refine T_eq.1 ?_
 unfold z_heap_New
 refine T_bindr (fun o => o = false) ?_ ?_
 ·simp only [T_ite, T_some]; exact ⟨fun h => by omega, fun _ => by simp; omega⟩
 ·rintro _ rfl
  rw [if_neg (by decide)]
  simp only [T_G, T_some, and_true]; omega
theorem p_sNew {n : Int} (n0 : 0 ≤ n) (n1 : n ≤ 65536) : z_stamp_New n 1 = some (Sum.inr (List.replicate n.toNat (0, 0), 1)) := by
 refine T_eq.1 ?_
 unfold z_stamp_New
 refine T_bindr (fun o => o = false) ?_ ?_
 ·simp only [T_ite, T_some]; exact ⟨fun h => by omega, fun _ => by simp; omega⟩
 ·rintro _ rfl
  rw [if_neg (by decide)]
  simp only [T_G, T_some]
  exact ⟨by omega, rfl⟩
theorem p_nodes8 (hl : F.length ≤ 17592186044160) : z_search_nodes F T' W = some ((F.length : Int) - 1) := by
 unfold z_search_nodes G; rw [if_pos (by omega)]
theorem Hp.empty {n : Int} {m : Nat} (hm : (m : Int) = n) : Hp n [] (List.replicate m (0 : Int)) (fun _ => none) := by
 have h0 : ∀ v, gt (List.replicate m (0 : Int)) v = 0 := fun v => gt_rep (E := Int)
 exact ⟨by simp; omega, by simp, ⟨fun p p0 p1 => by simp at p1; omega, fun v v0 v1 => by rw [h0]; exact ⟨by omega, by simp, fun k => absurd rfl k⟩⟩, fun v v0 v1 => by unfold Kf; rw [h0, if_pos rfl]⟩
theorem p_run (hc : Chk F T' W .nil) (s0 : 0 ≤ s) (s1 : s < (F.length : Int) - 1) :
  T (z_search_run F T' W s 4611686018427387904 4611686018427387904 18446744073709551615) fun r => ∃ h a cs c hp S, r = (h, a, cs, 1, c, hp, S) ∧ (cs.length : Int) = (F.length : Int) - 1 ∧ Cd F T' W s (DC cs) ∧ (∀ x k, DC cs x = some k → 0 ≤ k ∧ k < 281474976710656) ∧ (S.length : Int) = (F.length : Int) - 1 ∧ ∀ x, 0 ≤ x → x < (F.length : Int) - 1 → (gt S x = true ↔ ∃ k, DC cs x = some k) := by
 obtain ⟨m1, m2⟩ := hc.small
 unfold z_search_run
 rw [p_nodes8 (by omega), Option.bind_some]
 simp only [T_G]
 refine ⟨by omega, by omega, ?_⟩
 rw [p_hNew (by omega) (by omega), Option.bind_some, Sum.elim_inr, p_sNew (by omega) (by omega), Option.bind_some, Sum.elim_inr]
 dsimp only
 have hm : ((((F.length : Int) - 1).toNat : Nat) : Int) = (F.length : Int) - 1 := by omega
 refine T_bindr _ (p_label (n := (F.length : Int) - 1) (Hp.empty hm) (fun p p0 p1 => by simp at p1; omega) s0 s1 m1 (by simp; omega) (by simp; omega) (Int.le_refl _) (by omega) (by simp) (fun old ho => by cases ho)) ?_
 rintro ⟨a, h, cs, c, hp⟩ ⟨r1, r2, r3, r4, r5, r6⟩
 dsimp only at *
 subst r4; subst r6
 have D0 := DO.start (F := F) (T' := T') (W := W) (n := (F.length : Int) - 1) (s := s) (h := h) (a := a) (c := c) s0 s1 hm (by simpa using r1) r2 r3 (by omega) (by omega)
 refine T_bindr (fun r => ∃ R B, DO F T' W ((F.length : Int) - 1) s R r.2.2.2.2.2 B r.1 r.2.1 r.2.2.1 r.2.2.2.1 r.2.2.2.2.1 ∧ (r.1.length : Int) = 0) ?_ ?_
 ·refine T_loop (fun z => 0 ≤ z.2.2.2.2.2.2 ∧ DO F T' W ((F.length : Int) - 1) s z.2.2.2.2.2.2 z.2.2.2.2.2.1 (1 + z.2.2.2.2.2.2 * 262144) z.1 z.2.1 z.2.2.1 z.2.2.2.1 z.2.2.2.2.1) (fun z => (4611686018427387904 - z.2.2.2.2.2.2).toNat) ?_ ⟨by simp, by simpa using D0⟩
  rintro ⟨h, a, cs, c, hp, S, R⟩ ⟨R0, D⟩
  dsimp only at *
  obtain ⟨_, R1⟩ := D.le
  unfold z_search_run_l0
  rw [T_ite]
  refine ⟨fun _ => ?_, fun hR => by omega⟩
  rw [p_Top, Option.bind_some]
  by_cases hl : (h.length : Int) = 0
  ·rw [if_pos hl]
   refine T_bindr (fun o => o = true) (by simp) ?_
   rintro _ rfl
   rw [if_pos rfl]
   simp only [T_some, Sum.elim_inr]
   exact ⟨_, _, D, hl⟩
  ·rw [if_neg hl]
   dsimp only
   obtain ⟨v0, v1, vS, vd, vm⟩ := D.top (by omega)
   have hb := D.big _ _ vd
   refine T_bindr (fun o => o = false) ?_ ?_
   ·simp only [T_ite, T_some]
    exact ⟨fun h => by simp at h, fun _ => by simp; omega⟩
   rintro _ rfl
   rw [if_neg (by decide)]
   refine T_bindr _ (p_Pop D.heap D.ord (by omega) (by omega)) ?_
   rintro ⟨_, _, _, a', h'⟩ ⟨l', H', O'⟩
   dsimp only at *
   have DMv := D.enter (by omega) l' H' O'
   simp only [T_G]
   refine ⟨by omega, T_bindr _ (p_settle hc rfl D.lS v0 v1 R0 (by omega) (by omega) DMv (by omega)) ?_⟩
   rintro ⟨a2, h2, cs2, c2, hp2, S2⟩ ⟨D2, e2⟩
   dsimp only at *
   subst e2
   simp only [T_G, T_some, Sum.elim_inl]
   refine ⟨by omega, ⟨by omega, ?_⟩, by omega⟩
   have := D2.leave D.lS v0 v1 vS D.cnt
   rwa [show 1 + (R + 1) * 262144 = 1 + R * 262144 + 262144 from by omega]
 ·rintro ⟨h, a, cs, c, hp, S⟩ ⟨R, B, D, hl⟩
  dsimp only at *
  simp only [T_some]
  obtain ⟨c1, c2, c3⟩ := D.done hl (by omega)
  exact ⟨h, a, cs, c, hp, S, rfl, D.lc, c1, c2, D.lS, fun x x0 x1 => ⟨D.sd x x0 x1, fun ⟨k, hk⟩ => c3 x k hk⟩⟩
end Go.Vd

/-! (Da6) -/

set_option linter.unusedVariables false
set_option linter.unusedSimpArgs false
namespace Go.Vd
variable {F T' W : List Int} {s : Int}
theorem p_all {h : List (Int × Int)} {a : List Int} {cs : List (Int × Int)} {c : Int} {hp : List Int} {S : List Bool} (hl : F.length ≤ 100000) (h0 : 1 ≤ F.length) (lc : (cs.length : Int) = (F.length : Int) - 1) :
  T (z_search_state_all F T' W h a cs 1 c hp S) fun l => (l.length : Int) = (F.length : Int) - 1 ∧ ∀ v, 0 ≤ v → v < (F.length : Int) - 1 → gt l v = (DC cs v).getD 18446744073709551615 := by
 unfold z_search_state_all
 rw [p_nodes8 (by omega), Option.bind_some, T_G]
 refine ⟨by omega, T_bindr (fun l => (l.length : Int) = (F.length : Int) - 1 ∧ ∀ v, 0 ≤ v → v < (F.length : Int) - 1 → gt l v = (DC cs v).getD 18446744073709551615) ?_ fun l hl => by simpa using hl⟩
 refine T_loop (fun z => 0 ≤ z.1 ∧ z.1 ≤ (F.length : Int) - 1 ∧ (z.2.length : Int) = (F.length : Int) - 1 ∧ ∀ v, 0 ≤ v → v < z.1 → gt z.2 v = (DC cs v).getD 18446744073709551615) (fun z => ((F.length : Int) - z.1).toNat) ?_ ⟨by simp, by simp; omega, by simp; omega, fun v v0 v1 => by dsimp only at v1; omega⟩
 rintro ⟨i, l⟩ ⟨i0, i1, hl, hv⟩
 dsimp only at *
 unfold z_search_state_all_l0
 have hr : ((List.replicate ((F.length : Int) - 1).toNat (0 : Int)).length : Int) = (F.length : Int) - 1 := by simp; omega
 rw [hr, T_ite]
 refine ⟨fun hi => ?_, fun hi => ?_⟩
 ·rw [p_SGet i0 (by omega), Option.bind_some]
  have next : ∀ y, y = (DC cs i).getD 18446744073709551615 → ∀ v, 0 ≤ v → v < i + 1 → gt (l.set i.toNat y) v = (DC cs v).getD 18446744073709551615 := fun y hy v v0 v1 => by
   rw [gt_set i0 (by omega) v0]
   by_cases e : v = i
   ·subst e; rw [if_pos rfl, hy]
   ·rw [if_neg e]; exact hv v v0 (by omega)
  cases hd : DC cs i with
  | none =>
   dsimp only
   rw [if_pos (by decide)]
   simp only [T_G, T_some, Sum.elim_inl]
   exact ⟨by omega, by omega, ⟨by omega, by omega, by simpa using hl, next _ (by rw [hd]; rfl)⟩, by omega⟩
  | some k =>
   dsimp only
   rw [if_neg (by decide)]
   simp only [T_G, T_some, Sum.elim_inl]
   exact ⟨by omega, by omega, ⟨by omega, by omega, by simpa using hl, next _ (by rw [hd]; rfl)⟩, by omega⟩
 ·simp only [T_some, Sum.elim_inr]
  exact ⟨hl, fun v v0 v1 => hv v v0 (by omega)⟩
end Go.Vd

/-! (PrCk) -/

set_option linter.unusedVariables false
set_option linter.unusedSimpArgs false
namespace Go.Vd
variable {F T' W l : List Int}
theorem p_fAt {k i : Int} {e : Er} (h : e ≠ .nil) : z_fault_At k i e = some (.at k i e) := by
 unfold z_fault_At; rw [if_neg h]
theorem p_nodes (hl : F.length ≤ 17592186044160) : z_csr_Csr_nodes F T' W = some ((F.length : Int) - 1) := by
 unfold z_csr_Csr_nodes G; rw [if_pos (by omega)]
def noEr (n : Int) : Er := if n = 0 then .nil else .no n
theorem p_arc (hl : F.length ≤ 17592186044160) (hw : (T'.length : Int) = W.length) {v i : Int} (v0 : 0 ≤ v) (v1 : v < (F.length : Int)) (i0 : 0 ≤ i) (i1 : i < (T'.length : Int)) (hf : 0 ≤ gt F v) (hi : i ≤ 17592186044160) :
  z_csr_Csr_arc F T' W v i = some (noEr (arcNo F T' W v i)) := by
 refine T_eq.1 ?_
 unfold z_csr_Csr_arc
 rw [p_nodes hl, T_G]
 refine ⟨by omega, T_bindr (fun o => o = true ↔ (gt T' i < 0 ∨ gt T' i ≥ (F.length : Int) - 1)) ?_ fun o1 h1 => ?_⟩
 ·simp only [T_ite, T_G, T_some, Option.bind_some, decide_eq_true_eq, true_iff]
  refine ⟨fun h => .inl h, fun h => ?_⟩; omega
 rw [T_ite]
 refine ⟨fun h => ?_, fun h => ?_⟩
 ·simp only [T_some, arcNo_7 (h1.1 h)]; rfl
 have k1 : ¬ (gt T' i < 0 ∨ gt T' i ≥ (F.length : Int) - 1) := fun k => h (h1.2 k)
 refine T_bindr (fun o => o = true ↔ (gt T' i = v ∨ (i > gt F v ∧ gt T' i ≤ gt T' (i - 1)))) ?_ fun o2 h2 => ?_
 ·simp only [T_ite, T_G, T_some, decide_eq_true_eq, true_iff, Bool.false_eq_true, false_iff]
  refine ⟨fun h => .inl h, fun h => ⟨by omega, fun h3 => ⟨by omega, by omega, by omega⟩, fun h3 => by omega⟩⟩
 rw [T_ite]
 refine ⟨fun h => ?_, fun h => ?_⟩
 ·simp only [T_some, arcNo_14 (by omega) (by omega) (h2.1 h)]; rfl
 have k2 : ¬ (gt T' i = v ∨ (i > gt F v ∧ gt T' i ≤ gt T' (i - 1))) := fun k => h (h2.2 k)
 simp only [T_ite, T_G, T_some]
 refine ⟨by omega, fun h => ?_, fun h => ⟨fun h3 => ?_, fun h3 => ?_⟩⟩
 ·rw [arcNo_8 (by omega) (by omega) k2 (.inl h)]; rfl
 ·rw [arcNo_8 (by omega) (by omega) k2 (.inr h3)]; rfl
 ·rw [arcNo_0 (by omega) (by omega) k2 h h3]; rfl
theorem p_Check (hl : F.length ≤ 17592186044160) (ht : T'.length ≤ 17592186044160) : T (z_csr_Check F T' W) (Chk F T' W) := by
 unfold z_csr_Check
 rw [p_nodes hl, Option.bind_some]
 refine T_bindr (fun o => o = true ↔ ¬ Shape F T' W) ?_ fun o ho => ?_
 ·simp only [T_ite, T_G, T_some]
  refine ⟨fun h => ?_, fun h => ⟨by omega, fun h2 => ⟨by omega, fun h3 => ?_, fun h3 => ?_⟩, fun h2 => ?_⟩⟩
  ·simp only [true_iff, Shape]; omega
  ·simp only [Bool.not_eq_true', decide_eq_false_iff_not, Shape]; omega
  ·simp only [true_iff, Shape]; omega
  ·simp only [true_iff, Shape]; omega
 rw [T_ite]
 refine ⟨fun h => ?_, fun h => ?_⟩
 ·simp only [T_some]; exact .shape (ho.1 h)
 have hS : Shape F T' W := Classical.not_not.1 (fun k => h (ho.2 k))
 obtain ⟨s1, s2, s3, s4⟩ := id hS
 refine T_bindr (fun o => o = true ↔ ¬ Small F T') ?_ fun o ho => ?_
 ·simp only [T_ite, T_some]
  refine ⟨fun h => ?_, fun h => ?_⟩
  ·simp only [true_iff, Small]; omega
  ·simp only [decide_eq_true_eq, Small]; omega
 rw [T_ite]
 refine ⟨fun h => ?_, fun h => ?_⟩
 ·simp only [T_some]; exact .limit hS (ho.1 h)
 have hm : Small F T' := Classical.not_not.1 (fun k => h (ho.2 k))
 obtain ⟨m1, m2⟩ := id hm
 refine T_binds (fun _ => Mono F ((F.length : Int) - 1)) ?_ fun _ hM => ?_
 ·refine T_loop (fun v => 0 ≤ v ∧ v ≤ (F.length : Int) - 1 ∧ Mono F v) (fun v => ((F.length : Int) - 1 - v).toNat) ?_ ⟨by omega, by omega, .zero⟩
  rintro v ⟨h0, h1, h2⟩
  simp only [z_csr_Check_l0, T_ite, T_G, T_some, T_map, p_fAt (show Er.no 14 ≠ .nil by simp), Option.bind_some, Sum.elim_inl, Sum.elim_inr]
  exact ⟨fun hv => ⟨by omega, by omega, by omega, fun hlt => .mono v hS hm h0 hv hlt h2, fun hge => ⟨by omega, ⟨by omega, by omega, h2.next hge⟩, by omega⟩⟩, fun hv => h2.all (by omega)⟩
 refine T_binds (fun _ => ∀ u j, In F u j → arcNo F T' W u j = 0) ?_ fun _ hA => ?_
 ·refine T_loop (fun v => 0 ≤ v ∧ v ≤ (F.length : Int) - 1 ∧ ∀ k, k ≤ gt F v → Rows F T' W v k) (fun v => ((F.length : Int) - 1 - v).toNat) ?_ ⟨by omega, by omega, fun k hk => .zero hk⟩
  rintro v ⟨v0, v1, hR⟩
  unfold z_csr_Check_l2
  rw [T_ite]
  refine ⟨fun hv => ?_, fun hv => ?_⟩
  rotate_left
  ·simp only [T_some, Sum.elim_inr]; exact (hR (gt F v) (by omega)).all hv
  have hb1 := hM.le (u := 0) (w := v) (by omega) (by omega) (by omega)
  have hb2 := hM.le (u := v + 1) (w := (F.length : Int) - 1) (by omega) (by omega) (by omega)
  have hb3 := hM v v0 hv
  rw [T_G]
  refine ⟨by omega, T_binds (fun _ => ∀ k, k ≤ gt F (v + 1) → Rows F T' W (v + 1) k) ?_ fun _ hR2 => ?_⟩
  ·refine T_loop (fun i => gt F v ≤ i ∧ i ≤ gt F (v + 1) ∧ Rows F T' W v i) (fun i => (gt F (v + 1) - i).toNat) ?_ ⟨by omega, by omega, hR _ (by omega)⟩
   rintro i ⟨i0, i1, hRi⟩
   unfold z_csr_Check_l1
   simp only [T_G, T_ite]
   refine ⟨by omega, by omega, fun hi => ?_, fun hi => ?_⟩
   ·rw [p_arc hl s4 v0 (by omega) (by omega) (by omega) (by omega) (by omega), Option.bind_some]
    unfold noEr
    by_cases h0 : arcNo F T' W v i = 0
    ·rw [if_pos h0, if_pos rfl]
     simp only [T_G, T_some, Sum.elim_inl]
     exact ⟨by omega, ⟨by omega, by omega, hRi.step h0⟩, by omega⟩
    ·rw [if_neg h0, if_neg (by simp), p_fAt (by simp)]
     simp only [Option.bind_some, T_map, T_some, Sum.elim_inl, Sum.elim_inr]
     exact .arc v i hS hm hM ⟨v0, hv, i0, hi⟩ h0 (hRi.before hM ⟨v0, hv, i0, hi⟩)
   ·simp only [T_some, Sum.elim_inr]
    exact fun k hk => hRi.row hi hk
  ·simp only [T_G, T_some, Sum.elim_inl]
   exact ⟨by omega, ⟨by omega, by omega, hR2⟩, by omega⟩
 simp only [T_some]
 exact .ok hS hm hM hA
end Go.Vd

/-! (PrEa) -/

set_option linter.unusedVariables false
set_option linter.unusedSimpArgs false
namespace Go.Vd
variable {F T' W l : List Int}
theorem p_E (n : Int) : z_viaductref01_E n = some n := rfl
theorem p_Bad {c : Int} {ps : List (Int × Int)} : z_viaductref01_Err_Bad c ps = some (decide (c ≠ 0 ∨ ps ≠ [])) := by
 unfold z_viaductref01_Err_Bad
 by_cases h : c = 0
 ·rw [if_pos h]; subst h
  by_cases hp : 0 < (ps.length : Int)
  ·rw [bad_t (.inr hp), decide_eq_true (by omega)]
  ·rw [bad_f ⟨rfl, hp⟩, decide_eq_false (by omega)]
 ·rw [if_neg h, bad_t (.inl h)]
end Go.Vd

/-! (PrEb) -/

set_option linter.unusedVariables false
set_option linter.unusedSimpArgs false
namespace Go.Vd
variable {F T' W l : List Int}
theorem p_At {k i c : Int} {ps : List (Int × Int)} (h : ps.length ≤ 8796093021951) : z_viaductref01_At k i c ps = some (c, (k, i) :: ps) := by
 unfold z_viaductref01_At G
 rw [if_pos (by simp; omega)]; rfl
end Go.Vd

/-! (PrC) -/

set_option linter.unusedVariables false
set_option linter.unusedSimpArgs false
namespace Go.Vd
variable {F T' W l : List Int}
theorem p_DocCheck (hl : F.length ≤ 17592186044160) : T (z_viaductref05_DocCheck F T' W) fun r => ∃ er, Chk F T' W er ∧ r = (er.code, er.pls) := by
 unfold z_viaductref05_DocCheck
 rw [T_G]
 refine ⟨by omega, T_bindr (fun o => o = true ↔ ¬ Shape F T' W) ?_ fun o ho => ?_⟩
 ·simp only [T_ite, T_G, T_some]
  refine ⟨fun h => ?_, fun h => ⟨by omega, fun h2 => ⟨by omega, fun h3 => ?_, fun h3 => ?_⟩, fun h2 => ?_⟩⟩
  ·simp only [true_iff, Shape]; omega
  ·simp only [Bool.not_eq_true', decide_eq_false_iff_not, Shape]; omega
  ·simp only [true_iff, Shape]; omega
  ·simp only [true_iff, Shape]; omega
 rw [T_ite]
 refine ⟨fun h => ?_, fun h => ?_⟩
 ·simp only [p_E, Option.bind_some, T_some]
  exact ⟨_, .shape (ho.1 h), rfl⟩
 have hS : Shape F T' W := Classical.not_not.1 (fun k => h (ho.2 k))
 obtain ⟨s1, s2, s3, s4⟩ := id hS
 refine T_bindr (fun o => o = true ↔ ¬ Small F T') ?_ fun o ho => ?_
 ·simp only [T_ite, T_some]
  refine ⟨fun h => ?_, fun h => ?_⟩
  ·simp only [true_iff, Small]; omega
  ·simp only [decide_eq_true_eq, Small]; omega
 rw [T_ite]
 refine ⟨fun h => ?_, fun h => ?_⟩
 ·simp only [p_E, Option.bind_some, T_some]
  exact ⟨_, .limit hS (ho.1 h), rfl⟩
 have hm : Small F T' := Classical.not_not.1 (fun k => h (ho.2 k))
 obtain ⟨m1, m2⟩ := id hm
 refine T_binds (fun _ => Mono F ((F.length : Int) - 1)) ?_ fun _ hM => ?_
 ·refine T_loop (fun v => 0 ≤ v ∧ v ≤ (F.length : Int) - 1 ∧ Mono F v) (fun v => ((F.length : Int) - 1 - v).toNat) ?_ ⟨by omega, by omega, .zero⟩
  rintro v ⟨h0, h1, h2⟩
  simp only [z_viaductref05_DocCheck_l0, T_ite, T_G, T_some, T_map, p_E, Option.bind_some, Sum.elim_inl, Sum.elim_inr]
  refine ⟨fun hv => ⟨by omega, by omega, by omega, fun hlt => ?_, fun hge => ⟨by omega, ⟨by omega, by omega, h2.next hge⟩, by omega⟩⟩, fun hv => h2.all (by omega)⟩
  rw [p_At (by simp)]
  simp only [Option.bind_some, T_map, T_some, Sum.elim_inl, Sum.elim_inr]
  exact ⟨_, .mono v hS hm h0 hv hlt h2, rfl⟩
 refine T_binds (fun _ => ∀ u j, In F u j → j < (T'.length : Int) → arcNo F T' W u j = 0) ?_ fun _ hA => ?_
 ·have hc0 : (F.length : Int) - 1 = 0 → gt F ((F.length : Int) - 1) = gt F 0 := fun e => by rw [e]
  refine T_loop (fun s => 0 ≤ s.2 ∧ s.2 ≤ (T'.length : Int) ∧ 0 ≤ s.1 ∧ (s.1 < (F.length : Int) - 1 ∨ (T'.length : Int) = 0) ∧ gt F s.1 ≤ s.2 ∧ ∀ u j, In F u j → j < s.2 → arcNo F T' W u j = 0) (fun s => ((T'.length : Int) - s.2).toNat) ?_ ?_
  rotate_left
  ·dsimp only
   refine ⟨by omega, by omega, by omega, by omega, by omega, fun u j hI hj => ?_⟩
   have := hM.le (u := 0) (w := u) (by omega) hI.1 (by have := hI.2.1; omega); have := hI.2.2.1; omega
  rintro ⟨v, i⟩ ⟨i0, i1, v0, v1, hg, hA⟩
  dsimp only at *
  unfold z_viaductref05_DocCheck_l2
  rw [T_ite]
  refine ⟨fun hi => ?_, fun hi => ?_⟩
  rotate_left
  ·simp only [T_some, Sum.elim_inl, Sum.elim_inr]
   exact fun u j hu hj => hA u j hu (by omega)
  refine T_bindr (fun w => In F w i) ?_ fun w hI => ?_
  ·refine T_loop (fun w => 0 ≤ w ∧ w < (F.length : Int) - 1 ∧ gt F w ≤ i) (fun w => ((F.length : Int) - w).toNat) ?_ ⟨v0, by omega, hg⟩
   rintro w ⟨w0, w1, w2⟩
   have hb1 := hM.le (u := 0) (w := w) (by omega) (by omega) (by omega)
   have hc2 : w + 1 = (F.length : Int) - 1 → gt F (w + 1) = gt F ((F.length : Int) - 1) := fun e => by rw [e]
   simp only [z_viaductref05_DocCheck_l1, T_ite, T_G, T_some, Sum.elim_inl, Sum.elim_inr]
   refine ⟨by omega, by omega, fun h => ?_, fun h => ⟨w0, w1, w2, by omega⟩⟩
   and_intros <;> omega
  obtain ⟨q1, q2, q3, q4⟩ := id hI
  have q5 := hM.le (u := 0) (w := w) (by omega) (by omega) (by omega)
  refine T_bindr (fun o => o = true ↔ (gt T' i < 0 ∨ gt T' i ≥ (F.length : Int) - 1)) ?_ fun o1 h1 => ?_
  ·simp only [T_ite, T_G, T_some, decide_eq_true_eq, true_iff]
   refine ⟨i0, fun h => .inl h, fun h => ?_⟩; omega
  refine T_bindr (fun n => n = arcNo F T' W w i) ?_ fun n hn => ?_
  ·rw [T_ite]
   refine ⟨fun h => ?_, fun h => ?_⟩
   ·simp only [T_some]; exact (arcNo_7 (h1.1 h)).symm
   have k1 : ¬ (gt T' i < 0 ∨ gt T' i ≥ (F.length : Int) - 1) := fun k => h (h1.2 k)
   refine T_bindr (fun o => o = true ↔ (gt T' i = w ∨ (i > gt F w ∧ gt T' i ≤ gt T' (i - 1)))) ?_ fun o2 h2 => ?_
   ·simp only [T_ite, T_G, T_some, decide_eq_true_eq, true_iff, Bool.false_eq_true, false_iff]
    refine ⟨i0, fun h => .inl h, fun h => ⟨by omega, fun h3 => ⟨by omega, by omega, by omega⟩, fun h3 => by omega⟩⟩
   rw [T_ite]
   refine ⟨fun h => ?_, fun h => ?_⟩
   ·simp only [T_some]; exact (arcNo_14 (by omega) (by omega) (h2.1 h)).symm
   have k2 : ¬ (gt T' i = w ∨ (i > gt F w ∧ gt T' i ≤ gt T' (i - 1))) := fun k => h (h2.2 k)
   simp only [T_ite, T_G, T_some]
   refine ⟨by omega, fun h => (arcNo_8 (by omega) (by omega) k2 (.inl h)).symm, fun h => ⟨fun h3 => (arcNo_8 (by omega) (by omega) k2 (.inr h3)).symm, fun h3 => (arcNo_0 (by omega) (by omega) k2 h h3).symm⟩⟩
  rw [T_ite]
  refine ⟨fun h => ?_, fun h => ?_⟩
  ·simp only [T_G, T_some, Sum.elim_inl]
   subst hn
   refine ⟨by omega, ⟨by omega, by omega, by omega, .inl (by omega), by omega, arc_next hM hI h hA⟩, by omega⟩
  ·simp only [p_E, Option.bind_some]
   rw [p_At (by simp)]
   simp only [Option.bind_some, T_map, T_some, Sum.elim_inl, Sum.elim_inr]
   exact ⟨_, .arc' w i n hn.symm h hS hm hM hI hA, rfl⟩
 simp only [T_some]
 refine ⟨.nil, .ok hS hm hM fun u j hI => hA u j hI ?_, rfl⟩
 have h1 := hM.le (u := u + 1) (w := (F.length : Int) - 1) (by have := hI.1; omega) (by have := hI.2.1; omega) (by omega)
 have := hI.2.2.2; omega
end Go.Vd

/-! (PrN0) -/

set_option linter.unusedVariables false
set_option linter.unusedSimpArgs false
namespace Go.Vd
variable {F T' W l : List Int} {s n t : Int}
theorem p_Node (hl : F.length ≤ 17592186044160) {v : Int} : z_viaductref05_Node F T' W v = some (decide (0 ≤ v ∧ v < (F.length : Int) - 1)) := by
 refine T_eq.1 ?_
 unfold z_viaductref05_Node
 simp only [T_ite, T_G, T_some]
 refine ⟨fun h => ⟨by omega, by simp [h]⟩, fun h => by simp; omega⟩
end Go.Vd

/-! (PrN) -/

set_option linter.unusedVariables false
set_option linter.unusedSimpArgs false
namespace Go.Vd
variable {F T' W l : List Int} {s n t : Int}
theorem p_refNode (hl : F.length ≤ 17592186044160) : T (z_viaductref08_node F T' W s) fun r => ∃ er, ((Chk F T' W er ∧ er ≠ .nil) ∨ (Chk F T' W .nil ∧ er = .no 7 ∧ ¬ (0 ≤ s ∧ s < (F.length : Int) - 1)) ∨ (Chk F T' W .nil ∧ er = .nil ∧ 0 ≤ s ∧ s < (F.length : Int) - 1)) ∧ r = (er.code, er.pls) := by
 unfold z_viaductref08_node
 refine T_bindr _ (p_DocCheck hl) ?_
 rintro _ ⟨er, hc, rfl⟩
 have hb := hc.bad
 refine T_bindr (fun o => o = true ↔ (er = .nil ∧ ¬ (0 ≤ s ∧ s < (F.length : Int) - 1))) ?_ fun o ho => ?_
 ·rw [p_Bad, Option.bind_some, T_ite, p_Node hl]
  refine ⟨fun h => ?_, fun h => ?_⟩
  ·have := hb.1 (by simpa using h); simp [this]
  ·have : er = .nil := Classical.not_not.1 fun k => h (by simpa using hb.2 k)
   simp [this]; omega
 rw [T_ite]
 refine ⟨fun h => ?_, fun h => ?_⟩
 ·obtain ⟨rfl, h2⟩ := ho.1 h
  simp only [p_E, Option.bind_some, T_some]
  exact ⟨.no 7, .inr (.inl ⟨hc, rfl, h2⟩), rfl⟩
 ·simp only [T_some]
  refine ⟨er, ?_, rfl⟩
  by_cases e : er = .nil
  ·subst e
   exact .inr (.inr ⟨hc, rfl, Classical.not_not.1 fun k => h (ho.2 ⟨rfl, k⟩)⟩)
  ·exact .inl ⟨hc, e⟩
end Go.Vd

/-! (Bf2) -/

set_option linter.unusedVariables false
set_option linter.unusedSimpArgs false
namespace Go.Vd
variable {F T' W : List Int} {s : Int}
theorem p_BF1 (hc : Chk F T' W .nil) (s0 : 0 ≤ s) (s1 : s < (F.length : Int) - 1) {A : List (Int × Int × Int)} {m : Int} (hA : (A.length : Int) ≤ 262144) (hA1 : ∀ y ∈ A, ∃ u j, In F u j ∧ y = (u, gt T' j, gt W j))
  {l : List Int} (B : BI F T' W s l) :
  T (loopO (fun zz_ => z_viaductref08_From_l1 (m, A) zz_.1 zz_.2.1 zz_.2.2) (0, l, false)) fun r => BI F T' W s r.1 ∧ ((r.2 = false ∧ r.1 = l ∧ ∀ i : Int, 0 ≤ i → i < (A.length : Int) → gt l (gt A i).1 ≠ Far → ¬ gt l (gt A i).1 + (gt A i).2.2 < gt l (gt A i).2.1) ∨ (r.2 = true ∧ sumN r.1 < sumN l)) := by
 refine T_loop (fun z => 0 ≤ z.1 ∧ z.1 ≤ (A.length : Int) ∧ BI F T' W s z.2.1 ∧ ((z.2.2 = false ∧ z.2.1 = l ∧ ∀ i : Int, 0 ≤ i → i < z.1 → gt l (gt A i).1 ≠ Far → ¬ gt l (gt A i).1 + (gt A i).2.2 < gt l (gt A i).2.1) ∨ (z.2.2 = true ∧ sumN z.2.1 < sumN l))) (fun z => ((A.length : Int) - z.1).toNat) ?_ ⟨by simp, by simp, B, .inl ⟨rfl, rfl, fun i i0 i1 => by dsimp only at i1; omega⟩⟩
 rintro ⟨i, d, t⟩ ⟨i0, i1, D, hd⟩
 dsimp only at *
 unfold z_viaductref08_From_l1
 dsimp only
 rw [T_ite]
 refine ⟨fun hi => ?_, fun hi => ?_⟩
 rotate_left
 ·simp only [T_some, Sum.elim_inr]
  have : i = (A.length : Int) := by omega
  subst this; exact ⟨D, hd⟩
 have hmem : gt A i ∈ A := by
  obtain ⟨k, rfl⟩ := Int.eq_ofNat_of_zero_le i0
  rw [gt_nat (by omega)]; exact List.getElem_mem _
 obtain ⟨u, j, hI, e⟩ := hA1 _ hmem
 have hlen := D.len
 obtain ⟨x0, x1⟩ := hc.node' hI
 obtain ⟨w0, w1⟩ := hc.weight hI
 have hu0 := hI.1; have hu1 := hI.2.1
 rw [T_G]
 refine ⟨i0, T_bindr (fun o => o = true ↔ (gt d u ≠ Far ∧ gt d u + gt W j < gt d (gt T' j))) ?_ fun o ho => ?_⟩
 ·rw [e]
  simp only [T_G, T_ite, T_some]
  refine ⟨by omega, fun h => by simp [Far, h], fun h => ?_⟩
  have hsm := D.small hc hu0 hu1 h
  have hw := (D.way u hu0 hu1 h).2.1
  exact ⟨by omega, by omega, by omega, by simp [Far, h]⟩
 rw [T_ite]
 refine ⟨fun ht => ?_, fun hf => ?_⟩
 ·obtain ⟨h1, h2⟩ := ho.1 ht
  have hsm := D.small hc hu0 hu1 h1
  have hw := (D.way u hu0 hu1 h1).2.1
  obtain ⟨D', hs⟩ := D.turn hc s0 s1 hI h1 h2
  rw [e]
  simp only [T_G, T_some, Sum.elim_inl]
  refine ⟨by omega, by omega, by omega, by omega, by omega, ⟨by omega, by omega, D', .inr ⟨trivial, ?_⟩⟩, by omega⟩
  rcases hd with ⟨_, rfl, _⟩ | ⟨_, h4⟩
  ·exact hs
  ·exact Nat.lt_trans hs h4
 ·simp only [T_G, T_some, Sum.elim_inl]
  refine ⟨by omega, ⟨by omega, by omega, D, ?_⟩, by omega⟩
  rcases hd with ⟨h1, rfl, h3⟩ | h4
  ·refine .inl ⟨h1, rfl, fun k k0 k1 => ?_⟩
   by_cases ek : k = i
   ·subst ek; rw [e]; exact fun a b => hf (ho.2 ⟨a, b⟩)
   ·exact h3 k k0 (by omega)
  ·exact .inr h4
theorem p_BF (hc : Chk F T' W .nil) (s0 : 0 ≤ s) (s1 : s < (F.length : Int) - 1) : T (z_viaductref08_From F T' W s) (DistL F T' W s) := by
 obtain ⟨m1, m2⟩ := hc.small
 unfold z_viaductref08_From
 refine T_bindr _ (p_Graph hc) ?_
 rintro ⟨m, A⟩ ⟨e, hA, hA1, hA2⟩
 dsimp only at *
 subst e
 rw [T_G]
 have hr : ((List.replicate ((F.length : Int) - 1).toNat (0 : Int)).length : Int) = (F.length : Int) - 1 := by simp; omega
 refine ⟨by omega, T_bindr (fun l => (l.length : Int) = (F.length : Int) - 1 ∧ ∀ v, 0 ≤ v → v < (F.length : Int) - 1 → gt l v = Far) ?_ fun l ⟨l1, l2⟩ => ?_⟩
 ·refine T_loop (fun z => 0 ≤ z.1 ∧ z.1 ≤ (F.length : Int) - 1 ∧ (z.2.length : Int) = (F.length : Int) - 1 ∧ ∀ v, 0 ≤ v → v < z.1 → gt z.2 v = Far) (fun z => ((F.length : Int) - z.1).toNat) ?_ ⟨by simp, by dsimp only; omega, hr, fun v v0 v1 => by dsimp only at v1; omega⟩
  rintro ⟨i, l⟩ ⟨i0, i1, hl, hv⟩
  dsimp only at *
  unfold z_viaductref08_From_l0
  dsimp only
  rw [hr]
  simp only [T_ite, T_G, T_some, Sum.elim_inl, Sum.elim_inr]
  refine ⟨fun hi => ⟨by omega, by omega, ⟨by omega, by omega, by simpa using hl, fun v v0 v1 => ?_⟩, by omega⟩, fun hi => ⟨hl, fun v v0 v1 => hv v v0 (by omega)⟩⟩
  rw [gt_set i0 (by omega) v0]
  by_cases e : v = i
  ·rw [if_pos e]; rfl
  ·rw [if_neg e]; exact hv v v0 (by omega)
 ·rw [T_G]
  have B0 : BI F T' W s (l.set s.toNat 0) := by
   refine ⟨by simpa using l1, by rw [gt_set s0 (by omega) s0, if_pos rfl], fun v v0 v1 hv => ?_⟩
   rw [gt_set s0 (by omega) v0] at hv ⊢
   by_cases e : v = s
   ·subst e
    rw [if_pos rfl]
    have h4 : 0 ≤ cntT (fin (l.set v.toNat 0)) := by unfold cntT; omega
    exact ⟨.refl, by omega, by omega⟩
   ·rw [if_neg e, l2 v v0 v1] at hv; exact absurd rfl hv
  refine ⟨by omega, T_bindr (DistL F T' W s) ?_ fun l hl => by simpa using hl⟩
  refine T_loop (fun z => BI F T' W s z.1 ∧ (z.2 = false → ∀ i : Int, 0 ≤ i → i < (A.length : Int) → gt z.1 (gt A i).1 ≠ Far → ¬ gt z.1 (gt A i).1 + (gt A i).2.2 < gt z.1 (gt A i).2.1)) (fun z => 2 * sumN z.1 + (if z.2 = true then 1 else 0)) ?_ ⟨B0, fun h => by cases h⟩
  rintro ⟨d, t⟩ ⟨D, hd⟩
  dsimp only at *
  unfold z_viaductref08_From_l2
  rw [T_ite]
  refine ⟨fun ht => ?_, fun hf => ?_⟩
  ·refine T_bindr _ (p_BF1 hc s0 s1 hA hA1 D) ?_
   rintro ⟨d', t'⟩ ⟨D', h⟩
   simp only [T_some, Sum.elim_inl]
   dsimp only at *
   rcases h with ⟨h1, h2, h3⟩ | ⟨h1, h2⟩
   ·subst h2; subst h1
    refine ⟨⟨D', fun _ => h3⟩, ?_⟩
    rw [if_neg (by decide), if_pos ht]; omega
   ·subst h1
    refine ⟨⟨D', fun h => by cases h⟩, ?_⟩
    rw [if_pos rfl, if_pos ht]; omega
  ·simp only [T_some, Sum.elim_inr]
   refine D.done hc s0 s1 fun u j hI hu => ?_
   obtain ⟨k, hk, e⟩ := List.mem_iff_getElem.1 (hA2 u j hI)
   have := hd (by simpa using hf) (k : Int) (by omega) (by omega)
   rw [gt_nat hk, e] at this
   exact this hu
end Go.Vd

/-! (Pa1) -/

set_option linter.unusedVariables false
set_option linter.unusedSimpArgs false
namespace Go.Vd
variable {F T' W : List Int} {s n : Int} {D : Int → Option Int} {fr sn ls : List Int}
def TightA (F T' W : List Int) (D : Int → Option Int) (u x : Int) : Prop := ∃ k w, D u = some k ∧ Arcw F T' W u x w ∧ D x = some (k + w)
structure PI (F T' W : List Int) (n s : Int) (D : Int → Option Int) (fr sn ls : List Int) : Prop where
 lf : (fr.length : Int) = n
 lsn : (sn.length : Int) = n
 head : gt ls 0 = s
 pos : 0 < (ls.length : Int)
 nd : ls.Nodup
 rng : ∀ x ∈ ls, 0 ≤ x ∧ x < n
 mem : ∀ x, 0 ≤ x → x < n → (gt sn x ≠ 0 ↔ x ∈ ls)
 cnt : cntT (sn.map fun y => decide (y ≠ 0)) = ls.length
 par : ∀ k, 1 ≤ k → k < (ls.length : Int) → ∃ j, 0 ≤ j ∧ j < k ∧ gt fr (gt ls k) = gt ls j ∧ TightA F T' W D (gt ls j) (gt ls k)
 lab : ∀ x ∈ ls, ∃ k, D x = some k
theorem PI.le (P : PI F T' W n s D fr sn ls) : (ls.length : Int) ≤ n := by
 have h1 := P.cnt; have h2 := cntT_le (sn.map fun y => decide (y ≠ 0)); have h3 := P.lsn
 simp only [List.length_map] at h2
 omega
theorem gt_memI {l : List Int} {k : Int} (k0 : 0 ≤ k) (k1 : k < (l.length : Int)) : gt l k ∈ l := by
 obtain ⟨k, rfl⟩ := Int.eq_ofNat_of_zero_le k0
 rw [gt_nat (by omega)]; exact List.getElem_mem _
theorem mem_gt {l : List Int} {x : Int} (h : x ∈ l) : ∃ k : Int, 0 ≤ k ∧ k < (l.length : Int) ∧ gt l k = x := by
 obtain ⟨k, hk, he⟩ := List.mem_iff_getElem.1 h
 exact ⟨k, by omega, by omega, by rw [gt_nat hk]; exact he⟩
theorem PI.add (P : PI F T' W n s D fr sn ls) {x i : Int} (x0 : 0 ≤ x) (x1 : x < n) (hx : gt sn x = 0) (i0 : 0 ≤ i) (i1 : i < (ls.length : Int)) (ht : TightA F T' W D (gt ls i) x) :
  PI F T' W n s D (fr.set x.toNat (gt ls i)) (sn.set x.toNat 1) (ls ++ [x]) := by
 have hlf := P.lf; have hls := P.lsn
 have hxn : x ∉ ls := fun h => (P.mem x x0 x1).2 h hx
 have old : ∀ k, 0 ≤ k → k < (ls.length : Int) → gt (ls ++ [x]) k = gt ls k := fun k k0 k1 => by rw [gt_snoc k0, if_neg (by omega)]
 have new : gt (ls ++ [x]) (ls.length : Int) = x := by rw [gt_snoc (by omega), if_pos rfl]
 refine ⟨by simpa using hlf, by simpa using hls, by rw [old 0 (by omega) P.pos]; exact P.head, by simp, ?_, fun y hy => ?_, fun y y0 y1 => ?_, ?_, fun k k0 k1 => ?_, fun y hy => ?_⟩
 ·rw [List.nodup_append]
  exact ⟨P.nd, by simp, fun a ha b hb => by rw [List.mem_singleton.1 hb]; rintro rfl; exact hxn ha⟩
 ·rcases List.mem_append.1 hy with hy | hy
  ·exact P.rng y hy
  ·rw [List.mem_singleton.1 hy]; exact ⟨x0, x1⟩
 ·rw [gt_set x0 (by omega) y0]
  by_cases e : y = x
  ·subst e; simp
  ·rw [if_neg e, P.mem y y0 y1]; simp [e]
 ·rw [List.map_set]
  have hi : x.toNat < (sn.map fun y => decide (y ≠ 0)).length := by simp; omega
  have hg : sn[x.toNat]'(by omega) = 0 := by
   have := gt_nat (xs := sn) (i := x.toNat) (by omega)
   rw [show ((x.toNat : Nat) : Int) = x from by omega, hx] at this
   exact this.symm
  have : decide ((1 : Int) ≠ 0) = true := by decide
  rw [this, cntT_set hi (by simp [hg]), P.cnt]; simp
 ·by_cases e : k = (ls.length : Int)
  ·subst e
   refine ⟨i, i0, i1, ?_, ?_⟩
   ·rw [new, gt_set x0 (by omega) x0, if_pos rfl, old i i0 i1]
   ·rw [new, old i i0 i1]; exact ht
  ·have k1' : k < (ls.length : Int) := by simp at k1; omega
   obtain ⟨j, j0, j1, h1, h2⟩ := P.par k k0 k1'
   have hm := gt_memI (l := ls) (k := k) (by omega) k1'
   refine ⟨j, j0, j1, ?_, ?_⟩
   ·rw [old k (by omega) k1', old j j0 (by omega), gt_set x0 (by omega) (P.rng _ hm).1, if_neg (fun e2 => hxn (by rw [← e2]; exact hm))]; exact h1
   ·rw [old k (by omega) k1', old j j0 (by omega)]; exact h2
 ·rcases List.mem_append.1 hy with hy | hy
  ·exact P.lab y hy
  ·rw [List.mem_singleton.1 hy]; obtain ⟨k, w, _, _, h3⟩ := ht; exact ⟨_, h3⟩
theorem PI.all (P : PI F T' W n s D fr sn ls) (C : Cd F T' W s D) (cl : ∀ u x, u ∈ ls → TightA F T' W D u x → x ∈ ls) {v L : Int} (h : Way F T' W s v L) : D v = some L → v ∈ ls := by
 induction h with
 | refl => intro _; rw [← P.head]; exact gt_memI (Int.le_refl _) P.pos
 | step u e x w hw ha ih =>
  intro hx
  obtain ⟨k, h1, h2⟩ := C.low hw
  obtain ⟨m, h3, h4⟩ := C.arc u k x w h1 ha
  rw [hx] at h3; cases h3
  have : k = e := by omega
  subst this
  exact cl u x (ih h1) ⟨k, w, h1, ha, hx⟩
theorem PI.start {m : Nat} (hm : (m : Int) = n) (s0 : 0 ≤ s) (s1 : s < n) (hs : D s = some 0) : PI F T' W n s D (List.replicate m 0) ((List.replicate m (0 : Int)).set s.toNat 1) [s] := by
 have hz : ∀ x, gt (List.replicate m (0 : Int)) x = 0 := fun x => gt_rep (E := Int)
 refine ⟨by simp; omega, by simp; omega, rfl, by simp, by simp, fun x hx => by rw [List.mem_singleton.1 hx]; exact ⟨s0, s1⟩, fun x x0 x1 => ?_, ?_, fun k k0 k1 => by simp at k1; omega, fun x hx => by rw [List.mem_singleton.1 hx]; exact ⟨_, hs⟩⟩
 ·rw [gt_set s0 (by simp; omega) x0, hz]
  by_cases e : x = s
  ·simp [e]
  ·simp [e]
 ·rw [List.map_set]
  have hi : s.toNat < ((List.replicate m (0 : Int)).map fun y => decide (y ≠ 0)).length := by simp; omega
  rw [show decide ((1 : Int) ≠ 0) = true from by decide, cntT_set hi (by simp)]
  have : (List.replicate m (0 : Int)).map (fun y => decide (y ≠ 0)) = List.replicate m false := by simp
  rw [this, cntT_zero]; rfl
theorem p_parents {h : List (Int × Int)} {a : List Int} {cs : List (Int × Int)} {c : Int} {hp : List Int} {S : List Bool} (hc : Chk F T' W .nil) (s0 : 0 ≤ s) (s1 : s < (F.length : Int) - 1) (lc : (cs.length : Int) = (F.length : Int) - 1)
  (C : Cd F T' W s (DC cs)) (hb : ∀ x k, DC cs x = some k → 0 ≤ k ∧ k < 281474976710656) :
  T (z_search_state_parents F T' W h a cs 1 c hp S s) fun fr => ∃ sn ls, PI F T' W ((F.length : Int) - 1) s (DC cs) fr sn ls ∧ ∀ v k, DC cs v = some k → v ∈ ls := by
 obtain ⟨m1, m2⟩ := hc.small
 have hm : ((((F.length : Int) - 1).toNat : Nat) : Int) = (F.length : Int) - 1 := by omega
 have hr : ((List.replicate ((F.length : Int) - 1).toNat (0 : Int)).length : Int) = (F.length : Int) - 1 := by simp; omega
 unfold z_search_state_parents
 rw [p_nodes8 (by omega), Option.bind_some, T_G, Option.bind_some]
 simp only [T_G]
 refine ⟨by omega, by omega, by omega, T_bindr (fun fr => ∃ sn ls, PI F T' W ((F.length : Int) - 1) s (DC cs) fr sn ls ∧ ∀ u x, u ∈ ls → TightA F T' W (DC cs) u x → x ∈ ls) ?_ ?_⟩
 ·refine T_loop (fun z => 0 ≤ z.2.2.2 ∧ z.2.2.2 ≤ (z.2.2.1.length : Int) ∧ PI F T' W ((F.length : Int) - 1) s (DC cs) z.1 z.2.1 z.2.2.1 ∧ ∀ k x, 0 ≤ k → k < z.2.2.2 → TightA F T' W (DC cs) (gt z.2.2.1 k) x → x ∈ z.2.2.1) (fun z => ((F.length : Int) - z.2.2.2).toNat) ?_ ⟨by simp, by simp, PI.start hm s0 s1 C.src, fun k x k0 k1 => by dsimp only at k1; omega⟩
  rintro ⟨fr, sn, ls, i⟩ ⟨i0, i1, P, hcl⟩
  dsimp only at *
  have hle := P.le
  unfold z_search_state_parents_l1
  rw [T_ite]
  refine ⟨fun hi => ?_, fun hi => ?_⟩
  rotate_left
  ·simp only [T_some, Sum.elim_inr]
   refine ⟨sn, ls, P, fun u x hu ht => ?_⟩
   obtain ⟨k, k0, k1, e⟩ := mem_gt hu
   exact hcl k x k0 (by omega) (by rw [e]; exact ht)
  have hvm := gt_memI i0 hi
  obtain ⟨v0, v1⟩ := P.rng _ hvm
  obtain ⟨d, hd⟩ := P.lab _ hvm
  obtain ⟨b0, b1, b2, b3, b4⟩ := hc.inb v0 v1
  have hdb := hb _ _ hd
  rw [T_G, p_SGet v0 (by omega), hd, Option.bind_some]
  dsimp only
  simp only [T_G]
  refine ⟨i0, by omega, T_bindr (fun r => ∃ ext, r.2.2 = ls ++ ext ∧ PI F T' W ((F.length : Int) - 1) s (DC cs) r.1 r.2.1 r.2.2 ∧ ∀ x, TightA F T' W (DC cs) (gt ls i) x → x ∈ r.2.2) ?_ ?_⟩
  ·refine T_loop (fun z => gt F (gt ls i) ≤ z.1 ∧ z.1 ≤ gt F (gt ls i + 1) ∧ ∃ ext, z.2.2.2 = ls ++ ext ∧ PI F T' W ((F.length : Int) - 1) s (DC cs) z.2.1 z.2.2.1 z.2.2.2 ∧ ∀ j, In F (gt ls i) j → j < z.1 → DC cs (gt T' j) = some (d + gt W j) → gt T' j ∈ z.2.2.2) (fun z => (gt F (gt ls i + 1) - z.1).toNat) ?_ ⟨by simp, b1, [], by simp, P, fun j hj h => by have := hj.2.2.1; dsimp only at h; omega⟩
   rintro ⟨j, fr, sn, l3⟩ ⟨j0, j1, ext, e3, P3, hin⟩
   dsimp only at *
   subst e3
   have hl3 := P3.le
   have hl3s := P3.lsn
   have hl3f := P3.lf
   unfold z_search_state_parents_l0
   simp only [T_G]
   refine ⟨by omega, by omega, ?_⟩
   rw [T_ite]
   refine ⟨fun hj => ?_, fun hj => ?_⟩
   ·have hI : In F (gt ls i) j := ⟨v0, v1, j0, hj⟩
    obtain ⟨w0, w1⟩ := hc.weight hI
    obtain ⟨x0, x1⟩ := hc.node hI
    obtain ⟨m, hm1, hm2⟩ := C.arc _ d _ _ hd ⟨j, hI, rfl, rfl⟩
    rw [T_G, p_SGet x0 (by omega), hm1, Option.bind_some]
    dsimp only
    have hgi : gt (ls ++ ext) i = gt ls i := by
     have : (ls ++ ext)[i.toNat]? = ls[i.toNat]? := List.getElem?_append_left (by omega)
     unfold gt
     rw [List.getD_eq_getElem?_getD, List.getD_eq_getElem?_getD, this]
    refine ⟨by omega, T_bindr (fun o => o = true ↔ (gt sn (gt T' j) = 0 ∧ m = d + gt W j)) ?_ fun o ho => ?_⟩
    ·simp only [T_G, T_ite, T_some]
     exact ⟨by omega, fun h => ⟨by omega, by omega, by omega, by simp [h]⟩, fun h => by simp [h]⟩
    rw [T_ite]
    refine ⟨fun ht => ?_, fun hf => ?_⟩
    ·obtain ⟨h1, h2⟩ := ho.1 ht
     subst h2
     have P4 := P3.add (i := i) x0 x1 h1 i0 (by simp; omega) (by rw [hgi]; exact ⟨d, _, hd, ⟨j, hI, rfl, rfl⟩, hm1⟩)
     rw [hgi] at P4
     simp only [T_G, T_some, Sum.elim_inl]
     refine ⟨by omega, by omega, by omega, by omega, ⟨by omega, by omega, ext ++ [gt T' j], by simp, P4, fun k hk hlt hx => ?_⟩, by omega⟩
     by_cases e : k = j
     ·subst e; simp
     ·exact List.mem_append_left _ (hin k hk (by omega) hx)
    ·simp only [T_G, T_some, Sum.elim_inl]
     refine ⟨by omega, ⟨by omega, by omega, ext, rfl, P3, fun k hk hlt hx => ?_⟩, by omega⟩
     by_cases e : k = j
     ·subst e
      rw [hm1] at hx
      have hmm : m = d + gt W k := Option.some.inj hx
      exact (P3.mem _ x0 x1).1 fun hz => hf (ho.2 ⟨hz, hmm⟩)
     ·exact hin k hk (by omega) hx
   ·simp only [T_some, Sum.elim_inr]
    refine ⟨ext, rfl, P3, fun x ⟨k, w, h1, ⟨j', hj', e1, e2⟩, h3⟩ => ?_⟩
    rw [hd] at h1; cases h1
    subst e1; subst e2
    exact hin j' hj' (by have := hj'.2.2.2; omega) h3
  ·rintro ⟨fr', sn', ls'⟩ ⟨ext, e3, P3, hin⟩
   dsimp only at *
   subst e3
   have hl3 := P3.le
   have hgk : ∀ k, 0 ≤ k → k < (ls.length : Int) → gt (ls ++ ext) k = gt ls k := fun k k0 k1 => by
    have : (ls ++ ext)[k.toNat]? = ls[k.toNat]? := List.getElem?_append_left (by omega)
    unfold gt
    rw [List.getD_eq_getElem?_getD, List.getD_eq_getElem?_getD, this]
   simp only [T_G, T_some, Sum.elim_inl]
   refine ⟨by omega, ⟨by omega, by simp; omega, P3, fun k x k0 k1 ht => ?_⟩, by omega⟩
   rw [hgk k k0 (by omega)] at ht
   by_cases e : k = i
   ·subst e; exact hin x ht
   ·exact List.mem_append_left _ (hcl k x k0 (by omega) ht)
 ·rintro fr ⟨sn, ls, P, hcl⟩
  simp only [T_some]
  exact ⟨sn, ls, P, fun v k hk => P.all C hcl (C.way v k hk) hk⟩
end Go.Vd

/-! (Pa2) -/

set_option linter.unusedVariables false
set_option linter.unusedSimpArgs false
namespace Go.Vd
variable {F T' W : List Int} {s n t : Int} {D : Int → Option Int} {fr sn ls : List Int}
theorem idx_gt {l : List Int} (hn : l.Nodup) {k : Int} (k0 : 0 ≤ k) (k1 : k < (l.length : Int)) : (l.idxOf (gt l k) : Int) = k := by
 obtain ⟨k, rfl⟩ := Int.eq_ofNat_of_zero_le k0
 rw [gt_nat (by omega), hn.idxOf_getElem k (by omega)]
theorem PI.up (P : PI F T' W n s D fr sn ls) {v : Int} (hv : v ∈ ls) (hs : v ≠ s) : gt fr v ∈ ls ∧ ls.idxOf (gt fr v) < ls.idxOf v ∧ TightA F T' W D (gt fr v) v := by
 obtain ⟨k, k0, k1, rfl⟩ := mem_gt hv
 have hk : 1 ≤ k := by
  by_cases e : k = 0
  ·subst e; exact absurd P.head hs
  ·omega
 obtain ⟨j, j0, j1, h1, h2⟩ := P.par k hk k1
 rw [h1]
 have e1 := idx_gt P.nd j0 (by omega)
 have e2 := idx_gt P.nd k0 k1
 exact ⟨gt_memI j0 (by omega), by omega, h2⟩
structure BL (F T' W : List Int) (t : Int) (D : Int → Option Int) (ls : List Int) (l : List Int) (v : Int) : Prop where
 vm : v ∈ ls
 pos : 0 < (l.length : Int)
 fst : gt l 0 = t
 lst : gt l ((l.length : Int) - 1) = v
 con : ∀ i, 1 ≤ i → i < (l.length : Int) → TightA F T' W D (gt l i) (gt l (i - 1))
 nd : l.Nodup
 sub : ∀ x ∈ l, x ∈ ls ∧ ls.idxOf v ≤ ls.idxOf x
 len : l.length + ls.idxOf v ≤ ls.length
theorem p_PathL (P : PI F T' W n s D fr sn ls) (hn : n ≤ 65536) (ht : t ∈ ls) : T (loopO (fun zz_ => z_search_Path_l0 s fr zz_.1 zz_.2) ([t], t)) fun l => BL F T' W t D ls l s := by
 have hle := P.le
 refine T_loop (fun z => BL F T' W t D ls z.1 z.2) (fun z => ls.idxOf z.2) ?_ ⟨ht, by simp, rfl, rfl, fun i i0 i1 => by simp at i1; omega, by simp, fun x hx => by rw [List.mem_singleton.1 hx]; exact ⟨ht, Nat.le_refl _⟩, by have := List.idxOf_lt_length_of_mem ht; simp; omega⟩
 rintro ⟨l, v⟩ B
 dsimp only at *
 unfold z_search_Path_l0
 rw [T_ite]
 refine ⟨fun hv => ?_, fun hv => ?_⟩
 ·simp only [T_some, Sum.elim_inr]; subst hv; exact B
 obtain ⟨u1, u2, u3⟩ := P.up B.vm hv
 obtain ⟨r0, r1⟩ := P.rng v B.vm
 have hlf := P.lf
 have hlen := B.len
 have hpos := B.pos
 have old : ∀ k, 0 ≤ k → k < (l.length : Int) → gt (l ++ [gt fr v]) k = gt l k := fun k k0 k1 => by rw [gt_snoc k0, if_neg (by omega)]
 have new : gt (l ++ [gt fr v]) (l.length : Int) = gt fr v := by rw [gt_snoc (by omega), if_pos rfl]
 have hl1 : ((l ++ [gt fr v]).length : Int) = l.length + 1 := by simp
 simp only [T_G, T_some, Sum.elim_inl]
 refine ⟨by omega, by omega, ⟨u1, by omega, by rw [old 0 (by omega) hpos]; exact B.fst, by rw [hl1, show (l.length : Int) + 1 - 1 = l.length from by omega]; exact new, fun i i0 i1 => ?_, ?_, fun x hx => ?_, by simp; omega⟩, u2⟩
 ·by_cases e : i = (l.length : Int)
  ·subst e; rw [new, old _ (by omega) (by omega), B.lst]; exact u3
  ·rw [old i (by omega) (by omega), old _ (by omega) (by omega)]; exact B.con i i0 (by omega)
 ·rw [List.nodup_append]
  refine ⟨B.nd, by simp, fun a ha b hb => ?_⟩
  rw [List.mem_singleton.1 hb]
  rintro rfl
  have := (B.sub _ ha).2; omega
 ·rcases List.mem_append.1 hx with hx | hx
  ·exact ⟨(B.sub x hx).1, by have := (B.sub x hx).2; omega⟩
  ·rw [List.mem_singleton.1 hx]; exact ⟨u1, Nat.le_refl _⟩
structure SP (F T' W : List Int) (s t : Int) (D : Int → Option Int) (p : List Int) : Prop where
 pos : 0 < (p.length : Int)
 fst : gt p 0 = s
 lst : gt p ((p.length : Int) - 1) = t
 con : ∀ i, 1 ≤ i → i < (p.length : Int) → TightA F T' W D (gt p (i - 1)) (gt p i)
 nd : p.Nodup
 rng : ∀ x ∈ p, 0 ≤ x ∧ x < (F.length : Int) - 1
 small : p.length ≤ 65536
theorem gt_revI {l : List Int} {k : Int} (k0 : 0 ≤ k) (k1 : k < (l.length : Int)) : gt l.reverse k = gt l ((l.length : Int) - 1 - k) := by
 obtain ⟨k, rfl⟩ := Int.eq_ofNat_of_zero_le k0
 rw [gt_nat (show k < l.reverse.length by simp; omega), List.getElem_reverse, ← gt_nat]
 congr 1; omega
theorem BL.rev {l : List Int} (B : BL F T' W t D ls l s) (P : PI F T' W ((F.length : Int) - 1) s D fr sn ls) (hn : (F.length : Int) - 1 ≤ 65536) : SP F T' W s t D l.reverse := by
 have hle := P.le
 have hlen := B.len
 have hpos := B.pos
 have hl : (l.reverse.length : Int) = l.length := by simp
 refine ⟨by omega, ?_, ?_, fun i i0 i1 => ?_, List.pairwise_reverse.2 (B.nd.imp Ne.symm), fun x hx => P.rng x (B.sub x (by simpa using hx)).1, by simp; omega⟩
 ·rw [gt_revI (by omega) hpos, show (l.length : Int) - 1 - 0 = l.length - 1 from by omega]; exact B.lst
 ·rw [hl, gt_revI (by omega) (by omega), show (l.length : Int) - 1 - (l.length - 1) = 0 from by omega]; exact B.fst
 ·rw [hl] at i1
  rw [gt_revI (by omega) (by omega), gt_revI (by omega) i1]
  have := B.con ((l.length : Int) - 1 - (i - 1)) (by omega) (by omega)
  rwa [show (l.length : Int) - 1 - (i - 1) - 1 = l.length - 1 - i from by omega] at this
end Go.Vd

/-! (Pa3) -/

set_option linter.unusedVariables false
set_option linter.unusedSimpArgs false
namespace Go.Vd
variable {F T' W : List Int} {s n t : Int} {D : Int → Option Int}
theorem doc_nil (hc : Chk F T' W .nil) {er : Er} (k : Chk F T' W er) : er = .nil := by
 cases k with
 | shape k1 => exact absurd hc.shp k1
 | limit _ k2 => exact absurd hc.small k2
 | mono v _ _ k3 k4 k5 _ => have := hc.mon v k3 k4; omega
 | arc v i _ _ _ k4 k5 _ => exact absurd (hc.arcs v i k4) k5
 | ok => rfl
theorem p_DocRow (hc : Chk F T' W .nil) {v : Int} (v0 : 0 ≤ v) (v1 : v < (F.length : Int) - 1) : T (z_viaductref05_DocRow F T' W v) fun r => r.2 = (0, []) ∧ (∀ y ∈ r.1, ∃ j, In F v j ∧ y = (v, gt T' j, gt W j)) ∧ (∀ j, In F v j → (v, gt T' j, gt W j) ∈ r.1) ∧ (r.1.length : Int) ≤ 262144 := by
 obtain ⟨m1, m2⟩ := hc.small
 obtain ⟨b0, b1, b2, b3, b4⟩ := hc.inb' v0 v1
 unfold z_viaductref05_DocRow
 refine T_bindr _ (p_DocCheck (by omega)) ?_
 rintro _ ⟨er, hc', rfl⟩
 have := doc_nil hc hc'
 subst this
 have hb : z_viaductref01_Err_Bad (0 : Int) [] = some false := by rw [p_Bad]; rfl
 simp only [Er.code, Er.pls, hb, Option.bind_some, Bool.false_eq_true, if_false, p_Node (F := F) (T' := T') (W := W) (v := v) (by omega), v0, v1, and_self, decide_true, Bool.not_true]
 refine T_bindr _ (p_Row hc v0 v1) fun l ⟨l1, l2, l3⟩ => ?_
 simp only [T_some]
 exact ⟨trivial, l2, l3, by omega⟩
theorem p_DocFind (hc : Chk F T' W .nil) {v x w : Int} (ha : Arcw F T' W v x w) : T (z_viaductref05_DocFind F T' W v x) fun r => Arcw F T' W v x r.1 ∧ r.2 = (0, []) := by
 obtain ⟨j, hI, e1, e2⟩ := ha
 subst e1; subst e2
 obtain ⟨x0, x1⟩ := hc.node' hI
 obtain ⟨m1, m2⟩ := hc.small
 unfold z_viaductref05_DocFind
 refine T_bindr _ (p_DocRow hc hI.1 hI.2.1) ?_
 rintro ⟨l, _, _⟩ ⟨e, l1, l2, l3⟩
 cases e
 dsimp only at l1 l2 l3
 have hb : z_viaductref01_Err_Bad (0 : Int) [] = some false := by rw [p_Bad]; rfl
 simp only [hb, Option.bind_some, Bool.false_eq_true, if_false, p_Node (F := F) (T' := T') (W := W) (v := gt T' j) (by omega), x0, x1, and_self, decide_true, Bool.not_true]
 refine T_binds (fun _ => False) ?_ fun _ h => h.elim
 refine T_loop (fun i => 0 ≤ i ∧ i ≤ (l.length : Int) ∧ ∀ k : Int, 0 ≤ k → k < i → (gt l k).2.1 ≠ gt T' j) (fun i => ((l.length : Int) - i).toNat) ?_ ⟨by omega, by omega, fun k k0 k1 => by omega⟩
 rintro i ⟨i0, i1, hn⟩
 unfold z_viaductref05_DocFind_l0
 dsimp only
 simp only [T_ite, T_G, T_map, T_some, Sum.elim_inl, Sum.elim_inr]
 refine ⟨fun hi => ⟨i0, fun he => ?_, fun he => ⟨by omega, ⟨by omega, by omega, fun k k0 k1 => ?_⟩, by omega⟩⟩, fun hi => ?_⟩
 ·have hm : gt l i ∈ l := by
   obtain ⟨k, rfl⟩ := Int.eq_ofNat_of_zero_le i0
   rw [gt_nat (by omega)]; exact List.getElem_mem _
  obtain ⟨j', hj', e⟩ := l1 _ hm
  rw [e] at he ⊢
  exact ⟨⟨j', hj', he, rfl⟩, trivial⟩
 ·by_cases e : k = i
  ·subst e; exact he
  ·exact hn k k0 (by omega)
 ·obtain ⟨k, hk, e⟩ := List.mem_iff_getElem.1 (l2 j hI)
  have := hn (k : Int) (by omega) (by omega)
  rw [gt_nat hk, e] at this
  exact absurd rfl this
end Go.Vd

/-! (Pa4) -/

set_option linter.unusedVariables false
set_option linter.unusedSimpArgs false
namespace Go.Vd
variable {F T' W : List Int} {s n t : Int} {D : Int → Option Int}
theorem p_rPath {p : List Int} {d : Int} (hc : Chk F T' W .nil) (P : SP F T' W s t D p) (hs : D s = some 0) (ht : D t = some d) (hb : ∀ x k, D x = some k → 0 ≤ k ∧ k < 281474976710656) : z_viaductref08_Path F T' W p s t d = some true := by
 obtain ⟨m1, m2⟩ := hc.small
 have hpos := P.pos
 have hsm := P.small
 refine T_eq.1 ?_
 unfold z_viaductref08_Path
 refine T_bindr (fun o => o = false) ?_ ?_
 ·simp only [T_ite, T_G, T_some]
  exact ⟨fun h => by omega, fun _ => ⟨by omega, fun _ => ⟨by omega, by omega, by simp [P.lst]⟩, fun h => absurd P.fst h⟩⟩
 rintro _ rfl
 rw [if_neg (by decide)]
 refine T_binds (fun sm => sm = d) ?_ fun sm h => by simp [h]
 refine T_loop (fun z => 0 ≤ z.2 ∧ z.2 ≤ (p.length : Int) ∧ 0 ≤ z.1 ∧ z.1 < 281474976710656 ∧ ((z.2 = 0 ∧ z.1 = 0) ∨ (1 ≤ z.2 ∧ D (gt p (z.2 - 1)) = some z.1))) (fun z => ((p.length : Int) - z.2).toNat) ?_ ⟨by simp, by simp, by simp, by simp, .inl ⟨rfl, rfl⟩⟩
 rintro ⟨sm, i⟩ ⟨i0, i1, sm0, sm1, hi⟩
 dsimp only at *
 unfold z_viaductref08_Path_l1
 rw [T_ite]
 refine ⟨fun hlt => ?_, fun hge => ?_⟩
 rotate_left
 ·simp only [T_some, Sum.elim_inr]
  rcases hi with hi | ⟨_, hi⟩
  ·omega
  ·have : i = (p.length : Int) := by omega
   subst this
   rw [P.lst, ht] at hi
   exact (Option.some.inj hi).symm
 obtain ⟨r0, r1⟩ := P.rng _ (gt_memI i0 hlt)
 rw [T_G, p_Node (by omega), Option.bind_some, if_neg (by simp [r0, r1]), T_G]
 refine ⟨i0, by omega, T_binds (fun _ => True) ?_ fun _ _ => ?_⟩
 ·have hl : (((p.take i.toNat).drop 0).length : Int) = i := by simp; omega
  refine T_loop (fun j => 0 ≤ j ∧ j ≤ i) (fun j => (i - j).toNat) ?_ ⟨by omega, by omega⟩
  rintro j ⟨j0, j1⟩
  unfold z_viaductref08_Path_l0
  rw [hl]
  simp only [T_ite, T_G, T_map, T_some, Sum.elim_inl, Sum.elim_inr]
  exact ⟨fun hj => ⟨j0, fun he => (dup_absurd P.nd j0 hj hlt he).elim, fun _ => ⟨by omega, ⟨by omega, by omega⟩, by omega⟩⟩, fun _ => trivial⟩
 ·rw [T_ite]
  refine ⟨fun hp => ?_, fun hp => ?_⟩
  ·obtain ⟨k, w, h1, h2, h3⟩ := P.con i (by omega) hlt
   have hk : k = sm := by
    rcases hi with hi | ⟨_, hi⟩
    ·omega
    ·rw [h1] at hi; exact Option.some.inj hi
   subst hk
   have hb3 := hb _ _ h3
   simp only [T_G]
   refine ⟨by omega, by omega, T_bindr _ (p_DocFind hc h2) ?_⟩
   rintro ⟨w', c, ps⟩ ⟨hw, e⟩
   cases e
   dsimp only at *
   have hww := Arcw.uniq hc hw h2
   subst hww
   have hw0 := Arcw.nn hc hw
   rw [show z_viaductref01_Err_Bad (0 : Int) [] = some false from by rw [p_Bad]; rfl, Option.bind_some, if_neg (by decide)]
   simp only [T_G, T_some, Sum.elim_inl]
   refine ⟨by omega, by omega, by omega, ⟨by omega, by omega, by omega, by omega, .inr ⟨by omega, ?_⟩⟩, by omega⟩
   rw [show i + 1 - 1 = i from by omega]; exact h3
  ·have : i = 0 := by omega
   subst this
   simp only [T_G, T_some, Sum.elim_inl]
   refine ⟨by omega, ⟨by omega, by omega, sm0, sm1, .inr ⟨by omega, ?_⟩⟩, by omega⟩
   rcases hi with ⟨_, hi⟩ | hi
   ·subst hi; rw [show (0 : Int) + 1 - 1 = 0 from rfl, P.fst]; exact hs
   ·omega
end Go.Vd

/-! (Pa5) -/

set_option linter.unusedVariables false
set_option linter.unusedSimpArgs false
namespace Go.Vd
variable {F T' W l : List Int} {s n t : Int} {D : Int → Option Int}
theorem p_nodeL (hl : F.length ≤ 17592186044160) (ht : T'.length ≤ 17592186044160) (hll : l.length ≤ 1000) :
  T (z_search_node F T' W l) fun r => ∃ er, Chk F T' W er ∧ ((er ≠ .nil ∧ r = er) ∨ (er = .nil ∧ ¬ Nodes F l (l.length : Int) ∧ r = .no 7) ∨ (er = .nil ∧ Nodes F l (l.length : Int) ∧ r = .nil)) := by
 unfold z_search_node
 refine T_bindr _ (p_Check hl ht) fun er hc => ?_
 rw [T_ite]
 refine ⟨fun he => ?_, fun he => by simp only [T_some]; exact ⟨er, hc, .inl ⟨he, rfl⟩⟩⟩
 subst he
 refine T_binds (fun _ => Nodes F l (l.length : Int)) ?_ fun _ h => by simp only [T_some]; exact ⟨.nil, hc, .inr (.inr ⟨rfl, h, trivial⟩)⟩
 refine T_loop (fun i => 0 ≤ i ∧ i ≤ (l.length : Int) ∧ Nodes F l i) (fun i => ((l.length : Int) - i).toNat) ?_ ⟨by omega, by omega, .zero⟩
 rintro i ⟨i0, i1, hN⟩
 unfold z_search_node_l0
 rw [T_ite]
 refine ⟨fun h => ?_, fun h => ?_⟩
 ·rw [p_nodes8 hl, Option.bind_some]
  simp only [T_G, T_ite, T_map, T_some, Sum.elim_inl, Sum.elim_inr]
  refine ⟨i0, fun k => ⟨.nil, hc, .inr (.inl ⟨rfl, fun q => by have := q i i0 h; omega, trivial⟩)⟩, fun k => ⟨fun k2 => ⟨.nil, hc, .inr (.inl ⟨rfl, fun q => by have := q i i0 h; omega, trivial⟩)⟩, fun k2 => ⟨by omega, ⟨by omega, by omega, hN.next k k2⟩, by omega⟩⟩⟩
 ·simp only [T_some, Sum.elim_inr]; exact hN.all h
inductive PathA (F T' W : List Int) (s t : Int) : List Int → Er → Prop
 | bad (er : Er) : Chk F T' W er → er ≠ .nil → PathA F T' W s t [] er
 | node : Chk F T' W .nil → ¬ ((0 ≤ s ∧ s < (F.length : Int) - 1) ∧ 0 ≤ t ∧ t < (F.length : Int) - 1) → PathA F T' W s t [] (.no 7)
 | none (D : Int → Option Int) : Chk F T' W .nil → (0 ≤ s ∧ s < (F.length : Int) - 1) → (0 ≤ t ∧ t < (F.length : Int) - 1) → Cd F T' W s D → D t = none → PathA F T' W s t [] (.no 16)
 | ok (D : Int → Option Int) (p : List Int) (d : Int) : Chk F T' W .nil → (0 ≤ s ∧ s < (F.length : Int) - 1) → (0 ≤ t ∧ t < (F.length : Int) - 1) → Cd F T' W s D → (∀ x k, D x = some k → 0 ≤ k ∧ k < 281474976710656) → D t = some d → SP F T' W s t D p → PathA F T' W s t p .nil
theorem nodes2 {a b : Int} : Nodes F [a, b] (([a, b] : List Int).length : Int) ↔ (0 ≤ a ∧ a < (F.length : Int) - 1) ∧ 0 ≤ b ∧ b < (F.length : Int) - 1 := by
 refine ⟨fun h => ⟨h 0 (by omega) (by simp), h 1 (by omega) (by simp)⟩, fun ⟨h1, h2⟩ j j0 j1 => ?_⟩
 have : j = 0 ∨ j = 1 := by simp at j1; omega
 rcases this with rfl | rfl
 ·exact h1
 ·exact h2
theorem p_Path (hl : F.length ≤ 17592186044160) (ht : T'.length ≤ 17592186044160) (rev : ∀ l : List Int, l.length ≤ 1000000 → z_slices_Reverse l = some l.reverse) : T (z_search_Path F T' W s t) fun r => PathA F T' W s t r.1 r.2 := by
 unfold z_search_Path
 refine T_bindr _ (p_nodeL hl ht (by simp)) ?_
 rintro r ⟨er, hc, h⟩
 rw [T_ite]
 refine ⟨fun hr => ?_, fun hr => ?_⟩
 rotate_left
 ·simp only [T_some]
  rcases h with ⟨h1, h2⟩ | ⟨h1, h3, h2⟩ | ⟨_, _, h2⟩
  ·subst h2; exact .bad _ hc h1
  ·subst h1; subst h2; exact .node hc fun k => h3 (nodes2.2 k)
  ·exact absurd h2 hr
 subst hr
 rcases h with ⟨h1, h2⟩ | ⟨_, _, h2⟩ | ⟨h1, hN, _⟩
 ·exact absurd h2.symm h1
 ·cases h2
 subst h1
 obtain ⟨⟨s0, s1⟩, t0, t1⟩ := nodes2.1 hN
 obtain ⟨m1, m2⟩ := hc.small
 rw [show z_search_free = some () from rfl, Option.bind_some]
 refine T_bindr _ (p_run hc s0 s1) ?_
 rintro _ ⟨h, a, cs, c, hp, S, rfl, lc, C, hb, lS, hS⟩
 dsimp only
 rw [T_G, T_ite]
 refine ⟨by omega, fun hn => ?_, fun hy => ?_⟩
 ·simp only [T_some]
  refine .none (DC cs) hc ⟨s0, s1⟩ ⟨t0, t1⟩ C ?_
  cases hd : DC cs t with
  | none => rfl
  | some k =>
   have := (hS t t0 t1).2 ⟨k, hd⟩
   rw [this] at hn; simp at hn
 ·have hst : gt S t = true := by simpa using hy
  obtain ⟨d, hd⟩ := (hS t t0 t1).1 hst
  refine T_bindr _ (p_parents hc s0 s1 lc C hb) ?_
  rintro fr ⟨sn, ls, P, all⟩
  refine T_bindr _ (p_PathL P (by omega) (all t d hd)) fun p B => ?_
  have hsp := B.rev P (by omega)
  have hle := P.le
  have hlen := B.len
  rw [rev p (by omega), Option.bind_some]
  simp only [T_some]
  exact .ok (DC cs) _ d hc ⟨s0, s1⟩ ⟨t0, t1⟩ C hb hd hsp
end Go.Vd

/-! (PrR) -/

set_option linter.unusedVariables false
set_option linter.unusedSimpArgs false
namespace Go.Vd
variable {a b l : List Int}
theorem gt_swap {s : List Int} {i j : Int} (i0 : 0 ≤ i) (i1 : i < (s.length : Int)) (j0 : 0 ≤ j) (j1 : j < (s.length : Int)) {k : Int} (k0 : 0 ≤ k) (k1 : k < (s.length : Int)) :
  gt ((s.set i.toNat (gt s j)).set j.toNat (gt s i)) k = if k = j then gt s i else if k = i then gt s j else gt s k := by
 obtain ⟨k, rfl⟩ := Int.eq_ofNat_of_zero_le k0
 rw [gt_nat (show k < ((s.set i.toNat (gt s j)).set j.toNat (gt s i)).length by simp; omega), List.getElem_set, List.getElem_set]
 have hk : s[k]'(by omega) = gt s (k : Int) := (gt_nat (by omega)).symm
 rw [hk]
 have e1 : (j.toNat = k) = ((k : Int) = j) := propext (by omega)
 have e2 : (i.toNat = k) = ((k : Int) = i) := propext (by omega)
 simp only [e1, e2]
theorem gt_rev {s : List Int} {k : Int} (k0 : 0 ≤ k) (k1 : k < (s.length : Int)) : gt s.reverse k = gt s ((s.length : Int) - 1 - k) := by
 obtain ⟨k, rfl⟩ := Int.eq_ofNat_of_zero_le k0
 rw [gt_nat (show k < s.reverse.length by simp; omega), List.getElem_reverse, ← gt_nat]
 congr 1; omega
theorem p_Reverse (h : l.length ≤ 1000000) : z_slices_Reverse l = some l.reverse := by
 refine T_eq.1 ?_
 unfold z_slices_Reverse
 rw [T_G, T_bind]
 refine ⟨by omega, ?_⟩
 refine T_loop (fun s => s.1.length = l.length ∧ 0 ≤ s.2.1 ∧ s.2.1 + s.2.2 = (l.length : Int) - 1 ∧ s.2.1 ≤ s.2.2 + 2 ∧ ∀ k : Int, 0 ≤ k → k < (l.length : Int) → gt s.1 k = if s.2.1 ≤ k ∧ k ≤ s.2.2 then gt l k else gt l ((l.length : Int) - 1 - k)) (fun s => (s.2.2 + 2 - s.2.1).toNat) ?_ ?_
 rotate_left
 ·dsimp only
  refine ⟨rfl, by omega, by omega, by omega, fun k k0 k1 => ?_⟩
  rw [if_pos ⟨k0, by omega⟩]
 rintro ⟨s, i, j⟩ ⟨hl, i0, hij, hle, hs⟩
 dsimp only at *
 simp only [z_slices_Reverse_l0, T_ite, T_G, T_some, Sum.elim_inl, Sum.elim_inr, List.length_set]
 refine ⟨fun hlt => ⟨by omega, by omega, by omega, by omega, by omega, ⟨by omega, by omega, by omega, by omega, fun k k0 k1 => ?_⟩, by omega⟩, fun hge => ?_⟩
 ·rw [gt_swap i0 (by omega) (by omega) (by omega) k0 (by omega), hs i (by omega) (by omega), hs j (by omega) (by omega), hs k k0 k1, if_pos (show i ≤ i ∧ i ≤ j by omega), if_pos (show i ≤ j ∧ j ≤ j by omega)]
  by_cases h1 : k = j
  ·subst h1; rw [if_pos rfl, if_neg (by omega)]; congr 1; omega
  ·rw [if_neg h1]
   by_cases h2 : k = i
   ·subst h2; rw [if_pos rfl, if_neg (by omega)]; congr 1; omega
   ·rw [if_neg h2]
    by_cases h3 : i ≤ k ∧ k ≤ j
    ·rw [if_pos h3, if_pos ⟨by omega, by omega⟩]
    ·rw [if_neg h3, if_neg (by omega)]
 ·refine list_gt (by simp [hl]) fun k k0 k1 => ?_
  rw [hs k k0 (by omega), gt_rev k0 (by omega)]
  by_cases h3 : i ≤ k ∧ k ≤ j
  ·rw [if_pos h3]; congr 1; omega
  ·rw [if_neg h3]
end Go.Vd

/-! (Pa6) -/

set_option linter.unusedVariables false
set_option linter.unusedSimpArgs false
namespace Go.Vd
variable {F T' W l : List Int} {s n t : Int}
inductive DocP (F T' W : List Int) (s t : Int) : Int → Er → Prop
 | bad (er : Er) : Chk F T' W er → er ≠ .nil → DocP F T' W s t 0 er
 | node : Chk F T' W .nil → ¬ ((0 ≤ s ∧ s < (F.length : Int) - 1) ∧ 0 ≤ t ∧ t < (F.length : Int) - 1) → DocP F T' W s t 0 (.no 7)
 | none (L : List Int) : Chk F T' W .nil → (0 ≤ s ∧ s < (F.length : Int) - 1) → (0 ≤ t ∧ t < (F.length : Int) - 1) → DistL F T' W s L → LD L t = none → DocP F T' W s t 0 (.no 16)
 | ok (L : List Int) (d : Int) : Chk F T' W .nil → (0 ≤ s ∧ s < (F.length : Int) - 1) → (0 ≤ t ∧ t < (F.length : Int) - 1) → DistL F T' W s L → LD L t = some d → DocP F T' W s t d .nil
theorem p_DocPath (hl : F.length ≤ 17592186044160) : T (z_viaductref08_DocPath F T' W s t) fun r => ∃ d er, DocP F T' W s t d er ∧ r = (d, er.code, er.pls) := by
 unfold z_viaductref08_DocPath
 refine T_bindr _ (p_refNode hl) ?_
 rintro _ ⟨er, h, rfl⟩
 dsimp only
 have hbad : (er.code ≠ 0 ∨ er.pls ≠ []) ↔ er ≠ .nil := by
  rcases h with ⟨h1, _⟩ | ⟨_, rfl, _⟩ | ⟨_, rfl, _⟩
  ·exact h1.bad
  ·simp [Er.code]
  ·simp [Er.code, Er.pls]
 refine T_bindr (fun o => o = true ↔ (er = .nil ∧ ¬ (0 ≤ t ∧ t < (F.length : Int) - 1))) ?_ fun o ho => ?_
 ·rw [p_Bad, Option.bind_some, T_ite, p_Node hl]
  refine ⟨fun k => ?_, fun k => ?_⟩
  ·have := hbad.1 (by simpa using k); simp [this]
  ·have : er = .nil := Classical.not_not.1 fun q => k (by simpa using hbad.2 q)
   simp [this]; omega
 refine T_bindr (fun r => ∃ e2, r = (e2.code, e2.pls) ∧ ((e2 ≠ .nil ∧ DocP F T' W s t 0 e2) ∨ (e2 = .nil ∧ Chk F T' W .nil ∧ (0 ≤ s ∧ s < (F.length : Int) - 1) ∧ 0 ≤ t ∧ t < (F.length : Int) - 1))) ?_ ?_
 ·rw [T_ite]
  refine ⟨fun k => ?_, fun k => ?_⟩
  ·obtain ⟨e, k2⟩ := ho.1 k
   simp only [p_E, Option.bind_some, T_some]
   refine ⟨.no 7, rfl, .inl ⟨by simp, ?_⟩⟩
   rcases h with ⟨_, h2⟩ | ⟨h1, h2, h3⟩ | ⟨h1, h2, h3⟩
   ·exact absurd e h2
   ·exact .node h1 fun q => h3 q.1
   ·exact .node h1 fun q => k2 q.2
  ·simp only [T_some]
   refine ⟨er, rfl, ?_⟩
   rcases h with ⟨h1, h2⟩ | ⟨h1, h2, h3⟩ | ⟨h1, h2, h3⟩
   ·exact .inl ⟨h2, .bad er h1 h2⟩
   ·subst h2; exact .inl ⟨by simp, .node h1 fun q => h3 q.1⟩
   ·exact .inr ⟨h2, h1, h3, Classical.not_not.1 fun q => k (ho.2 ⟨h2, q⟩)⟩
 ·rintro _ ⟨e2, rfl, h2⟩
  dsimp only
  rw [p_Bad, Option.bind_some, T_ite]
  rcases h2 with ⟨hne, hD⟩ | ⟨rfl, hc, hs, ht⟩
  ·have hg : (e2.code ≠ 0 ∨ e2.pls ≠ []) := by
    cases hD with
    | bad _ h1 h2 => exact h1.bad.2 h2
    | node _ _ => simp [Er.code]
    | none _ _ _ _ _ _ => simp [Er.code]
    | ok _ _ _ _ _ _ _ => exact absurd rfl hne
   refine ⟨fun _ => by simp only [T_some]; exact ⟨0, e2, hD, rfl⟩, fun k => absurd (by simpa using hg) k⟩
  ·refine ⟨fun k => by simp [Er.code, Er.pls] at k, fun _ => T_bindr _ (p_BF hc hs.1 hs.2) fun L hL => ?_⟩
   have hlen := hL.len
   rw [T_G, T_ite]
   refine ⟨by omega, fun e => ?_, fun e => ?_⟩
   ·simp only [p_E, Option.bind_some, T_some]
    exact ⟨0, .no 16, .none L hc hs ht hL (by unfold LD; rw [if_neg (fun q => q.2.2 e)]), rfl⟩
   ·simp only [T_some]
    exact ⟨_, .nil, .ok L _ hc hs ht hL (by unfold LD; rw [if_pos ⟨ht.1, by omega, e⟩]), rfl⟩
end Go.Vd

/-! (PrT) -/

set_option linter.unusedVariables false
set_option linter.unusedSimpArgs false
namespace Go.Vd
theorem p_TwinInts {l : List Int} (h : l.length ≤ 17592186043904) : z_viaductref02_TwinInts l = some l := by
 refine T_eq.1 ?_
 unfold z_viaductref02_TwinInts
 rw [T_bind]
 refine T_loop (fun s => 0 ≤ s.2 ∧ s.2 ≤ (l.length : Int) ∧ s.1 = l.take s.2.toNat) (fun s => ((l.length : Int) - s.2).toNat) ?_ (by simp)
 rintro ⟨m, i⟩ ⟨h0, h1, h2⟩
 dsimp only at h0 h1 h2 ⊢
 subst h2
 simp only [z_viaductref02_TwinInts_l0, T_ite, T_G, T_some, Sum.elim_inl, Sum.elim_inr, List.length_take]
 refine ⟨fun hi => ?_, fun hi => List.take_of_length_le (by omega)⟩
 and_intros <;> first | omega | exact (take_gt h0 hi).symm
end Go.Vd

/-! (PrSg) -/

set_option linter.unusedVariables false
set_option linter.unusedSimpArgs false
namespace Go.Vd
def Er.good : Er → Prop
 | .nil => True
 | .no n => n ≠ 0
 | .at _ _ e => e ≠ .nil ∧ e.good
end Go.Vd

/-! (PrSi) -/

set_option linter.unusedVariables false
set_option linter.unusedSimpArgs false
namespace Go.Vd
theorem p_SameInts {a b : List Int} (h : a.length ≤ 1152921504606846976) : z_viaductref02_SameInts a b = some (decide (a = b)) := by
 refine T_eq.1 ?_
 unfold z_viaductref02_SameInts
 simp only [T_ite, T_bind, T_some]
 refine ⟨fun hl => ?_, fun hl => (same_ne hl).symm⟩
 refine T_loop (fun i => 0 ≤ i ∧ i ≤ (a.length : Int) ∧ ∀ j : Int, 0 ≤ j → j < i → gt a j = gt b j) (fun i => ((a.length : Int) - i).toNat) ?_ ⟨by omega, by omega, fun j _ _ => by omega⟩
 rintro i ⟨h0, h1, h2⟩
 simp only [z_viaductref02_SameInts_l0, T_ite, T_G, T_some, T_map, Sum.elim_inl, Sum.elim_inr]
 refine ⟨fun hi => ⟨h0, by omega, fun he => ⟨by omega, ⟨by omega, by omega, same_next h2 he⟩, by omega⟩, fun he => (same_at he h0 hi).symm⟩, fun hi => (same_all h2 hl (by omega)).symm⟩
end Go.Vd
