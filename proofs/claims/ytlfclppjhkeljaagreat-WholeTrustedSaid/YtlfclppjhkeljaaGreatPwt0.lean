/- Indexes that are set; items in order. Plain Lean: no program here. -/
import Derived.Test.YtlfclppjhkeljaaGreatPwtVpB
import Derived.Test.YtlfclppjhkeljaaGreatPwtIWt
import Derived.Test.YtlfclppjhkeljaaGreatPwtVeN
import Derived.Test.YtlfclppjhkeljaaGreatPwtVeK
import Derived.Test.YtlfclppjhkeljaaGreatPwtSo0
import Derived.Test.YtlfclppjhkeljaaGreatPwtVdQ
set_option linter.unusedVariables false
set_option linter.unusedSimpArgs false
set_option linter.unusedSectionVars false
/-! (Hp0) -/

set_option linter.unusedVariables false
set_option linter.unusedSimpArgs false
namespace Go.Vd
theorem Zbj {E : Type} [Inhabited E] {l : List E} {i j : Int} {v : E} (i0 : 0 ≤ i) (i1 : i < (l.length : Int)) (j0 : 0 ≤ j) : gt (l.set i.toNat v) j = if j = i then v else gt l j := by
 unfold gt
 rw [List.getD_eq_getElem?_getD, List.getD_eq_getElem?_getD, List.getElem?_set]
 by_cases h : j = i
 ·subst h; rw [if_pos rfl, if_pos (by omega), if_pos rfl]; rfl
 ·rw [if_neg (by omega), if_neg h]
def Less (a b : Int × Int) : Prop := a.1 < b.1 ∨ (a.1 = b.1 /\ a.2 < b.2)
instance (a b : Int × Int) : Decidable (Less a b) := by unfold Less; exact inferInstance
theorem Less.irr {a b : Int × Int} (h : Less a b) : ¬ Less b a := by unfold Less at *; omega
theorem Zeu {a b c : Int × Int} (h : ¬ Less a b) (k : ¬ Less b c) : ¬ Less a c := by unfold Less at *; omega
theorem ZjJ {a b c : Int × Int} (h : ¬ Less a b) (k : Less c b) : ¬ Less a c := by unfold Less at *; omega
end Go.Vd

/-! (Hp1) -/

set_option linter.unusedVariables false
set_option linter.unusedSimpArgs false
namespace Go.Vd
structure Ix (n L : Int) (h : Int -> Int × Int) (a : Int -> Int) : Prop where
 fwd : ∀ p, 0 ≤ p -> p < L -> 0 ≤ (h p).2 /\ (h p).2 < n /\ a (h p).2 = p + 1
 bwd : ∀ v, 0 ≤ v -> v < n -> 0 ≤ a v /\ a v ≤ L /\ (a v ≠ 0 -> (h (a v - 1)).2 = v)
def Kf (h : Int -> Int × Int) (a : Int -> Int) (v : Int) : Option Int := if a v = 0 then none else some (h (a v - 1)).1
variable {n L : Int} {h h' : Int -> Int × Int} {a a' : Int -> Int}
theorem Ix.inj (I : Ix n L h a) {p q : Int} (p0 : 0 ≤ p) (p1 : p < L) (q0 : 0 ≤ q) (q1 : q < L) (e : (h p).2 = (h q).2) : p = q := by
 have h1 := (I.fwd p p0 p1).2.2; have h2 := (I.fwd q q0 q1).2.2
 rw [e] at h1; omega
theorem Ix.swap (I : Ix n L h a) {i q : Int} (i0 : 0 ≤ i) (i1 : i < L) (q0 : 0 ≤ q) (q1 : q < L) (hne : i ≠ q)
  (eh : ∀ p, 0 ≤ p -> p < L -> h' p = if p = q then h i else if p = i then h q else h p)
  (ea : ∀ v, 0 ≤ v -> v < n -> a' v = if v = (h i).2 then q + 1 else if v = (h q).2 then i + 1 else a v) :
  Ix n L h' a' /\ ∀ v, 0 ≤ v -> v < n -> Kf h' a' v = Kf h a v := by
 obtain ⟨fi0, fi1, fi2⟩ := I.fwd i i0 i1
 obtain ⟨fq0, fq1, fq2⟩ := I.fwd q q0 q1
 have hid : (h q).2 ≠ (h i).2 := fun e => hne (I.inj i0 i1 q0 q1 e.symm)
 have hq' : h' q = h i := by rw [eh q q0 q1, if_pos rfl]
 have hi' : h' i = h q := by rw [eh i i0 i1, if_neg hne, if_pos rfl]
 have ho' : ∀ p, 0 ≤ p -> p < L -> p ≠ q -> p ≠ i -> h' p = h p := fun p p0 p1 h1 h2 => by rw [eh p p0 p1, if_neg h1, if_neg h2]
 have ai' : a' (h i).2 = q + 1 := by rw [ea _ fi0 fi1, if_pos rfl]
 have aq' : a' (h q).2 = i + 1 := by rw [ea _ fq0 fq1, if_neg hid, if_pos rfl]
 have ao' : ∀ v, 0 ≤ v -> v < n -> v ≠ (h i).2 -> v ≠ (h q).2 -> a' v = a v := fun v v0 v1 h1 h2 => by rw [ea v v0 v1, if_neg h1, if_neg h2]
 refine ⟨⟨fun p p0 p1 => ?_, fun v v0 v1 => ?_⟩, fun v v0 v1 => ?_⟩
 ·by_cases hpq : p = q
  ·subst hpq; rw [hq']; exact ⟨fi0, fi1, ai'⟩
  ·by_cases hpi : p = i
   ·subst hpi; rw [hi']; exact ⟨fq0, fq1, aq'⟩
   ·rw [ho' p p0 p1 hpq hpi]
    obtain ⟨f0, f1, f2⟩ := I.fwd p p0 p1
    refine ⟨f0, f1, ?_⟩
    rw [ao' _ f0 f1 (fun e => hpi (I.inj p0 p1 i0 i1 e)) (fun e => hpq (I.inj p0 p1 q0 q1 e))]; exact f2
 ·by_cases hvi : v = (h i).2
  ·subst hvi; rw [ai']; exact ⟨by omega, by omega, fun _ => by rw [show q + 1 - 1 = q from by omega, hq']⟩
  ·by_cases hvq : v = (h q).2
   ·subst hvq; rw [aq']; exact ⟨by omega, by omega, fun _ => by rw [show i + 1 - 1 = i from by omega, hi']⟩
   ·rw [ao' v v0 v1 hvi hvq]
    obtain ⟨b0, b1, b2⟩ := I.bwd v v0 v1
    refine ⟨b0, b1, fun hz => ?_⟩
    have hb := b2 hz
    rw [ho' _ (by omega) (by omega) (fun e => hvq (by rw [← hb, e])) (fun e => hvi (by rw [← hb, e]))]; exact hb
 ·unfold Kf
  by_cases hvi : v = (h i).2
  ·subst hvi; rw [ai', fi2, if_neg (by omega), if_neg (by omega), show q + 1 - 1 = q from by omega, show i + 1 - 1 = i from by omega, hq']
  ·by_cases hvq : v = (h q).2
   ·subst hvq; rw [aq', fq2, if_neg (by omega), if_neg (by omega), show q + 1 - 1 = q from by omega, show i + 1 - 1 = i from by omega, hi']
   ·rw [ao' v v0 v1 hvi hvq]
    by_cases hz : a v = 0
    ·rw [if_pos hz, if_pos hz]
    ·obtain ⟨b0, b1, b2⟩ := I.bwd v v0 v1
     have hb := b2 hz
     rw [if_neg hz, if_neg hz, ho' _ (by omega) (by omega) (fun e => hvq (by rw [← hb, e])) (fun e => hvi (by rw [← hb, e]))]
def ZM (p : Int) : Int := (p - 1) / 4
theorem tdiv4 {p : Int} (h : 0 < p) : Int.tdiv (p - 1) 4 = ZM p := by
 unfold ZM; rw [Int.tdiv_eq_ediv_of_nonneg (by omega)]
def Ord4 (L : Int) (h : Int -> Int × Int) : Prop := ∀ p, 1 ≤ p -> p < L -> ¬ Less (h p) (h (ZM p))
def Up4 (L : Int) (h : Int -> Int × Int) (i : Int) : Prop :=
 (∀ p, 1 ≤ p -> p < L -> p ≠ i -> ¬ Less (h p) (h (ZM p))) /\ (1 ≤ i -> ∀ c, 1 ≤ c -> c < L -> ZM c = i -> ¬ Less (h c) (h (ZM i)))
def Down4 (L : Int) (h : Int -> Int × Int) (i : Int) : Prop :=
 (∀ p, 1 ≤ p -> p < L -> ZM p ≠ i -> ¬ Less (h p) (h (ZM p))) /\ (1 ≤ i -> ∀ c, 1 ≤ c -> c < L -> ZM c = i -> ¬ Less (h c) (h (ZM i)))
theorem Up4.done {i : Int} (U : Up4 L h i) (k : i = 0 ∨ ¬ Less (h i) (h (ZM i))) : Ord4 L h := by
 intro p p0 p1
 by_cases e : p = i
 ·subst e; rcases k with k | k
  ·omega
  ·exact k
 ·exact U.1 p p0 p1 e
theorem Up4.step {i : Int} (U : Up4 L h i) (i0 : 1 ≤ i) (i1 : i < L) (k : Less (h i) (h (ZM i)))
  (eh : ∀ p, 0 ≤ p -> p < L -> h' p = if p = ZM i then h i else if p = i then h (ZM i) else h p) : Up4 L h' (ZM i) := by
 have hq : ZM i < i /\ 0 ≤ ZM i := by unfold ZM; omega
 have e1 : h' (ZM i) = h i := by rw [eh _ hq.2 (by omega), if_pos rfl]
 have e2 : h' i = h (ZM i) := by rw [eh _ (by omega) i1, if_neg (by omega), if_pos rfl]
 have e3 : ∀ p, 0 ≤ p -> p < L -> p ≠ ZM i -> p ≠ i -> h' p = h p := fun p p0 p1 h1 h2 => by rw [eh p p0 p1, if_neg h1, if_neg h2]
 have pl : ∀ p, 1 ≤ p -> ZM p < p /\ 0 ≤ ZM p := fun p hp => by unfold ZM; omega
 refine ⟨fun p p0 p1 hp => ?_, fun q0 c c0 c1 hc => ?_⟩
 ·have := pl p p0
  by_cases hpi : p = i
  ·subst hpi; rw [e2, e1]; exact k.irr
  ·rw [e3 p (by omega) p1 hp hpi]
   by_cases h1 : ZM p = i
   ·rw [h1, e2]; exact U.2 i0 p p0 p1 h1
   ·by_cases h2 : ZM p = ZM i
    ·rw [h2, e1]
     have := U.1 p p0 p1 hpi
     rw [h2] at this
     exact ZjJ this k
    ·rw [e3 _ (by omega) (by omega) h2 h1]; exact U.1 p p0 p1 hpi
 ·have := pl (ZM i) q0
  have hc' := pl c c0
  have e4 : h' (ZM (ZM i)) = h (ZM (ZM i)) := e3 _ (by omega) (by omega) (by omega) (by omega)
  have hq2 := U.1 (ZM i) q0 (by omega) (by omega)
  rw [e4]
  by_cases hci : c = i
  ·subst hci; rw [e2]; exact hq2
  ·rw [e3 c (by omega) c1 (by omega) hci]
   have := U.1 c c0 c1 hci
   rw [hc] at this
   exact Zeu this hq2
theorem Down4.done {i : Int} (D : Down4 L h i) (k : ∀ c, 1 ≤ c -> c < L -> ZM c = i -> ¬ Less (h c) (h i)) : Ord4 L h := by
 intro p p0 p1
 by_cases e : ZM p = i
 ·rw [e]; exact k p p0 p1 e
 ·exact D.1 p p0 p1 e
theorem Down4.step {i b : Int} (D : Down4 L h i) (i0 : 0 ≤ i) (b0 : 1 ≤ b) (b1 : b < L) (hb : ZM b = i) (hm : ∀ c, 1 ≤ c -> c < L -> ZM c = i -> ¬ Less (h c) (h b)) (k : Less (h b) (h i))
  (eh : ∀ p, 0 ≤ p -> p < L -> h' p = if p = b then h i else if p = i then h b else h p) : Down4 L h' b := by
 have pl : ∀ p, 1 ≤ p -> ZM p < p /\ 0 ≤ ZM p := fun p hp => by unfold ZM; omega
 have hbi := pl b b0
 have e1 : h' b = h i := by rw [eh _ (by omega) b1, if_pos rfl]
 have e2 : h' i = h b := by rw [eh _ i0 (by omega), if_neg (by omega), if_pos rfl]
 have e3 : ∀ p, 0 ≤ p -> p < L -> p ≠ b -> p ≠ i -> h' p = h p := fun p p0 p1 h1 h2 => by rw [eh p p0 p1, if_neg h1, if_neg h2]
 refine ⟨fun p p0 p1 hp => ?_, fun q0 c c0 c1 hc => ?_⟩
 ·have := pl p p0
  by_cases hpb : p = b
  ·subst hpb; rw [e1, hb, e2]; exact k.irr
  ·by_cases h1 : ZM p = i
   ·rw [h1, e2, e3 p (by omega) p1 hpb (by omega)]; exact hm p p0 p1 h1
   ·by_cases hpi : p = i
    ·subst hpi
     rw [e2, e3 (ZM p) (by omega) (by omega) (by omega) (by omega)]
     exact D.2 p0 b b0 b1 hb
    ·rw [e3 p (by omega) p1 hpb hpi, e3 _ (by omega) (by omega) hp h1]; exact D.1 p p0 p1 h1
 ·have := pl c c0
  rw [hb, e2, e3 c (by omega) c1 (by omega) (by omega)]
  have := D.1 c c0 c1 (by omega)
  rwa [hc] at this
theorem Ord4.down (O : Ord4 L h) {i : Int} (i1 : i < L) : Down4 L h i :=
 ⟨fun p p0 p1 _ => O p p0 p1, fun q0 c c0 c1 hc => by have := O c c0 c1; rw [hc] at this; exact Zeu this (O i q0 i1)⟩
theorem Ord4.top (O : Ord4 L h) : ∀ p, 0 ≤ p -> p < L -> ¬ Less (h p) (h 0) := by
 intro p p0 p1
 generalize hk : p.toNat = k
 induction k using Nat.strongRecOn generalizing p with
 | _ k ih =>
  by_cases e : p = 0
  ·subst e; unfold Less; omega
  ·have hp : ZM p < p /\ 0 ≤ ZM p := by unfold ZM; omega
   exact Zeu (O p (by omega) p1) (ih (ZM p).toNat (by omega) (ZM p) hp.2 (by omega) rfl)
end Go.Vd

/-! (Hp2) -/

set_option linter.unusedVariables false
set_option linter.unusedSimpArgs false
namespace Go.Vd
theorem Zh5 {k i k' i' : Int} : Zbd k i k' i' = some (decide (Less (k, i) (k', i'))) := by
 unfold Zbd
 by_cases h1 : k < k'
 ·rw [if_pos h1, decide_eq_true (show Less (k, i) (k', i') from Or.inl h1)]
 ·rw [if_neg h1]
  by_cases h2 : k = k'
  ·subst h2
   rw [if_pos rfl]
   congr 1
   by_cases h3 : i < i'
   ·rw [decide_eq_true h3, decide_eq_true (show Less (k, i) (k, i') from Or.inr ⟨rfl, h3⟩)]
   ·rw [decide_eq_false h3, decide_eq_false (show ¬ Less (k, i) (k, i') by unfold Less; dsimp only; omega)]
  ·rw [if_neg h2, decide_eq_false (show ¬ Less (k, i) (k', i') by unfold Less; dsimp only; omega)]
def vh (h : List (Int × Int)) (i : Int) (x : Int × Int) : Int -> Int × Int := fun p => if p = i then x else gt h p
def va (a : List Int) (v i : Int) : Int -> Int := fun w => if w = v then i + 1 else gt a w
theorem Ze6 {h : List (Int × Int)} {a : List Int} {i k v : Int} (i0 : 0 ≤ i) (i1 : i < (h.length : Int)) (v0 : 0 ≤ v) (v1 : v < (a.length : Int)) (hl : h.length ≤ 1099511627776) :
  Zaf h a i k v = some (h.set i.toNat (k, v), a.set v.toNat (i + 1)) := by
 unfold Zaf G
 rw [if_pos ⟨i0, i1⟩, if_pos (by omega), if_pos ⟨v0, v1⟩]
structure Hv (n : Int) (h : List (Int × Int)) (a : List Int) (i : Int) (x : Int × Int) (K : Int -> Option Int) : Prop where
 len : (a.length : Int) = n
 small : h.length ≤ 1099511627776
 i0 : 0 ≤ i
 i1 : i < (h.length : Int)
 x0 : 0 ≤ x.2
 x1 : x.2 < n
 ix : Ix n h.length (vh h i x) (va a x.2 i)
 key : ∀ v, 0 ≤ v -> v < n -> Kf (vh h i x) (va a x.2 i) v = K v
theorem Hv.move {n : Int} {h : List (Int × Int)} {a : List Int} {i q : Int} {x : Int × Int} {K : Int -> Option Int} (H : Hv n h a i x K) (q0 : 0 ≤ q) (q1 : q < (h.length : Int)) (hne : i ≠ q) :
  0 ≤ (gt h q).2 /\ (gt h q).2 < n /\ Hv n (h.set i.toNat (gt h q)) (a.set (gt h q).2.toNat (i + 1)) q x K /\
   ∀ p, 0 ≤ p -> p < (h.length : Int) -> vh (h.set i.toNat (gt h q)) q x p = if p = q then vh h i x i else if p = i then vh h i x q else vh h i x p := by
 have hvq : vh h i x q = gt h q := if_neg (Ne.symm hne)
 have hvi : vh h i x i = x := if_pos rfl
 obtain ⟨f0, f1, f2⟩ := H.ix.fwd q q0 q1
 rw [hvq] at f0 f1 f2
 have eh : ∀ p, 0 ≤ p -> p < (h.length : Int) -> vh (h.set i.toNat (gt h q)) q x p = if p = q then vh h i x i else if p = i then vh h i x q else vh h i x p := by
  intro p p0 p1
  rw [hvq, hvi]
  unfold vh
  by_cases e : p = q
  ·rw [if_pos e, if_pos e]
  ·rw [if_neg e, if_neg e, Zbj H.i0 H.i1 p0]
   by_cases e2 : p = i
   ·rw [if_pos e2, if_pos e2]
   ·rw [if_neg e2, if_neg e2, if_neg e2]
 have ea : ∀ v, 0 ≤ v -> v < n -> va (a.set (gt h q).2.toNat (i + 1)) x.2 q v = if v = (vh h i x i).2 then q + 1 else if v = (vh h i x q).2 then i + 1 else va a x.2 i v := by
  intro v v0 v1
  rw [hvq, hvi]
  unfold va
  by_cases e : v = x.2
  ·rw [if_pos e, if_pos e]
  ·rw [if_neg e, if_neg e, Zbj f0 (by rw [H.len]; exact f1) v0]
   by_cases e2 : v = (gt h q).2
   ·rw [if_pos e2, if_pos e2]
   ·rw [if_neg e2, if_neg e2, if_neg e]
 obtain ⟨s1, s2⟩ := H.ix.swap H.i0 H.i1 q0 q1 hne eh ea
 refine ⟨f0, f1, ⟨by simpa using H.len, by simpa using H.small, q0, by simpa using q1, H.x0, H.x1, by simpa using s1, fun v v0 v1 => (s2 v v0 v1).trans (H.key v v0 v1)⟩, eh⟩
structure Hp (n : Int) (h : List (Int × Int)) (a : List Int) (K : Int -> Option Int) : Prop where
 len : (a.length : Int) = n
 small : h.length ≤ 1099511627776
 ix : Ix n h.length (gt h) (gt a)
 key : ∀ v, 0 ≤ v -> v < n -> Kf (gt h) (gt a) v = K v
theorem ZgV {h : List (Int × Int)} {i : Int} {x : Int × Int} (i0 : 0 ≤ i) (i1 : i < (h.length : Int)) {p : Int} (p0 : 0 ≤ p) : gt (h.set i.toNat x) p = vh h i x p := by
 rw [Zbj i0 i1 p0]; rfl
theorem ZlL {a : List Int} {v i : Int} (v0 : 0 ≤ v) (v1 : v < (a.length : Int)) {w : Int} (w0 : 0 ≤ w) : gt (a.set v.toNat (i + 1)) w = va a v i w := by
 rw [Zbj v0 v1 w0]; rfl
theorem Ix.congr {n L : Int} {h h' : Int -> Int × Int} {a a' : Int -> Int} (I : Ix n L h a) (eh : ∀ p, 0 ≤ p -> h' p = h p) (ea : ∀ v, 0 ≤ v -> a' v = a v) : Ix n L h' a' :=
 ⟨fun p p0 p1 => by rw [eh p p0]; obtain ⟨f0, f1, f2⟩ := I.fwd p p0 p1; exact ⟨f0, f1, by rw [ea _ f0]; exact f2⟩,
  fun v v0 v1 => by
   rw [ea v v0]; obtain ⟨b0, b1, b2⟩ := I.bwd v v0 v1
   exact ⟨b0, b1, fun hz => by rw [eh _ (by omega)]; exact b2 hz⟩⟩
theorem Kf.congr {n L : Int} {h h' : Int -> Int × Int} {a a' : Int -> Int} (I : Ix n L h a) (eh : ∀ p, 0 ≤ p -> h' p = h p) (ea : ∀ v, 0 ≤ v -> a' v = a v) {v : Int} (v0 : 0 ≤ v) (v1 : v < n) : Kf h' a' v = Kf h a v := by
 unfold Kf; rw [ea v v0]
 obtain ⟨b0, b1, b2⟩ := I.bwd v v0 v1
 by_cases hz : a v = 0
 ·rw [if_pos hz, if_pos hz]
 ·rw [if_neg hz, if_neg hz, eh _ (by omega)]
theorem Hv.lay {n : Int} {h : List (Int × Int)} {a : List Int} {i : Int} {x : Int × Int} {K : Int -> Option Int} (H : Hv n h a i x K) :
  Hp n (h.set i.toNat x) (a.set x.2.toNat (i + 1)) K := by
 have eh : ∀ p, 0 ≤ p -> gt (h.set i.toNat x) p = vh h i x p := fun p p0 => ZgV H.i0 H.i1 p0
 have ea : ∀ v, 0 ≤ v -> gt (a.set x.2.toNat (i + 1)) v = va a x.2 i v := fun v v0 => ZlL H.x0 (by rw [H.len]; exact H.x1) v0
 exact ⟨by simpa using H.len, by simpa using H.small, by simpa using H.ix.congr eh ea, fun v v0 v1 => (Kf.congr H.ix eh ea v0 v1).trans (H.key v v0 v1)⟩
theorem Hp.pick {n : Int} {h : List (Int × Int)} {a : List Int} {K : Int -> Option Int} (H : Hp n h a K) {i : Int} (i0 : 0 ≤ i) (i1 : i < (h.length : Int)) :
  Hv n h a i (gt h i) K /\ ∀ p, vh h i (gt h i) p = gt h p := by
 obtain ⟨f0, f1, f2⟩ := H.ix.fwd i i0 i1
 have eh : ∀ p, vh h i (gt h i) p = gt h p := fun p => by unfold vh; split <;> simp_all
 have ea : ∀ v, va a (gt h i).2 i v = gt a v := fun v => by unfold va; split <;> simp_all
 exact ⟨⟨H.len, H.small, i0, i1, f0, f1, H.ix.congr (fun p _ => eh p) (fun v _ => ea v), fun v v0 v1 => (Kf.congr H.ix (fun p _ => eh p) (fun v _ => ea v) v0 v1).trans (H.key v v0 v1)⟩, eh⟩
theorem Ord4.congr {L : Int} {h h' : Int -> Int × Int} (O : Ord4 L h) (eh : ∀ p, 0 ≤ p -> h' p = h p) : Ord4 L h' := fun p p0 p1 => by
 rw [eh p (by omega), eh _ (by unfold ZM; omega)]; exact O p p0 p1
theorem Up4.congr {L i : Int} {h h' : Int -> Int × Int} (O : Up4 L h i) (eh : ∀ p, 0 ≤ p -> h' p = h p) : Up4 L h' i :=
 ⟨fun p p0 p1 hp => by rw [eh p (by omega), eh _ (by unfold ZM; omega)]; exact O.1 p p0 p1 hp,
  fun i0 c c0 c1 hc => by rw [eh c (by omega), eh _ (by unfold ZM; omega)]; exact O.2 i0 c c0 c1 hc⟩
theorem Down4.congr {L i : Int} {h h' : Int -> Int × Int} (O : Down4 L h i) (eh : ∀ p, 0 ≤ p -> h' p = h p) : Down4 L h' i :=
 ⟨fun p p0 p1 hp => by rw [eh p (by omega), eh _ (by unfold ZM; omega)]; exact O.1 p p0 p1 hp,
  fun i0 c c0 c1 hc => by rw [eh c (by omega), eh _ (by unfold ZM; omega)]; exact O.2 i0 c c0 c1 hc⟩
theorem p_up {n : Int} {h : List (Int × Int)} {a : List Int} {K : Int -> Option Int} (H : Hp n h a K) {i : Int} (i0 : 0 ≤ i) (i1 : i < (h.length : Int)) (U : Up4 h.length (gt h) i) :
  T (ZaJ h a i) fun r => r.1.length = h.length /\ Hp n r.1 r.2 K /\ Ord4 h.length (gt r.1) := by
 obtain ⟨Hv0, e0⟩ := H.pick i0 i1
 unfold ZaJ
 rw [T_G]
 refine ⟨⟨i0, i1⟩, Zo (fun s => s.1.length = h.length /\ Hv n s.1 s.2.1 s.2.2 (gt h i) K /\ Ord4 h.length (vh s.1 s.2.2 (gt h i))) ?_ ?_⟩
 ·refine ZH (fun s => s.1.length = h.length /\ Hv n s.1 s.2.1 s.2.2 (gt h i) K /\ Up4 h.length (vh s.1 s.2.2 (gt h i)) s.2.2) (fun s => s.2.2.toNat) ?_ ⟨rfl, Hv0, U.congr fun p _ => e0 p⟩
  rintro ⟨h0, a0, j⟩ ⟨hl, hv, hu⟩
  dsimp only at *
  unfold Zbw
  rw [Zq]
  refine ⟨fun hj => ?_, fun hj => ?_⟩
  ·rw [tdiv4 hj]
   have j1 := hv.i1
   have hsm := hv.small
   have hq : ZM j < j /\ 0 ≤ ZM j := by unfold ZM; omega
   have hpx : ((gt h i).1, (gt h i).2) = gt h i := rfl
   have hpy : ((gt h0 (ZM j)).1, (gt h0 (ZM j)).2) = gt h0 (ZM j) := rfl
   have hvj : vh h0 j (gt h i) j = gt h i := if_pos rfl
   have hvq : vh h0 j (gt h i) (ZM j) = gt h0 (ZM j) := if_neg (by omega)
   simp only [T_G, Zh5, Option.bind_some, Zq, Bool.not_eq_true', decide_eq_false_iff_not, Zc, Sum.elim_inl, Sum.elim_inr, hpx, hpy]
   refine ⟨by omega, by omega, by omega, fun hn => ⟨hl, hv, hu.done (.inr ?_)⟩, fun hy => ?_⟩
   ·rw [hvj, hvq]; exact hn
   ·have hy' : Less (gt h i) (gt h0 (ZM j)) := Classical.not_not.1 hy
    obtain ⟨m0, m1, m2, m3⟩ := hv.move hq.2 (by omega) (by omega)
    rw [Ze6 (by omega) j1 m0 (by rw [hv.len]; exact m1) hsm]
    simp only [Option.bind_some, Zc, Sum.elim_inl]
    refine ⟨⟨by simpa using hl, m2, hu.step (by omega) (by omega) (by rw [hvj, hvq]; exact hy') fun p p0 p1 => ?_⟩, by omega⟩
    rw [m3 p p0 (by omega)]
  ·simp only [Zc, Sum.elim_inr]
   exact ⟨hl, hv, hu.done (.inl (by have := hv.i0; omega))⟩
 ·rintro ⟨h0, a0, j⟩ ⟨hl, hv, ho⟩
  dsimp only at *
  rw [Ze6 hv.i0 hv.i1 hv.x0 (by rw [hv.len]; exact hv.x1) hv.small]
  simp only [Option.bind_some, Zc]
  exact ⟨by simpa using hl, hv.lay, ho.congr fun p p0 => ZgV hv.i0 hv.i1 p0⟩
end Go.Vd

/-! (Hp3) -/

set_option linter.unusedVariables false
set_option linter.unusedSimpArgs false
namespace Go.Vd
theorem Zle {h : List (Int × Int)} {i : Int} (i0 : 0 ≤ i) (i1 : i < 1099511627776) :
  T (Zz (fun zz_ => ZaY h i zz_.1 zz_.2) (0, (-1))) fun b => (b = -1 /\ (h.length : Int) ≤ 4 * i + 1) ∨ (1 ≤ b /\ b < (h.length : Int) /\ ZM b = i /\ ∀ c, 1 ≤ c -> c < (h.length : Int) -> ZM c = i -> ¬ Less (gt h c) (gt h b)) := by
 refine ZH (fun s => 0 ≤ s.1 /\ s.1 ≤ 4 /\ ((s.2 = -1 /\ (s.1 = 0 ∨ (h.length : Int) ≤ 4 * i + 1)) ∨ (4 * i + 1 ≤ s.2 /\ s.2 < 4 * i + 1 + s.1 /\ s.2 < (h.length : Int) /\ ∀ c, 4 * i + 1 ≤ c -> c < 4 * i + 1 + s.1 -> c < (h.length : Int) -> ¬ Less (gt h c) (gt h s.2)))) (fun s => (4 - s.1).toNat) ?_ ⟨by simp, by simp, .inl ⟨rfl, .inl rfl⟩⟩
 rintro ⟨k, b⟩ ⟨k0, k1, hb⟩
 dsimp only at *
 unfold ZaY
 simp only [Zq, T_G, Zc, Sum.elim_inl, Sum.elim_inr, Zh5, Option.bind_some, decide_eq_true_eq]
 have e1 : i * 4 + 1 + k = 4 * i + 1 + k := by omega
 rw [e1]
 refine ⟨fun hk => ⟨by omega, by omega, by omega, fun hc => ⟨fun hn => ⟨by omega, ⟨by omega, by omega, .inr ⟨by omega, by omega, hc, fun c c0 c1 c2 => ?_⟩⟩, by omega⟩, fun hn => ⟨by omega, by omega, fun hl => ⟨by omega, ⟨by omega, by omega, .inr ⟨by omega, by omega, hc, fun c c0 c1 c2 => ?_⟩⟩, by omega⟩, fun hl => ⟨by omega, ⟨by omega, by omega, .inr ⟨by omega, by omega, by omega, fun c c0 c1 c2 => ?_⟩⟩, by omega⟩⟩⟩, fun hc => ⟨by omega, ⟨by omega, by omega, ?_⟩, by omega⟩⟩, fun hk => ?_⟩
 ·rcases hb with ⟨rfl, h1⟩ | ⟨h1, _⟩
  ·rcases h1 with rfl | h1
   ·rw [show c = 4 * i + 1 + 0 from by omega]; unfold Less; omega
   ·omega
  ·omega
 ·rcases hb with ⟨rfl, h1⟩ | ⟨h1, h2, h3, h4⟩
  ·omega
  ·by_cases e : c = 4 * i + 1 + k
   ·subst e; unfold Less; omega
   ·have := h4 c c0 (by omega) c2
    have hl' : Less (gt h (4 * i + 1 + k)) (gt h b) := hl
    exact ZjJ this hl'
 ·rcases hb with ⟨rfl, h1⟩ | ⟨h1, h2, h3, h4⟩
  ·omega
  ·by_cases e : c = 4 * i + 1 + k
   ·subst e; exact hl
   ·exact h4 c c0 (by omega) c2
 ·rcases hb with ⟨rfl, h1⟩ | ⟨h1, h2, h3, h4⟩
  ·exact .inl ⟨rfl, .inr (by omega)⟩
  ·exact .inr ⟨h1, by omega, h3, fun c c0 c1 c2 => h4 c c0 (by omega) c2⟩
 ·rcases hb with ⟨rfl, h1⟩ | ⟨h1, h2, h3, h4⟩
  ·exact .inl ⟨rfl, by omega⟩
  ·exact .inr ⟨by omega, h3, by unfold ZM; omega, fun c c0 c1 hc => h4 c (by unfold ZM at hc; omega) (by unfold ZM at hc; omega) c1⟩
theorem ZjG {n : Int} {h : List (Int × Int)} {a : List Int} {K : Int -> Option Int} (H : Hp n h a K) {i : Int} (i0 : 0 ≤ i) (i1 : i < (h.length : Int)) (D : Down4 h.length (gt h) i) :
  T (Zbg h a i) fun r => r.1.length = h.length /\ Hp n r.1 r.2 K /\ Ord4 h.length (gt r.1) := by
 obtain ⟨Hv0, e0⟩ := H.pick i0 i1
 unfold Zbg
 rw [T_G]
 refine ⟨⟨i0, i1⟩, Zo (fun s => s.1.length = h.length /\ Hv n s.1 s.2.1 s.2.2 (gt h i) K /\ Ord4 h.length (vh s.1 s.2.2 (gt h i))) ?_ ?_⟩
 ·refine ZH (fun s => s.1.length = h.length /\ Hv n s.1 s.2.1 s.2.2 (gt h i) K /\ Down4 h.length (vh s.1 s.2.2 (gt h i)) s.2.2) (fun s => ((h.length : Int) - s.2.2).toNat) ?_ ⟨rfl, Hv0, D.congr fun p _ => e0 p⟩
  rintro ⟨h0, a0, j⟩ ⟨hl, hv, hd⟩
  dsimp only at *
  unfold ZbF
  have j0 := hv.i0
  have j1 := hv.i1
  have hsm := hv.small
  refine Zo _ (Zle (h := h0) j0 (by omega)) fun b hb => ?_
  have hvj : vh h0 j (gt h i) j = gt h i := if_pos rfl
  have hvn : ∀ c, c ≠ j -> vh h0 j (gt h i) c = gt h0 c := fun c hc => if_neg hc
  have hch : ∀ c, 1 ≤ c -> ZM c = j -> j < c := fun c c0 hc => by unfold ZM at hc; omega
  refine Zo (fun o => o = true ↔ (b < 0 ∨ ¬ Less (gt h0 b) (gt h i))) ?_ fun o ho => ?_
  ·simp only [Zq, T_G, Zc, Zh5, Option.bind_some, true_iff, Bool.not_eq_true', decide_eq_false_iff_not]
   refine ⟨fun hn => .inl hn, fun hn => ⟨by omega, ⟨fun k => .inr k, fun k => k.resolve_left hn⟩⟩⟩
  rw [Zq]
  refine ⟨fun ht => ?_, fun hf => ?_⟩
  ·simp only [Zc, Sum.elim_inr]
   refine ⟨hl, hv, hd.done fun c c0 c1 hc => ?_⟩
   have hjc := hch c c0 hc
   rw [hvn c (by omega), hvj]
   rcases hb with ⟨rfl, hb⟩ | ⟨b0, b1, b2, b3⟩
   ·unfold ZM at hc; omega
   ·rcases ho.1 ht with hx | hx
    ·omega
    ·exact Zeu (b3 c c0 (by omega) hc) hx
  ·have hx : ¬ (b < 0 ∨ ¬ Less (gt h0 b) (gt h i)) := fun k => hf (ho.2 k)
   rcases hb with ⟨rfl, hb⟩ | ⟨b0, b1, b2, b3⟩
   ·omega
   have hlx : Less (gt h0 b) (gt h i) := Classical.not_not.1 fun k => hx (.inr k)
   have hjb := hch b b0 b2
   obtain ⟨m0, m1, m2, m3⟩ := hv.move (by omega) b1 (by omega)
   rw [T_G, Ze6 j0 j1 m0 (by rw [hv.len]; exact m1) hsm]
   simp only [Option.bind_some, Zc, Sum.elim_inl]
   refine ⟨by omega, ⟨by simpa using hl, m2, hd.step j0 b0 (by omega) b2 (fun c c0 c1 hc => ?_) (by rw [hvn b (by omega), hvj]; exact hlx) fun p p0 p1 => m3 p p0 (by omega)⟩, by omega⟩
   rw [hvn c (by have := hch c c0 hc; omega), hvn b (by omega)]
   exact b3 c c0 (by omega) hc
 ·rintro ⟨h0, a0, j⟩ ⟨hl, hv, ho⟩
  dsimp only at *
  rw [Ze6 hv.i0 hv.i1 hv.x0 (by rw [hv.len]; exact hv.x1) hv.small]
  simp only [Option.bind_some, Zc]
  exact ⟨by simpa using hl, hv.lay, ho.congr fun p p0 => ZgV hv.i0 hv.i1 p0⟩
theorem p_up0 {n : Int} {h : List (Int × Int)} {a : List Int} {K : Int -> Option Int} (H : Hp n h a K) (i1 : 0 < (h.length : Int)) :
  T (ZaJ h a 0) fun r => r.1.length = h.length /\ Hp n r.1 r.2 K /\ ∀ p, 0 ≤ p -> gt r.1 p = gt h p := by
 obtain ⟨hv, e0⟩ := H.pick (Int.le_refl 0) i1
 unfold ZaJ
 rw [T_G]
 refine ⟨⟨by omega, i1⟩, Zo (fun s => s = (h, a, 0)) ?_ ?_⟩
 ·refine ZH (fun s => s = (h, a, 0)) (fun s => 0) ?_ rfl
  rintro _ rfl
  unfold Zbw
  rw [if_neg (by simp)]
  simp
 ·rintro _ rfl
  dsimp only
  rw [Ze6 hv.i0 hv.i1 hv.x0 (by rw [hv.len]; exact hv.x1) hv.small]
  simp only [Option.bind_some, Zc]
  exact ⟨by simp, hv.lay, fun p p0 => (ZgV hv.i0 hv.i1 p0).trans (e0 p)⟩
section
variable {n L : Int} {h h' : Int -> Int × Int} {a a' : Int -> Int} {x : Int × Int}
theorem Ix.add (I : Ix n L h a) (L0 : 0 ≤ L) (x0 : 0 ≤ x.2) (x1 : x.2 < n) (hz : a x.2 = 0) (eh : ∀ p, 0 ≤ p -> p ≤ L -> h' p = if p = L then x else h p) (ea : ∀ v, 0 ≤ v -> a' v = if v = x.2 then L + 1 else a v) :
  Ix n (L + 1) h' a' /\ ∀ v, 0 ≤ v -> v < n -> Kf h' a' v = if v = x.2 then some x.1 else Kf h a v := by
 have hL : h' L = x := by rw [eh L L0 (by omega), if_pos rfl]
 have hp : ∀ p, 0 ≤ p -> p < L -> h' p = h p := fun p p0 p1 => by rw [eh p p0 (by omega), if_neg (by omega)]
 have ax : a' x.2 = L + 1 := by rw [ea _ x0, if_pos rfl]
 have ao : ∀ v, 0 ≤ v -> v ≠ x.2 -> a' v = a v := fun v v0 hv => by rw [ea v v0, if_neg hv]
 refine ⟨⟨fun p p0 p1 => ?_, fun v v0 v1 => ?_⟩, fun v v0 v1 => ?_⟩
 ·by_cases e : p = L
  ·subst e; rw [hL]; exact ⟨x0, x1, ax⟩
  ·rw [hp p p0 (by omega)]
   obtain ⟨f0, f1, f2⟩ := I.fwd p p0 (by omega)
   exact ⟨f0, f1, by rw [ao _ f0 (fun e => by rw [e, hz] at f2; omega)]; exact f2⟩
 ·by_cases e : v = x.2
  ·subst e; rw [ax]; exact ⟨by omega, by omega, fun _ => by rw [show L + 1 - 1 = L from by omega, hL]⟩
  ·rw [ao v v0 e]
   obtain ⟨b0, b1, b2⟩ := I.bwd v v0 v1
   exact ⟨b0, by omega, fun k => by rw [hp _ (by omega) (by omega)]; exact b2 k⟩
 ·unfold Kf
  by_cases e : v = x.2
  ·subst e; rw [ax, if_neg (by omega), if_pos rfl, show L + 1 - 1 = L from by omega, hL]
  ·rw [ao v v0 e, if_neg e]
   obtain ⟨b0, b1, b2⟩ := I.bwd v v0 v1
   by_cases k : a v = 0
   ·rw [if_pos k, if_pos k]
   ·rw [if_neg k, if_neg k, hp _ (by omega) (by omega)]
theorem Ix.rekey (I : Ix n L h a) {i : Int} (i0 : 0 ≤ i) (i1 : i < L) (hx : (h i).2 = x.2) (eh : ∀ p, 0 ≤ p -> p < L -> h' p = if p = i then x else h p) (ea : ∀ v, 0 ≤ v -> a' v = if v = x.2 then i + 1 else a v) :
  Ix n L h' a' /\ ∀ v, 0 ≤ v -> v < n -> Kf h' a' v = if v = x.2 then some x.1 else Kf h a v := by
 obtain ⟨fi0, fi1, fi2⟩ := I.fwd i i0 i1
 rw [hx] at fi0 fi1 fi2
 have hi : h' i = x := by rw [eh i i0 i1, if_pos rfl]
 have hp : ∀ p, 0 ≤ p -> p < L -> p ≠ i -> h' p = h p := fun p p0 p1 e => by rw [eh p p0 p1, if_neg e]
 have h2 : ∀ p, 0 ≤ p -> p < L -> (h' p).2 = (h p).2 := fun p p0 p1 => by
  by_cases e : p = i
  ·subst e; rw [hi, hx]
  ·rw [hp p p0 p1 e]
 have av : ∀ v, 0 ≤ v -> a' v = a v := fun v v0 => by
  rw [ea v v0]; split
  ·rename_i e; subst e; exact fi2.symm
  ·rfl
 refine ⟨⟨fun p p0 p1 => ?_, fun v v0 v1 => ?_⟩, fun v v0 v1 => ?_⟩
 ·rw [h2 p p0 p1]
  obtain ⟨f0, f1, f2⟩ := I.fwd p p0 p1
  exact ⟨f0, f1, by rw [av _ f0]; exact f2⟩
 ·rw [av v v0]
  obtain ⟨b0, b1, b2⟩ := I.bwd v v0 v1
  exact ⟨b0, b1, fun k => by rw [h2 _ (by omega) (by omega)]; exact b2 k⟩
 ·unfold Kf
  rw [av v v0]
  obtain ⟨b0, b1, b2⟩ := I.bwd v v0 v1
  by_cases e : v = x.2
  ·subst e; rw [fi2, if_neg (by omega), if_pos rfl, show i + 1 - 1 = i from by omega, hi]
  ·rw [if_neg e]
   by_cases k : a v = 0
   ·rw [if_pos k, if_pos k]
   ·rw [if_neg k, if_neg k, hp _ (by omega) (by omega) (fun e2 => e (by rw [← b2 k, e2, hx]))]
theorem Ix.rem0 (I : Ix n L h a) (L1 : 1 ≤ L) (eh : ∀ p, 0 ≤ p -> p < L - 1 -> h' p = if p = 0 then h (L - 1) else h p)
  (ea : ∀ v, 0 ≤ v -> a' v = if v = (h 0).2 then 0 else if v = (h (L - 1)).2 then 1 else a v) :
  Ix n (L - 1) h' a' /\ ∀ v, 0 ≤ v -> v < n -> Kf h' a' v = if v = (h 0).2 then none else Kf h a v := by
 obtain ⟨f0, f1, f2⟩ := I.fwd 0 (by omega) (by omega)
 obtain ⟨l0, l1, l2⟩ := I.fwd (L - 1) (by omega) (by omega)
 have a0 : a' (h 0).2 = 0 := by rw [ea _ f0, if_pos rfl]
 have ao : ∀ v, 0 ≤ v -> v ≠ (h 0).2 -> v ≠ (h (L - 1)).2 -> a' v = a v := fun v v0 h1 h2 => by rw [ea v v0, if_neg h1, if_neg h2]
 have hp : ∀ p, 0 ≤ p -> p < L - 1 -> p ≠ 0 -> h' p = h p := fun p p0 p1 e => by rw [eh p p0 p1, if_neg e]
 refine ⟨⟨fun p p0 p1 => ?_, fun v v0 v1 => ?_⟩, fun v v0 v1 => ?_⟩
 ·by_cases e : p = 0
  ·subst e
   rw [eh 0 p0 p1, if_pos rfl]
   refine ⟨l0, l1, ?_⟩
   rw [ea _ l0, if_neg (fun e => by have := I.inj (by omega) (by omega) (by omega) (by omega) e; omega), if_pos rfl]; omega
  ·rw [hp p p0 p1 e]
   obtain ⟨g0, g1, g2⟩ := I.fwd p p0 (by omega)
   refine ⟨g0, g1, ?_⟩
   rw [ao _ g0 (fun e2 => by have := I.inj p0 (by omega) (by omega) (by omega) e2; omega) (fun e2 => by have := I.inj p0 (by omega) (by omega) (by omega) e2; omega)]
   exact g2
 ·by_cases e : v = (h 0).2
  ·subst e; rw [a0]; exact ⟨by omega, by omega, fun k => absurd rfl k⟩
  ·by_cases e2 : v = (h (L - 1)).2
   ·subst e2
    have hL : L - 1 ≠ 0 := fun k => e (by rw [k])
    rw [ea _ l0, if_neg e, if_pos rfl]
    exact ⟨by omega, by omega, fun _ => by rw [show (1 : Int) - 1 = 0 from rfl, eh 0 (by omega) (by omega), if_pos rfl]⟩
   ·rw [ao v v0 e e2]
    obtain ⟨b0, b1, b2⟩ := I.bwd v v0 v1
    have hb : a v ≠ 0 -> a v - 1 ≠ 0 /\ a v - 1 ≠ L - 1 := fun k => ⟨fun q => e (by rw [← b2 k, q]), fun q => e2 (by rw [← b2 k, q])⟩
    refine ⟨b0, ?_, fun k => ?_⟩
    ·by_cases k : a v = 0
     ·omega
     ·have := hb k; omega
    ·have := hb k
     rw [hp _ (by omega) (by omega) this.1]; exact b2 k
 ·unfold Kf
  by_cases e : v = (h 0).2
  ·subst e; rw [a0, if_pos rfl, if_pos rfl]
  ·rw [if_neg e]
   by_cases e2 : v = (h (L - 1)).2
   ·subst e2
    have hL : L - 1 ≠ 0 := fun k => e (by rw [k])
    rw [ea _ l0, if_neg e, if_pos rfl, l2, if_neg (by omega), if_neg (by omega), show (1 : Int) - 1 = 0 from rfl, eh 0 (by omega) (by omega), if_pos rfl, show L - 1 + 1 - 1 = L - 1 from by omega]
   ·rw [ao v v0 e e2]
    obtain ⟨b0, b1, b2⟩ := I.bwd v v0 v1
    by_cases k : a v = 0
    ·rw [if_pos k, if_pos k]
    ·have h1 : a v - 1 ≠ 0 := fun q => e (by rw [← b2 k, q])
     have h2 : a v - 1 ≠ L - 1 := fun q => e2 (by rw [← b2 k, q])
     rw [if_neg k, if_neg k, hp _ (by omega) (by omega) h1]
end
end Go.Vd

/-! (Hp4) -/

set_option linter.unusedVariables false
set_option linter.unusedSimpArgs false
namespace Go.Vd
theorem Zlo {E : Type} [Inhabited E] {l : List E} {x : E} {p : Int} (p0 : 0 ≤ p) : gt (l ++ [x]) p = if p = (l.length : Int) then x else gt l p := by
 unfold gt
 rw [List.getD_eq_getElem?_getD, List.getD_eq_getElem?_getD]
 by_cases h : p = (l.length : Int)
 ·subst h; simp
 ·rw [if_neg h]
  by_cases h2 : p < (l.length : Int)
  ·rw [List.getElem?_append_left (by omega)]
  ·rw [List.getElem?_eq_none (by simp; omega), List.getElem?_eq_none (by omega)]
theorem Zk0 {E : Type} [Inhabited E] {l : List E} {m : Nat} {p : Int} (p0 : 0 ≤ p) (p1 : p < (m : Int)) : gt (l.take m) p = gt l p := by
 unfold gt
 rw [List.getD_eq_getElem?_getD, List.getD_eq_getElem?_getD, List.getElem?_take, if_pos (by omega)]
theorem Hp.key_in {n : Int} {h : List (Int × Int)} {a : List Int} {K : Int -> Option Int} (H : Hp n h a K) {v k : Int} (v0 : 0 ≤ v) (v1 : v < n) (hk : K v = some k) : 1 ≤ gt a v /\ gt a v ≤ (h.length : Int) /\ gt h (gt a v - 1) = (k, v) := by
 have e := H.key v v0 v1
 rw [hk] at e
 unfold Kf at e
 obtain ⟨b0, b1, b2⟩ := H.ix.bwd v v0 v1
 by_cases hz : gt a v = 0
 ·rw [if_pos hz] at e; cases e
 ·rw [if_neg hz] at e
  refine ⟨by omega, b1, Prod.ext ?_ (b2 hz)⟩
  exact Option.some.inj e
theorem Hp.key_out {n : Int} {h : List (Int × Int)} {a : List Int} {K : Int -> Option Int} (H : Hp n h a K) {v : Int} (v0 : 0 ≤ v) (v1 : v < n) (hk : K v = none) : gt a v = 0 := by
 have e := H.key v v0 v1
 rw [hk] at e
 unfold Kf at e
 by_cases hz : gt a v = 0
 ·exact hz
 ·rw [if_neg hz] at e; cases e
theorem ZkN {n : Int} {h : List (Int × Int)} {a : List Int} {K : Int -> Option Int} (H : Hp n h a K) (O : Ord4 h.length (gt h)) {id key : Int} (v0 : 0 ≤ id) (v1 : id < n) (hn : n ≤ 1099511627776)
  (hk : ∀ old, K id = some old -> key ≤ old) (room : h.length + 1 ≤ 1099511627776) :
  T (ZcJ h a id key) fun r => r.1 = Er.nil /\ r.2.2.length ≤ h.length + 1 /\ Hp n r.2.2 r.2.1 (fun v => if v = id then some key else K v) /\ Ord4 r.2.2.length (gt r.2.2) := by
 unfold ZcJ
 have hal := H.len
 have hchk : Zab h a id = some Er.nil := by
  unfold Zab G; rw [if_pos (by omega), if_neg (by omega)]
 obtain ⟨b0, b1, b2⟩ := H.ix.bwd id v0 v1
 rw [hchk, Option.bind_some, if_pos rfl]
 simp only [T_G]
 refine ⟨by omega, by omega, ?_⟩
 -- the item is laid
 suffices key' : ∀ (h1 : List (Int × Int)) (i : Int), 0 ≤ i -> i < (h1.length : Int) -> h1.length ≤ h.length + 1 -> Hp n (h1.set i.toNat (key, id)) (a.set id.toNat (i + 1)) (fun v => if v = id then some key else K v) -> Up4 h1.length (gt (h1.set i.toNat (key, id))) i ->
   T ((Zaf h1 a i key id).bind fun y94 => ((ZaJ y94.1 y94.2 i).bind fun y103 => G (id < (y103.2.length : Int)) (G (-9223372036854775808 ≤ ((gt y103.2 id) - 1) /\ ((gt y103.2 id) - 1) ≤ 9223372036854775807) (((Zbg y103.1 y103.2 ((gt y103.2 id) - 1)).bind fun y116 => some (Er.nil, y116.2, y116.1))))))
    fun r => r.1 = Er.nil /\ r.2.2.length ≤ h.length + 1 /\ Hp n r.2.2 r.2.1 (fun v => if v = id then some key else K v) /\ Ord4 r.2.2.length (gt r.2.2) by
  by_cases hz : gt a id = 0
  ·refine Zo (fun o => o = (h ++ [(0, 0)], (h.length : Int))) ?_ ?_
   ·rw [if_pos (by omega)]; simp only [T_G, Zc, and_true]; omega
   ·rintro _ rfl
    have hl : (h ++ [((0 : Int), (0 : Int))]).length = h.length + 1 := by simp
    have eh : ∀ p, 0 ≤ p -> p ≤ (h.length : Int) -> gt ((h ++ [((0 : Int), (0 : Int))]).set ((h.length : Int)).toNat (key, id)) p = if p = (h.length : Int) then (key, id) else gt h p := fun p p0 p1 => by
     rw [Zbj (by omega) (by rw [hl]; omega) p0, Zlo p0]
     by_cases e : p = (h.length : Int)
     ·rw [if_pos e, if_pos e]
     ·rw [if_neg e, if_neg e, if_neg e]
    have ea : ∀ v, 0 ≤ v -> gt (a.set id.toNat ((h.length : Int) + 1)) v = if v = id then (h.length : Int) + 1 else gt a v := fun v w0 => Zbj v0 (by omega) w0
    obtain ⟨s1, s2⟩ := H.ix.add (x := (key, id)) (by omega) v0 v1 hz eh ea
    refine key' (h ++ [(0, 0)]) h.length (by omega) (by rw [hl]; omega) (by omega) ⟨by simpa using hal, by simp; omega, by simpa using s1, fun v w0 w1 => ?_⟩ ?_
    ·rw [s2 v w0 w1, H.key v w0 w1]
    ·rw [hl]
     have pl : ∀ p, 1 ≤ p -> ZM p < p /\ 0 ≤ ZM p := fun p hp => by unfold ZM; omega
     refine ⟨fun p p0 p1 hp => ?_, fun i0 c c0 c1 hc => ?_⟩
     ·have := pl p p0
      rw [eh p (by omega) (by omega), if_neg hp, eh _ (by omega) (by omega), if_neg (by omega)]
      exact O p p0 (by omega)
     ·have := pl c c0; omega
  ·refine Zo (fun o => o = (h, gt a id - 1)) ?_ ?_
   ·rw [if_neg (by omega)]; simp only [Zc]
   ·rintro _ rfl
    have hb := b2 hz
    have hK : K id = some (gt h (gt a id - 1)).1 := by
     rw [← H.key id v0 v1]; unfold Kf; rw [if_neg hz]
    have hle := hk _ hK
    have eh : ∀ p, 0 ≤ p -> p < (h.length : Int) -> gt (h.set (gt a id - 1).toNat (key, id)) p = if p = gt a id - 1 then (key, id) else gt h p := fun p p0 p1 => Zbj (by omega) (by omega) p0
    have ea : ∀ v, 0 ≤ v -> gt (a.set id.toNat (gt a id - 1 + 1)) v = if v = id then gt a id - 1 + 1 else gt a v := fun v w0 => Zbj v0 (by omega) w0
    obtain ⟨s1, s2⟩ := H.ix.rekey (x := (key, id)) (by omega) (by omega) hb eh ea
    refine key' h (gt a id - 1) (by omega) (by omega) (by omega) ⟨by simpa using hal, by simpa using H.small, by simpa using s1, fun v w0 w1 => ?_⟩ ?_
    ·rw [s2 v w0 w1, H.key v w0 w1]
    ·have pl : ∀ p, 1 ≤ p -> ZM p < p /\ 0 ≤ ZM p := fun p hp => by unfold ZM; omega
     refine ⟨fun p p0 p1 hp => ?_, fun i0 c c0 c1 hc => ?_⟩
     ·have := pl p p0
      rw [eh p (by omega) p1, if_neg hp, eh _ (by omega) (by omega)]
      have hO := O p p0 p1
      split
      ·rename_i e
       rw [e] at hO
       revert hO
       generalize hg : gt h (gt a id - 1) = y at *
       unfold Less; dsimp only; omega
      ·exact hO
     ·have := pl c c0
      have := pl (gt a id - 1) i0
      rw [eh c (by omega) c1, if_neg (by omega), eh _ (by omega) (by omega), if_neg (by omega)]
      have h1 := O c c0 c1
      rw [hc] at h1
      exact Zeu h1 (O _ i0 (by omega))
 intro h1 i i0 i1 hl hH hU
 rw [Ze6 i0 i1 v0 (by omega) (by omega), Option.bind_some]
 have hl2 : (h1.set i.toNat (key, id)).length = h1.length := by simp
 refine Zo _ (p_up hH i0 (by rw [hl2]; exact i1) (by rw [hl2]; exact hU)) ?_
 rintro ⟨h2, a2⟩ ⟨l2, H2, O2⟩
 dsimp only at *
 obtain ⟨k1, k2, k3⟩ := H2.key_in v0 v1 (if_pos rfl)
 have hl2' := H2.len
 rw [hl2] at l2 O2
 simp only [T_G]
 refine ⟨by omega, by omega, ?_⟩
 rw [← l2] at O2
 refine Zo _ (ZjG H2 (by omega) (by omega) (O2.down (by omega))) ?_
 rintro ⟨h3, a3⟩ ⟨l3, H3, O3⟩
 dsimp only at *
 simp only [Zc]
 exact ⟨trivial, by omega, H3, by rw [l3]; exact O3⟩
theorem Zjb {h : List (Int × Int)} {a : List Int} : ZbQ h a = some (if (h.length : Int) = 0 then (0, 0, false) else ((gt h 0).2, (gt h 0).1, true)) := by
 unfold ZbQ G
 by_cases e : (h.length : Int) = 0
 ·rw [if_pos e, if_pos e]
 ·rw [if_neg e, if_neg e, if_pos (by omega)]
theorem p_Pop {n : Int} {h : List (Int × Int)} {a : List Int} {K : Int -> Option Int} (H : Hp n h a K) (O : Ord4 h.length (gt h)) (hn : n ≤ 1099511627776) (hl : 0 < (h.length : Int)) :
  T (Zal h a) fun r => (r.2.2.2.2.length : Int) = h.length - 1 /\ Hp n r.2.2.2.2 r.2.2.2.1 (fun v => if v = (gt h 0).2 then none else K v) /\ Ord4 r.2.2.2.2.length (gt r.2.2.2.2) := by
 unfold Zal
 have hsm := H.small
 have hal := H.len
 obtain ⟨f0, f1, f2⟩ := H.ix.fwd 0 (by omega) hl
 obtain ⟨g0, g1, g2⟩ := H.ix.fwd ((h.length : Int) - 1) (by omega) (by omega)
 have hT : ZbQ h a = some ((gt h 0).2, (gt h 0).1, true) := by rw [Zjb, if_neg (by omega)]
 rw [hT, Option.bind_some, if_pos rfl]
 have hkey : ZaV h a (gt h 0).2 = some ((gt h 0).1, true) := by
  have hchk : Zab h a (gt h 0).2 = some Er.nil := by
   unfold Zab G; rw [if_pos (by omega), if_neg (by omega)]
  refine Ze2.1 ?_
  unfold ZaV
  rw [hchk, Option.bind_some, if_pos rfl, f2]
  refine Zo (fun o => o = false) ?_ ?_
  ·simp only [T_G, Zc]; exact ⟨by omega, rfl⟩
  ·rintro _ rfl
   rw [if_neg (by decide)]
   simp only [T_G, Zc]
   exact ⟨by omega, by omega, by omega, rfl⟩
 suffices rem : T (ZbO h a (gt h 0).2) fun r => (r.2.2.length : Int) = h.length - 1 /\ Hp n r.2.2 r.2.1 (fun v => if v = (gt h 0).2 then none else K v) /\ Ord4 r.2.2.length (gt r.2.2) by
  refine Zo _ rem ?_
  rintro ⟨b, a', h'⟩ hr
  simpa using hr
 unfold ZbO
 rw [hkey, Option.bind_some]
 dsimp only
 rw [if_neg (by decide)]
 simp only [T_G]
 have htl : ((h.take ((h.length : Int) - 1).toNat).length : Int) = h.length - 1 := by rw [List.length_take]; omega
 refine ⟨by omega, by omega, by omega, by omega, by omega, ?_⟩
 rw [f2, Zq]
 have ea0 : ∀ v, 0 ≤ v -> gt (a.set (gt h 0).2.toNat 0) v = if v = (gt h 0).2 then 0 else gt a v := fun v w0 => Zbj f0 (by omega) w0
 refine ⟨fun hlt => ?_, fun hge => ?_⟩
 ·have hid : (gt h 0).2 ≠ (gt h ((h.length : Int) - 1)).2 := fun e => by have := H.ix.inj (by omega) hl (by omega) (by omega) e; omega
  rw [show (0 : Int) + 1 - 1 = 0 from rfl, Ze6 (by omega) (by rw [htl]; omega) g0 (by simp; omega) (by omega), Option.bind_some]
  dsimp only
  have eh : ∀ p, 0 ≤ p -> p < (h.length : Int) - 1 -> gt ((h.take ((h.length : Int) - 1).toNat).set (0 : Int).toNat ((gt h ((h.length : Int) - 1)).1, (gt h ((h.length : Int) - 1)).2)) p = if p = 0 then gt h ((h.length : Int) - 1) else gt h p := fun p p0 p1 => by
   rw [Zbj (by omega) (by rw [htl]; omega) p0]
   by_cases e : p = 0
   ·rw [if_pos e, if_pos e]
   ·rw [if_neg e, if_neg e, Zk0 p0 (by omega)]
  have ea : ∀ v, 0 ≤ v -> gt ((a.set (gt h 0).2.toNat 0).set (gt h ((h.length : Int) - 1)).2.toNat (0 + 1)) v = if v = (gt h 0).2 then 0 else if v = (gt h ((h.length : Int) - 1)).2 then 1 else gt a v := fun v w0 => by
   rw [Zbj g0 (by simp; omega) w0, ea0 v w0]
   by_cases e : v = (gt h 0).2
   ·rw [if_neg (fun e2 => hid (e.symm.trans e2)), if_pos e, if_pos e]
   ·rw [if_neg e, if_neg e]; rfl
  obtain ⟨s1, s2⟩ := H.ix.rem0 (by omega) eh ea
  have hl1 : (((h.take ((h.length : Int) - 1).toNat).set (0 : Int).toNat ((gt h ((h.length : Int) - 1)).1, (gt h ((h.length : Int) - 1)).2)).length : Int) = h.length - 1 := by rw [List.length_set]; exact htl
  have HH : Hp n ((h.take ((h.length : Int) - 1).toNat).set (0 : Int).toNat ((gt h ((h.length : Int) - 1)).1, (gt h ((h.length : Int) - 1)).2)) ((a.set (gt h 0).2.toNat 0).set (gt h ((h.length : Int) - 1)).2.toNat (0 + 1)) (fun v => if v = (gt h 0).2 then none else K v) :=
   ⟨by simpa using hal, by omega, by rw [hl1]; exact s1, fun v w0 w1 => by rw [s2 v w0 w1, H.key v w0 w1]⟩
  have e0 : gt ((a.set (gt h 0).2.toNat 0).set (gt h ((h.length : Int) - 1)).2.toNat (0 + 1)) (gt h ((h.length : Int) - 1)).2 = 1 := by
   rw [ea _ g0, if_neg (Ne.symm hid), if_pos rfl]
  refine Zo _ (p_up0 HH (by rw [hl1]; omega)) ?_
  rintro ⟨h2, a2⟩ ⟨l2, H2, q2⟩
  dsimp only at *
  have hl2 := H2.len
  have hL2 : (h2.length : Int) = h.length - 1 := by omega
  -- the place of the item that was moved
  have hpos : gt a2 (gt h ((h.length : Int) - 1)).2 = 1 := by
   obtain ⟨_, _, w⟩ := H2.ix.fwd 0 (by omega) (by omega)
   rw [q2 0 (by omega), eh 0 (by omega) (by omega), if_pos rfl] at w
   simpa using w
  simp only [T_G]
  refine ⟨by omega, by omega, ?_⟩
  rw [hpos]
  have D : Down4 h2.length (gt h2) 0 := by
   refine ⟨fun p p0 p1 hp => ?_, fun i0 => by omega⟩
   have hpp : ZM p < p /\ 0 ≤ ZM p := by unfold ZM; omega
   rw [q2 p (by omega), q2 _ hpp.2, eh p (by omega) (by omega), if_neg (by omega), eh _ hpp.2 (by omega), if_neg hp]
   exact O p p0 (by omega)
  refine Zo _ (ZjG H2 (i := 1 - 1) (by omega) (by omega) D) ?_
  rintro ⟨h3, a3⟩ ⟨l3, H3, O3⟩
  dsimp only at *
  simp only [Zc]
  exact ⟨by omega, H3, by rw [l3]; exact O3⟩
 ·have hL : (h.length : Int) = 1 := by omega
  simp only [Zc]
  have eh : ∀ p, 0 ≤ p -> p < (h.length : Int) - 1 -> gt (h.take ((h.length : Int) - 1).toNat) p = if p = 0 then gt h ((h.length : Int) - 1) else gt h p := fun p p0 p1 => by omega
  have ea : ∀ v, 0 ≤ v -> gt (a.set (gt h 0).2.toNat 0) v = if v = (gt h 0).2 then 0 else if v = (gt h ((h.length : Int) - 1)).2 then 1 else gt a v := fun v w0 => by
   rw [ea0 v w0, show (h.length : Int) - 1 = 0 from by omega]
   by_cases e : v = (gt h 0).2
   ·rw [if_pos e, if_pos e]
   ·rw [if_neg e, if_neg e, if_neg e]
  obtain ⟨s1, s2⟩ := H.ix.rem0 (by omega) eh ea
  exact ⟨htl, ⟨by simpa using hal, by omega, by rw [htl]; exact s1, fun v w0 w1 => by rw [s2 v w0 w1, H.key v w0 w1]⟩, fun p p0 p1 => by omega⟩
end Go.Vd

/-! (LwSimple) -/

namespace Go.Vd
theorem Zkp {s : List Int} {v : Int} (h : s.Nodup) : (Zcy s v).Nodup := by
 unfold Zcy
 split
 ·exact h.sublist (List.take_sublist _ _)
 ·rename_i hv
  rw [List.nodup_append]
  refine ⟨h, by simp, fun x hx y hy => ?_⟩
  simp at hy; subst hy; rintro rfl; exact hv hx
theorem Zjd (s : List Int) (v : Int) : (Zcy s v).getLast? = some v := by
 unfold Zcy
 split
 ·rename_i hv
  have hl := List.idxOf_lt_length_of_mem hv
  rw [List.getLast?_eq_getElem?, List.length_take, Nat.min_eq_left (by omega), List.getElem?_take, if_pos (by omega)]
  simp [List.getElem?_eq_getElem hl]
 ·simp
theorem Zjw {s : List Int} (v : Int) (h : s ≠ []) : (Zcy s v).head? = s.head? := by
 cases s with
 | nil => exact absurd rfl h
 | cons x s =>
  unfold Zcy
  split
  ·simp
  ·simp
theorem Zd7 (l : List Int) (v : Int) : ZT (l ++ [v]) = Zcy (ZT l) v := by
 unfold ZT; rw [List.foldl_append]; rfl
theorem Zfd {p : List Int -> Prop} (h0 : p []) (h1 : ∀ l v, p l -> p (l ++ [v])) (l : List Int) : p l := by
 have : ∀ (n : Nat) (l : List Int), l.length = n -> p l := by
  intro n
  induction n with
  | zero => intro l hl; rw [List.eq_nil_of_length_eq_zero hl]; exact h0
  | succ n ih =>
   intro l hl
   have hne : l ≠ [] := by rintro rfl; simp at hl
   rw [← List.dropLast_concat_getLast hne]
   exact h1 _ _ (ih _ (by rw [List.length_dropLast]; omega))
 exact this _ l rfl
theorem Zj8 (l : List Int) : (ZT l).Nodup := by
 induction l using Zfd with
 | h0 => simp [ZT]
 | h1 l v ih => rw [Zd7]; exact Zkp ih
theorem ZeL (l : List Int) : (ZT l).getLast? = l.getLast? := by
 induction l using Zfd with
 | h0 => rfl
 | h1 l v _ => rw [Zd7, Zjd]; simp
theorem Zfg {l : List Int} (h : ZT l = []) : l = [] := by
 have := ZeL l
 rw [h] at this
 cases l with
 | nil => rfl
 | cons x l => simp [List.getLast?_cons] at this
theorem ZiC (l : List Int) : (ZT l).head? = l.head? := by
 induction l using Zfd with
 | h0 => rfl
 | h1 l v ih =>
  rw [Zd7]
  by_cases hl : l = []
  ·subst hl; simp [ZT, Zcy]
  ·rw [Zjw v (fun h => hl (Zfg h)), ih]
   cases l with
   | nil => exact absurd rfl hl
   | cons x l => rfl
end Go.Vd

/-! (LwSimple2) -/

set_option linter.unusedVariables false
namespace Go.Vd
theorem gt_get? {l : List Int} {i : Int} {x : Int} (h0 : 0 ≤ i) (h : l[i.toNat]? = some x) : gt l i = x := by
 simp [gt, List.getD_eq_getElem?_getD, h]
variable {fi to wt : List Int}
end Go.Vd

/-! (LwSimple3) -/

namespace Go.Vd
theorem ZeU {l r : List Int} {i : Int} (h0 : 0 ≤ i) (h1 : i < (l.length : Int)) : gt (l ++ r) i = gt l i := by
 simp only [gt, List.getD_eq_getElem?_getD]
 rw [List.getElem?_append_left (by omega)]
theorem Zif (l : List Int) (v : Int) : gt (l ++ [v]) (l.length : Int) = v := by
 simp [gt, List.getD_eq_getElem?_getD]
theorem Zf1 {l : List Int} {a : Int} (h : l.getLast? = some a) : gt l ((l.length : Int) - 1) = a := by
 rw [List.getLast?_eq_getElem?] at h
 have : 0 < l.length := by
  cases l with
  | nil => simp at h
  | cons _ _ => simp
 refine gt_get? (by omega) ?_
 rw [show ((l.length : Int) - 1).toNat = l.length - 1 from by omega]; exact h
theorem gt_tk {l : List Int} {r : Nat} {k : Int} (k0 : 0 ≤ k) (k1 : k < (r : Int)) : gt (l.take r) k = gt l k := by
 simp only [gt, List.getD_eq_getElem?_getD]
 rw [List.getElem?_take, if_pos (by omega)]
variable {fi to wt : List Int}
end Go.Vd

/-! (LwSimple4) -/

namespace Go.Vd
end Go.Vd

/-! (PrEa) -/

set_option linter.unusedVariables false
set_option linter.unusedSimpArgs false
namespace Go.Vd
variable {F T' W l : List Int}
theorem p_E (n : Int) : Z4 n = some n := rfl
theorem Zd9 {c : Int} {ps : List (Int × Int)} : ZW c ps = some (decide (c ≠ 0 ∨ ps ≠ [])) := by
 unfold ZW
 by_cases h : c = 0
 ·rw [if_pos h]; subst h
  by_cases hp : 0 < (ps.length : Int)
  ·rw [ZkP (.inr hp), decide_eq_true (by omega)]
  ·rw [bad_f ⟨rfl, hp⟩, decide_eq_false (by omega)]
 ·rw [if_neg h, ZkP (.inl h)]
end Go.Vd

/-! (PrEb) -/

set_option linter.unusedVariables false
set_option linter.unusedSimpArgs false
namespace Go.Vd
variable {F T' W l : List Int}
theorem p_At {k i c : Int} {ps : List (Int × Int)} (h : ps.length ≤ 8796093021951) : Zai k i c ps = some (c, (k, i) :: ps) := by
 unfold Zai G
 rw [if_pos (by simp; omega)]; rfl
end Go.Vd

/-! (PrA0) -/

set_option linter.unusedVariables false
set_option linter.unusedSimpArgs false
set_option maxRecDepth 100000
set_option maxHeartbeats 4000000
namespace Go.Vd
abbrev tN : List Int := [1, 0, 2]
abbrev tUF : List Int := [0, 1, 2, 2]
abbrev tU : List (Int × Int × Int × Int) := [(2, 1, 4294967295, 4294967295), (2, 5, 2, 0)]
abbrev tDF : List Int := [0, 1, 1, 1]
abbrev tD : List (Int × Int × Int × Int) := [(1, 4, 4294967295, 4294967295)]
abbrev tAll : List (Int × Int × Int × Int × Int × Int × Int) := [(2, 1, 4294967295, 4294967295, 0, 2, 0), (2, 5, 2, 0, 1, 2, 1), (1, 4, 4294967295, 4294967295, 1, 0, 0)]
theorem Zlk : Zbu = some (tN, tUF, tU, tDF, tD) := by
 unfold Zbu; rfl
theorem t_f1 : ZaG tUF 2 = some .nil := by
 simp [ZaG, Zbe, Zd0, G, gt]
theorem t_f2 : ZaG tDF 1 = some .nil := by
 simp [ZaG, Zbe, Zd0, G, gt]
theorem t_o : Zcs tN = some .nil := by
 simp [Zcs, ZbV, Zd0, G, gt]
theorem Zka : Zbl tN tUF tU tDF tD = some (tAll, .nil) := by
 unfold Zbl
 simp [t_f1, t_f2, t_o, Zdl, ZcV, Zbx, ZaT, Zbz, ZaU, Zad, Zcf, Zc9, ZcP, Zcz, Zcj, Zd0, G, gt]
end Go.Vd

/-! (PrSim) -/

set_option linter.unusedVariables false
set_option linter.unusedSimpArgs false
namespace Go.Vd
variable {F T' W l : List Int}
theorem Zkt (hl : l.length ≤ 17592186043904) : Zdd l = some (ZT l) := by
 refine Ze2.1 ?_
 unfold Zdd
 rw [Zj0]
 refine ZH (fun s => 0 ≤ s.1 /\ s.1 ≤ (l.length : Int) /\ s.2.2 = ZT (l.take s.1.toNat) /\ At s.2.2 s.2.1) (fun s => ((l.length : Int) - s.1).toNat) ?_ ⟨by omega, by omega, rfl, At.nil⟩
 rintro ⟨i, f, s⟩ ⟨i0, i1, hs, hA⟩
 dsimp only at i0 i1 hs hA ⊢
 subst hs
 have hsl := ZjE (l.take i.toNat)
 have hsl2 : (l.take i.toNat).length ≤ l.length := List.length_take_le' _ _
 unfold Zcv
 rw [Zq]
 refine ⟨fun hi => ?_, fun hi => ?_⟩
 rotate_left
 ·simp only [Zc, Sum.elim_inr]; rw [List.take_of_length_le (by omega)]
 have hsn := ZiI i0 hi
 rw [T_G, Zq]
 refine ⟨i0, fun h0 => ?_, fun h0 => ?_⟩
 ·have hnv := hA.none h0
  rw [show Zcy (ZT (l.take i.toNat)) (gt l i) = ZT (l.take i.toNat) ++ [gt l i] from if_neg hnv] at hsn
  simp only [T_G, Zc, Sum.elim_inl]
  exact ⟨by omega, by omega, ⟨by omega, by omega, hsn.symm, hA.add hnv⟩, by omega⟩
 ·obtain ⟨hmem, hidx⟩ := hA.some h0
  have hlt := List.idxOf_lt_length_of_mem hmem
  rw [show Zcy (ZT (l.take i.toNat)) (gt l i) = (ZT (l.take i.toNat)).take ((ZT (l.take i.toNat)).idxOf (gt l i) + 1) from if_pos hmem] at hsn
  rw [T_G]
  refine ⟨by omega, Zo (fun g => ∀ k, g k = if k ∈ (ZT (l.take i.toNat)).drop ((f (gt l i)).getD 0).toNat then none else f k) ?_ fun g hg => ?_⟩
  ·have hdl : (((ZT (l.take i.toNat)).drop ((f (gt l i)).getD 0).toNat).length : Int) = ((ZT (l.take i.toNat)).length : Int) - (f (gt l i)).getD 0 := by rw [List.length_drop]; omega
   refine ZH (fun s => 0 ≤ s.2 /\ s.2 ≤ (((ZT (l.take i.toNat)).drop ((f (gt l i)).getD 0).toNat).length : Int) /\ ∀ k, s.1 k = if k ∈ ((ZT (l.take i.toNat)).drop ((f (gt l i)).getD 0).toNat).take s.2.toNat then none else f k)
    (fun s => ((((ZT (l.take i.toNat)).drop ((f (gt l i)).getD 0).toNat).length : Int) - s.2).toNat) ?_ ⟨by omega, by omega, fun k => by simp⟩
   rintro ⟨g, j⟩ ⟨j0, j1, hg⟩
   dsimp only at j0 j1 hg ⊢
   unfold Zcp
   rw [List.take_of_length_le (Nat.le_refl _)]
   simp only [Zq, T_G, Zc, Sum.elim_inl, Sum.elim_inr]
   refine ⟨fun hj => ⟨j0, by omega, ⟨by omega, by omega, fun k => ?_⟩, by omega⟩, fun hj k => ?_⟩
   ·rw [ZiY j0 hj]; simp only [hg, List.mem_append, List.mem_singleton]; split <;> simp_all
   ·rw [hg k, List.take_of_length_le (by omega)]
  ·simp only [T_G, Zc, Sum.elim_inl]
   have hcut := hA.cut hg
   rw [show ((f (gt l i)).getD 0).toNat = (ZT (l.take i.toNat)).idxOf (gt l i) + 1 from by omega] at hcut ⊢
   rw [← hsn] at hcut ⊢
   exact ⟨by omega, ⟨by omega, by omega, rfl, hcut⟩, by omega⟩
end Go.Vd

/-! (VeM) -/

set_option linter.unusedVariables false
set_option linter.unusedSimpArgs false
namespace Go.Vd
set_option linter.unusedSectionVars false
variable [Pins]
section
variable {P : Program} {H H' : AH} {E : Type} {C : CR E} {s : Value} {xs zs : List E} {W fp g : Fp}
structure News (C : CR E) (H : AH) (zs : List E) (css : List (List Value)) (g : Fp) : Prop where
 len : css.length = zs.length
 lt : Lt H g
 is : ∃ G : Nat -> Fp, ∀ (i : Nat) (x : E) (cs : List Value), zs[i]? = some x -> css[i]? = some cs -> C.rel H x cs (G i) /\ (∀ t ∈ G i, t ∈ g) /\ ∀ j, j < zs.length -> j ≠ i -> Dj (G i) (G j)
end
end Go.Vd

/-! (VeG) -/

set_option linter.unusedVariables false
set_option linter.unusedSimpArgs false
namespace Go.Vd
set_option linter.unusedSectionVars false
variable [Pins]
section
variable {P : Program} {H H' : AH} {F : Type} {enc : F -> List Value} {sz : Nat} {s : Value} {W fp g : Fp} {xs : List (Bool × List F × List F)} {hol : List (Nat × Bool)}
def sdG (k : Bool) (x : Bool × List F × List F) : List F := match k with | false => x.2.1 | true => x.2.2
def sdH (k : Bool) (h1 h2 : Value) : Value := match k with | false => h1 | true => h2
structure Nd {F : Type} (enc : F -> List Value) (sz : Nat) (H : AH) (s : Value) (xs : List (Bool × List F × List F)) (fp : Fp) (hol : List (Nat × Bool)) : Prop where
 lt : Lt H fp
 is : ∃ (css : List (List Value)) (f0 : Fp) (G : Nat -> Bool -> Fp), Ow id 3 H s css f0 /\ (∀ t ∈ f0, t ∈ fp) /\ css.length = xs.length /\
  (∀ (i : Nat) (x : Bool × List F × List F) (cs : List Value), xs[i]? = some x -> css[i]? = some cs -> ∃ h1 h2, cs = [.bool x.1, h1, h2] /\ h1.oneCell' = true /\ h2.oneCell' = true /\
   ∀ k, (i, k) ∉ hol -> Ow enc sz H (sdH k h1 h2) (sdG k x) (G i k)) /\
  (∀ i k, i < xs.length -> (i, k) ∉ hol -> (∀ t ∈ G i k, t ∈ fp) /\ Dj f0 (G i k) /\ ∀ j l, j < xs.length -> (j, l) ∉ hol -> (j, l) ≠ (i, k) -> Dj (G i k) (G j l))
end
end Go.Vd

/-! (Sp7) -/

set_option linter.unusedVariables false
set_option linter.unusedSimpArgs false
namespace Go.Vd
def DC (cs : List (Int × Int)) (v : Int) : Option Int := if 0 ≤ v /\ v < (cs.length : Int) /\ (gt cs v).2 = 1 then some (gt cs v).1 else none
theorem ZlM {cs : List (Int × Int)} {x d : Int} (x0 : 0 ≤ x) (x1 : x < (cs.length : Int)) (v : Int) : DC (cs.set x.toNat (d, 1)) v = if v = x then some d else DC cs v := by
 unfold DC
 rw [List.length_set]
 by_cases h0 : 0 ≤ v
 ·rw [Zbj x0 x1 h0]
  by_cases e : v = x
  ·subst e; simp [x0, x1]
  ·simp [e]
 ·rw [if_neg (by omega), if_neg (by omega), if_neg (by omega)]
theorem Zit {cs : List (Int × Int)} {c i : Int} (i0 : 0 ≤ i) (i1 : i < (cs.length : Int)) : ZaR cs 1 c i = some (match DC cs i with | some k => (k, true) | none => (0, false)) := by
 refine Ze2.1 ?_
 unfold ZaR
 refine Zo (fun o => o = !decide ((gt cs i).2 = 1)) ?_ fun o ho => ?_
 ·simp only [Zq, T_G, Zc]
  exact ⟨fun h => by omega, fun _ => ⟨fun h => by omega, fun _ => ⟨⟨i0, i1⟩, trivial⟩⟩⟩
 subst ho
 by_cases h : (gt cs i).2 = 1
 ·have hd : DC cs i = some (gt cs i).1 := if_pos ⟨i0, i1, h⟩
  rw [hd]
  simp [h, i0, i1]
 ·have hd : DC cs i = none := if_neg (fun k => h k.2.2)
  rw [hd]
  simp [h]
theorem Hp.keys {n : Int} {h : List (Int × Int)} {a : List Int} {K K' : Int -> Option Int} (H : Hp n h a K) (e : ∀ v, 0 ≤ v -> v < n -> K v = K' v) : Hp n h a K' :=
 ⟨H.len, H.small, H.ix, fun v v0 v1 => (H.key v v0 v1).trans (e v v0 v1)⟩
theorem ZgP {E : Type} [Inhabited E] {m : Nat} {x : Int} : gt (List.replicate m (default : E)) x = default := by
 unfold gt
 rw [List.getD_eq_getElem?_getD, List.getElem?_replicate]
 split <;> rfl
theorem ZjY {n : Int} (n0 : 0 ≤ n) (n1 : n ≤ 65536) : Zdr n = some (Sum.inr (List.replicate n.toNat 0)) := by
 refine Ze2.1 ?_
 unfold Zdr
 refine Zo (fun o => o = false) ?_ ?_
 ·simp only [Zq, Zc]; exact ⟨fun h => by omega, fun _ => by simp; omega⟩
 ·rintro _ rfl
  rw [if_neg (by decide)]
  simp only [T_G, Zc, and_true]; omega
theorem ZlG {n : Int} (n0 : 0 ≤ n) (n1 : n ≤ 65536) : Zdw n 1 = some (Sum.inr (List.replicate n.toNat (0, 0), 1)) := by
 refine Ze2.1 ?_
 unfold Zdw
 refine Zo (fun o => o = false) ?_ ?_
 ·simp only [Zq, Zc]; exact ⟨fun h => by omega, fun _ => by simp; omega⟩
 ·rintro _ rfl
  rw [if_neg (by decide)]
  simp only [T_G, Zc]
  exact ⟨by omega, rfl⟩
theorem Hp.empty {n : Int} {m : Nat} (hm : (m : Int) = n) : Hp n [] (List.replicate m (0 : Int)) (fun _ => none) := by
 have h0 : ∀ v, gt (List.replicate m (0 : Int)) v = 0 := fun v => ZgP (E := Int)
 exact ⟨by simp; omega, by simp, ⟨fun p p0 p1 => by simp at p1; omega, fun v v0 v1 => by rw [h0]; exact ⟨by omega, by simp, fun k => absurd rfl k⟩⟩, fun v v0 v1 => by unfold Kf; rw [h0, if_pos rfl]⟩
end Go.Vd

/-! (Mo0) -/

namespace Go.Vd
theorem Zgq {E : Type} [Inhabited E] {l : List E} {i : Int} (h0 : 0 ≤ i) (h1 : i < (l.length : Int)) : l.take (i + 1).toNat = l.take i.toNat ++ [gt l i] := by
 have hi : i.toNat < l.length := by omega
 rw [show (i + 1).toNat = i.toNat + 1 from by omega, List.take_add_one, List.getElem?_eq_getElem hi]
 have : gt l i = l[i.toNat] := by simp [gt, List.getD_eq_getElem?_getD, hi]
 rw [this]; rfl
theorem ZcQ {E : Type} [Inhabited E] {l : List E} {i j : Int} {v : E} (i0 : 0 ≤ i) (i1 : i < (l.length : Int)) (j0 : 0 ≤ j) : gt (l.set i.toNat v) j = if j = i then v else gt l j := by
 unfold gt
 rw [List.getD_eq_getElem?_getD, List.getD_eq_getElem?_getD, List.getElem?_set]
 by_cases h : j = i
 ·subst h; rw [if_pos rfl, if_pos rfl, if_pos (by omega)]; rfl
 ·rw [if_neg h, if_neg (by omega)]
theorem Zks {E : Type} [Inhabited E] {l m : List E} (hl : l.length = m.length) (h : ∀ j : Int, 0 ≤ j -> j < (l.length : Int) -> gt l j = gt m j) : l = m := by
 refine List.ext_getElem hl fun j h1 h2 => ?_
 have := h (j : Int) (by omega) (by omega)
 rwa [Zb5 h1, Zb5 h2] at this
end Go.Vd

/-! (Gb) -/

set_option linter.unusedVariables false
set_option linter.unusedSimpArgs false
namespace Go.Vd
abbrev A3 := Int × Int × Int
theorem eq3 {x y : A3} (h1 : x.1 = y.1) (h2 : x.2.1 = y.2.1) (h3 : x.2.2 = y.2.2) : x = y := by
 obtain ⟨a, b, c⟩ := x; obtain ⟨a', b', c'⟩ := y
 simp only at h1 h2 h3
 subst h1; subst h2; subst h3; rfl
theorem ZcE {E : Type} [Inhabited E] {l : List E} {x : E} (h : x ∈ l) : ∃ i : Int, 0 ≤ i /\ i < (l.length : Int) /\ x = gt l i := by
 obtain ⟨i, hi, rfl⟩ := List.getElem_of_mem h
 exact ⟨i, by omega, by omega, (Zb5 hi).symm⟩
end Go.Vd

/-! (HrA) -/

set_option linter.unusedVariables false
set_option linter.unusedSimpArgs false
set_option maxHeartbeats 1000000
namespace Go.Vd
abbrev B4 := Int × Int × Int × Int
abbrev E7 := Int × Int × Int × Int × Int × Int × Int
abbrev E8 := Int × Int × Int × Int × Int × Int × Int × Int
abbrev W32 (l : List Int) : Prop := ∀ x ∈ l, (0 ≤ x /\ x ≤ 4294967295)
abbrev WL (l : List B4) : Prop := ∀ x ∈ l, (0 ≤ x.1 /\ x.1 ≤ 4294967295) /\ (0 ≤ x.2.1 /\ x.2.1 ≤ 18446744073709551615) /\ (0 ≤ x.2.2.1 /\ x.2.2.1 ≤ 4294967295) /\ (0 ≤ x.2.2.2 /\ x.2.2.2 ≤ 4294967295)
structure Fst (l : List Int) (k : Int) : Prop where
 z : gt l 0 = 0
 up : ∀ r, 0 ≤ r -> r < (l.length : Int) - 1 -> gt l r ≤ gt l (r + 1)
 e : gt l ((l.length : Int) - 1) = k
def Rk (l : List Int) (i r : Int) : Prop := 0 ≤ r /\ r < (l.length : Int) - 1 /\ gt l r ≤ i /\ i < gt l (r + 1)
variable {l N UF DF : List Int} {U D : List B4} {k i r : Int} {all : List E7}
theorem Fst.mono (h : Fst l k) : ∀ (m : Nat) (a : Int), 0 ≤ a -> a + m ≤ (l.length : Int) - 1 -> gt l a ≤ gt l (a + m) := by
 intro m
 induction m with
 | zero => intro a _ _; simp
 | succ m ih =>
  intro a a0 a1
  have h1 := ih a a0 (by omega)
  have h2 := h.up (a + m) (by omega) (by omega)
  rw [show a + ((m + 1 : Nat) : Int) = a + m + 1 from by omega]; omega
theorem Fst.le (h : Fst l k) {a b : Int} (a0 : 0 ≤ a) (ab : a ≤ b) (b1 : b ≤ (l.length : Int) - 1) : gt l a ≤ gt l b := by
 have := h.mono (b - a).toNat a a0 (by omega)
 rwa [show a + ((b - a).toNat : Int) = b from by omega] at this
theorem Fst.uniq (h : Fst l k) {r' : Int} (h1 : Rk l i r) (h2 : Rk l i r') : r = r' := by
 obtain ⟨a0, a1, a2, a3⟩ := h1
 obtain ⟨b0, b1, b2, b3⟩ := h2
 rcases Int.lt_trichotomy r r' with q | q | q
 ·have := h.le (a := r + 1) (b := r') (by omega) (by omega) (by omega); omega
 ·exact q
 ·have := h.le (a := r' + 1) (b := r) (by omega) (by omega) (by omega); omega
theorem Fst.rk (h : Fst l k) (i0 : 0 ≤ i) (i1 : i < k) (hl : 0 < (l.length : Int)) : ∃ r, Rk l i r := by
 have key : ∀ m : Nat, (m : Int) ≤ (l.length : Int) - 1 -> i < gt l m -> ∃ r, Rk l i r := by
  intro m
  induction m with
  | zero => intro _ q; rw [show ((0 : Nat) : Int) = 0 from rfl, h.z] at q; omega
  | succ m ih =>
   intro hm q
   by_cases e : i < gt l m
   ·exact ih (by omega) e
   ·exact ⟨m, by omega, by omega, by omega, by rw [show ((m + 1 : Nat) : Int) = (m : Int) + 1 from rfl] at q; exact q⟩
 exact key (l.length - 1) (by omega) (by rw [show ((l.length - 1 : Nat) : Int) = (l.length : Int) - 1 from by omega, h.e]; exact i1)
theorem ZhS {a b n : Int} : Zba a b (.no n) = some (.at a b (.no n)) := by
 unfold Zba; rw [if_neg (by simp)]
def Zeh (l : List Int) : Prop := (∀ r, 0 ≤ r -> r < (l.length : Int) -> 0 ≤ gt l r /\ gt l r < (l.length : Int)) /\ ∀ r r', 0 ≤ r -> r < (l.length : Int) -> 0 ≤ r' -> r' < (l.length : Int) -> gt l r = gt l r' -> r = r'
end Go.Vd

/-! (HrB) -/

set_option linter.unusedVariables false
set_option linter.unusedSimpArgs false
set_option maxHeartbeats 2000000
namespace Go.Vd
variable {l N UF DF : List Int} {U D : List B4} {k i r : Int} {all : List E7} {ok_ : List E8 -> Bool}
theorem ZdN {E : Type} [Inhabited E] {l : List E} {y : E} {j : Int} (j0 : 0 ≤ j) (j1 : j < (l.length : Int) + 1) : gt (l ++ [y]) j = if j = l.length then y else gt l j := by
 obtain ⟨j, rfl⟩ := Int.eq_ofNat_of_zero_le j0
 by_cases h : (j : Int) = l.length
 ·rw [if_pos h]
  have : j = l.length := by omega
  subst this
  simp [gt, List.getD_eq_getElem?_getD]
 ·rw [if_neg h]
  have : j < l.length := by omega
  simp [gt, List.getD_eq_getElem?_getD, List.getElem?_append_left this]
theorem ZhO {E : Type} [Inhabited E] {L : List E} {a b j : Int} (a0 : 0 ≤ a) (j0 : 0 ≤ j) (h : a + j < b) (hb : b ≤ (L.length : Int)) : gt ((L.take b.toNat).drop a.toNat) j = gt L (a + j) := by
 obtain ⟨j, rfl⟩ := Int.eq_ofNat_of_zero_le j0
 obtain ⟨a, rfl⟩ := Int.eq_ofNat_of_zero_le a0
 rw [Zb5 (by simp; omega), show (a : Int) + (j : Int) = ((a + j : Nat) : Int) from by omega, Zb5 (by omega)]
 simp [List.getElem_drop, List.getElem_take]
theorem ZgZ {E : Type} {L : List E} {a b : Int} (a0 : 0 ≤ a) (ab : a ≤ b) (hb : b ≤ (L.length : Int)) : (((L.take b.toNat).drop a.toNat).length : Int) = b - a := by
 simp; omega
def upE (i r : Int) (x : B4) : E8 := (i, x.1, x.2.1, x.2.2.1, x.2.2.2, r, x.1, r)
def dnE (i r : Int) (x : B4) : E8 := (i, x.1, x.2.1, x.2.2.1, x.2.2.2, x.1, r, r)
def UpT (UF : List Int) (U : List B4) (m : Int) (t : List E8) : Prop := ∀ i, 0 ≤ i -> i < m -> ∀ r, Rk UF i r -> gt t i = upE i r (gt U i)
def DnT (u : Int) (DF : List Int) (D : List B4) (m : Int) (t : List E8) : Prop := ∀ i, 0 ≤ i -> i < m -> ∀ r, Rk DF i r -> gt t (u + i) = dnE (u + i) r (gt D i)
theorem p_ups (hok : ∀ t : List E8, t.length ≤ 3000000 -> ok_ t = true) (hf : Fst UF (U.length : Int)) (hn : (UF.length : Int) = N.length + 1) (hN : N.length ≤ 65536) (hl : U.length ≤ 1048576) (hU : WL U) :
  T (Zz (fun zz_ => ZaT ok_ N UF U zz_.1 zz_.2.1 zz_.2.2) ([], 0, 0)) fun o => (o.1.length : Int) = U.length /\ o.2 = (U.length : Int) /\ UpT UF U (U.length : Int) o.1 := by
 have fin : gt UF (N.length : Int) = U.length := by
  have := hf.e; rwa [show (UF.length : Int) - 1 = N.length from by omega] at this
 refine ZH (fun z => 0 ≤ z.2.1 /\ z.2.1 ≤ (N.length : Int) /\ z.2.2 = gt UF z.2.1 /\ (z.1.length : Int) = gt UF z.2.1 /\ UpT UF U (gt UF z.2.1) z.1) (fun z => ((N.length : Int) - z.2.1).toNat) ?_ ⟨by simp, by simp, hf.z.symm, by simp [hf.z], fun i i0 i1 => by dsimp only at i1; rw [hf.z] at i1; omega⟩
 rintro ⟨y, q, c⟩ ⟨q0, q1, hcc, hy, ht⟩
 dsimp only at *
 subst hcc
 unfold ZaT
 rw [Zq]
 refine ⟨fun hq => ?_, fun hq => ?_⟩
 rotate_left
 ·have e : q = N.length := by omega
  subst e
  rw [fin] at hy ht ⊢
  simp only [Zc, Sum.elim_inr]
  exact ⟨hy, trivial, ht⟩
 have m1 := hf.up q q0 (by omega)
 have m0 := hf.le (a := 0) (b := q) (by omega) q0 (by omega)
 have m2 := hf.le (a := q + 1) (b := N.length) (by omega) (by omega) (by omega)
 rw [hf.z] at m0
 rw [fin] at m2
 simp only [T_G]
 refine ⟨by omega, by omega, by omega, by omega, ?_⟩
 refine Zo (fun o => (o.1.length : Int) = gt UF (q + 1) /\ o.2 = gt UF (q + 1) /\ UpT UF U (gt UF (q + 1)) o.1) ?_ ?_
 ·have ls := ZgZ (L := U) m0 m1 m2
  refine ZH (fun z => 0 ≤ z.2.2 /\ z.2.2 ≤ gt UF (q + 1) - gt UF q /\ z.2.1 = gt UF q + z.2.2 /\ (z.1.length : Int) = gt UF q + z.2.2 /\ UpT UF U (gt UF q + z.2.2) z.1) (fun z => (gt UF (q + 1) - gt UF q - z.2.2).toNat) ?_ ⟨by simp, by simp; omega, by simp, by simpa using hy, by simpa using ht⟩
  rintro ⟨y, c, j⟩ ⟨j0, j1, hcc, hy, ht⟩
  dsimp only at *
  subst hcc
  unfold Zbx
  rw [ls, Zq]
  refine ⟨fun hj => ?_, fun hj => ?_⟩
  rotate_left
  ·have e : gt UF q + j = gt UF (q + 1) := by omega
   rw [e] at hy ht ⊢
   simp only [Zc, Sum.elim_inr]
   exact ⟨hy, trivial, ht⟩
  rw [ZhO m0 j0 (by omega) m2]
  have hx := hU _ (Zah (xs := U) (i := gt UF q + j) (by omega) (by omega))
  simp only [T_G, Zc, Sum.elim_inl]
  refine ⟨j0, by omega, hok _ (by simp; omega), by omega, by omega, ⟨by omega, by omega, by omega, by simp; omega, fun i i0 i1 r hr => ?_⟩, by omega⟩
  rw [ZdN i0 (by omega), hy]
  by_cases e : i = gt UF q + j
  ·rw [if_pos e]
   have : Rk UF i q := ⟨q0, by omega, by omega, by omega⟩
   obtain rfl := hf.uniq hr this
   rw [e]; rfl
  ·rw [if_neg e]; exact ht i i0 (by omega) r hr
 ·rintro ⟨y', c'⟩ ⟨h1, h2, h3⟩
  dsimp only at *
  simp only [Zc, Sum.elim_inl]
  exact ⟨⟨by omega, by omega, h2, h1, h3⟩, by omega⟩
theorem p_dns {t0 : List E8} {u : Int} (u0 : 0 ≤ u) (hu : (t0.length : Int) = u) (hul : u ≤ 1048576) (hok : ∀ t : List E8, t.length ≤ 3000000 -> ok_ t = true) (hf : Fst DF (D.length : Int)) (hn : (DF.length : Int) = N.length + 1) (hN : N.length ≤ 65536) (hl : D.length ≤ 1048576) (hU : WL D) :
  T (Zz (fun zz_ => ZaU ok_ N DF D zz_.1 zz_.2.1 zz_.2.2) (t0, u, 0)) fun o => (o.length : Int) = u + D.length /\ (∀ i, 0 ≤ i -> i < u -> gt o i = gt t0 i) /\ DnT u DF D (D.length : Int) o := by
 have fin : gt DF (N.length : Int) = D.length := by
  have := hf.e; rwa [show (DF.length : Int) - 1 = N.length from by omega] at this
 refine ZH (fun z => 0 ≤ z.2.2 /\ z.2.2 ≤ (N.length : Int) /\ z.2.1 = u + gt DF z.2.2 /\ (z.1.length : Int) = u + gt DF z.2.2 /\ (∀ i, 0 ≤ i -> i < u -> gt z.1 i = gt t0 i) /\ DnT u DF D (gt DF z.2.2) z.1) (fun z => ((N.length : Int) - z.2.2).toNat) ?_ ⟨by simp, by simp, by simp [hf.z], by simp [hf.z, hu], fun i _ _ => rfl, fun i i0 i1 => by dsimp only at i1; rw [hf.z] at i1; omega⟩
 rintro ⟨y, c, q⟩ ⟨q0, q1, hcc, hy, hk, ht⟩
 dsimp only at *
 subst hcc
 unfold ZaU
 rw [Zq]
 refine ⟨fun hq => ?_, fun hq => ?_⟩
 rotate_left
 ·have e : q = N.length := by omega
  subst e
  rw [fin] at hy ht
  simp only [Zc, Sum.elim_inr]
  exact ⟨hy, hk, ht⟩
 have m1 := hf.up q q0 (by omega)
 have m0 := hf.le (a := 0) (b := q) (by omega) q0 (by omega)
 have m2 := hf.le (a := q + 1) (b := N.length) (by omega) (by omega) (by omega)
 rw [hf.z] at m0
 rw [fin] at m2
 simp only [T_G]
 refine ⟨by omega, by omega, by omega, by omega, ?_⟩
 refine Zo (fun o => (o.1.length : Int) = u + gt DF (q + 1) /\ o.2 = u + gt DF (q + 1) /\ (∀ i, 0 ≤ i -> i < u -> gt o.1 i = gt t0 i) /\ DnT u DF D (gt DF (q + 1)) o.1) ?_ ?_
 ·have ls := ZgZ (L := D) m0 m1 m2
  refine ZH (fun z => 0 ≤ z.2.2 /\ z.2.2 ≤ gt DF (q + 1) - gt DF q /\ z.2.1 = u + gt DF q + z.2.2 /\ (z.1.length : Int) = u + gt DF q + z.2.2 /\ (∀ i, 0 ≤ i -> i < u -> gt z.1 i = gt t0 i) /\ DnT u DF D (gt DF q + z.2.2) z.1) (fun z => (gt DF (q + 1) - gt DF q - z.2.2).toNat) ?_ ⟨by simp, by simp; omega, by simp, by simpa using hy, hk, by simpa using ht⟩
  rintro ⟨y, c, j⟩ ⟨j0, j1, hcc, hy, hk, ht⟩
  dsimp only at *
  subst hcc
  unfold Zbz
  rw [ls, Zq]
  refine ⟨fun hj => ?_, fun hj => ?_⟩
  rotate_left
  ·have e : gt DF q + j = gt DF (q + 1) := by omega
   rw [e] at ht
   simp only [Zc, Sum.elim_inr]
   exact ⟨by omega, by omega, hk, ht⟩
  rw [ZhO m0 j0 (by omega) m2]
  have hx := hU _ (Zah (xs := D) (i := gt DF q + j) (by omega) (by omega))
  simp only [T_G, Zc, Sum.elim_inl]
  refine ⟨j0, by omega, hok _ (by simp; omega), by omega, by omega, ⟨by omega, by omega, by omega, by simp; omega, fun i i0 i1 => ?_, fun i i0 i1 r hr => ?_⟩, by omega⟩
  ·rw [ZdN i0 (by omega), if_neg (by omega)]; exact hk i i0 i1
  rw [ZdN (by omega) (by omega), hy]
  by_cases e : i = gt DF q + j
  ·rw [if_pos (by omega)]
   have : Rk DF i q := ⟨q0, by omega, by omega, by omega⟩
   obtain rfl := hf.uniq hr this
   rw [e]; unfold dnE; rw [Int.add_assoc]
  ·rw [if_neg (by omega)]; exact ht i i0 (by omega) r hr
 ·rintro ⟨y', c'⟩ ⟨h1, h2, h3, h4⟩
  dsimp only at *
  simp only [Zc, Sum.elim_inl]
  exact ⟨⟨by omega, by omega, h2, h1, h3, h4⟩, by omega⟩
theorem Zh7 : ∀ (t : List E8) (acc : List E7), acc.length + t.length ≤ 2000000000 -> Zc9 (fun x_ zz_ => Zad x_ zz_) acc t = some (acc ++ t.map (·.2)) := by
 intro t
 induction t with
 | nil => intro acc _; simp [Zc9]
 | cons x t ih =>
  intro acc h
  simp only [List.length_cons] at h
  have e : Zad x acc = some (acc ++ [x.2]) := by
   unfold Zad G
   rw [if_pos (by omega)]
  simp only [Zc9]
  rw [e, Option.bind_some, ih _ (by simp; omega)]
  simp
end Go.Vd

/-! (HrC) -/

set_option linter.unusedVariables false
set_option linter.unusedSimpArgs false
set_option maxHeartbeats 2000000
namespace Go.Vd
variable {l N UF DF : List Int} {U D : List B4} {k i r : Int} {all : List E7}
def lnk (U D : List B4) (i : Int) : B4 := if i < (U.length : Int) then gt U i else gt D (i - U.length)
theorem ZeW (hU : WL U) (hD : WL D) (i0 : 0 ≤ i) (i1 : i < (U.length : Int) + D.length) : (0 ≤ (lnk U D i).1 /\ (lnk U D i).1 ≤ 4294967295) /\ (0 ≤ (lnk U D i).2.1 /\ (lnk U D i).2.1 ≤ 18446744073709551615) /\ (0 ≤ (lnk U D i).2.2.1 /\ (lnk U D i).2.2.1 ≤ 4294967295) /\ (0 ≤ (lnk U D i).2.2.2 /\ (lnk U D i).2.2.2 ≤ 4294967295) := by
 unfold lnk
 by_cases h : i < (U.length : Int)
 ·rw [if_pos h]; exact hU _ (Zah i0 h)
 ·rw [if_neg h]; exact hD _ (Zah (by omega) (by omega))
structure AllS (N : List Int) (U D : List B4) (all : List E7) : Prop where
 len : (all.length : Int) = U.length + D.length
 at' : ∀ i, 0 ≤ i -> i < (all.length : Int) -> ∃ r, 0 ≤ r /\ r < (N.length : Int) /\ gt all i = ((lnk U D i).1, (lnk U D i).2.1, (lnk U D i).2.2.1, (lnk U D i).2.2.2, (if i < (U.length : Int) then r else (lnk U D i).1), (if i < (U.length : Int) then (lnk U D i).1 else r), r)
theorem ZkI {E F : Type} [Inhabited E] [Inhabited F] {l : List E} {f : E -> F} {i : Int} (i0 : 0 ≤ i) (i1 : i < (l.length : Int)) : gt (l.map f) i = f (gt l i) := by
 obtain ⟨i, rfl⟩ := Int.eq_ofNat_of_zero_le i0
 rw [Zb5 (show i < (l.map f).length by simp; omega), Zb5 (by omega)]; simp
theorem ZiU {a b c d : Int} : Zcj a b c d = some (decide (c = 4294967295 /\ d = 4294967295)) := by
 unfold Zcj
 by_cases h : c = 4294967295 <;> simp [h]
def Shp (N : List Int) (U : List B4) (all : List E7) (i : Int) : Prop :=
 (gt all i).1 < (N.length : Int) /\ (gt all i).2.2.2.2.2.2 < (gt all i).1 /\ (¬ ((gt all i).2.2.1 = 4294967295 /\ (gt all i).2.2.2.1 = 4294967295) ->
  (U.length : Int) ≤ (gt all i).2.2.1 /\ (gt all i).2.2.1 < (all.length : Int) /\ (gt all i).2.2.2.1 < (U.length : Int) /\
  (gt all (gt all i).2.2.1).2.2.2.2.1 = (gt all i).2.2.2.2.1 /\ (gt all (gt all i).2.2.2.1).2.2.2.2.2.1 = (gt all i).2.2.2.2.2.1 /\ (gt all (gt all i).2.2.1).2.2.2.2.2.2 = (gt all (gt all i).2.2.2.1).2.2.2.2.2.2)
def Wgt (all : List E7) (i : Int) : Prop :=
 ¬ ((gt all i).2.2.1 = 4294967295 /\ (gt all i).2.2.2.1 = 4294967295) -> 0 ≤ (gt all (gt all i).2.2.1).2.1 + (gt all (gt all i).2.2.2.1).2.1 /\ (gt all (gt all i).2.2.1).2.1 + (gt all (gt all i).2.2.2.1).2.1 ≤ 18446744073709551615 /\ (gt all (gt all i).2.2.1).2.1 + (gt all (gt all i).2.2.2.1).2.1 = (gt all i).2.1
theorem AllS.rng (h : AllS N U D all) (hU : WL U) (hD : WL D) (i0 : 0 ≤ i) (i1 : i < (all.length : Int)) : (0 ≤ (gt all i).1 /\ (gt all i).1 ≤ 4294967295) /\ (0 ≤ (gt all i).2.1 /\ (gt all i).2.1 ≤ 18446744073709551615) /\ (0 ≤ (gt all i).2.2.1 /\ (gt all i).2.2.1 ≤ 4294967295) /\ (0 ≤ (gt all i).2.2.2.1 /\ (gt all i).2.2.2.1 ≤ 4294967295) := by
 obtain ⟨r, _, _, e⟩ := h.at' i i0 i1
 rw [e]
 exact ZeW hU hD i0 (by have := h.len; omega)
structure Form (N : List Int) (U D : List B4) (all : List E7) : Prop where
 as' : AllS N U D all
 ord : Zeh N
 n : N.length ≤ 65536
 m : U.length + D.length ≤ 1048576
 shp : ∀ i, 0 ≤ i -> i < (all.length : Int) -> Shp N U all i
 wgt : ∀ i, 0 ≤ i -> i < (all.length : Int) -> Wgt all i
end Go.Vd

/-! (HxA) -/

set_option linter.unusedVariables false
set_option linter.unusedSimpArgs false
set_option maxHeartbeats 1000000
namespace Go.Vd
variable {l N UF DF : List Int} {U D : List B4} {k i r : Int} {all : List E7}
inductive FstA (l : List Int) (k : Int) : Er -> Prop
 | z : gt l 0 ≠ 0 -> FstA l k (.no 14)
 | dn (r : Int) : gt l 0 = 0 -> 0 ≤ r -> r < (l.length : Int) - 1 -> (∀ q, 0 ≤ q -> q < r -> gt l q ≤ gt l (q + 1)) -> gt l (r + 1) < gt l r -> FstA l k (.at 3 r (.no 14))
 | e : gt l 0 = 0 -> (∀ q, 0 ≤ q -> q < (l.length : Int) - 1 -> gt l q ≤ gt l (q + 1)) -> gt l ((l.length : Int) - 1) ≠ k -> FstA l k (.no 14)
 | ok : Fst l k -> FstA l k .nil
theorem FstA.uniq {a b : Er} (h : FstA l k a) (g : FstA l k b) : a = b := by
 cases h with
 | z h1 =>
  cases g with
  | z _ => rfl
  | dn _ g1 => exact absurd g1 h1
  | e g1 _ _ => exact absurd g1 h1
  | ok g => exact absurd g.z h1
 | dn r h1 h2 h3 h4 h5 =>
  cases g with
  | z g1 => exact absurd h1 g1
  | dn r' g1 g2 g3 g4 g5 =>
   rcases Int.lt_trichotomy r r' with q | q | q
   ·have := g4 r h2 q; omega
   ·subst q; rfl
   ·have := h4 r' g2 q; omega
  | e _ g2 _ => have := g2 r h2 h3; omega
  | ok g => have := g.up r h2 h3; omega
 | e h1 h2 h3 =>
  cases g with
  | z g1 => exact absurd h1 g1
  | dn r' g1 g2 g3 g4 g5 => have := h2 r' g2 g3; omega
  | e _ _ _ => rfl
  | ok g => exact absurd g.e h3
 | ok h =>
  cases g with
  | z g1 => exact absurd h.z g1
  | dn r' g1 g2 g3 g4 g5 => have := h.up r' g2 g3; omega
  | e _ _ g3 => exact absurd h.e g3
  | ok _ => rfl
theorem Zhy (hw : W32 l) (h0 : 0 < (l.length : Int)) (hl : l.length ≤ 1000000) : T (ZaG l k) (FstA l k) := by
 unfold ZaG
 rw [T_G, Zq]
 refine ⟨h0, fun hz => ?_, fun hz => by simp only [Zc]; exact .z hz⟩
 rw [T_G]
 refine ⟨by omega, Za0 (fun _ => ∀ r, 0 ≤ r -> r < (l.length : Int) - 1 -> gt l r ≤ gt l (r + 1)) ?_ fun _ hu => ?_⟩
 ·refine ZH (fun i => 0 ≤ i /\ i ≤ (l.length : Int) - 1 /\ ∀ r, 0 ≤ r -> r < i -> gt l r ≤ gt l (r + 1)) (fun i => ((l.length : Int) - 1 - i).toNat) ?_ ⟨by simp, by omega, fun r r0 r1 => by omega⟩
  rintro i ⟨i0, i1, hi⟩
  unfold Zbe
  rw [ZhS]
  simp only [Zq, T_G, Zdp, Zc, Option.bind_some, Sum.elim_inl, Sum.elim_inr]
  refine ⟨fun hlt => ⟨by omega, by omega, by omega, fun hd => .dn i hz i0 hlt hi hd, fun hge => ⟨by omega, ⟨by omega, by omega, fun r r0 r1 => ?_⟩, by omega⟩⟩, fun hge r r0 r1 => hi r r0 (by omega)⟩
  by_cases e : r = i
  ·subst e; omega
  ·exact hi r r0 (by omega)
 ·have := hw _ (Zah (i := (l.length : Int) - 1) (by omega) (by omega))
  simp only [T_G, Zq, Zc]
  exact ⟨by omega, by omega, fun he => .ok ⟨hz, hu, he⟩, fun he => .e hz hu he⟩
theorem ZhQ {a b c : Int} : Zai a b c [] = some (c, [(a, b)]) := p_At (by simp)
theorem Zhq {n : Int} (hw : W32 l) (hn : (l.length : Int) = n + 1) (h0 : 0 ≤ n) (hl : l.length ≤ 1000000) (k0 : 0 ≤ k) (k1 : k ≤ 9223372036854775807) : T (ZaB l n k) fun x => ∃ er, FstA l k er /\ x = (er.code, er.pls) := by
 unfold ZaB
 rw [T_G, Zq]
 refine ⟨by omega, fun hz => ?_, fun hz => by rw [p_E, Option.bind_some, Zc]; exact ⟨_, .z hz, rfl⟩⟩
 refine Za0 (fun _ => ∀ r, 0 ≤ r -> r < (l.length : Int) - 1 -> gt l r ≤ gt l (r + 1)) ?_ fun _ hu => ?_
 ·refine ZH (fun i => 0 ≤ i /\ i ≤ n /\ ∀ r, 0 ≤ r -> r < i -> gt l r ≤ gt l (r + 1)) (fun i => (n - i).toNat) ?_ ⟨by simp, by omega, fun r r0 r1 => by omega⟩
  rintro i ⟨i0, i1, hi⟩
  unfold ZaD
  rw [p_E, Option.bind_some, ZhQ]
  simp only [Zq, T_G, Zdp, Zc, Option.bind_some, Sum.elim_inl, Sum.elim_inr]
  refine ⟨fun hlt => ⟨by omega, by omega, by omega, fun hd => ⟨_, .dn i hz i0 (by omega) hi hd, rfl⟩, fun hge => ⟨by omega, ⟨by omega, by omega, fun r r0 r1 => ?_⟩, by omega⟩⟩, fun hge r r0 r1 => hi r r0 (by omega)⟩
  by_cases e : r = i
  ·subst e; omega
  ·exact hi r r0 (by omega)
 ·have en : n = (l.length : Int) - 1 := by omega
  have := hw _ (Zah (i := n) h0 (by omega))
  rw [p_E, Option.bind_some]
  simp only [T_G, Zq, Zc]
  refine ⟨by omega, by omega, by omega, fun he => ⟨.nil, .ok ⟨hz, hu, by rw [← en]; exact he⟩, rfl⟩, fun he => ⟨_, .e hz hu (by rw [← en]; exact he), rfl⟩⟩
inductive OrdA (l : List Int) : Er -> Prop
 | bad (r : Int) : 0 ≤ r -> r < (l.length : Int) -> (∀ q, 0 ≤ q -> q < r -> gt l q < (l.length : Int)) -> (∀ q p, 0 ≤ q -> q < p -> p < r -> gt l q ≠ gt l p) -> (gt l r ≥ (l.length : Int) ∨ ∃ q, 0 ≤ q /\ q < r /\ gt l q = gt l r) -> OrdA l (.at 3 r (.no 20))
 | ok : Zeh l -> OrdA l .nil
theorem OrdA.uniq {a b : Er} (h : OrdA l a) (g : OrdA l b) : a = b := by
 cases h with
 | bad r h1 h2 h3 h4 h5 =>
  cases g with
  | bad r' g1 g2 g3 g4 g5 =>
   rcases Int.lt_trichotomy r r' with q | q | q
   ·rcases h5 with h5 | ⟨p, p0, p1, p2⟩
    ·have := g3 r h1 q; omega
    ·exact absurd p2 (g4 p r p0 p1 q)
   ·subst q; rfl
   ·rcases g5 with g5 | ⟨p, p0, p1, p2⟩
    ·have := h3 r' g1 q; omega
    ·exact absurd p2 (h4 p r' p0 p1 q)
  | ok g =>
   rcases h5 with h5 | ⟨p, p0, p1, p2⟩
   ·have := (g.1 r h1 h2).2; omega
   ·have := g.2 p r p0 (by omega) h1 h2 p2; omega
 | ok h =>
  cases g with
  | bad r h1 h2 h3 h4 h5 =>
   rcases h5 with h5 | ⟨p, p0, p1, p2⟩
   ·have := (h.1 r h1 h2).2; omega
   ·have := h.2 p r p0 (by omega) h1 h2 p2; omega
  | ok _ => rfl
theorem Zkv (hw : W32 l) (hl : l.length ≤ 1000000) : T (Zcs l) (OrdA l) := by
 unfold Zcs
 rw [T_G]
 refine ⟨by omega, Za0 (fun _ => Zeh l) ?_ fun _ h => by simp only [Zc]; exact .ok h⟩
 refine ZH (fun z => 0 ≤ z.1 /\ z.1 ≤ (l.length : Int) /\ (z.2.length : Int) = l.length /\ (∀ r, 0 ≤ r -> r < z.1 -> gt l r < (l.length : Int)) /\ (∀ q p, 0 ≤ q -> q < p -> p < z.1 -> gt l q ≠ gt l p) /\ ∀ v, 0 ≤ v -> v < (l.length : Int) -> (gt z.2 v > 0 ↔ ∃ q, 0 ≤ q /\ q < z.1 /\ gt l q = v)) (fun z => ((l.length : Int) - z.1).toNat) ?_ ⟨by simp, by simp, by simp, fun r r0 r1 => by dsimp only at r1; omega, fun r r' r0 r1 r2 => by dsimp only at r2; omega, fun v v0 v1 => ?_⟩
 rotate_left
 ·have : gt (List.replicate l.length (0 : Int)) v = 0 := by
   simp [gt, List.getD_eq_getElem?_getD, List.getElem?_replicate]; split <;> rfl
  dsimp only
  rw [this]
  exact ⟨fun h => by omega, fun ⟨q, q0, q1, _⟩ => by omega⟩
 rintro ⟨i, sn⟩ ⟨i0, i1, ls, h1, h2, h3⟩
 dsimp only at *
 unfold ZbV
 rw [ZhS, Zq]
 refine ⟨fun hi => ?_, fun hi => ?_⟩
 rotate_left
 ·simp only [Zc, Sum.elim_inr]
  refine ⟨fun r r0 r1 => ⟨(hw _ (Zah r0 r1)).1, h1 r r0 (by omega)⟩, fun r r' r0 r1 q0 q1 e => ?_⟩
  rcases Int.lt_trichotomy r r' with q | q | q
  ·exact absurd e (h2 r r' r0 q (by omega))
  ·exact q
  ·exact absurd e.symm (h2 r' r q0 q (by omega))
 have hr := hw _ (Zah i0 hi)
 rw [T_G]
 refine ⟨i0, Zo (fun o => o = true ↔ (gt l i ≥ (l.length : Int) ∨ ∃ q, 0 ≤ q /\ q < i /\ gt l q = gt l i)) ?_ fun o ho => ?_⟩
 ·simp only [T_G, Zq, Zc]
  refine ⟨by omega, fun h => by simp [h], fun hlt => ⟨by omega, ?_⟩⟩
  have := h3 (gt l i) hr.1 (by omega)
  rw [decide_eq_true_iff, this]
  exact ⟨fun h => .inr h, fun h => h.resolve_left hlt⟩
 rw [Zq]
 refine ⟨fun hb => ?_, fun hne => ?_⟩
 ·simp only [Option.bind_some, Zdp, Zc, Sum.elim_inr, Sum.elim_inl]
  exact .bad i i0 hi h1 h2 (ho.1 hb)
 have hn : ¬ (gt l i ≥ (l.length : Int) ∨ ∃ q, 0 ≤ q /\ q < i /\ gt l q = gt l i) := fun q => hne (ho.2 q)
 have a1 : gt l i < (l.length : Int) := by
  have := fun q => hn (.inl q); omega
 simp only [T_G, Zc, Sum.elim_inl]
 refine ⟨by omega, by omega, ⟨by omega, by omega, by simpa using ls, fun r r0 r1 => ?_, fun r r' r0 r1 r2 => ?_, fun v v0 v1 => ?_⟩, by omega⟩
 ·by_cases e : r = i
  ·subst e; exact a1
  ·exact h1 r r0 (by omega)
 ·by_cases e : r' = i
  ·subst e
   exact fun q => hn (.inr ⟨r, r0, r1, q⟩)
  ·exact h2 r r' r0 r1 (by omega)
 ·rw [ZcQ hr.1 (by omega) v0]
  by_cases e : v = gt l i
  ·rw [if_pos e]
   exact ⟨fun _ => ⟨i, i0, by omega, e.symm⟩, fun _ => by omega⟩
  ·rw [if_neg e, h3 v v0 v1]
   refine ⟨fun ⟨q, q0, q1, q2⟩ => ⟨q, q0, by omega, q2⟩, fun ⟨q, q0, q1, q2⟩ => ⟨q, q0, ?_, q2⟩⟩
   by_cases e2 : q = i
   ·subst e2; exact absurd q2.symm e
   ·omega
end Go.Vd

/-! (HxB) -/

set_option linter.unusedVariables false
set_option linter.unusedSimpArgs false
set_option maxHeartbeats 2000000
namespace Go.Vd
variable {l N UF DF : List Int} {U D : List B4} {k i r : Int} {all all' : List E7}
def RkX (UF DF : List Int) (U : List B4) (i r : Int) : Prop := if i < (U.length : Int) then Rk UF i r else Rk DF (i - U.length) r
def e7 (U D : List B4) (i r : Int) : E7 := ((lnk U D i).1, (lnk U D i).2.1, (lnk U D i).2.2.1, (lnk U D i).2.2.2, (if i < (U.length : Int) then r else (lnk U D i).1), (if i < (U.length : Int) then (lnk U D i).1 else r), r)
structure AllX (UF DF : List Int) (U D : List B4) (all : List E7) : Prop where
 len : (all.length : Int) = U.length + D.length
 at' : ∀ i, 0 ≤ i -> i < (all.length : Int) -> ∃ r, RkX UF DF U i r /\ gt all i = e7 U D i r
theorem RkX.uniq (hU : Fst UF (U.length : Int)) (hD : Fst DF (D.length : Int)) {r' : Int} (h : RkX UF DF U i r) (g : RkX UF DF U i r') : r = r' := by
 unfold RkX at h g
 by_cases q : i < (U.length : Int)
 ·rw [if_pos q] at h g; exact hU.uniq h g
 ·rw [if_neg q] at h g; exact hD.uniq h g
theorem RkX.ex (hU : Fst UF (U.length : Int)) (hD : Fst DF (D.length : Int)) (l1 : 0 < (UF.length : Int)) (l2 : 0 < (DF.length : Int)) (i0 : 0 ≤ i) (i1 : i < (U.length : Int) + D.length) : ∃ r, RkX UF DF U i r := by
 unfold RkX
 by_cases q : i < (U.length : Int)
 ·obtain ⟨r, h⟩ := hU.rk i0 q l1; exact ⟨r, by rw [if_pos q]; exact h⟩
 ·obtain ⟨r, h⟩ := hD.rk (i := i - U.length) (by omega) (by omega) l2; exact ⟨r, by rw [if_neg q]; exact h⟩
theorem RkX.rng (nU : (UF.length : Int) = N.length + 1) (nD : (DF.length : Int) = N.length + 1) (h : RkX UF DF U i r) : 0 ≤ r /\ r < (N.length : Int) := by
 unfold RkX at h
 split at h <;> (obtain ⟨a, b, _⟩ := h; omega)
theorem AllX.s (nU : (UF.length : Int) = N.length + 1) (nD : (DF.length : Int) = N.length + 1) (h : AllX UF DF U D all) : AllS N U D all := by
 refine ⟨h.len, fun i i0 i1 => ?_⟩
 obtain ⟨r, h1, h2⟩ := h.at' i i0 i1
 obtain ⟨r0, r1⟩ := h1.rng nU nD
 exact ⟨r, r0, r1, h2⟩
theorem AllX.uniq (hU : Fst UF (U.length : Int)) (hD : Fst DF (D.length : Int)) (h : AllX UF DF U D all) (g : AllX UF DF U D all') : all = all' := by
 have l1 := h.len; have l2 := g.len
 refine Zks (by omega) fun j j0 j1 => ?_
 obtain ⟨r, a1, a2⟩ := h.at' j j0 j1
 obtain ⟨r', b1, b2⟩ := g.at' j j0 (by omega)
 rw [a2, b2, RkX.uniq hU hD a1 b1]
theorem ZkW {t0 t : List E8} (hfU : Fst UF (U.length : Int)) (hfD : Fst DF (D.length : Int)) (l1 : 0 < (UF.length : Int)) (l2 : 0 < (DF.length : Int))
  (h0 : (t0.length : Int) = U.length) (hu : UpT UF U (U.length : Int) t0) (h1 : (t.length : Int) = U.length + D.length) (hk : ∀ i, 0 ≤ i -> i < (U.length : Int) -> gt t i = gt t0 i) (hd : DnT (U.length : Int) DF D (D.length : Int) t) : AllX UF DF U D (t.map (·.2)) := by
 refine ⟨by rw [List.length_map]; exact h1, fun i i0 i1 => ?_⟩
 rw [List.length_map] at i1
 rw [ZkI i0 i1]
 obtain ⟨r, hr⟩ := RkX.ex (U := U) (D := D) hfU hfD l1 l2 i0 (by omega)
 refine ⟨r, hr, ?_⟩
 unfold RkX at hr
 by_cases h : i < (U.length : Int)
 ·rw [if_pos h] at hr
  rw [hk i i0 h, hu i i0 h r hr]
  unfold e7 lnk
  rw [if_pos h, if_pos h, if_pos h]; rfl
 ·rw [if_neg h] at hr
  have := hd (i - U.length) (by omega) (by omega) r hr
  rw [show (U.length : Int) + (i - U.length) = i from by omega] at this
  rw [this]
  unfold e7 lnk
  rw [if_neg h, if_neg h, if_neg h]; rfl
def PlX (all : List E7) (i : Int) : Prop := (gt all i).2.2.1 = 4294967295 /\ (gt all i).2.2.2.1 = 4294967295
def ZcZ (N : List Int) (U : List B4) (all : List E7) (i : Int) : Prop :=
 (gt all i).1 < (N.length : Int) /\ (gt all i).2.2.2.2.2.2 < (gt all i).1 /\ ¬ (0 < i /\ i ≠ (U.length : Int) /\ (gt all (i - 1)).2.2.2.2.2.2 = (gt all i).2.2.2.2.2.2 /\ (gt all (i - 1)).1 ≥ (gt all i).1) /\ (¬ PlX all i ->
  (U.length : Int) ≤ (gt all i).2.2.1 /\ (gt all i).2.2.1 < (all.length : Int) /\ (gt all i).2.2.2.1 < (U.length : Int) /\
  (gt all (gt all i).2.2.1).2.2.2.2.1 = (gt all i).2.2.2.2.1 /\ (gt all (gt all i).2.2.2.1).2.2.2.2.2.1 = (gt all i).2.2.2.2.2.1 /\ (gt all (gt all i).2.2.1).2.2.2.2.2.2 = (gt all (gt all i).2.2.2.1).2.2.2.2.2.2)
def ZdA (all : List E7) (i : Int) : Prop :=
 (PlX all i -> (gt all i).2.1 ≤ 2147483647) /\ (¬ PlX all i -> (gt all i).2.1 ≤ 140737488355328 /\ (gt all (gt all i).2.2.1).2.1 ≤ 140737488355328 /\ (gt all (gt all i).2.2.2.1).2.1 ≤ 140737488355328 /\ (gt all (gt all i).2.2.1).2.1 + (gt all (gt all i).2.2.2.1).2.1 = (gt all i).2.1)
theorem Zke (h : AllS N U D all) (hU : WL U) (hD : WL D) (hs : U.length + D.length ≤ 1048576) (i0 : 0 ≤ i) (i1 : i < (all.length : Int)) : T (ZcP N UF U DF D all i) fun b => b = true ↔ ZcZ N U all i := by
 obtain ⟨g1, g2, g3, g4⟩ := h.rng hU hD i0 i1
 have hl := h.len
 unfold ZcP ZcZ
 rw [T_G]
 refine ⟨⟨i0, i1⟩, Zo (fun o => o = true ↔ ¬ ((gt all i).1 < (N.length : Int) /\ (gt all i).2.2.2.2.2.2 < (gt all i).1)) ?_ fun o ho => ?_⟩
 ·simp only [T_G, Zq, Zc]
  exact ⟨by omega, fun q => by simp; omega, fun q => by simp; omega⟩
 rw [Zq]
 refine ⟨fun hb => by simp only [Zc]; exact ⟨fun q => (by cases q), fun q => absurd ⟨q.1, q.2.1⟩ (ho.1 hb)⟩, fun hn => ?_⟩
 obtain ⟨a1, a2⟩ : (gt all i).1 < (N.length : Int) /\ (gt all i).2.2.2.2.2.2 < (gt all i).1 := Classical.not_not.1 fun q => hn (ho.2 q)
 refine Zo (fun o => o = true ↔ (0 < i /\ i ≠ (U.length : Int) /\ (gt all (i - 1)).2.2.2.2.2.2 = (gt all i).2.2.2.2.2.2 /\ (gt all (i - 1)).1 ≥ (gt all i).1)) ?_ fun o ho => ?_
 ·simp only [T_G, Zq, Zc]
  refine ⟨fun q1 => ⟨fun q2 => ?_, fun q2 => ⟨by omega, by omega, fun q3 => ⟨by omega, ?_⟩, fun q3 => ?_⟩⟩, fun q1 => ?_⟩
  ·exact ⟨fun x => (by cases x), fun x => absurd q2 x.2.1⟩
  ·rw [decide_eq_true_iff]; exact ⟨fun x => ⟨q1, q2, q3, x⟩, fun x => x.2.2.2⟩
  ·exact ⟨fun x => (by cases x), fun x => absurd x.2.2.1 q3⟩
  ·exact ⟨fun x => (by cases x), fun x => absurd x.1 q1⟩
 rw [Zq]
 refine ⟨fun hb => by simp only [Zc]; exact ⟨fun q => (by cases q), fun q => absurd (ho.1 hb) q.2.2.1⟩, fun hn => ?_⟩
 have a3 := fun q => hn (ho.2 q)
 rw [ZiU, Option.bind_some, Zq]
 refine ⟨fun hp => ?_, fun hp => ?_⟩
 ·simp only [Zc]
  exact ⟨fun _ => ⟨a1, a2, a3, fun q => absurd (of_decide_eq_true hp) q⟩, fun _ => trivial⟩
 have hp' : ¬ PlX all i := by simpa [PlX] using hp
 rw [T_G, T_G]
 refine ⟨by omega, by omega, Zo (fun o => o = true ↔ ¬ ((U.length : Int) ≤ (gt all i).2.2.1 /\ (gt all i).2.2.1 < (all.length : Int) /\ (gt all i).2.2.2.1 < (U.length : Int))) ?_ fun o ho => ?_⟩
 ·simp only [Zq, Zc]
  exact ⟨fun _ => by simp; omega, fun h1 => ⟨fun _ => by simp; omega, fun h2 => by simp; omega⟩⟩
 rw [Zq]
 refine ⟨fun hb => by simp only [Zc]; exact ⟨fun q => (by cases q), fun q => absurd (ho.1 hb) fun z => z ⟨(q.2.2.2 hp').1, (q.2.2.2 hp').2.1, (q.2.2.2 hp').2.2.1⟩⟩, fun hn => ?_⟩
 obtain ⟨b1, b2, b3⟩ : (U.length : Int) ≤ (gt all i).2.2.1 /\ (gt all i).2.2.1 < (all.length : Int) /\ (gt all i).2.2.2.1 < (U.length : Int) := Classical.not_not.1 fun q => hn (ho.2 q)
 simp only [T_G, Zq, Zc]
 refine ⟨by omega, by omega, fun h1 => ⟨fun h2 => ?_, fun h2 => ?_⟩, fun h1 => ?_⟩
 ·rw [decide_eq_true_iff]
  exact ⟨fun h3 => ⟨a1, a2, a3, fun _ => ⟨b1, b2, b3, h1, h2, h3⟩⟩, fun q => (q.2.2.2 hp').2.2.2.2.2⟩
 ·exact ⟨fun q => (by cases q), fun q => absurd (q.2.2.2 hp').2.2.2.2.1 h2⟩
 ·exact ⟨fun q => (by cases q), fun q => absurd (q.2.2.2 hp').2.2.2.1 h1⟩
theorem Zj3 (h : AllS N U D all) (hU : WL U) (hD : WL D) (i0 : 0 ≤ i) (i1 : i < (all.length : Int)) (hs : ZcZ N U all i) : T (Zcz all i) fun b => b = true ↔ ZdA all i := by
 obtain ⟨g1, g2, g3, g4⟩ := h.rng hU hD i0 i1
 have hl := h.len
 unfold Zcz ZdA
 rw [T_G, ZiU, Option.bind_some, Zq]
 refine ⟨⟨i0, i1⟩, fun hp => ?_, fun hp => ?_⟩
 ·have hp' : PlX all i := by simpa [PlX] using hp
  simp only [Zc, decide_eq_true_iff]
  exact ⟨fun q => ⟨fun _ => q, fun z => absurd hp' z⟩, fun q => q.1 hp'⟩
 have hp' : ¬ PlX all i := by simpa [PlX] using hp
 obtain ⟨_, _, _, q⟩ := hs
 obtain ⟨b1, b2, b3, _⟩ := q hp'
 obtain ⟨_, c2, _⟩ := h.rng hU hD (i := (gt all i).2.2.1) (by omega) b2
 obtain ⟨_, d2, _⟩ := h.rng hU hD (i := (gt all i).2.2.2.1) (by omega) (by omega)
 simp only [T_G, Zq, Zc, decide_eq_true_iff]
 refine ⟨by omega, by omega, fun h1 => ⟨fun h2 => ⟨fun h3 => ⟨by omega, fun h4 => ⟨fun z => absurd z hp', fun _ => ⟨h1, h2, h3, h4⟩⟩, fun q => (q.2 hp').2.2.2⟩, fun h3 => ⟨fun q => (by cases q), fun q => absurd (q.2 hp').2.2.1 h3⟩⟩, fun h2 => ⟨fun q => (by cases q), fun q => absurd (q.2 hp').2.1 h2⟩⟩, fun h1 => ⟨fun q => (by cases q), fun q => absurd (q.2 hp').1 h1⟩⟩
end Go.Vd

/-! (HxC) -/

set_option linter.unusedVariables false
set_option linter.unusedSimpArgs false
set_option maxHeartbeats 2000000
namespace Go.Vd
variable {l N UF DF : List Int} {U D : List B4} {k i r : Int} {all all' : List E7}
inductive LnkA (N : List Int) (U : List B4) (all : List E7) : Er -> Prop
 | shp (i : Int) : 0 ≤ i -> i < (all.length : Int) -> (∀ j, 0 ≤ j -> j < i -> ZcZ N U all j /\ ZdA all j) -> ¬ ZcZ N U all i -> LnkA N U all (.at 4 i (.no 14))
 | wgt (i : Int) : 0 ≤ i -> i < (all.length : Int) -> (∀ j, 0 ≤ j -> j < i -> ZcZ N U all j /\ ZdA all j) -> ZcZ N U all i -> ¬ ZdA all i -> LnkA N U all (.at 4 i (.no 8))
 | ok : (∀ j, 0 ≤ j -> j < (all.length : Int) -> ZcZ N U all j /\ ZdA all j) -> LnkA N U all .nil
theorem LnkA.uniq {a b : Er} (h : LnkA N U all a) (g : LnkA N U all b) : a = b := by
 cases h with
 | shp i h1 h2 h3 h4 =>
  cases g with
  | shp j g1 g2 g3 g4 =>
   rcases Int.lt_trichotomy i j with q | q | q
   ·exact absurd (g3 i h1 q).1 h4
   ·subst q; rfl
   ·exact absurd (h3 j g1 q).1 g4
  | wgt j g1 g2 g3 g4 g5 =>
   rcases Int.lt_trichotomy i j with q | q | q
   ·exact absurd (g3 i h1 q).1 h4
   ·subst q; exact absurd g4 h4
   ·exact absurd (h3 j g1 q).2 g5
  | ok g => exact absurd (g i h1 h2).1 h4
 | wgt i h1 h2 h3 h4 h5 =>
  cases g with
  | shp j g1 g2 g3 g4 =>
   rcases Int.lt_trichotomy i j with q | q | q
   ·exact absurd (g3 i h1 q).2 h5
   ·subst q; exact absurd h4 g4
   ·exact absurd (h3 j g1 q).1 g4
  | wgt j g1 g2 g3 g4 g5 =>
   rcases Int.lt_trichotomy i j with q | q | q
   ·exact absurd (g3 i h1 q).2 h5
   ·subst q; rfl
   ·exact absurd (h3 j g1 q).2 g5
  | ok g => exact absurd (g i h1 h2).2 h5
 | ok h =>
  cases g with
  | shp j g1 g2 g3 g4 => exact absurd (h j g1 g2).1 g4
  | wgt j g1 g2 g3 g4 g5 => exact absurd (h j g1 g2).2 g5
  | ok _ => rfl
def SmX (N : List Int) (U D : List B4) : Prop := N.length ≤ 65536 /\ U.length + D.length ≤ 1048576
def LnX (N UF DF : List Int) : Prop := (UF.length : Int) = N.length + 1 /\ (DF.length : Int) = N.length + 1
inductive HierA (N UF : List Int) (U : List B4) (DF : List Int) (D : List B4) : Er -> Prop
 | lim : ¬ SmX N U D -> HierA N UF U DF D (.no 9)
 | len : SmX N U D -> ¬ LnX N UF DF -> HierA N UF U DF D (.no 14)
 | up (er : Er) : SmX N U D -> LnX N UF DF -> FstA UF (U.length : Int) er -> er ≠ .nil -> HierA N UF U DF D er
 | dn (er : Er) : SmX N U D -> LnX N UF DF -> Fst UF (U.length : Int) -> FstA DF (D.length : Int) er -> er ≠ .nil -> HierA N UF U DF D er
 | ord (er : Er) : SmX N U D -> LnX N UF DF -> Fst UF (U.length : Int) -> Fst DF (D.length : Int) -> OrdA N er -> er ≠ .nil -> HierA N UF U DF D er
 | lnk (er : Er) (all : List E7) : SmX N U D -> LnX N UF DF -> Fst UF (U.length : Int) -> Fst DF (D.length : Int) -> Zeh N -> AllX UF DF U D all -> LnkA N U all er -> HierA N UF U DF D er
theorem FstA.nilD (h : FstA l k .nil) : Fst l k := by cases h; assumption
theorem OrdA.nilD (h : OrdA l .nil) : Zeh l := by cases h; assumption
theorem FstA.no {a : Er} (h : FstA l k a) (ha : a ≠ .nil) (g : Fst l k) : False := ha (h.uniq (.ok g))
theorem OrdA.no {a : Er} (h : OrdA l a) (ha : a ≠ .nil) (g : Zeh l) : False := ha (h.uniq (.ok g))
theorem HierA.uniq {a b : Er} (h : HierA N UF U DF D a) (g : HierA N UF U DF D b) : a = b := by
 cases h with
 | lim h1 =>
  cases g with
  | lim _ => rfl
  | len g1 _ => exact absurd g1 h1
  | up _ g1 _ _ _ => exact absurd g1 h1
  | dn _ g1 _ _ _ _ => exact absurd g1 h1
  | ord _ g1 _ _ _ _ _ => exact absurd g1 h1
  | lnk _ _ g1 _ _ _ _ _ _ => exact absurd g1 h1
 | len h1 h2 =>
  cases g with
  | lim g1 => exact absurd h1 g1
  | len _ _ => rfl
  | up _ _ g2 _ _ => exact absurd g2 h2
  | dn _ _ g2 _ _ _ => exact absurd g2 h2
  | ord _ _ g2 _ _ _ _ => exact absurd g2 h2
  | lnk _ _ _ g2 _ _ _ _ _ => exact absurd g2 h2
 | up _ h1 h2 h3 h4 =>
  cases g with
  | lim g1 => exact absurd h1 g1
  | len _ g2 => exact absurd h2 g2
  | up _ _ _ g3 _ => exact h3.uniq g3
  | dn _ _ _ g3 _ _ => exact (h3.no h4 g3).elim
  | ord _ _ _ g3 _ _ _ => exact (h3.no h4 g3).elim
  | lnk _ _ _ _ g3 _ _ _ _ => exact (h3.no h4 g3).elim
 | dn _ h1 h2 h3 h4 h5 =>
  cases g with
  | lim g1 => exact absurd h1 g1
  | len _ g2 => exact absurd h2 g2
  | up _ _ _ g3 g4 => exact (g3.no g4 h3).elim
  | dn _ _ _ _ g4 _ => exact h4.uniq g4
  | ord _ _ _ _ g4 _ _ => exact (h4.no h5 g4).elim
  | lnk _ _ _ _ _ g4 _ _ _ => exact (h4.no h5 g4).elim
 | ord _ h1 h2 h3 h4 h5 h6 =>
  cases g with
  | lim g1 => exact absurd h1 g1
  | len _ g2 => exact absurd h2 g2
  | up _ _ _ g3 g4 => exact (g3.no g4 h3).elim
  | dn _ _ _ _ g4 g5 => exact (g4.no g5 h4).elim
  | ord _ _ _ _ _ g5 _ => exact h5.uniq g5
  | lnk _ _ _ _ _ _ g5 _ _ => exact (h5.no h6 g5).elim
 | lnk _ all h1 h2 h3 h4 h5 h6 h7 =>
  cases g with
  | lim g1 => exact absurd h1 g1
  | len _ g2 => exact absurd h2 g2
  | up _ _ _ g3 g4 => exact (g3.no g4 h3).elim
  | dn _ _ _ _ g4 g5 => exact (g4.no g5 h4).elim
  | ord _ _ _ _ _ g5 g6 => exact (g5.no g6 h5).elim
  | lnk _ all' _ _ _ _ _ g6 g7 =>
   obtain rfl := h6.uniq h3 h4 g6
   exact h7.uniq g7
theorem Zg8 (hN : W32 N) (hUF : W32 UF) (hU : WL U) (hDF : W32 DF) (hD : WL D) (lU : U.length ≤ 9000000000000) (lD : D.length ≤ 9000000000000) (lN : N.length ≤ 9000000000000000) : T (Zbl N UF U DF D) fun r => HierA N UF U DF D r.2 /\ (r.2 = .nil -> SmX N U D /\ LnX N UF DF /\ Fst UF (U.length : Int) /\ Fst DF (D.length : Int) /\ Zeh N /\ AllX UF DF U D r.1 /\ ∀ j, 0 ≤ j -> j < (r.1.length : Int) -> ZcZ N U r.1 j /\ ZdA r.1 j) /\ (r.2 ≠ .nil -> r.1 = []) := by
 unfold Zbl
 refine Zo (fun o => o = true ↔ ¬ SmX N U D) ?_ fun o ho => ?_
 ·unfold SmX
  simp only [T_G, Zq, Zc]
  exact ⟨fun _ => by simp; omega, fun h1 => ⟨by omega, by rw [decide_eq_true_iff]; omega⟩⟩
 rw [Zq]
 refine ⟨fun hb => by simp only [Zc]; exact ⟨.lim (ho.1 hb), fun q => (by cases q), fun _ => trivial⟩, fun hn => ?_⟩
 have sm : SmX N U D := Classical.not_not.1 fun q => hn (ho.2 q)
 have sm' := sm
 obtain ⟨n1, m1⟩ := sm'
 refine Zo (fun o => o = true ↔ ¬ LnX N UF DF) ?_ fun o ho => ?_
 ·unfold LnX
  simp only [T_G, Zq, Zc]
  exact ⟨by omega, fun h1 => by simp [h1], fun h1 => by simp [h1]⟩
 rw [Zq]
 refine ⟨fun hb => by simp only [Zc]; exact ⟨.len sm (ho.1 hb), fun q => (by cases q), fun _ => trivial⟩, fun hn => ?_⟩
 have ln : LnX N UF DF := Classical.not_not.1 fun q => hn (ho.2 q)
 have ln' := ln
 obtain ⟨nU, nD⟩ := ln'
 refine Zo _ (Zhy hUF (by omega) (by omega)) fun er h1 => ?_
 rw [Zq]
 refine ⟨fun e1 => ?_, fun e1 => by simp only [Zc]; exact ⟨.up er sm ln h1 e1, fun q => absurd q e1, fun _ => trivial⟩⟩
 subst e1
 have fU := h1.nilD
 refine Zo _ (Zhy hDF (by omega) (by omega)) fun er h2 => ?_
 rw [Zq]
 refine ⟨fun e2 => ?_, fun e2 => by simp only [Zc]; exact ⟨.dn er sm ln fU h2 e2, fun q => absurd q e2, fun _ => trivial⟩⟩
 subst e2
 have fD := h2.nilD
 refine Zo _ (Zkv hN (by omega)) fun er h3 => ?_
 rw [Zq]
 refine ⟨fun e3 => ?_, fun e3 => by simp only [Zc]; exact ⟨.ord er sm ln fU fD h3 e3, fun q => absurd q e3, fun _ => trivial⟩⟩
 subst e3
 have od := h3.nilD
 rw [show Zdl N UF U DF D = some () from rfl, Option.bind_some]
 have hok : ∀ t : List E8, t.length ≤ 3000000 -> (fun tr_ => (Zc9 (fun x_ zz_ => Zad x_ zz_) [] tr_).isSome) t = true := fun t ht => by
  show (Zc9 (fun x_ zz_ => Zad x_ zz_) [] t).isSome = true
  rw [Zh7 t [] (by simp; omega)]; rfl
 refine Zo (fun t : List E8 => (t.length : Int) = U.length + D.length /\ AllX UF DF U D (t.map (·.2))) ?_ ?_
 ·unfold ZcV
  refine Zo _ (p_ups hok fU nU n1 (by omega) hU) ?_
  rintro ⟨t0, c⟩ ⟨a1, rfl, a3⟩
  dsimp only at *
  refine Zo _ (p_dns (by omega) a1 (by omega) hok fD nD n1 (by omega) hD) fun t ⟨b1, b2, b3⟩ => ?_
  simp only [Zc]
  exact ⟨b1, ZkW fU fD (by omega) (by omega) a1 a3 b1 b2 b3⟩
 rintro t ⟨ht, hX⟩
 rw [Zh7 t [] (by simp; omega), Option.bind_some, List.nil_append]
 generalize t.map (·.2) = all at hX
 have hA := hX.s nU nD
 have hl := hA.len
 refine Za0 (fun _ => ∀ i, 0 ≤ i -> i < (all.length : Int) -> ZcZ N U all i /\ ZdA all i) ?_ fun _ h => by
  simp only [Zc]
  exact ⟨.lnk .nil all sm ln fU fD od hX (.ok h), fun _ => ⟨sm, ln, fU, fD, od, hX, h⟩, fun q => absurd rfl q⟩
 refine ZH (fun i => 0 ≤ i /\ i ≤ (all.length : Int) /\ ∀ j, 0 ≤ j -> j < i -> ZcZ N U all j /\ ZdA all j) (fun i => ((all.length : Int) - i).toNat) ?_ ⟨by simp, by omega, fun j j0 j1 => by omega⟩
 rintro i ⟨i0, i1, hi⟩
 unfold Zcf
 rw [Zq]
 refine ⟨fun hlt => ?_, fun hge => by simp only [Zc, Sum.elim_inr]; exact fun j j0 j1 => hi j j0 (by omega)⟩
 refine Zo _ (Zke hA hU hD m1 i0 hlt) fun b hb => ?_
 rw [ZhS, ZhS, Zq]
 refine ⟨fun hn => ?_, fun hn => ?_⟩
 ·have ns : ¬ ZcZ N U all i := fun q => by simp [hb.2 q] at hn
  simp only [Option.bind_some, Zdp, Zc, Sum.elim_inr, Sum.elim_inl]
  exact ⟨.lnk _ all sm ln fU fD od hX (.shp i i0 hlt hi ns), fun q => (by cases q), fun _ => trivial⟩
 have sh := hb.1 (by simpa using hn)
 refine Zo _ (Zj3 hA hU hD i0 hlt sh) fun b hb => ?_
 rw [Zq]
 refine ⟨fun hn => ?_, fun hn => ?_⟩
 ·have ns : ¬ ZdA all i := fun q => by simp [hb.2 q] at hn
  simp only [Option.bind_some, Zdp, Zc, Sum.elim_inr, Sum.elim_inl]
  exact ⟨.lnk _ all sm ln fU fD od hX (.wgt i i0 hlt hi sh ns), fun q => (by cases q), fun _ => trivial⟩
 have wg := hb.1 (by simpa using hn)
 simp only [T_G, Zc, Sum.elim_inl]
 refine ⟨by omega, ⟨by omega, by omega, fun j j0 j1 => ?_⟩, by omega⟩
 by_cases e : j = i
 ·subst e; exact ⟨sh, wg⟩
 ·exact hi j j0 (by omega)
end Go.Vd

/-! (HxD) -/

set_option linter.unusedVariables false
set_option linter.unusedSimpArgs false
set_option maxHeartbeats 2000000
namespace Go.Vd
variable {l N UF DF ranks : List Int} {U D : List B4} {k i r : Int} {all all' : List E7}
def RkT (UF : List Int) (o m : Int) (t : List Int) : Prop := ∀ i, 0 ≤ i -> i < m -> ∀ r, Rk UF i r -> gt t (o + i) = r
theorem ZlN (hf : Fst UF (U.length : Int)) (h0 : 0 < (UF.length : Int)) (hn : UF.length ≤ 70000) (hl : U.length ≤ 1048576) :
  T (Zz (fun zz_ => Zas UF zz_.1 zz_.2) ([], 0)) fun o => (o.length : Int) = U.length /\ RkT UF 0 (U.length : Int) o := by
 refine ZH (fun z => 0 ≤ z.2 /\ z.2 ≤ (UF.length : Int) - 1 /\ (z.1.length : Int) = gt UF z.2 /\ RkT UF 0 (gt UF z.2) z.1) (fun z => ((UF.length : Int) - 1 - z.2).toNat) ?_ ⟨by simp, by simp; omega, by simp [hf.z], fun i i0 i1 => by dsimp only at i1; rw [hf.z] at i1; omega⟩
 rintro ⟨y, q⟩ ⟨q0, q1, hy, ht⟩
 dsimp only at *
 unfold Zas
 rw [T_G, Zq]
 refine ⟨by omega, fun hq => ?_, fun hq => ?_⟩
 rotate_left
 ·have e : q = (UF.length : Int) - 1 := by omega
  rw [e, hf.e] at hy ht
  simp only [Zc, Sum.elim_inr]
  exact ⟨hy, ht⟩
 have m1 := hf.up q q0 (by omega)
 have m0 := hf.le (a := 0) (b := q) (by omega) q0 (by omega)
 have m2 := hf.le (a := q + 1) (b := (UF.length : Int) - 1) (by omega) (by omega) (by omega)
 rw [hf.z] at m0
 rw [hf.e] at m2
 rw [T_G]
 refine ⟨by omega, Zo (fun o => (o.length : Int) = gt UF (q + 1) /\ RkT UF 0 (gt UF (q + 1)) o) ?_ ?_⟩
 ·refine ZH (fun z => gt UF q ≤ z.2 /\ z.2 ≤ gt UF (q + 1) /\ (z.1.length : Int) = z.2 /\ RkT UF 0 z.2 z.1) (fun z => (gt UF (q + 1) - z.2).toNat) ?_ ⟨by simp, by simpa using m1, by simpa using hy, by simpa using ht⟩
  rintro ⟨y, j⟩ ⟨j0, j1, hy, ht⟩
  dsimp only at *
  unfold ZaM
  simp only [T_G, Zq, Zc, Sum.elim_inl, Sum.elim_inr]
  refine ⟨by omega, by omega, fun hj => ⟨by omega, by omega, ⟨by omega, by omega, by simp; omega, fun i i0 i1 r hr => ?_⟩, by omega⟩, fun hj => ?_⟩
  ·rw [ZdN (by omega) (by omega), hy]
   by_cases e : i = j
   ·rw [if_pos (by omega)]
    have : Rk UF i q := ⟨q0, by omega, by omega, by omega⟩
    exact hf.uniq this hr
   ·rw [if_neg (by omega)]; exact ht i i0 (by omega) r hr
  ·have e : j = gt UF (q + 1) := by omega
   rw [← e]; exact ⟨hy, ht⟩
 ·rintro y' ⟨h1, h2⟩
  simp only [T_G, Zc, Sum.elim_inl]
  exact ⟨by omega, ⟨by omega, by omega, h1, h2⟩, by omega⟩
theorem ZlO {t0 : List Int} {u : Int} (u0 : 0 ≤ u) (hu : (t0.length : Int) = u) (hul : u ≤ 1048576) (hf : Fst DF (D.length : Int)) (h0 : 0 < (DF.length : Int)) (hn : DF.length ≤ 70000) (hl : D.length ≤ 1048576) :
  T (Zz (fun zz_ => Zar DF zz_.1 zz_.2) (t0, 0)) fun o => (o.length : Int) = u + D.length /\ (∀ i, 0 ≤ i -> i < u -> gt o i = gt t0 i) /\ RkT DF u (D.length : Int) o := by
 refine ZH (fun z => 0 ≤ z.2 /\ z.2 ≤ (DF.length : Int) - 1 /\ (z.1.length : Int) = u + gt DF z.2 /\ (∀ i, 0 ≤ i -> i < u -> gt z.1 i = gt t0 i) /\ RkT DF u (gt DF z.2) z.1) (fun z => ((DF.length : Int) - 1 - z.2).toNat) ?_ ⟨by simp, by simp; omega, by simp [hf.z, hu], fun i _ _ => rfl, fun i i0 i1 => by dsimp only at i1; rw [hf.z] at i1; omega⟩
 rintro ⟨y, q⟩ ⟨q0, q1, hy, hk, ht⟩
 dsimp only at *
 unfold Zar
 rw [T_G, Zq]
 refine ⟨by omega, fun hq => ?_, fun hq => ?_⟩
 rotate_left
 ·have e : q = (DF.length : Int) - 1 := by omega
  rw [e, hf.e] at hy ht
  simp only [Zc, Sum.elim_inr]
  exact ⟨hy, hk, ht⟩
 have m1 := hf.up q q0 (by omega)
 have m0 := hf.le (a := 0) (b := q) (by omega) q0 (by omega)
 have m2 := hf.le (a := q + 1) (b := (DF.length : Int) - 1) (by omega) (by omega) (by omega)
 rw [hf.z] at m0
 rw [hf.e] at m2
 rw [T_G]
 refine ⟨by omega, Zo (fun o => (o.length : Int) = u + gt DF (q + 1) /\ (∀ i, 0 ≤ i -> i < u -> gt o i = gt t0 i) /\ RkT DF u (gt DF (q + 1)) o) ?_ ?_⟩
 ·refine ZH (fun z => gt DF q ≤ z.2 /\ z.2 ≤ gt DF (q + 1) /\ (z.1.length : Int) = u + z.2 /\ (∀ i, 0 ≤ i -> i < u -> gt z.1 i = gt t0 i) /\ RkT DF u z.2 z.1) (fun z => (gt DF (q + 1) - z.2).toNat) ?_ ⟨by simp, by simpa using m1, by simpa using hy, hk, by simpa using ht⟩
  rintro ⟨y, j⟩ ⟨j0, j1, hy, hk, ht⟩
  dsimp only at *
  unfold ZaP
  simp only [T_G, Zq, Zc, Sum.elim_inl, Sum.elim_inr]
  refine ⟨by omega, by omega, fun hj => ⟨by omega, by omega, ⟨by omega, by omega, by simp; omega, fun i i0 i1 => ?_, fun i i0 i1 r hr => ?_⟩, by omega⟩, fun hj => ?_⟩
  ·rw [ZdN i0 (by omega), if_neg (by omega)]; exact hk i i0 i1
  ·rw [ZdN (by omega) (by omega), hy]
   by_cases e : i = j
   ·rw [if_pos (by omega)]
    have : Rk DF i q := ⟨q0, by omega, by omega, by omega⟩
    exact hf.uniq this hr
   ·rw [if_neg (by omega)]; exact ht i i0 (by omega) r hr
  ·have e : j = gt DF (q + 1) := by omega
   rw [← e]; exact ⟨hy, hk, ht⟩
 ·rintro y' ⟨h1, h2, h3⟩
  simp only [T_G, Zc, Sum.elim_inl]
  exact ⟨by omega, ⟨by omega, by omega, h1, h2, h3⟩, by omega⟩
def Zh6 (ranks : List Int) (all : List E7) : Prop := (ranks.length : Int) = all.length /\ ∀ i, 0 ≤ i -> i < (all.length : Int) -> gt ranks i = (gt all i).2.2.2.2.2.2
theorem Zio (ln : LnX N UF DF) (sm : SmX N U D) (fU : Fst UF (U.length : Int)) (fD : Fst DF (D.length : Int)) (hX : AllX UF DF U D all) : T (ZaI N UF U DF D) fun x => Zh6 x all := by
 obtain ⟨n1, m1⟩ := sm
 obtain ⟨nU, nD⟩ := ln
 have hl := hX.len
 unfold ZaI
 refine Zo _ (ZlN fU (by omega) (by omega) (by omega)) fun t0 ⟨a1, a2⟩ => ?_
 refine Zo _ (ZlO (by omega) a1 (by omega) fD (by omega) (by omega) (by omega)) fun t ⟨b1, b2, b3⟩ => ?_
 simp only [Zc]
 refine ⟨by omega, fun i i0 i1 => ?_⟩
 obtain ⟨r, h1, h2⟩ := hX.at' i i0 i1
 rw [h2]
 unfold RkX at h1
 by_cases q : i < (U.length : Int)
 ·rw [if_pos q] at h1
  have := a2 i i0 q r h1
  rw [Int.zero_add] at this
  rw [b2 i i0 q, this]; rfl
 ·rw [if_neg q] at h1
  have := b3 (i - U.length) (by omega) (by omega) r h1
  rw [show (U.length : Int) + (i - U.length) = i from by omega] at this
  rw [this]; rfl
theorem Ze0 (h : U.length + D.length ≤ 100000000000000) (i0 : 0 ≤ i) (i1 : i < (U.length : Int) + D.length) : Z2 N UF U DF D i = some (lnk U D i) := by
 unfold Z2 lnk G
 by_cases q : i < (U.length : Int)
 ·rw [if_pos q, if_pos q, if_pos i0]
 ·rw [if_neg q, if_neg q, if_pos (by omega), if_pos (by omega)]
theorem ZhV {a b c d : Int} : ZaH a b c d = some (decide (c = 4294967295 /\ d = 4294967295)) := by
 unfold ZaH
 by_cases h : c = 4294967295 <;> simp [h]
theorem AllX.lk (h : AllX UF DF U D all) (i0 : 0 ≤ i) (i1 : i < (all.length : Int)) : (gt all i).1 = (lnk U D i).1 /\ (gt all i).2.1 = (lnk U D i).2.1 /\ (gt all i).2.2.1 = (lnk U D i).2.2.1 /\ (gt all i).2.2.2.1 = (lnk U D i).2.2.2 := by
 obtain ⟨r, _, e⟩ := h.at' i i0 i1
 rw [e]; exact ⟨rfl, rfl, rfl, rfl⟩
theorem Zf0 (sm : SmX N U D) (hU : WL U) (hD : WL D) (hX : AllX UF DF U D all) (hr : Zh6 ranks all) (i0 : 0 ≤ i) (i1 : i < (all.length : Int)) : Zae N UF U DF D ranks i = some ((gt all i).2.2.2.2.1, (gt all i).2.2.2.2.2.1, (gt all i).2.2.2.2.2.2) := by
 have hl := hX.len
 obtain ⟨n1, m1⟩ := sm
 obtain ⟨r, _, e⟩ := hX.at' i i0 i1
 have gl := ZeW hU hD i0 (by omega)
 have hri := hr.2 i i0 i1
 have hrl := hr.1
 unfold Zae
 rw [Ze0 (by omega) i0 (by omega), Option.bind_some]
 rw [e] at hri ⊢
 unfold e7 at hri ⊢
 dsimp only at hri ⊢
 unfold G
 rw [if_pos (by omega)]
 by_cases q : i < (U.length : Int)
 ·rw [if_pos q, if_pos q, if_pos q, if_pos (by omega), hri]
 ·rw [if_neg q, if_neg q, if_neg q, if_pos (by omega), hri]
end Go.Vd

/-! (HxE) -/

set_option linter.unusedVariables false
set_option linter.unusedSimpArgs false
set_option maxHeartbeats 4000000
namespace Go.Vd
variable {l N UF DF ranks : List Int} {U D : List B4} {k i r : Int} {all all' : List E7}
theorem Zk2 (sm : SmX N U D) (ln : LnX N UF DF) (hU : WL U) (hD : WL D) (hX : AllX UF DF U D all) (hr : Zh6 ranks all) (i0 : 0 ≤ i) (i1 : i < (all.length : Int)) : T (ZbE N UF U DF D ranks i) fun x => (x = (14, [(4, i)]) /\ ¬ ZcZ N U all i) ∨ (x = (8, [(4, i)]) /\ ZcZ N U all i /\ ¬ ZdA all i) ∨ (x = (0, []) /\ ZcZ N U all i /\ ZdA all i) := by
 have hl := hX.len
 have sm' := sm
 obtain ⟨n1, m1⟩ := sm'
 obtain ⟨g1, g2, g3, g4⟩ := ZeW hU hD i0 (by omega)
 obtain ⟨k1, k2, k3, k4⟩ := hX.lk i0 i1
 have hri := hr.2 i i0 i1
 have hrl := hr.1
 unfold ZbE
 rw [T_G, Ze0 (by omega) i0 (by omega), Option.bind_some, p_E, Option.bind_some, ZhQ, Option.bind_some]
 refine ⟨by omega, Zo (fun o => o = true ↔ ¬ ((gt all i).1 < (N.length : Int) /\ (gt all i).2.2.2.2.2.2 < (gt all i).1)) ?_ fun o ho => ?_⟩
 ·simp only [T_G, Zq, Zc, decide_eq_true_iff]
  rw [hri, k1]
  exact ⟨by omega, by omega, fun q => by simp; omega, fun q => ⟨by omega, by omega, by omega⟩⟩
 rw [Zq]
 refine ⟨fun hb => by simp only [Zc]; exact .inl ⟨trivial, fun q => ho.1 hb ⟨q.1, q.2.1⟩⟩, fun hn => ?_⟩
 obtain ⟨a1, a2⟩ : (gt all i).1 < (N.length : Int) /\ (gt all i).2.2.2.2.2.2 < (gt all i).1 := Classical.not_not.1 fun q => hn (ho.2 q)
 refine Zo (fun o => o = true ↔ (0 < i /\ i ≠ (U.length : Int) /\ (gt all (i - 1)).2.2.2.2.2.2 = (gt all i).2.2.2.2.2.2 /\ (gt all (i - 1)).1 ≥ (gt all i).1)) ?_ fun o ho => ?_
 ·simp only [T_G, Zq, Zc]
  refine ⟨fun q1 => ?_, fun q1 => ⟨fun q2 => ?_, fun q2 => ⟨by omega, by omega, by omega, fun q3 => ⟨by omega, ?_⟩, fun q3 => ?_⟩⟩⟩
  ·exact ⟨fun x => (by cases x), fun x => by omega⟩
  ·exact ⟨fun x => (by cases x), fun x => absurd q2 x.2.1⟩
  ·rw [hr.2 (i - 1) (by omega) (by omega), hri] at q3
   rw [Ze0 (by omega) (by omega) (by omega), Option.bind_some, Zc, decide_eq_true_iff, ← k1, ← (hX.lk (i := i - 1) (by omega) (by omega)).1]
   exact ⟨fun x => ⟨by omega, q2, q3, x⟩, fun x => x.2.2.2⟩
  ·rw [hr.2 (i - 1) (by omega) (by omega), hri] at q3
   exact ⟨fun x => (by cases x), fun x => absurd x.2.2.1 q3⟩
 rw [Zq]
 refine ⟨fun hb => by simp only [Zc]; exact .inl ⟨trivial, fun q => q.2.2.1 (ho.1 hb)⟩, fun hn => ?_⟩
 have a3 := fun q => hn (ho.2 q)
 rw [p_E, Option.bind_some, ZhQ, Option.bind_some, ZhV, Option.bind_some, Zq]
 refine ⟨fun hp => ?_, fun hp => ?_⟩
 ·have hp' : PlX all i := by
   have := of_decide_eq_true hp
   unfold PlX; rw [k3, k4]; exact this
  have sh : ZcZ N U all i := ⟨a1, a2, a3, fun q => absurd hp' q⟩
  rw [Zq, ← k2]
  simp only [Zc]
  exact ⟨fun q => .inr (.inl ⟨trivial, sh, fun w => by have := w.1 hp'; omega⟩), fun q => .inr (.inr ⟨trivial, sh, fun _ => by omega, fun z => absurd hp' z⟩)⟩
 have hp' : ¬ PlX all i := by unfold PlX; rw [k3, k4]; simpa using hp
 refine Zo (fun o => o = true ↔ ¬ ((U.length : Int) ≤ (gt all i).2.2.1 /\ (gt all i).2.2.1 < (all.length : Int) /\ (gt all i).2.2.2.1 < (U.length : Int))) ?_ fun o ho => ?_
 ·simp only [T_G, Zq, Zc, decide_eq_true_iff]
  rw [k3, k4]
  exact ⟨by omega, by omega, fun q => by simp; omega, fun q => ⟨by omega, by omega, fun q2 => by simp; omega, fun q2 => ⟨by omega, fun q3 => by simp; omega, fun q3 => ⟨by omega, by omega⟩⟩⟩⟩
 rw [Zq]
 refine ⟨fun hb => by simp only [Zc]; exact .inl ⟨trivial, fun q => ho.1 hb ⟨(q.2.2.2 hp').1, (q.2.2.2 hp').2.1, (q.2.2.2 hp').2.2.1⟩⟩, fun hn => ?_⟩
 obtain ⟨b1, b2, b3⟩ : (U.length : Int) ≤ (gt all i).2.2.1 /\ (gt all i).2.2.1 < (all.length : Int) /\ (gt all i).2.2.2.1 < (U.length : Int) := Classical.not_not.1 fun q => hn (ho.2 q)
 rw [← k3, ← k4, ← k2]
 have gL := ZeW (i := (gt all i).2.2.1) hU hD (by omega) (by omega)
 have gR := ZeW (i := (gt all i).2.2.2.1) hU hD (by omega) (by omega)
 rw [T_G, T_G, Zf0 sm hU hD hX hr i0 i1, Option.bind_some, Zf0 sm hU hD hX hr (by omega) b2, Option.bind_some, Zf0 sm hU hD hX hr (by omega) (by omega), Option.bind_some]
 dsimp only
 refine ⟨by omega, by omega, Zo (fun o => o = true ↔ ¬ ((gt all (gt all i).2.2.1).2.2.2.2.1 = (gt all i).2.2.2.2.1 /\ (gt all (gt all i).2.2.2.1).2.2.2.2.2.1 = (gt all i).2.2.2.2.2.1 /\ (gt all (gt all i).2.2.1).2.2.2.2.2.2 = (gt all (gt all i).2.2.2.1).2.2.2.2.2.2)) ?_ fun o ho => ?_⟩
 ·simp only [Zq, Zc]
  exact ⟨fun h1 => ⟨fun h2 => by simp [h1, h2], fun h2 => by simp [h2]⟩, fun h1 => by simp [h1]⟩
 rw [Zq]
 refine ⟨fun hb => by simp only [Zc]; exact .inl ⟨trivial, fun q => ho.1 hb (q.2.2.2 hp').2.2.2⟩, fun hn => ?_⟩
 have b4 := Classical.not_not.1 fun q => hn (ho.2 q)
 have sh : ZcZ N U all i := ⟨a1, a2, a3, fun _ => ⟨b1, b2, b3, b4⟩⟩
 have kL := hX.lk (i := (gt all i).2.2.1) (by omega) b2
 have kR := hX.lk (i := (gt all i).2.2.2.1) (by omega) (by omega)
 rw [Ze0 (by omega) (by omega) (by omega), Option.bind_some, Ze0 (by omega) (by omega) (by omega), Option.bind_some, ← kL.2.1, ← kR.2.1]
 rw [← kL.2.1] at gL
 rw [← kR.2.1] at gR
 simp only [T_G, Zq, Zc]
 refine ⟨fun q => .inr (.inl ⟨trivial, sh, fun w => by have := (w.2 hp').1; omega⟩), fun h1 => ⟨fun q => .inr (.inl ⟨trivial, sh, fun w => by have := (w.2 hp').2.1; omega⟩), fun h2 => ⟨fun q => .inr (.inl ⟨trivial, sh, fun w => by have := (w.2 hp').2.2.1; omega⟩), fun h3 => ⟨by omega, fun h4 => .inr (.inr ⟨trivial, sh, fun z => absurd z hp', fun _ => ⟨by omega, by omega, by omega, h4⟩⟩), fun h4 => .inr (.inl ⟨trivial, sh, fun w => h4 (w.2 hp').2.2.2⟩)⟩⟩⟩⟩
theorem FstA.bad {er : Er} (h : FstA l k er) : (er.code ≠ 0 ∨ er.pls ≠ []) ↔ er ≠ .nil := by
 cases h <;> simp [Er.code, Er.pls]
theorem Zlm {a b : Er} (ha : (a.code ≠ 0 ∨ a.pls ≠ []) ↔ a ≠ .nil) (hb : (b.code ≠ 0 ∨ b.pls ≠ []) ↔ b ≠ .nil) : Zbq a.code a.pls b.code b.pls = some (if a ≠ .nil then (a.code, a.pls) else (b.code, b.pls)) := by
 unfold Zbq
 rw [Zd9, Option.bind_some]
 by_cases h : a = .nil
 ·rw [if_neg (by simp only [decide_eq_true_iff]; exact fun q => ha.1 q h), if_neg (fun q => q h), Zd9, Option.bind_some]
  by_cases g : b = .nil
  ·rw [if_neg (by simp only [decide_eq_true_iff]; exact fun q => hb.1 q g), g]; rfl
  ·rw [if_pos (by simp only [decide_eq_true_iff]; exact hb.2 g)]
 ·rw [if_pos (by simp only [decide_eq_true_iff]; exact ha.2 h), if_pos h]
theorem ZiR (hN : W32 N) (hUF : W32 UF) (hU : WL U) (hDF : W32 DF) (hD : WL D) (lU : U.length ≤ 9000000000000) (lD : D.length ≤ 9000000000000) (lN : N.length ≤ 9000000000000000) : T (ZaO N UF U DF D) fun x => ∃ er, HierA N UF U DF D er /\ x = (er.code, er.pls) := by
 unfold ZaO
 refine Zo (fun o => o = true ↔ ¬ SmX N U D) ?_ fun o ho => ?_
 ·unfold SmX
  simp only [T_G, Zq, Zc]
  exact ⟨fun _ => by simp; omega, fun h1 => ⟨by omega, by rw [decide_eq_true_iff]; omega⟩⟩
 rw [Zq]
 refine ⟨fun hb => by rw [p_E, Option.bind_some, Zc]; exact ⟨_, .lim (ho.1 hb), rfl⟩, fun hn => ?_⟩
 have sm : SmX N U D := Classical.not_not.1 fun q => hn (ho.2 q)
 have sm' := sm
 obtain ⟨n1, m1⟩ := sm'
 refine Zo (fun o => o = true ↔ ¬ LnX N UF DF) ?_ fun o ho => ?_
 ·unfold LnX
  simp only [T_G, Zq, Zc]
  exact ⟨by omega, fun h1 => by simp [h1], fun h1 => by simp [h1]⟩
 rw [Zq]
 refine ⟨fun hb => by rw [p_E, Option.bind_some, Zc]; exact ⟨_, .len sm (ho.1 hb), rfl⟩, fun hn => ?_⟩
 have ln : LnX N UF DF := Classical.not_not.1 fun q => hn (ho.2 q)
 have ln' := ln
 obtain ⟨nU, nD⟩ := ln'
 refine Zo _ (Zhq hUF nU (by omega) (by omega) (by omega) (by omega)) ?_
 rintro _ ⟨eu, h1, rfl⟩
 refine Zo _ (Zhq hDF nD (by omega) (by omega) (by omega) (by omega)) ?_
 rintro _ ⟨ed, h2, rfl⟩
 dsimp only
 rw [Zlm h1.bad h2.bad, Option.bind_some]
 by_cases e1 : eu = .nil
 rotate_left
 ·rw [if_pos e1]
  dsimp only
  rw [Zd9, Option.bind_some, if_pos (by simp only [decide_eq_true_iff]; exact h1.bad.2 e1), Zc]
  exact ⟨_, .up eu sm ln h1 e1, rfl⟩
 subst e1
 have fU := h1.nilD
 rw [if_neg (fun q => q rfl)]
 dsimp only
 by_cases e2 : ed = .nil
 rotate_left
 ·rw [Zd9, Option.bind_some, if_pos (by simp only [decide_eq_true_iff]; exact h2.bad.2 e2), Zc]
  exact ⟨_, .dn ed sm ln fU h2 e2, rfl⟩
 subst e2
 have fD := h2.nilD
 rw [Zd9, Option.bind_some, if_neg (by simp [Er.code, Er.pls]), T_G]
 refine ⟨by omega, Za0 (fun _ => Zeh N) ?_ fun _ od => ?_⟩
 ·refine ZH (fun z => 0 ≤ z.2 /\ z.2 ≤ (N.length : Int) /\ (z.1.length : Int) = N.length /\ (∀ r, 0 ≤ r -> r < z.2 -> gt N r < (N.length : Int)) /\ (∀ q p, 0 ≤ q -> q < p -> p < z.2 -> gt N q ≠ gt N p) /\ ∀ v, 0 ≤ v -> v < (N.length : Int) -> (gt z.1 v = true ↔ ∃ q, 0 ≤ q /\ q < z.2 /\ gt N q = v)) (fun z => ((N.length : Int) - z.2).toNat) ?_ ⟨by simp, by simp, by simp, fun r r0 r1 => by dsimp only at r1; omega, fun r r' r0 r1 r2 => by dsimp only at r2; omega, fun v v0 v1 => ?_⟩
  rotate_left
  ·have : gt (List.replicate N.length false) v = false := by
    simp [gt, List.getD_eq_getElem?_getD, List.getElem?_replicate]; split <;> rfl
   dsimp only
   rw [this]
   exact ⟨fun h => (by cases h), fun ⟨q, q0, q1, _⟩ => by omega⟩
  rintro ⟨sn, i⟩ ⟨i0, i1, ls, c1, c2, c3⟩
  dsimp only at *
  unfold Zax
  rw [Zq]
  refine ⟨fun hi => ?_, fun hi => ?_⟩
  rotate_left
  ·simp only [Zc, Sum.elim_inr]
   refine ⟨fun r r0 r1 => ⟨(hN _ (Zah r0 r1)).1, c1 r r0 (by omega)⟩, fun r r' r0 r1 q0 q1 e => ?_⟩
   rcases Int.lt_trichotomy r r' with q | q | q
   ·exact absurd e (c2 r r' r0 q (by omega))
   ·exact q
   ·exact absurd e.symm (c2 r' r q0 q (by omega))
  have hr := hN _ (Zah i0 hi)
  rw [T_G]
  refine ⟨i0, Zo (fun o => o = true ↔ (gt N i ≥ (N.length : Int) ∨ ∃ q, 0 ≤ q /\ q < i /\ gt N q = gt N i)) ?_ fun o ho => ?_⟩
  ·simp only [T_G, Zq, Zc]
   refine ⟨by omega, by omega, fun h => by simp [h], fun hlt => ⟨by omega, ?_⟩⟩
   rw [c3 (gt N i) hr.1 (by omega)]
   exact ⟨fun h => .inr h, fun h => h.resolve_left hlt⟩
  rw [p_E, Option.bind_some, ZhQ, Option.bind_some, Zq]
  refine ⟨fun hb => ?_, fun hne => ?_⟩
  ·simp only [Zdp, Zc, Sum.elim_inr, Sum.elim_inl]
   exact ⟨_, .ord _ sm ln fU fD (.bad i i0 hi c1 c2 (ho.1 hb)) (by simp), rfl⟩
  have hn : ¬ (gt N i ≥ (N.length : Int) ∨ ∃ q, 0 ≤ q /\ q < i /\ gt N q = gt N i) := fun q => hne (ho.2 q)
  have a1 : gt N i < (N.length : Int) := by
   have := fun q => hn (.inl q); omega
  simp only [T_G, Zc, Sum.elim_inl]
  refine ⟨by omega, by omega, ⟨by omega, by omega, by simpa using ls, fun r r0 r1 => ?_, fun r r' r0 r1 r2 => ?_, fun v v0 v1 => ?_⟩, by omega⟩
  ·by_cases e : r = i
   ·subst e; exact a1
   ·exact c1 r r0 (by omega)
  ·by_cases e : r' = i
   ·subst e
    exact fun q => hn (.inr ⟨r, r0, r1, q⟩)
   ·exact c2 r r' r0 r1 (by omega)
  ·rw [ZcQ hr.1 (by omega) v0]
   by_cases e : v = gt N i
   ·rw [if_pos e]
    exact ⟨fun _ => ⟨i, i0, by omega, e.symm⟩, fun _ => rfl⟩
   ·rw [if_neg e, c3 v v0 v1]
    refine ⟨fun ⟨q, q0, q1, q2⟩ => ⟨q, q0, by omega, q2⟩, fun ⟨q, q0, q1, q2⟩ => ⟨q, q0, ?_, q2⟩⟩
    by_cases e2 : q = i
    ·subst e2; exact absurd q2.symm e
    ·omega
 -- the links
 obtain ⟨⟨al, er⟩, _, hA, hF, _⟩ := Zg8 hN hUF hU hDF hD lU lD lN
 dsimp only at hA hF
 obtain ⟨all, hX⟩ : ∃ all, AllX UF DF U D all := by
  cases hA with
  | lim h => exact absurd sm h
  | len _ h => exact absurd ln h
  | up _ _ _ h3 h4 => exact (h3.no h4 fU).elim
  | dn _ _ _ _ h4 h5 => exact (h4.no h5 fD).elim
  | ord _ _ _ _ _ h5 h6 => exact (h5.no h6 od).elim
  | lnk _ all _ _ _ _ _ h6 _ => exact ⟨all, h6⟩
 refine Zo _ (Zio ln sm fU fD hX) fun ranks hr => ?_
 have hrl := hr.1
 refine Za0 (fun _ => ∀ i, 0 ≤ i -> i < (all.length : Int) -> ZcZ N U all i /\ ZdA all i) ?_ fun _ h => by
  simp only [Zc]
  exact ⟨.nil, .lnk .nil all sm ln fU fD od hX (.ok h), rfl⟩
 have hl := hX.len
 refine ZH (fun i => 0 ≤ i /\ i ≤ (all.length : Int) /\ ∀ j, 0 ≤ j -> j < i -> ZcZ N U all j /\ ZdA all j) (fun i => ((all.length : Int) - i).toNat) ?_ ⟨by simp, by omega, fun j j0 j1 => by omega⟩
 rintro i ⟨i0, i1, hi⟩
 unfold Zav
 rw [hrl, Zq]
 refine ⟨fun hlt => ?_, fun hge => by simp only [Zc, Sum.elim_inr]; exact fun j j0 j1 => hi j j0 (by omega)⟩
 refine Zo _ (Zk2 sm ln hU hD hX hr i0 hlt) fun x hx => ?_
 rcases hx with ⟨rfl, ns⟩ | ⟨rfl, sh, ns⟩ | ⟨rfl, sh, wg⟩
 ·dsimp only
  rw [Zd9, Option.bind_some, if_pos (by simp)]
  simp only [Zdp, Zc, Sum.elim_inr, Sum.elim_inl]
  exact ⟨_, .lnk _ all sm ln fU fD od hX (.shp i i0 hlt hi ns), rfl⟩
 ·dsimp only
  rw [Zd9, Option.bind_some, if_pos (by simp)]
  simp only [Zdp, Zc, Sum.elim_inr, Sum.elim_inl]
  exact ⟨_, .lnk _ all sm ln fU fD od hX (.wgt i i0 hlt hi sh ns), rfl⟩
 ·dsimp only
  rw [Zd9, Option.bind_some, if_neg (by simp)]
  simp only [T_G, Zc, Sum.elim_inl]
  refine ⟨by omega, ⟨by omega, by omega, fun j j0 j1 => ?_⟩, by omega⟩
  by_cases e : j = i
  ·subst e; exact ⟨sh, wg⟩
  ·exact hi j j0 (by omega)
end Go.Vd

/-! (HxI) -/

set_option linter.unusedVariables false
set_option linter.unusedSimpArgs false
set_option maxHeartbeats 2000000
namespace Go.Vd
variable {N UF DF : List Int} {U D : List B4}
theorem HierA.badC {er : Er} (h : HierA N UF U DF D er) : (er.code ≠ 0 ∨ er.pls ≠ []) ↔ er ≠ .nil := by
 cases h with
 | lim _ => simp [Er.code]
 | len _ _ => simp [Er.code]
 | up _ _ _ h _ => exact h.bad
 | dn _ _ _ _ h _ => exact h.bad
 | ord _ _ _ _ _ h _ => cases h <;> simp [Er.code, Er.pls]
 | lnk _ _ _ _ _ _ _ _ h => cases h <;> simp [Er.code, Er.pls]
end Go.Vd

/-! (NdL) -/

set_option linter.unusedVariables false
set_option linter.unusedSimpArgs false
namespace Go.Vd
theorem ZeD : ∀ {N : Nat} {l : List Int}, l.Nodup -> (∀ x ∈ l, 0 ≤ x /\ x < (N : Int)) -> l.length ≤ N := by
 intro N
 induction N with
 | zero =>
  intro l _ h
  cases l with
  | nil => simp
  | cons a l => have := h a (by simp); omega
 | succ N ih =>
  intro l hn h
  have h1 : (l.filter (fun x => decide (x ≠ (N : Int)))).length ≤ N := ih (hn.filter _) fun x hx => by
   have hm := List.mem_filter.1 hx
   have := h x hm.1
   have h3 := of_decide_eq_true hm.2
   omega
  have h2 : l.length ≤ (l.filter (fun x => decide (x ≠ (N : Int)))).length + 1 := by
   clear h h1 ih
   induction l with
   | nil => simp
   | cons a l ih2 =>
    rw [List.nodup_cons] at hn
    by_cases e : a = (N : Int)
    ·have : l.filter (fun x => decide (x ≠ (N : Int))) = l := List.filter_eq_self.2 fun x hx => decide_eq_true fun e2 => hn.1 (by rw [e, ← e2]; exact hx)
     rw [List.filter_cons, if_neg (by simp [e]), this]; simp
    ·rw [List.filter_cons, if_pos (by simp [e])]
     have := ih2 hn.2
     simp only [List.length_cons]; omega
  omega
end Go.Vd

/-! (PrRk) -/

set_option linter.unusedVariables false
set_option linter.unusedSimpArgs false
namespace Go.Vd
variable {N UF DF : List Int} {U D : List B4}
theorem Zkb {all : List (Int × Int × Int × Int × Int × Int × Int)} {er : Er} (e : Zbl N UF U DF D = some (all, er)) : ZZ N UF U DF D = some er := by
 unfold ZZ; rw [e]; rfl
def RkN (N l : List Int) : Prop := (l.length : Int) = N.length /\ ∀ r, 0 ≤ r -> r < (N.length : Int) -> gt l (gt N r) = r
theorem ZkM (e : ZZ N UF U DF D = some .nil) (h : Zeh N) (hn : N.length ≤ 65536) : T (ZbM N UF U DF D) fun x => x.2 = .nil /\ RkN N x.1 := by
 unfold ZbM
 rw [e, Option.bind_some, if_pos rfl, T_G]
 refine ⟨by omega, Zo (fun l => RkN N l) ?_ fun l hl => by simp only [Zc]; exact ⟨trivial, hl⟩⟩
 refine ZH (fun z => 0 ≤ z.1 /\ z.1 ≤ (N.length : Int) /\ (z.2.length : Int) = N.length /\ ∀ r, 0 ≤ r -> r < z.1 -> gt z.2 (gt N r) = r) (fun z => ((N.length : Int) - z.1).toNat) ?_ ⟨by simp, by simp, by simp, fun r r0 r1 => by dsimp only at r1; omega⟩
 rintro ⟨i, l⟩ ⟨i0, i1, hl, hr⟩
 dsimp only at *
 unfold ZcH
 simp only [Zq, T_G, Zc, Sum.elim_inl, Sum.elim_inr]
 refine ⟨fun hi => ?_, fun hi => ⟨hl, fun r r0 r1 => hr r r0 (by omega)⟩⟩
 obtain ⟨v0, v1⟩ := h.1 i i0 hi
 refine ⟨i0, by omega, by omega, ⟨by omega, by omega, by simpa using hl, fun r r0 r1 => ?_⟩, by omega⟩
 obtain ⟨w0, w1⟩ := h.1 r r0 (by omega)
 rw [ZcQ v0 (by omega) w0]
 by_cases q : gt N r = gt N i
 ·rw [if_pos q]; exact (h.2 r i r0 (by omega) i0 hi q).symm
 ·rw [if_neg q]
  refine hr r r0 ?_
  by_cases q2 : r = i
  ·subst q2; exact absurd rfl q
  ·omega
theorem ZkC (o : Zeh N) {v : Int} (v0 : 0 ≤ v) (v1 : v < (N.length : Int)) : ∃ r, 0 ≤ r /\ r < (N.length : Int) /\ gt N r = v := by
 refine Classical.byContradiction fun hn => ?_
 have nd : N.Nodup := by
  rw [List.nodup_iff_pairwise_ne, List.pairwise_iff_getElem]
  intro i j hi hj hij e
  have e1 : gt N (i : Int) = N[i] := Zb5 hi
  have e2 : gt N (j : Int) = N[j] := Zb5 hj
  have := o.2 (i : Int) (j : Int) (by omega) (by omega) (by omega) (by omega) (by rw [e1, e2]; exact e)
  omega
 have := ZeD (N := N.length) (l := v :: N) (List.nodup_cons.2 ⟨fun hm => ?_, nd⟩) fun x hx => ?_
 ·simp only [List.length_cons] at this; omega
 ·obtain ⟨r, r0, r1, rfl⟩ := ZcE hm
  exact hn ⟨r, r0, r1, rfl⟩
 ·rcases List.mem_cons.1 hx with rfl | hx
  ·exact ⟨v0, v1⟩
  ·obtain ⟨r, r0, r1, rfl⟩ := ZcE hx
   exact o.1 r r0 r1
theorem RkN.at {l : List Int} (h : RkN N l) (o : Zeh N) {v : Int} (v0 : 0 ≤ v) (v1 : v < (N.length : Int)) : 0 ≤ gt l v /\ gt l v < (N.length : Int) /\ gt N (gt l v) = v := by
 obtain ⟨r, r0, r1, e⟩ := ZkC o v0 v1
 have := h.2 r r0 r1
 rw [e] at this
 rw [this]; exact ⟨r0, r1, e⟩
end Go.Vd

/-! (TwA) -/

set_option linter.unusedVariables false
set_option linter.unusedSimpArgs false
namespace Go.Vd
abbrev Rw2 := Int -> List (Int × Int)
abbrev Lb := Int -> Option Int
inductive Wy (row : Rw2) (s : Int) : Int -> Int -> Prop
 | refl : Wy row s s 0
 | step (u d : Int) (a : Int × Int) : Wy row s u d -> a ∈ row u -> Wy row s a.1 (d + a.2)
def ZbK (row : Rw2) (n : Int) : Prop := ∀ v, ∀ a ∈ row v, (0 ≤ a.1 /\ a.1 < n) /\ 0 ≤ a.2 /\ a.2 ≤ 140737488355328
variable {row : Rw2} {n s u v d k x : Int} {L L' : Lb} {S : List Int} {l : List (Int × Int)} {a : Int × Int}
theorem Wy.pre {a : Int × Int} (ha : a ∈ row s) (h : Wy row a.1 x k) : Wy row s x (a.2 + k) := by
 induction h with
 | refl => have := Wy.step s 0 a .refl ha; simpa [Int.add_comm] using this
 | step u d b _ hb ih => rw [← Int.add_assoc]; exact .step u _ b ih hb
def rlx (d : Int) (L : Lb) (a : Int × Int) : Lb := fun x => if x = a.1 then some (match L x with | none => d + a.2 | some k => min k (d + a.2)) else L x
theorem ZlB (h : L x = some k) : ∃ m, rlx d L a x = some m /\ m ≤ k := by
 unfold rlx
 by_cases e : x = a.1
 ·rw [if_pos e, h]; exact ⟨_, rfl, Int.min_le_left _ _⟩
 ·rw [if_neg e]; exact ⟨k, h, Int.le_refl _⟩
theorem ZkU (h : rlx d L a x = some k) : L x = some k ∨ (a.1 = x /\ k = d + a.2) := by
 unfold rlx at h
 by_cases e : x = a.1
 ·rw [if_pos e] at h
  cases hx : L x with
  | none => rw [hx] at h; cases h; exact .inr ⟨e.symm, rfl⟩
  | some j =>
   rw [hx] at h
   dsimp only at h
   cases h
   rcases Int.le_total j (d + a.2) with q | q
   ·rw [Int.min_eq_left q]; exact .inl rfl
   ·rw [Int.min_eq_right q]; exact .inr ⟨e.symm, rfl⟩
 ·rw [if_neg e] at h; exact .inl h
theorem Zls : ∃ m, rlx d L a a.1 = some m /\ m ≤ d + a.2 := by
 unfold rlx
 rw [if_pos rfl]
 refine ⟨_, rfl, ?_⟩
 split <;> omega
theorem Zko (h : L x = some k) (hk : k ≤ d + a.2) : rlx d L a x = some k := by
 unfold rlx
 by_cases e : x = a.1
 ·rw [if_pos e, h]; dsimp only; rw [Int.min_eq_left hk]
 ·rw [if_neg e]; exact h
theorem Zi2 : ∀ {l : List (Int × Int)} {L : Lb} {k : Int}, L x = some k -> ∃ m, l.foldl (rlx d) L x = some m /\ m ≤ k := by
 intro l
 induction l with
 | nil => intro L k h; exact ⟨k, h, Int.le_refl _⟩
 | cons a l ih =>
  intro L k h
  obtain ⟨m, h1, h2⟩ := ZlB (a := a) (d := d) h
  obtain ⟨m', h3, h4⟩ := ih h1
  exact ⟨m', h3, by omega⟩
theorem Ze3 : ∀ {l : List (Int × Int)} {L : Lb}, l.foldl (rlx d) L x = some k -> L x = some k ∨ ∃ a ∈ l, a.1 = x /\ k = d + a.2 := by
 intro l
 induction l with
 | nil => intro L h; exact .inl h
 | cons a l ih =>
  intro L h
  rcases ih h with q | ⟨b, hb, e⟩
  ·rcases ZkU q with q | q
   ·exact .inl q
   ·exact .inr ⟨a, by simp, q⟩
  ·exact .inr ⟨b, by simp [hb], e⟩
theorem Zku : ∀ {l : List (Int × Int)} {L : Lb}, a ∈ l -> ∃ m, l.foldl (rlx d) L a.1 = some m /\ m ≤ d + a.2 := by
 intro l
 induction l with
 | nil => intro L h; cases h
 | cons b l ih =>
  intro L h
  rcases List.mem_cons.1 h with rfl | h
  ·obtain ⟨m, h1, h2⟩ := Zls (d := d) (L := L) (a := a)
   obtain ⟨m', h3, h4⟩ := Zi2 (d := d) (l := l) h1
   exact ⟨m', h3, by omega⟩
  ·exact ih h
theorem Zeb : ∀ {l : List (Int × Int)} {L : Lb}, (∀ a ∈ l, 0 ≤ a.2) -> L x = some k -> k ≤ d -> l.foldl (rlx d) L x = some k := by
 intro l
 induction l with
 | nil => intro L _ h _; exact h
 | cons a l ih =>
  intro L hl h hk
  have := hl a (by simp)
  exact ih (fun b hb => hl b (by simp [hb])) (Zko h (by omega)) hk
structure DjI (row : Rw2) (n s : Int) (S : List Int) (L : Lb) : Prop where
 nd : S.Nodup
 sr : ∀ u ∈ S, 0 ≤ u /\ u < n
 rng : ∀ x k, L x = some k -> (0 ≤ x /\ x < n) /\ 0 ≤ k /\ k ≤ (S.length : Int) * 140737488355328
 src : L s = some 0
 way : ∀ x k, L x = some k -> Wy row s x k
 sd : ∀ u ∈ S, ∃ k, L u = some k
 lim : ∀ u k x k', u ∈ S -> L u = some k -> x ∉ S -> L x = some k' -> k ≤ k'
 arc : ∀ u k a, u ∈ S -> L u = some k -> a ∈ row u -> ∃ m, L a.1 = some m /\ m ≤ k + a.2
 pre : ∀ x k, L x = some k -> x = s ∨ ∃ u ∈ S, ∃ ku a, L u = some ku /\ a ∈ row u /\ a.1 = x /\ k = ku + a.2
theorem DjI.start (s0 : 0 ≤ s) (s1 : s < n) : DjI row n s [] (fun x => if x = s then some 0 else none) := by
 refine ⟨List.nodup_nil, fun _ h => (nomatch h), fun x k h => ?_, if_pos rfl, fun x k h => ?_, fun _ h => (nomatch h), fun _ _ _ _ h => (nomatch h), fun _ _ _ h => (nomatch h), fun x k h => ?_⟩
 ·by_cases e : x = s
  ·rw [if_pos e] at h; cases h; exact ⟨⟨by omega, by omega⟩, by omega, by simp⟩
  ·rw [if_neg e] at h; cases h
 ·by_cases e : x = s
  ·rw [if_pos e] at h; cases h; subst e; exact .refl
  ·rw [if_neg e] at h; cases h
 ·by_cases e : x = s
  ·exact .inl e
  ·rw [if_neg e] at h; cases h
theorem DjI.low (D : DjI row n s S L) (hv : v ∉ S) (hd : L v = some d) {u k : Int} (hu : u ∈ S) (hk : L u = some k) : k ≤ d := D.lim u k v d hu hk hv hd
theorem DjI.step (D : DjI row n s S L) (hr : ZbK row n) (hv : v ∉ S) (hd : L v = some d) (hm : ∀ x k, x ∉ S -> L x = some k -> d ≤ k) : DjI row n s (v :: S) ((row v).foldl (rlx d) L) := by
 have h0 : ∀ a ∈ row v, 0 ≤ a.2 := fun a ha => (hr v a ha).2.1
 obtain ⟨vr, d0, d1⟩ := D.rng v d hd
 have kv : (row v).foldl (rlx d) L v = some d := Zeb h0 hd (Int.le_refl _)
 have kS : ∀ u ∈ S, ∃ k, L u = some k /\ k ≤ d /\ (row v).foldl (rlx d) L u = some k := fun u hu => by
  obtain ⟨k, hk⟩ := D.sd u hu
  exact ⟨k, hk, D.low hv hd hu hk, Zeb h0 hk (D.low hv hd hu hk)⟩
 refine ⟨List.nodup_cons.2 ⟨hv, D.nd⟩, fun u hu => ?_, fun x k h => ?_, ?_, fun x k h => ?_, fun u hu => ?_, fun u k x k' hu hk hx hk' => ?_, fun u k a hu hk ha => ?_, fun x k h => ?_⟩
 ·rcases List.mem_cons.1 hu with rfl | hu
  ·exact vr
  ·exact D.sr u hu
 ·simp only [List.length_cons]
  rcases Ze3 h with h | ⟨a, ha, rfl, rfl⟩
  ·obtain ⟨q1, q2, q3⟩ := D.rng x k h
   exact ⟨q1, q2, by omega⟩
  ·obtain ⟨q1, q2, q3⟩ := hr v a ha
   exact ⟨q1, by omega, by omega⟩
 ·exact Zeb h0 D.src d0
 ·rcases Ze3 h with h | ⟨a, ha, rfl, rfl⟩
  ·exact D.way x k h
  ·exact .step v d a (D.way v d hd) ha
 ·rcases List.mem_cons.1 hu with rfl | hu
  ·exact ⟨d, kv⟩
  ·obtain ⟨k, _, _, h⟩ := kS u hu; exact ⟨k, h⟩
 ·have hkd : k ≤ d := by
   rcases List.mem_cons.1 hu with rfl | hu
   ·rw [kv] at hk; cases hk; exact Int.le_refl _
   ·obtain ⟨k1, _, h2, h3⟩ := kS u hu
    rw [h3] at hk; cases hk; exact h2
  rcases Ze3 hk' with h | ⟨a, ha, _, rfl⟩
  ·have := hm x k' (fun q => hx (by simp [q])) h; omega
  ·have := h0 a ha; omega
 ·rcases List.mem_cons.1 hu with rfl | hu
  ·rw [kv] at hk; cases hk; exact Zku ha
  ·obtain ⟨k1, h1, h2, h3⟩ := kS u hu
   rw [h3] at hk; cases hk
   obtain ⟨m, g1, g2⟩ := D.arc u k a hu h1 ha
   obtain ⟨m', g3, g4⟩ := Zi2 (d := d) (l := row v) g1
   exact ⟨m', g3, by omega⟩
 ·rcases Ze3 h with h | ⟨a, ha, rfl, rfl⟩
  ·rcases D.pre x k h with e | ⟨u, hu, ku, a, q1, q2, q3, q4⟩
   ·exact .inl e
   ·obtain ⟨k1, h1, _, h3⟩ := kS u hu
    rw [q1] at h1; cases h1
    exact .inr ⟨u, by simp [hu], ku, a, h3, q2, q3, q4⟩
  ·exact .inr ⟨v, by simp, d, a, kv, ha, rfl, rfl⟩
structure DjF (row : Rw2) (n s : Int) (L : Lb) : Prop where
 rng : ∀ x k, L x = some k -> (0 ≤ x /\ x < n) /\ 0 ≤ k /\ k ≤ n * 140737488355328
 src : L s = some 0
 way : ∀ x k, L x = some k -> Wy row s x k
 arc : ∀ u k a, L u = some k -> a ∈ row u -> ∃ m, L a.1 = some m /\ m ≤ k + a.2
 pre : ∀ x k, L x = some k -> x = s ∨ ∃ u, ∃ ku a, L u = some ku /\ a ∈ row u /\ a.1 = x /\ k = ku + a.2
theorem DjI.len (D : DjI row n s S L) (n0 : 0 ≤ n) : (S.length : Int) ≤ n := by
 have := ZeD (N := n.toNat) D.nd fun x hx => by have := D.sr x hx; omega
 omega
theorem DjI.fin (D : DjI row n s S L) (n0 : 0 ≤ n) (h : ∀ x k, L x = some k -> x ∈ S) : DjF row n s L := by
 have hl := D.len n0
 refine ⟨fun x k e => ?_, D.src, D.way, fun u k a hu ha => D.arc u k a (h u k hu) hu ha, fun x k e => ?_⟩
 ·obtain ⟨q1, q2, q3⟩ := D.rng x k e
  exact ⟨q1, q2, by omega⟩
 ·rcases D.pre x k e with q | ⟨u, _, q⟩
  ·exact .inl q
  ·exact .inr ⟨u, q⟩
theorem DjF.low (D : DjF row n s L) (h : Wy row s x d) : ∃ k, L x = some k /\ k ≤ d := by
 induction h with
 | refl => exact ⟨0, D.src, Int.le_refl _⟩
 | step u e a _ ha ih =>
  obtain ⟨k, h1, h2⟩ := ih
  obtain ⟨m, h3, h4⟩ := D.arc u k a h1 ha
  exact ⟨m, h3, by omega⟩
end Go.Vd

/-! (TwB) -/

set_option linter.unusedVariables false
set_option linter.unusedSimpArgs false
namespace Go.Vd
def Lk (up dn : Rw2) (u x w : Int) : Prop := (x, w) ∈ up u ∨ (u, w) ∈ dn x
inductive Wb (up dn : Rw2) (k : Int) (u : Int) : Int -> Int -> Prop
 | refl : k ≤ u -> Wb up dn k u u 0
 | step (x d y w : Int) : Wb up dn k u x d -> Lk up dn x y w -> k ≤ y -> Wb up dn k u y (d + w)
def Rs (row : Rw2) : Prop := ∀ r, ∀ a ∈ row r, r < a.1
variable {up dn : Rw2} {n k u v w d e r x y : Int}
theorem Wb.cat {e : Int} (h : Wb up dn k u x d) (g : Wb up dn k x y e) : Wb up dn k u y (d + e) := by
 induction g with
 | refl => simpa using h
 | step x' e' y' w' _ hl hy ih => rw [← Int.add_assoc]; exact .step _ _ _ _ ih hl hy
theorem Lk.nn (hu : ZbK up n) (hd : ZbK dn n) (h : Lk up dn x y w) : 0 ≤ w := by
 rcases h with h | h
 ·exact (hu _ _ h).2.1
 ·exact (hd _ _ h).2.1
theorem Wb.nn (hu : ZbK up n) (hd : ZbK dn n) (h : Wb up dn k u x d) : 0 ≤ d := by
 induction h with
 | refl => exact Int.le_refl _
 | step x d y w _ hl _ ih => have := hl.nn hu hd; omega
theorem Wb.ge (h : Wb up dn k u x d) : k ≤ x /\ k ≤ u := by
 induction h with
 | refl h => exact ⟨h, h⟩
 | step x d y w _ _ hy ih => exact ⟨hy, ih.2⟩
theorem Lk.upw (rd : Rs dn) (h : Lk up dn k x w) (hx : k < x) : (x, w) ∈ up k := by
 rcases h with h | h
 ·exact h
 ·have := rd _ _ h; dsimp only at this; omega
theorem Lk.dnw (ru : Rs up) (h : Lk up dn x k w) (hx : k < x) : (x, w) ∈ dn k := by
 rcases h with h | h
 ·have := ru _ _ h; dsimp only at this; omega
 ·exact h
theorem Lk.ne (ru : Rs up) (rd : Rs dn) (h : Lk up dn x y w) : x ≠ y := by
 rcases h with h | h
 ·have := ru _ _ h; dsimp only at this; omega
 ·have := rd _ _ h; dsimp only at this; omega
def Tru (up dn : Rw2) (r : Int) : Prop := ∀ a ∈ dn r, ∀ b ∈ up r, a.1 ≠ b.1 -> ∃ e, Wb up dn (r + 1) a.1 b.1 e /\ e ≤ a.2 + b.2
theorem Wb.elim (hu : ZbK up n) (hd : ZbK dn n) (ru : Rs up) (rd : Rs dn) (ht : Tru up dn k) (k0 : k < u) (h : Wb up dn k u x d) :
  (k < x -> ∃ e, Wb up dn (k + 1) u x e /\ e ≤ d) /\ (x = k -> ∃ y w e, (y, w) ∈ dn k /\ Wb up dn (k + 1) u y e /\ e + w ≤ d) := by
 induction h with
 | refl _ => exact ⟨fun _ => ⟨0, .refl (by omega), Int.le_refl _⟩, fun q => by omega⟩
 | step x d y w hw hl hy ih =>
  obtain ⟨i1, i2⟩ := ih
  have hge := hw.ge.1
  by_cases hx : k < x
  ·obtain ⟨e, g1, g2⟩ := i1 hx
   refine ⟨fun q => ⟨e + w, .step _ _ _ _ g1 hl (by omega), by omega⟩, fun q => ?_⟩
   subst q
   exact ⟨x, w, e, hl.dnw ru hx, g1, by omega⟩
  ·have e0 : x = k := by omega
   subst e0
   obtain ⟨z, w1, e, g1, g2, g3⟩ := i2 rfl
   refine ⟨fun q => ?_, fun q => absurd q.symm (hl.ne ru rd)⟩
   have hup := hl.upw rd q
   have := hl.nn hu hd
   by_cases ez : z = y
   ·subst ez
    have := (hd _ _ g1).2.1
    dsimp only at this
    exact ⟨e, g2, by omega⟩
   ·obtain ⟨e2, t1, t2⟩ := ht _ g1 _ hup ez
    exact ⟨e + e2, g2.cat t1, by dsimp only at t2; omega⟩
theorem Wb.first (hu : ZbK up n) (hd : ZbK dn n) (ru : Rs up) (rd : Rs dn) (h : Wb up dn k k x d) : k < x -> ∃ y w e, (y, w) ∈ up k /\ Wb up dn (k + 1) y x e /\ w + e ≤ d := by
 induction h with
 | refl => intro q; omega
 | step x d y w hw hl hy ih =>
  intro q
  have hge := hw.ge.1
  have hdn := hw.nn hu hd
  by_cases hx : k < x
  ·obtain ⟨z, w1, e, g1, g2, g3⟩ := ih hx
   exact ⟨z, w1, e + w, g1, .step _ _ _ _ g2 hl (by omega), by omega⟩
  ·have e0 : x = k := by omega
   subst e0
   exact ⟨y, w, 0, hl.upw rd q, .refl (by omega), by omega⟩
theorem Wb.updown (hu : ZbK up n) (hd : ZbK dn n) (ru : Rs up) (rd : Rs dn) (ht : ∀ r, 0 ≤ r -> r < n -> Tru up dn r) : ∀ (m : Nat) (k : Int), n - k = m -> 0 ≤ k -> ∀ {u v d : Int}, u < n -> v < n -> Wb up dn k u v d -> ∃ p x y, Wy up u p x /\ Wy dn v p y /\ x + y ≤ d := by
 intro m
 induction m with
 | zero => intro k e _ u v d u1 _ h; have := h.ge.2; omega
 | succ m ih =>
  intro k e k0 u v d u1 v1 h
  have hg := h.ge
  by_cases eu : u = k
  ·subst eu
   by_cases ev : v = u
   ·subst ev
    exact ⟨v, 0, 0, .refl, .refl, by have := h.nn hu hd; omega⟩
   ·obtain ⟨y, w, e1, g1, g2, g3⟩ := h.first hu hd ru rd (by omega)
    obtain ⟨p, a, b, q1, q2, q3⟩ := ih (u + 1) (by omega) (by omega) ((hu _ _ g1).1.2) v1 g2
    exact ⟨p, w + a, b, .pre g1 q1, q2, by omega⟩
  ·have hel := h.elim hu hd ru rd (ht k k0 (by omega)) (by omega)
   by_cases ev : v = k
   ·obtain ⟨y, w, e1, g1, g2, g3⟩ := hel.2 ev
    obtain ⟨p, a, b, q1, q2, q3⟩ := ih (k + 1) (by omega) (by omega) u1 ((hd _ _ g1).1.2) g2
    subst ev
    exact ⟨p, a, w + b, q1, .pre g1 q2, by omega⟩
   ·obtain ⟨e1, g1, g2⟩ := hel.1 (by omega)
    obtain ⟨p, a, b, q1, q2, q3⟩ := ih (k + 1) (by omega) (by omega) u1 v1 g1
    exact ⟨p, a, b, q1, q2, by omega⟩
end Go.Vd

/-! (Nr0) -/

set_option linter.unusedVariables false
set_option linter.unusedSectionVars false
set_option linter.unusedSimpArgs false
namespace Go.Vd
def Zbc (x y : Int × Int × Int) : Prop := x.1 = y.1 /\ x.2.1 = y.2.1
instance (x y : Int × Int × Int) : Decidable (Zbc x y) := by unfold Zbc; infer_instance
def ltk (x y : A3) : Prop := x.1 < y.1 ∨ (x.1 = y.1 /\ x.2.1 < y.2.1)
structure Nrm (A L : List A3) : Prop where
 inc : L.Pairwise ltk
 sub : ∀ a ∈ L, a ∈ A /\ a.1 ≠ a.2.1 /\ ∀ b ∈ A, Zbc b a -> a.2.2 ≤ b.2.2
 sup : ∀ a ∈ A, a.1 ≠ a.2.1 -> ∃ b ∈ L, Zbc b a
end Go.Vd

/-! (HxG0) -/

set_option linter.unusedVariables false
set_option linter.unusedSimpArgs false
set_option maxHeartbeats 4000000
namespace Go.Vd
variable {l N UF DF ranks : List Int} {U D : List B4} {k i j r : Int} {all all' : List E7}
structure InF (N UF : List Int) (U : List B4) (DF : List Int) (D : List B4) (all : List E7) : Prop where
 sm : SmX N U D
 ln : LnX N UF DF
 fU : Fst UF (U.length : Int)
 fD : Fst DF (D.length : Int)
 od : Zeh N
 X : AllX UF DF U D all
 sh : ∀ j, 0 ≤ j -> j < (all.length : Int) -> ZcZ N U all j
 wg : ∀ j, 0 ≤ j -> j < (all.length : Int) -> ZdA all j
theorem InF.mid (h : InF N UF U DF D all) {m : Int} (im : i ≤ m) (mj : m ≤ j) (side : j < (U.length : Int) ∨ (U.length : Int) ≤ i) (h1 : RkX UF DF U i r) (h2 : RkX UF DF U j r) : RkX UF DF U m r := by
 unfold RkX at *
 rcases side with s | s
 ·rw [if_pos (by omega)] at *
  obtain ⟨a, b, c, d⟩ := h1
  obtain ⟨_, _, _, d'⟩ := h2
  exact ⟨a, b, by omega, by omega⟩
 ·rw [if_neg (by omega)] at *
  obtain ⟨a, b, c, d⟩ := h1
  obtain ⟨_, _, _, d'⟩ := h2
  exact ⟨a, b, by omega, by omega⟩
theorem InF.rank (h : InF N UF U DF D all) (i0 : 0 ≤ i) (i1 : i < (all.length : Int)) (h1 : RkX UF DF U i r) : gt all i = e7 U D i r := by
 obtain ⟨r', a, b⟩ := h.X.at' i i0 i1
 rw [b, RkX.uniq h.fU h.fD a h1]
theorem InF.rise (h : InF N UF U DF D all) (i0 : 0 ≤ i) (ij : i < j) (j1 : j < (all.length : Int)) (side : j < (U.length : Int) ∨ (U.length : Int) ≤ i) (h1 : RkX UF DF U i r) (h2 : RkX UF DF U j r) : (gt all i).1 < (gt all j).1 := by
 have key : ∀ n : Nat, i + n ≤ j -> (gt all i).1 + n ≤ (gt all (i + n)).1 := by
  intro n
  induction n with
  | zero => intro _; simp
  | succ n ih =>
   intro hn
   have a := ih (by omega)
   have e1 := h.rank (i := i + n) (by omega) (by omega) (h.mid (m := i + n) (by omega) (by omega) side h1 h2)
   have e2 := h.rank (i := i + n + 1) (by omega) (by omega) (h.mid (m := i + n + 1) (by omega) (by omega) side h1 h2)
   have q := (h.sh (i + n + 1) (by omega) (by omega)).2.2.1
   rw [show i + (n : Int) + 1 - 1 = i + n from by omega] at q
   have q' : ¬ (gt all (i + n)).1 ≥ (gt all (i + n + 1)).1 := fun z => q ⟨by omega, by rcases side with s | s <;> omega, by rw [e1, e2]; rfl, z⟩
   rw [show i + ((n + 1 : Nat) : Int) = i + n + 1 from by omega]
   omega
 have := key (j - i).toNat (by omega)
 rw [show i + ((j - i).toNat : Int) = j from by omega] at this
 omega
def tlE (x : E7) : Int := x.2.2.2.2.1
def hdE (x : E7) : Int := x.2.2.2.2.2.1
theorem InF.ends (h : InF N UF U DF D all) (i0 : 0 ≤ i) (i1 : i < (all.length : Int)) : ∃ r, RkX UF DF U i r /\ 0 ≤ r /\ r < (gt all i).1 /\ (gt all i).1 < (N.length : Int) /\ ((i < (U.length : Int) /\ tlE (gt all i) = r /\ hdE (gt all i) = (gt all i).1) ∨ ((U.length : Int) ≤ i /\ tlE (gt all i) = (gt all i).1 /\ hdE (gt all i) = r)) := by
 obtain ⟨r, a, b⟩ := h.X.at' i i0 i1
 obtain ⟨s1, s2, _⟩ := h.sh i i0 i1
 obtain ⟨r0, r1⟩ := a.rng h.ln.1 h.ln.2
 refine ⟨r, a, r0, ?_, s1, ?_⟩
 ·rw [b] at s2 ⊢; exact s2
 ·rw [b]
  unfold tlE hdE e7
  by_cases q : i < (U.length : Int)
  ·exact .inl ⟨q, by simp [q], by simp [q]⟩
  ·exact .inr ⟨by omega, by simp [q], by simp [q]⟩
theorem InF.key (h : InF N UF U DF D all) (i0 : 0 ≤ i) (ij : i < j) (j1 : j < (all.length : Int)) : ¬ (tlE (gt all i) = tlE (gt all j) /\ hdE (gt all i) = hdE (gt all j)) := by
 rintro ⟨e1, e2⟩
 obtain ⟨r, a1, a2, a3, a4, a5⟩ := h.ends i0 (by omega)
 obtain ⟨q, b1, b2, b3, b4, b5⟩ := h.ends (i := j) (by omega) j1
 rcases a5 with ⟨c1, c2, c3⟩ | ⟨c1, c2, c3⟩ <;> rcases b5 with ⟨d1, d2, d3⟩ | ⟨d1, d2, d3⟩
 ·have : r = q := by omega
  subst this
  have := h.rise i0 ij j1 (.inl d1) a1 b1
  omega
 ·omega
 ·omega
 ·have : r = q := by omega
  subst this
  have := h.rise i0 ij j1 (.inr c1) a1 b1
  omega
instance : Decidable (PlX all i) := by unfold PlX; exact inferInstance
def ar (N : List Int) (x : E7) : A3 := (gt N (tlE x), gt N (hdE x), x.2.1)
def ga (N : List Int) (all : List E7) : Nat -> List A3
 | 0 => []
 | k + 1 => ga N all k ++ if PlX all (k : Int) then [ar N (gt all (k : Int))] else []
theorem ZeX {x : A3} {m : Nat} (h : x ∈ ga N all m) : ∃ i : Int, 0 ≤ i /\ i < m /\ PlX all i /\ x = ar N (gt all i) := by
 induction m with
 | zero => cases h
 | succ m ih =>
  rcases List.mem_append.1 h with h | h
  ·obtain ⟨i, a, b, c⟩ := ih h; exact ⟨i, a, by omega, c⟩
  ·by_cases q : PlX all (m : Int)
   ·rw [if_pos q] at h
    obtain rfl := List.mem_singleton.1 h
    exact ⟨m, by omega, by omega, q, rfl⟩
   ·rw [if_neg q] at h; cases h
theorem Zgy (m : Nat) : (ga N all m).length ≤ m := by
 induction m with
 | zero => simp [ga]
 | succ m ih => simp only [ga, List.length_append]; split <;> simp <;> omega
theorem InF.arne (h : InF N UF U DF D all) (i0 : 0 ≤ i) (ij : i < j) (j1 : j < (all.length : Int)) : ¬ Zbc (ar N (gt all i)) (ar N (gt all j)) := by
 rintro ⟨e1, e2⟩
 obtain ⟨r, a1, a2, a3, a4, a5⟩ := h.ends i0 (by omega)
 obtain ⟨q, b1, b2, b3, b4, b5⟩ := h.ends (i := j) (by omega) j1
 refine h.key i0 ij j1 ⟨h.od.2 _ _ ?_ ?_ ?_ ?_ e1, h.od.2 _ _ ?_ ?_ ?_ ?_ e2⟩ <;> omega
theorem InF.noloop (h : InF N UF U DF D all) (i0 : 0 ≤ i) (i1 : i < (all.length : Int)) : (ar N (gt all i)).1 ≠ (ar N (gt all i)).2.1 := by
 intro e
 obtain ⟨r, a1, a2, a3, a4, a5⟩ := h.ends i0 i1
 have := h.od.2 (tlE (gt all i)) (hdE (gt all i)) (by omega) (by omega) (by omega) (by omega) e
 omega
theorem InF.uniq (h : InF N UF U DF D all) {x y : A3} (hx : x ∈ ga N all all.length) (hy : y ∈ ga N all all.length) (k : Zbc x y) : x = y := by
 obtain ⟨i, i0, i1, _, rfl⟩ := ZeX hx
 obtain ⟨j, j0, j1, _, rfl⟩ := ZeX hy
 rcases Int.lt_trichotomy i j with q | q | q
 ·exact absurd k (h.arne i0 q j1)
 ·rw [q]
 ·exact absurd ⟨k.1.symm, k.2.symm⟩ (h.arne j0 q i1)
end Go.Vd

/-! (PrP0) -/

set_option linter.unusedVariables false
set_option linter.unusedSectionVars false
set_option linter.unusedSimpArgs false
namespace Go.Vd
variable {N : Int} {A L : List A3}
instance (x y : A3) : Decidable (ltk x y) := by unfold ltk; exact inferInstance
inductive PutA : List A3 -> A3 -> List A3 -> Prop
 | hit (p q : List A3) (b a : A3) : Zbc b a -> PutA (p ++ b :: q) a (p ++ (a.1, a.2.1, min a.2.2 b.2.2) :: q)
 | new (p q : List A3) (a : A3) : (∀ x ∈ p, ltk x a) -> (∀ x ∈ q, ltk a x) -> PutA (p ++ q) a (p ++ a :: q)
theorem Zlb {x a : A3} : ZbH x.1 x.2.1 x.2.2 a.1 a.2.1 a.2.2 = some (decide (ltk x a)) := by
 unfold ZbH ltk
 by_cases h : x.1 < a.1
 ·rw [if_pos h]; simp [h]
 ·rw [if_neg h]
  by_cases h2 : x.1 = a.1
  ·rw [if_pos h2]; simp [h2]
  ·rw [if_neg h2]; simp [h, h2]
theorem Zib {o : Int} (o0 : 0 ≤ o) (o1 : o < (L.length : Int)) : L.drop o.toNat = gt L o :: L.drop (o + 1).toNat := by
 rw [List.drop_eq_getElem_cons (i := o.toNat) (by omega), show (o + 1).toNat = o.toNat + 1 from by omega]
 congr 1
 have h : gt L ((o.toNat : Nat) : Int) = L[o.toNat] := Zb5 (by omega)
 rw [← h]; congr 1; omega
theorem p_Put {a : A3} (hL : L.Pairwise ltk) (hl : L.length ≤ 300000) : T (ZbL L a.1 a.2.1 a.2.2) fun r => PutA L a r /\ r.length ≤ L.length + 1 := by
 unfold ZbL
 refine Zo (fun o => 0 ≤ o /\ o ≤ (L.length : Int) /\ (∀ j, 0 ≤ j -> j < o -> ltk (gt L j) a) /\ (o < (L.length : Int) -> ¬ ltk (gt L o) a)) ?_ ?_
 ·refine ZH (fun i => 0 ≤ i /\ i ≤ (L.length : Int) /\ ∀ j, 0 ≤ j -> j < i -> ltk (gt L j) a) (fun i => ((L.length : Int) - i).toNat) ?_ ⟨by omega, by omega, fun j _ _ => by omega⟩
  rintro i ⟨i0, i1, hi⟩
  unfold Zbk
  rw [Zlb, Option.bind_some]
  simp only [Zq, T_G, Zc, Sum.elim_inl, Sum.elim_inr, decide_eq_true_eq]
  refine ⟨fun h => ⟨i0, fun k => ⟨by omega, ⟨by omega, by omega, fun j j0 j1 => ?_⟩, by omega⟩, fun k => ⟨i0, i1, hi, fun _ => k⟩⟩, fun h => ⟨i0, i1, hi, fun k => absurd k h⟩⟩
  by_cases e : j = i
  ·rw [e]; exact k
  ·exact hi j j0 (by omega)
 ·rintro o ⟨o0, o1, h1, h2⟩
  simp only [List.drop_zero, List.take_length, List.nil_append]
  rw [T_G, T_G]
  refine ⟨⟨o0, o1⟩, by rw [List.length_take]; omega, ?_⟩
  refine Zo (fun b => b = true ↔ (o < (L.length : Int) /\ Zbc (gt L o) a)) ?_ fun b hb => ?_
  ·unfold Zbc
   simp only [Zq, T_G, Zc, decide_eq_true_eq]
   exact ⟨fun h => ⟨o0, fun k => by simp [h, k], fun k => by simp [k]⟩, fun h => by simp; omega⟩
  have hp : ∀ x ∈ L.take o.toNat, ltk x a := fun x hx => by
   obtain ⟨j, j0, j1, rfl⟩ := ZcE hx
   rw [List.length_take] at j1
   have : gt (L.take o.toNat) j = gt L j := by
    unfold gt
    rw [List.getD_eq_getElem?_getD, List.getD_eq_getElem?_getD, List.getElem?_take, if_pos (by omega)]
   rw [this]
   exact h1 j j0 (by omega)
  have eL : L.take o.toNat ++ L.drop o.toNat = L := List.take_append_drop _ _
  rw [Zq]
  refine ⟨fun h => ?_, fun h => ?_⟩
  ·obtain ⟨k1, k2⟩ := hb.1 h
   simp only [T_G, Zc, List.length_append, List.length_take, List.length_drop, List.length_cons, List.length_nil]
   refine ⟨⟨o0, k1⟩, by omega, by omega, by omega, by omega, ?_, by omega⟩
   have := PutA.hit (L.take o.toNat) (L.drop (o + 1).toNat) (gt L o) a k2
   rw [← Zib o0 k1, eL] at this
   simpa using this
  ·have hn : ¬ (o < (L.length : Int) /\ Zbc (gt L o) a) := fun k => h (hb.2 k)
   simp only [T_G, Zc, List.length_append, List.length_take, List.length_drop, List.length_cons, List.length_nil]
   refine ⟨by omega, by omega, ?_, by omega⟩
   have hq : ∀ x ∈ L.drop o.toNat, ltk a x := by
    by_cases k : o < (L.length : Int)
    ·have h3 := h2 k
     have h4 : ltk a (gt L o) := by
      have : ¬ Zbc (gt L o) a := fun q => hn ⟨k, q⟩
      unfold ltk Zbc at *; omega
     have h5 : (L.drop o.toNat).Pairwise ltk := hL.sublist (List.drop_sublist _ _)
     rw [Zib o0 k] at h5 ⊢
     intro x hx
     rcases List.mem_cons.1 hx with rfl | hx
     ·exact h4
     ·have := (List.pairwise_cons.1 h5).1 x hx
      unfold ltk at *; omega
    ·rw [List.drop_of_length_le (by omega)]; intro x hx; cases hx
   have := PutA.new (L.take o.toNat) (L.drop o.toNat) a hp hq
   rw [eL] at this
   simpa using this
theorem ZlT {a : A3} {m : Int} : Zbc (a.1, a.2.1, m) a := ⟨rfl, rfl⟩
theorem PutA.nrm {A L r : List A3} {a : A3} (h : PutA L a r) (k : Nrm A L) (hn : a.1 ≠ a.2.1) : Nrm (A ++ [a]) r := by
 have mA : ∀ c, c ∈ A ++ [a] ↔ (c ∈ A ∨ c = a) := fun c => by simp
 cases h with
 | hit p q b _ kb =>
  have inc := k.inc
  obtain ⟨i1, i2, i3⟩ := List.pairwise_append.1 inc
  obtain ⟨i4, i5⟩ := List.pairwise_cons.1 i2
  have kab : b.1 = a.1 /\ b.2.1 = a.2.1 := kb
  have hbL : b ∈ p ++ b :: q := by simp
  obtain ⟨b1, b2, b3⟩ := k.sub b hbL
  refine ⟨List.pairwise_append.2 ⟨i1, List.pairwise_cons.2 ⟨fun x hx => ?_, i5⟩, fun x hx y hy => ?_⟩, fun x hx => ?_, fun c hc hcn => ?_⟩
  ·have := i4 x hx; unfold ltk at *; dsimp only; omega
  ·rcases List.mem_cons.1 hy with rfl | hy
   ·have := i3 x hx b (List.mem_cons_self ..); unfold ltk at *; dsimp only; omega
   ·exact i3 x hx y (List.mem_cons_of_mem _ hy)
  ·have old : x ∈ p ∨ x ∈ q -> x ∈ A ++ [a] /\ x.1 ≠ x.2.1 /\ ∀ c ∈ A ++ [a], Zbc c x -> x.2.2 ≤ c.2.2 := fun hx => by
    have hxL : x ∈ p ++ b :: q := by rcases hx with h | h <;> simp [h]
    have hk : ¬ Zbc a x := by
     intro hk
     rcases hx with h | h
     ·have := i3 x h b (List.mem_cons_self ..); unfold ltk Zbc at *; omega
     ·have := i4 x h; unfold ltk Zbc at *; omega
    obtain ⟨x1, x2, x3⟩ := k.sub x hxL
    refine ⟨(mA x).2 (.inl x1), x2, fun c hc hk2 => ?_⟩
    rcases (mA c).1 hc with hc | rfl
    ·exact x3 c hc hk2
    ·exact absurd hk2 hk
   rcases List.mem_append.1 hx with h | h
   ·exact old (.inl h)
   ·rcases List.mem_cons.1 h with rfl | h
    ·refine ⟨(mA _).2 ?_, hn, fun c hc hk2 => ?_⟩
     ·by_cases hle : a.2.2 ≤ b.2.2
      ·right; rw [Int.min_eq_left hle]
      ·left
       rw [Int.min_eq_right (by omega)]
       have : ((a.1, a.2.1, b.2.2) : A3) = b := eq3 kab.1.symm kab.2.symm rfl
       rw [this]; exact b1
     ·rcases (mA c).1 hc with hc | rfl
      ·have := b3 c hc (by unfold Zbc at *; dsimp only at hk2; omega)
       dsimp only; omega
      ·dsimp only; omega
    ·exact old (.inr h)
  ·have new : ∃ y ∈ p ++ (a.1, a.2.1, min a.2.2 b.2.2) :: q, Zbc y a := ⟨(a.1, a.2.1, min a.2.2 b.2.2), List.mem_append.2 (.inr (List.mem_cons_self ..)), ZlT⟩
   rcases (mA c).1 hc with hc | rfl
   ·obtain ⟨y, hy, hk⟩ := k.sup c hc hcn
    rcases List.mem_append.1 hy with h | h
    ·exact ⟨y, by simp [h], hk⟩
    ·rcases List.mem_cons.1 h with rfl | h
     ·obtain ⟨z, hz, hz2⟩ := new
      exact ⟨z, hz, by unfold Zbc at *; omega⟩
     ·exact ⟨y, by simp [h], hk⟩
   ·exact new
 | new p q _ h1 h2 =>
  have inc := k.inc
  obtain ⟨i1, i2, i3⟩ := List.pairwise_append.1 inc
  refine ⟨List.pairwise_append.2 ⟨i1, List.pairwise_cons.2 ⟨h2, i2⟩, fun x hx y hy => ?_⟩, fun x hx => ?_, fun c hc hcn => ?_⟩
  ·rcases List.mem_cons.1 hy with rfl | hy
   ·exact h1 x hx
   ·exact i3 x hx y hy
  ·have old : x ∈ p ∨ x ∈ q -> x ∈ A ++ [a] /\ x.1 ≠ x.2.1 /\ ∀ c ∈ A ++ [a], Zbc c x -> x.2.2 ≤ c.2.2 := fun hx => by
    have hxL : x ∈ p ++ q := by rcases hx with h | h <;> simp [h]
    have hk : ¬ Zbc a x := by
     intro hk
     rcases hx with h | h
     ·have := h1 x h; unfold ltk Zbc at *; omega
     ·have := h2 x h; unfold ltk Zbc at *; omega
    obtain ⟨x1, x2, x3⟩ := k.sub x hxL
    refine ⟨(mA x).2 (.inl x1), x2, fun c hc hk2 => ?_⟩
    rcases (mA c).1 hc with hc | rfl
    ·exact x3 c hc hk2
    ·exact absurd hk2 hk
   rcases List.mem_append.1 hx with h | h
   ·exact old (.inl h)
   ·rcases List.mem_cons.1 h with rfl | h
    ·refine ⟨(mA _).2 (.inr rfl), hn, fun c hc hk2 => ?_⟩
     rcases (mA c).1 hc with hc | rfl
     ·exfalso
      obtain ⟨y, hy, hk⟩ := k.sup c hc (by unfold Zbc at hk2; omega)
      rcases List.mem_append.1 hy with h | h
      ·have := h1 y h; unfold ltk Zbc at *; omega
      ·have := h2 y h; unfold ltk Zbc at *; omega
     ·omega
    ·exact old (.inr h)
  ·rcases (mA c).1 hc with hc | rfl
   ·obtain ⟨y, hy, hk⟩ := k.sup c hc hcn
    rcases List.mem_append.1 hy with h | h
    ·exact ⟨y, by simp [h], hk⟩
    ·exact ⟨y, by simp [h], hk⟩
   ·exact ⟨c, by simp, rfl, rfl⟩
theorem Nrm.loop {a : A3} (k : Nrm A L) (hn : a.1 = a.2.1) : Nrm (A ++ [a]) L := by
 have mA : ∀ c, c ∈ A ++ [a] ↔ (c ∈ A ∨ c = a) := fun c => by simp
 refine ⟨k.inc, fun x hx => ?_, fun c hc hcn => ?_⟩
 ·obtain ⟨x1, x2, x3⟩ := k.sub x hx
  refine ⟨(mA x).2 (.inl x1), x2, fun c hc hk => ?_⟩
  rcases (mA c).1 hc with hc | rfl
  ·exact x3 c hc hk
  ·unfold Zbc at hk; omega
 ·rcases (mA c).1 hc with hc | rfl
  ·exact k.sup c hc hcn
  ·exact absurd hn hcn
theorem Nrm.zero : Nrm [] [] := { inc := .nil, sub := fun a h => (by cases h), sup := fun a h => (by cases h) }
end Go.Vd

/-! (PrR0) -/

set_option linter.unusedVariables false
set_option linter.unusedSectionVars false
set_option linter.unusedSimpArgs false
namespace Go.Vd
variable {N : Int} {A L : List A3}
theorem p_rOf (hl : (A.length : Int) ≤ 262144) : T (Zb0 N A) fun r => r.1 = N /\ Nrm A r.2 /\ r.2.length ≤ A.length := by
 unfold Zb0
 refine Zo (fun c => Nrm A c /\ c.length ≤ A.length) ?_ fun c hc => by simp only [Zc]; exact ⟨trivial, hc⟩
 refine ZH (fun z => 0 ≤ z.1 /\ z.1 ≤ (A.length : Int) /\ Nrm (A.take z.1.toNat) z.2 /\ (z.2.length : Int) ≤ z.1) (fun z => ((A.length : Int) - z.1).toNat) ?_ ⟨by simp, by simp, by simpa using Nrm.zero, by simp⟩
 rintro ⟨i, c⟩ ⟨i0, i1, hc, hlc⟩
 dsimp only at *
 unfold Zbp
 rw [Zq]
 refine ⟨fun hlt => ?_, fun hge => ?_⟩
 rotate_left
 ·simp only [Zc, Sum.elim_inr]
  rw [List.take_of_length_le (by omega)] at hc
  exact ⟨hc, by omega⟩
 rw [T_G, Zq]
 refine ⟨i0, fun h => ?_, fun h => ?_⟩
 ·simp only [T_G, Zc, Sum.elim_inl]
  refine ⟨by omega, ⟨by omega, by omega, ?_, by omega⟩, by omega⟩
  rw [Zgq i0 hlt]; exact hc.loop h
 ·refine Zo _ (p_Put hc.inc (by omega)) ?_
  rintro r ⟨hr, hrl⟩
  simp only [T_G, Zc, Sum.elim_inl]
  refine ⟨by omega, ⟨by omega, by omega, ?_, by omega⟩, by omega⟩
  rw [Zgq i0 hlt]; exact hr.nrm hc h
end Go.Vd

/-! (PrHg) -/

set_option linter.unusedVariables false
set_option linter.unusedSimpArgs false
set_option maxHeartbeats 4000000
namespace Go.Vd
variable {l N UF DF ranks : List Int} {U D : List B4} {k i j r : Int} {all all' : List E7}
theorem Zk5 (h : U.length + D.length ≤ 100000000000000) : Zbn N UF U DF D = some ((U.length : Int) + D.length) := by
 unfold Zbn G; rw [if_pos (by omega)]
theorem Zi1 (i0 : 0 ≤ i) : ga N all (i + 1).toNat = ga N all i.toNat ++ if PlX all i then [ar N (gt all i)] else [] := by
 rw [show (i + 1).toNat = i.toNat + 1 from by omega]
 simp only [ga]
 rw [show ((i.toNat : Nat) : Int) = i from by omega]
theorem ZjT (h : InF N UF U DF D all) (hN : W32 N) (hU : WL U) (hD : WL D) (few : U.length + D.length ≤ 2000) : T (Zbm N UF U DF D) fun r => r.1 = (N.length : Int) /\ Nrm (ga N all all.length) r.2 := by
 have hl := h.X.len
 obtain ⟨n1, m1⟩ := h.sm
 unfold Zbm
 refine Zo (fun a => a = all.map fun x => (tlE x, hdE x, x.2.2.2.2.2.2)) ?_ ?_
 ·unfold Zcw
  refine Zo _ (Zio h.ln h.sm h.fU h.fD h.X) fun ranks hr => ?_
  have hrl := hr.1
  rw [Zj0]
  refine ZjM (Q := fun a => a = all.map fun x => (tlE x, hdE x, x.2.2.2.2.2.2)) ?_ fun a ha => by simp only [Zc]; exact ha
  refine ZH (fun z => 0 ≤ z.1 /\ z.1 ≤ (all.length : Int) /\ z.2 = (all.take z.1.toNat).map fun x => (tlE x, hdE x, x.2.2.2.2.2.2)) (fun z => ((all.length : Int) - z.1).toNat) ?_ ⟨by simp, by simp, rfl⟩
  rintro ⟨i, g⟩ ⟨i0, i1, hg⟩
  dsimp only at i0 i1 hg
  subst hg
  unfold Za6
  rw [hrl, Zq]
  refine ⟨fun hi => ?_, fun hi => by simp only [Zc, Sum.elim_inr]; rw [List.take_of_length_le (by omega)]⟩
  rw [Zf0 h.sm hU hD h.X hr i0 hi, Option.bind_some]
  have hm : ((all.take i.toNat).map fun x => (tlE x, hdE x, x.2.2.2.2.2.2)).length = i.toNat := by rw [List.length_map, List.length_take]; omega
  simp only [T_G, Zc, Sum.elim_inl]
  refine ⟨by omega, by omega, ⟨by omega, by omega, ?_⟩, by omega⟩
  rw [Zgq i0 hi, List.map_append]; rfl
 rintro _ rfl
 refine Zo (fun o => o = ga N all all.length) ?_ ?_
 ·have hml : ((all.map fun x => (tlE x, hdE x, x.2.2.2.2.2.2)).length : Int) = all.length := by rw [List.length_map]
  refine ZH (fun z => 0 ≤ z.1 /\ z.1 ≤ (all.length : Int) /\ z.2 = ga N all z.1.toNat) (fun z => ((all.length : Int) - z.1).toNat) ?_ ⟨by simp, by simp, rfl⟩
  rintro ⟨i, g⟩ ⟨i0, i1, hg⟩
  dsimp only at i0 i1 hg
  subst hg
  unfold ZaL
  rw [hml, Zq]
  refine ⟨fun hi => ?_, fun hi => by simp only [Zc, Sum.elim_inr]; rw [show i.toNat = all.length from by omega]⟩
  obtain ⟨r, a1, a2, a3, a4, a5⟩ := h.ends i0 hi
  obtain ⟨k1, k2, k3, k4⟩ := h.X.lk i0 hi
  have hg := Zgy (N := N) (all := all) i.toNat
  have q1 := hN _ (Zah (xs := N) (i := tlE (gt all i)) (by omega) (by omega))
  have q2 := hN _ (Zah (xs := N) (i := hdE (gt all i)) (by omega) (by omega))
  have sA := (h.X.s h.ln.1 h.ln.2).rng hU hD i0 hi
  rw [T_G, Ze0 (by omega) i0 (by omega), Option.bind_some, ZhV, Option.bind_some, ZkI i0 hi, ← k2, ← k3, ← k4, Zq]
  dsimp only
  refine ⟨i0, fun hp => ?_, fun hp => ?_⟩
  ·have hp' : PlX all i := of_decide_eq_true hp
   have hw := (h.wg i i0 hi).1 hp'
   simp only [T_G, Zc, Sum.elim_inl]
   refine ⟨by omega, by omega, by omega, by omega, by omega, by simp only [List.length_cons, List.length_nil]; omega, by omega, ⟨by omega, by omega, ?_⟩, by omega⟩
   rw [Zi1 i0, if_pos hp']; rfl
  ·have hp' : ¬ PlX all i := fun q => hp (decide_eq_true q)
   simp only [T_G, Zc, Sum.elim_inl]
   refine ⟨by omega, ⟨by omega, by omega, ?_⟩, by omega⟩
   rw [Zi1 i0, if_neg hp', List.append_nil]
 ·rintro _ rfl
  have hg := Zgy (N := N) (all := all) all.length
  refine Zo _ (p_rOf (by omega)) ?_
  rintro ⟨n, L⟩ ⟨e1, e2, _⟩
  dsimp only at e1 e2
  rw [Zc]
  exact ⟨e1, e2⟩
end Go.Vd

/-! (TwC) -/

set_option linter.unusedVariables false
set_option linter.unusedSimpArgs false
namespace Go.Vd
variable {N UF DF : List Int} {U D : List B4} {i u v w d e r : Int} {all : List E7} {m : Nat} {l : List Int}
def rkE (x : E7) : Int := x.2.2.2.2.2.2
def wtE (x : E7) : Int := x.2.1
def lfE (x : E7) : Int := x.2.2.1
def rgE (x : E7) : Int := x.2.2.2.1
theorem InF.at1 (h : InF N UF U DF D all) (i0 : 0 ≤ i) (i1 : i < (all.length : Int)) : 0 ≤ rkE (gt all i) /\ rkE (gt all i) < (gt all i).1 /\ (gt all i).1 < (N.length : Int) /\ RkX UF DF U i (rkE (gt all i)) /\ ((i < (U.length : Int) /\ tlE (gt all i) = rkE (gt all i) /\ hdE (gt all i) = (gt all i).1) ∨ ((U.length : Int) ≤ i /\ tlE (gt all i) = (gt all i).1 /\ hdE (gt all i) = rkE (gt all i))) := by
 obtain ⟨r, a1, a2, a3, a4, a5⟩ := h.ends i0 i1
 have e := h.rank i0 i1 a1
 have er : rkE (gt all i) = r := by rw [e]; rfl
 rw [er]
 exact ⟨a2, a3, a4, a1, a5⟩
theorem InF.tlr (h : InF N UF U DF D all) (i0 : 0 ≤ i) (i1 : i < (all.length : Int)) : (0 ≤ tlE (gt all i) /\ tlE (gt all i) < (N.length : Int)) /\ 0 ≤ hdE (gt all i) /\ hdE (gt all i) < (N.length : Int) := by
 obtain ⟨b1, b2, b3, _, b4⟩ := h.at1 i0 i1
 omega
theorem InF.wr (h : InF N UF U DF D all) (hU : WL U) (hD : WL D) (i0 : 0 ≤ i) (i1 : i < (all.length : Int)) : 0 ≤ wtE (gt all i) /\ wtE (gt all i) ≤ 140737488355328 := by
 have q := (h.X.s h.ln.1 h.ln.2).rng hU hD i0 i1
 obtain ⟨w1, w2⟩ := h.wg i i0 i1
 unfold wtE
 by_cases hp : PlX all i
 ·have := w1 hp; omega
 ·have := w2 hp; omega
theorem InF.kids (h : InF N UF U DF D all) (hU : WL U) (hD : WL D) (i0 : 0 ≤ i) (i1 : i < (all.length : Int)) (hp : ¬ PlX all i) :
  (0 ≤ lfE (gt all i) /\ lfE (gt all i) < (all.length : Int) /\ rkE (gt all (lfE (gt all i))) < rkE (gt all i)) /\ (0 ≤ rgE (gt all i) /\ rgE (gt all i) < (all.length : Int) /\ rkE (gt all (rgE (gt all i))) < rkE (gt all i)) /\
  tlE (gt all (lfE (gt all i))) = tlE (gt all i) /\ hdE (gt all (rgE (gt all i))) = hdE (gt all i) /\ hdE (gt all (lfE (gt all i))) = tlE (gt all (rgE (gt all i))) /\ wtE (gt all (lfE (gt all i))) + wtE (gt all (rgE (gt all i))) = wtE (gt all i) := by
 obtain ⟨s1, s2, s3, s4, s5, s6⟩ := (h.sh i i0 i1).2.2.2 hp
 obtain ⟨w1, w2, w3, w4⟩ := (h.wg i i0 i1).2 hp
 have hl := h.X.len
 have q := (h.X.s h.ln.1 h.ln.2).rng hU hD i0 i1
 have b := (h.at1 i0 i1).2.2.2.2
 have hb := (h.at1 i0 i1).2.1
 unfold lfE rgE wtE
 obtain ⟨c1, c2, c3, _, c4⟩ := h.at1 (i := (gt all i).2.2.1) (by omega) (by omega)
 obtain ⟨d1, d2, d3, _, d4⟩ := h.at1 (i := (gt all i).2.2.2.1) (by omega) (by omega)
 have e1 : rkE (gt all (gt all i).2.2.1) = rkE (gt all (gt all i).2.2.2.1) := s6
 have e2 : tlE (gt all (gt all i).2.2.1) = tlE (gt all i) := s4
 have e3 : hdE (gt all (gt all i).2.2.2.1) = hdE (gt all i) := s5
 omega
def exF (all : List E7) : Nat -> Int -> List Int
 | 0, i => [i]
 | m + 1, i => if PlX all i then [i] else exF all m (lfE (gt all i)) ++ exF all m (rgE (gt all i))
theorem ZhU {m : Nat} : exF all (m + 1) i = if PlX all i then [i] else exF all m (lfE (gt all i)) ++ exF all m (rgE (gt all i)) := rfl
theorem InF.exS (h : InF N UF U DF D all) (hU : WL U) (hD : WL D) : ∀ {m : Nat} {i : Int}, 0 ≤ i -> i < (all.length : Int) -> rkE (gt all i) < m -> exF all (m + 1) i = exF all m i := by
 intro m
 induction m with
 | zero => intro i i0 i1 hr; have := (h.at1 i0 i1).1; omega
 | succ m ih =>
  intro i i0 i1 hr
  rw [ZhU (m := m + 1) (i := i), ZhU (m := m) (i := i)]
  by_cases hp : PlX all i
  ·rw [if_pos hp, if_pos hp]
  ·rw [if_neg hp, if_neg hp]
   obtain ⟨⟨a1, a2, a3⟩, ⟨b1, b2, b3⟩, _⟩ := h.kids hU hD i0 i1 hp
   rw [ih a1 a2 (by omega), ih b1 b2 (by omega)]
theorem Zeq : ∀ {m : Nat} {i : Int}, 1 ≤ (exF all m i).length /\ (exF all m i).length ≤ 2 ^ m := by
 intro m
 induction m with
 | zero => intro i; simp [exF]
 | succ m ih =>
  intro i
  rw [exF]
  have := Nat.one_le_two_pow (n := m)
  by_cases hp : PlX all i
  ·rw [if_pos hp, Nat.pow_succ]; simp; omega
  ·rw [if_neg hp, List.length_append, Nat.pow_succ]
   have := ih (i := lfE (gt all i)); have := ih (i := rgE (gt all i)); omega
inductive Ch (all : List E7) : List Int -> Int -> Int -> Int -> Prop
 | nil (u : Int) : Ch all [] u u 0
 | cons (i v d : Int) (l : List Int) : 0 ≤ i -> i < (all.length : Int) -> Ch all l (hdE (gt all i)) v d -> Ch all (i :: l) (tlE (gt all i)) v (wtE (gt all i) + d)
theorem Ch.app {l k : List Int} (h : Ch all l u v d) (g : Ch all k v w e) : Ch all (l ++ k) u w (d + e) := by
 induction h with
 | nil => simpa using g
 | cons i v d l i0 i1 _ ih => rw [Int.add_assoc]; exact .cons i _ _ _ i0 i1 (ih g)
theorem Ch.mem (h : Ch all l u v d) : ∀ i ∈ l, 0 ≤ i /\ i < (all.length : Int) := by
 induction h with
 | nil => intro i hi; cases hi
 | cons i v d l i0 i1 _ ih =>
  intro j hj
  rcases List.mem_cons.1 hj with rfl | hj
  ·exact ⟨i0, i1⟩
  ·exact ih j hj
theorem Ch.one (i0 : 0 ≤ i) (i1 : i < (all.length : Int)) : Ch all [i] (tlE (gt all i)) (hdE (gt all i)) (wtE (gt all i)) := by
 have := Ch.cons (all := all) i _ 0 [] i0 i1 (.nil _)
 simpa using this
theorem InF.exC (h : InF N UF U DF D all) (hU : WL U) (hD : WL D) : ∀ {m : Nat} {i : Int}, 0 ≤ i -> i < (all.length : Int) -> rkE (gt all i) < m -> Ch all (exF all m i) (tlE (gt all i)) (hdE (gt all i)) (wtE (gt all i)) /\ ∀ j ∈ exF all m i, PlX all j := by
 intro m
 induction m with
 | zero => intro i i0 i1 hr; have := (h.at1 i0 i1).1; omega
 | succ m ih =>
  intro i i0 i1 hr
  rw [exF]
  by_cases hp : PlX all i
  ·rw [if_pos hp]
   exact ⟨.one i0 i1, fun j hj => by rw [List.mem_singleton.1 hj]; exact hp⟩
  ·rw [if_neg hp]
   obtain ⟨⟨a1, a2, a3⟩, ⟨b1, b2, b3⟩, c1, c2, c3, c4⟩ := h.kids hU hD i0 i1 hp
   obtain ⟨p1, p2⟩ := ih a1 a2 (by omega)
   obtain ⟨q1, q2⟩ := ih b1 b2 (by omega)
   rw [c3] at p1
   have := p1.app q1
   rw [c1, c2, c4] at this
   exact ⟨this, fun j hj => (List.mem_append.1 hj).elim (p2 j) (q2 j)⟩
def exL (all : List E7) (n : Nat) (l : List Int) : List Int := l.flatMap (exF all n)
theorem InF.exL (h : InF N UF U DF D all) (hU : WL U) (hD : WL D) (g : Ch all l u v d) : Ch all (exL all N.length l) u v d /\ ∀ j ∈ exL all N.length l, PlX all j := by
 induction g with
 | nil => exact ⟨.nil _, fun j hj => by cases hj⟩
 | cons i v d l i0 i1 _ ih =>
  obtain ⟨b1, b2, b3, _⟩ := h.at1 i0 i1
  obtain ⟨p1, p2⟩ := h.exC hU hD (m := N.length) i0 i1 (by omega)
  refine ⟨?_, fun j hj => ?_⟩
  ·exact p1.app ih.1
  ·rcases List.mem_append.1 (show j ∈ exF all N.length i ++ Go.Vd.exL all N.length l from hj) with q | q
   ·exact p2 j q
   ·exact ih.2 j q
end Go.Vd

/-! (TwS) -/

set_option linter.unusedVariables false
set_option linter.unusedSimpArgs false
namespace Go.Vd
variable {R : Int -> Int -> Int -> Prop}
inductive SW (R : Int -> Int -> Int -> Prop) (l : List Int) : Int -> Int -> Prop
 | zero : SW R l 0 0
 | step (k s x : Int) : 0 ≤ k -> SW R l k s -> R (gt l k) (gt l (k + 1)) x -> SW R l (k + 1) (s + x)
theorem SW.nn {l : List Int} {k s : Int} (h : SW R l k s) : 0 ≤ k := by
 induction h with
 | zero => omega
 | step => omega
theorem SW.inv {l : List Int} {k s : Int} (h : SW R l k s) : (k = 0 /\ s = 0) ∨ ∃ s' x, 0 ≤ k - 1 /\ SW R l (k - 1) s' /\ R (gt l (k - 1)) (gt l k) x /\ s = s' + x := by
 cases h with
 | zero => exact .inl ⟨rfl, rfl⟩
 | step k s x h0 h1 h2 =>
  refine .inr ⟨s, x, by omega, ?_, ?_, rfl⟩
  ·rw [show k + 1 - 1 = k from by omega]; exact h1
  ·rw [show k + 1 - 1 = k from by omega]; exact h2
theorem SW.congr {l l' : List Int} {k s : Int} (h : SW R l k s) (he : ∀ j : Int, 0 ≤ j -> j ≤ k -> gt l j = gt l' j) : SW R l' k s := by
 induction h with
 | zero => exact .zero
 | step k s x h0 h1 h2 ih =>
  refine .step k s x h0 (ih fun j j0 j1 => he j j0 (by omega)) ?_
  rw [← he k h0 (by omega), ← he (k + 1) (by omega) (by omega)]; exact h2
theorem SW.pre (hc : ∀ a b x, R a b x -> 0 ≤ x) {l : List Int} {k s : Int} (h : SW R l k s) : ∀ {k' : Int}, 0 ≤ k' -> k' ≤ k -> ∃ s', s' ≤ s /\ SW R l k' s' := by
 induction h with
 | zero => intro k' h0 h1; rw [show k' = 0 from by omega]; exact ⟨0, by omega, .zero⟩
 | step k s x h0 h1 h2 ih =>
  intro k' k0 k1
  by_cases e : k' = k + 1
  ·rw [e]; exact ⟨_, Int.le_refl _, .step k s x h0 h1 h2⟩
  ·obtain ⟨s', a, b⟩ := ih k0 (by omega)
   have := hc _ _ _ h2
   exact ⟨s', by omega, b⟩
theorem Zkc (hc : ∀ a b x, R a b x -> 0 ≤ x) (l : List Int) : l ≠ [] -> ∀ n, SW R l ((l.length : Int) - 1) n -> ∃ m, m ≤ n /\ SW R (ZT l) (((ZT l).length : Int) - 1) m := by
 induction l using Zfd with
 | h0 => intro h; exact absurd rfl h
 | h1 l v ih =>
  intro _ n hn
  have hlen : (((l ++ [v]).length : Int) - 1) = (l.length : Int) := by simp
  rw [hlen] at hn
  by_cases hl : l = []
  ·subst hl
   rcases hn.inv with ⟨_, rfl⟩ | ⟨_, _, h, _⟩
   ·exact ⟨0, Int.le_refl _, by simpa [ZT, Zcy] using SW.zero⟩
   ·simp at h
  ·have hpos : 0 < l.length := List.length_pos_iff.2 hl
   rcases hn.inv with ⟨h, _⟩ | ⟨s', x, _, g1, g2, rfl⟩
   ·omega
   ·have g3 : SW R l ((l.length : Int) - 1) s' := g1.congr fun j j0 j1 => ZeU j0 (by omega)
    rw [ZeU (by omega) (by omega), Zif] at g2
    obtain ⟨m, hm, hW⟩ := ih hl s' g3
    have hsne : ZT l ≠ [] := fun h => hl (Zfg h)
    have hspos : 0 < (ZT l).length := List.length_pos_iff.2 hsne
    have hx := hc _ _ _ g2
    have hlast : gt (ZT l) (((ZT l).length : Int) - 1) = gt l ((l.length : Int) - 1) := by
     have : l.getLast? = some (l.getLast hl) := List.getLast?_eq_some_getLast hl
     rw [Zf1 this, Zf1 (by rw [ZeL]; exact this)]
    rw [Zd7]
    unfold Zcy
    split
    ·rename_i hv
     have hi := List.idxOf_lt_length_of_mem hv
     obtain ⟨m', a, b⟩ := hW.pre hc (k' := ((ZT l).idxOf v : Int)) (by omega) (by omega)
     refine ⟨m', by omega, ?_⟩
     have hL : ((((ZT l).take ((ZT l).idxOf v + 1)).length : Int) - 1) = ((ZT l).idxOf v : Int) := by
      rw [List.length_take]; omega
     rw [hL]
     exact b.congr fun j j0 j1 => (gt_tk j0 (by omega)).symm
    ·refine ⟨m + x, by omega, ?_⟩
     have hL : (((ZT l ++ [v]).length : Int) - 1) = (((ZT l).length : Int) - 1) + 1 := by simp
     rw [hL]
     refine .step _ m x (by omega) (hW.congr fun j j0 j1 => (ZeU j0 (by omega)).symm) ?_
     rw [ZeU (by omega) (by omega), show ((ZT l).length : Int) - 1 + 1 = ((ZT l).length : Int) from by omega, Zif, hlast]
     exact g2
end Go.Vd

/-! (Gc0) -/

set_option linter.unusedVariables false
set_option linter.unusedSimpArgs false
namespace Go.Vd
variable {N : Int} {A L : List A3}
def Zfy (N : Int) (a : A3) : Int := if a.1 < 0 ∨ a.1 ≥ N ∨ a.2.1 < 0 ∨ a.2.1 ≥ N then 7 else if a.2.2 < 0 ∨ a.2.2 > 2147483647 then 8 else 0
def Ziv (N : Int) (A : List A3) : Prop := N < 0 ∨ N > 65536 ∨ (A.length : Int) > 262144
inductive GChk (N : Int) (A : List A3) : Er -> Prop
 | limit : Ziv N A -> GChk N A (.no 9)
 | arc (i : Int) : ¬ Ziv N A -> 0 ≤ i -> i < (A.length : Int) -> Zfy N (gt A i) ≠ 0 -> (∀ j, 0 ≤ j -> j < i -> Zfy N (gt A j) = 0) -> GChk N A (.at 4 i (.no (Zfy N (gt A i))))
 | ok : ¬ Ziv N A -> (∀ j, 0 ≤ j -> j < (A.length : Int) -> Zfy N (gt A j) = 0) -> GChk N A .nil
theorem Zlu {a : A3} (h : ¬ (a.1 < 0 ∨ a.1 ≥ N ∨ a.2.1 < 0 ∨ a.2.1 ≥ N)) (k : ¬ (a.2.2 < 0 ∨ a.2.2 > 2147483647)) : Zfy N a = 0 := by unfold Zfy; rw [if_neg h, if_neg k]
theorem Zla {a : A3} (h : Zfy N a = 0) : 0 ≤ a.1 /\ a.1 < N /\ 0 ≤ a.2.1 /\ a.2.1 < N /\ 0 ≤ a.2.2 /\ a.2.2 ≤ 2147483647 := by
 unfold Zfy at h
 split at h
 ·cases h
 ·split at h
  ·cases h
  ·omega
theorem GChk.small (h : GChk N A .nil) : 0 ≤ N /\ N ≤ 65536 /\ (A.length : Int) ≤ 262144 := by
 cases h with
 | ok h1 _ => unfold Ziv at h1; omega
theorem GChk.arcs (h : GChk N A .nil) : ∀ a ∈ A, 0 ≤ a.1 /\ a.1 < N /\ 0 ≤ a.2.1 /\ a.2.1 < N /\ 0 ≤ a.2.2 /\ a.2.2 ≤ 2147483647 := by
 cases h with
 | ok h1 h2 =>
  intro a ha
  obtain ⟨i, i0, i1, rfl⟩ := ZcE ha
  exact Zla (h2 i i0 i1)
theorem GChk.of_arcs (n0 : 0 ≤ N) (n1 : N ≤ 65536) (n2 : (A.length : Int) ≤ 262144) (h : ∀ a ∈ A, 0 ≤ a.1 /\ a.1 < N /\ 0 ≤ a.2.1 /\ a.2.1 < N /\ 0 ≤ a.2.2 /\ a.2.2 ≤ 2147483647) : GChk N A .nil :=
 .ok (by unfold Ziv; omega) fun j j0 j1 => by have := h _ (Zah j0 j1); exact Zlu (by omega) (by omega)
end Go.Vd

/-! (Wk0) -/

set_option linter.unusedVariables false
set_option linter.unusedSimpArgs false
namespace Go.Vd
variable {N i j d : Int} {A L : List A3}
inductive Wk (A : List A3) : Int -> Int -> Int -> Prop
 | refl (i : Int) : Wk A i i 0
 | step (i u d x w : Int) : Wk A i u d -> (u, x, w) ∈ A -> Wk A i x (d + w)
theorem Wk.cat {i u v d e : Int} (h : Wk A i u d) (k : Wk A u v e) : Wk A i v (d + e) := by
 induction k with
 | refl => simpa using h
 | step u e x w _ ha ih =>
  have := ih.step _ _ _ _ w ha
  rwa [Int.add_assoc] at this
theorem Wk.one {i j w : Int} (h : (i, j, w) ∈ A) : Wk A i j w := by
 have := (Wk.refl i).step _ _ _ j w h
 simpa using this
theorem Zk8 (h : GChk N A .nil) : ∀ a ∈ A, (0 ≤ a.1 /\ a.1 < N) /\ 0 ≤ a.2.1 /\ a.2.1 < N /\ 0 ≤ a.2.2 /\ a.2.2 ≤ 2147483647 := fun a ha => by
 obtain ⟨a1, a2, a3, a4, a5, a6⟩ := h.arcs a ha; exact ⟨⟨a1, a2⟩, a3, a4, a5, a6⟩
end Go.Vd

/-! (TwD) -/

set_option linter.unusedVariables false
set_option linter.unusedSimpArgs false
namespace Go.Vd
variable {N UF DF : List Int} {U D : List B4} {i u v w d e r : Int} {all : List E7} {m : Nat} {l P : List Int} {L : List A3}
theorem ga_of : ∀ {m : Nat} {i : Int}, 0 ≤ i -> i < m -> PlX all i -> ar N (gt all i) ∈ ga N all m := by
 intro m
 induction m with
 | zero => intro i i0 i1; omega
 | succ m ih =>
  intro i i0 i1 hp
  rw [ga]
  by_cases e : i = (m : Int)
  ·subst e
   rw [if_pos hp]; simp
  ·exact List.mem_append_left _ (ih i0 (by omega) hp)
theorem InF.memL (h : InF N UF U DF D all) (n : Nrm (ga N all all.length) L) {a : A3} : a ∈ L ↔ a ∈ ga N all all.length := by
 refine ⟨fun ha => (n.sub a ha).1, fun ha => ?_⟩
 obtain ⟨i, i0, i1, _, rfl⟩ := ZeX ha
 obtain ⟨b, hb, k⟩ := n.sup _ ha (h.noloop i0 i1)
 rw [← h.uniq (n.sub b hb).1 ha k]; exact hb
def Zef (L : List A3) (a b w : Int) : Prop := (a, b, w) ∈ L
def hds (N : List Int) (all : List E7) (l : List Int) : List Int := l.map fun i => gt N (hdE (gt all i))
theorem InF.sw (h : InF N UF U DF D all) (n : Nrm (ga N all all.length) L) (c : Ch all l u v d) : (∀ j ∈ l, PlX all j) -> ∀ {P : List Int} {k e : Int}, (P.length : Int) = k + 1 -> gt P k = gt N u -> SW (Zef L) P k e -> SW (Zef L) (P ++ hds N all l) (k + l.length) (e + d) /\ gt (P ++ hds N all l) (k + l.length) = gt N v := by
 induction c with
 | nil => intro _ P k e hk hg hs; simpa [hds] using ⟨hs, hg⟩
 | cons i v d l i0 i1 c ih =>
  intro hp P k e hk hg hs
  have k0 := hs.nn
  have h1 : gt (P ++ [gt N (hdE (gt all i))]) (k + 1) = gt N (hdE (gt all i)) := by rw [← hk]; exact Zif _ _
  have hs' : SW (Zef L) (P ++ [gt N (hdE (gt all i))]) (k + 1) (e + wtE (gt all i)) := by
   refine .step k e _ k0 (hs.congr fun j j0 j1 => (ZeU j0 (by omega)).symm) ?_
   rw [ZeU k0 (by omega), hg, h1]
   exact (h.memL n).2 (ga_of i0 i1 (hp i (by simp)))
  have := ih (fun j hj => hp j (by simp [hj])) (P := P ++ [gt N (hdE (gt all i))]) (k := k + 1) (e := e + wtE (gt all i)) (by simp; omega) h1 hs'
  rw [show (P ++ [gt N (hdE (gt all i))] ++ hds N all l) = P ++ hds N all (i :: l) from by simp [hds], show k + 1 + (l.length : Int) = k + ((i :: l).length : Int) from by simp; omega, show e + wtE (gt all i) + d = e + (wtE (gt all i) + d) from by omega] at this
  exact this
theorem InF.walk (h : InF N UF U DF D all) (n : Nrm (ga N all all.length) L) (c : Ch all l u v d) (hp : ∀ j ∈ l, PlX all j) : SW (Zef L) (gt N u :: hds N all l) (l.length : Int) d /\ gt (gt N u :: hds N all l) (l.length : Int) = gt N v := by
 have := h.sw n c hp (P := [gt N u]) (k := 0) (e := 0) (by simp) rfl .zero
 simpa using this
theorem SW.wk {s : Int} {k : Int} (h : SW (Zef L) l k s) : Wk L (gt l 0) (gt l k) s := by
 induction h with
 | zero => exact .refl _
 | step k s x k0 _ ha ih => exact .step _ _ _ _ _ ih ha
end Go.Vd

/-! (TwE) -/

set_option linter.unusedVariables false
set_option linter.unusedSimpArgs false
namespace Go.Vd
variable {N UF DF F : List Int} {U D B : List B4} {i u v w d e r : Int} {all : List E7} {m : Nat} {l P : List Int} {L : List A3} {a : Int × Int}
def rwH (F : List Int) (B : List B4) : Rw2 := fun r => if 0 ≤ r /\ r < (F.length : Int) - 1 then ((B.take (gt F (r + 1)).toNat).drop (gt F r).toNat).map (fun b => (b.1, b.2.1)) else []
theorem Zep (f : Fst F (B.length : Int)) : a ∈ rwH F B r ↔ ∃ i, Rk F i r /\ 0 ≤ i /\ i < (B.length : Int) /\ a = ((gt B i).1, (gt B i).2.1) := by
 unfold rwH Rk
 by_cases hr : 0 ≤ r /\ r < (F.length : Int) - 1
 ·have a0 := f.le (a := 0) (b := r) (by omega) hr.1 (by omega)
  have a1 := f.le (a := r) (b := r + 1) hr.1 (by omega) (by omega)
  have a2 := f.le (a := r + 1) (b := (F.length : Int) - 1) (by omega) (by omega) (by omega)
  rw [f.z] at a0; rw [f.e] at a2
  have ln := ZgZ (L := B) a0 a1 a2
  rw [if_pos hr]
  constructor
  ·intro h
   obtain ⟨b, hb, rfl⟩ := List.mem_map.1 h
   obtain ⟨j, j0, j1, rfl⟩ := ZcE hb
   refine ⟨gt F r + j, ⟨hr.1, hr.2, by omega, by omega⟩, by omega, by omega, ?_⟩
   rw [ZhO a0 j0 (by omega) a2]
  ·rintro ⟨i, ⟨_, _, i1, i2⟩, i3, i4, rfl⟩
   refine List.mem_map.2 ⟨gt B i, ?_, rfl⟩
   have := ZhO (L := B) (a := gt F r) (b := gt F (r + 1)) (j := i - gt F r) a0 (by omega) (by omega) a2
   rw [show gt F r + (i - gt F r) = i from by omega] at this
   rw [← this]
   exact Zah (by omega) (by omega)
 ·rw [if_neg hr]
  constructor
  ·intro h; cases h
  ·rintro ⟨i, ⟨h1, h2, _⟩, _⟩; exact absurd ⟨h1, h2⟩ hr
theorem InF.upL (h : InF N UF U DF D all) : a ∈ rwH UF U r ↔ ∃ i, 0 ≤ i /\ i < (all.length : Int) /\ i < (U.length : Int) /\ rkE (gt all i) = r /\ tlE (gt all i) = r /\ hdE (gt all i) = a.1 /\ (gt all i).1 = a.1 /\ wtE (gt all i) = a.2 := by
 have hl := h.X.len
 rw [Zep h.fU]
 constructor
 ·rintro ⟨i, k, i0, i1, rfl⟩
  have e := h.rank (r := r) i0 (by omega) (by unfold RkX; rw [if_pos i1]; exact k)
  refine ⟨i, i0, by omega, i1, ?_⟩
  rw [e]
  unfold rkE tlE hdE wtE e7 lnk
  simp only [if_pos i1, and_self]
 ·rintro ⟨i, i0, i1, i2, e1, e2, e3, e4, e5⟩
  obtain ⟨b1, b2, b3, b4, b5⟩ := h.at1 i0 i1
  have e := h.rank i0 i1 b4
  rw [e1] at b4
  unfold RkX at b4
  rw [if_pos i2] at b4
  refine ⟨i, b4, i0, i2, ?_⟩
  rw [e] at e4 e5
  unfold wtE e7 lnk at e5
  unfold e7 lnk at e4
  simp only [if_pos i2] at e4 e5
  rw [e4, e5]
theorem InF.dnL (h : InF N UF U DF D all) : a ∈ rwH DF D r ↔ ∃ i, 0 ≤ i /\ i < (all.length : Int) /\ (U.length : Int) ≤ i /\ rkE (gt all i) = r /\ hdE (gt all i) = r /\ tlE (gt all i) = a.1 /\ (gt all i).1 = a.1 /\ wtE (gt all i) = a.2 := by
 have hl := h.X.len
 rw [Zep h.fD]
 constructor
 ·rintro ⟨i, k, i0, i1, rfl⟩
  have hi : ¬ (U.length : Int) + i < (U.length : Int) := by omega
  have es : (U.length : Int) + i - U.length = i := by omega
  have e := h.rank (i := (U.length : Int) + i) (r := r) (by omega) (by omega) (by unfold RkX; rw [if_neg hi, es]; exact k)
  refine ⟨(U.length : Int) + i, by omega, by omega, by omega, ?_⟩
  rw [e]
  unfold rkE tlE hdE wtE e7 lnk
  simp only [if_neg hi, es, and_self]
 ·rintro ⟨i, i0, i1, i2, e1, e2, e3, e4, e5⟩
  obtain ⟨b1, b2, b3, b4, b5⟩ := h.at1 i0 i1
  have hi : ¬ i < (U.length : Int) := by omega
  have e := h.rank i0 i1 b4
  rw [e1] at b4
  unfold RkX at b4
  rw [if_neg hi] at b4
  refine ⟨i - U.length, b4, by omega, by omega, ?_⟩
  rw [e] at e4 e5
  unfold wtE e7 lnk at e5
  unfold e7 lnk at e4
  simp only [if_neg hi] at e4 e5
  rw [e4, e5]
theorem InF.upOk (h : InF N UF U DF D all) (hU : WL U) (hD : WL D) : ZbK (rwH UF U) N.length /\ Rs (rwH UF U) := by
 refine ⟨fun r a ha => ?_, fun r a ha => ?_⟩ <;> obtain ⟨i, i0, i1, i2, e1, e2, e3, e4, e5⟩ := h.upL.1 ha <;> obtain ⟨b1, b2, b3, b4, b5⟩ := h.at1 i0 i1 <;> have hw := h.wr hU hD i0 i1
 ·omega
 ·omega
theorem InF.dnOk (h : InF N UF U DF D all) (hU : WL U) (hD : WL D) : ZbK (rwH DF D) N.length /\ Rs (rwH DF D) := by
 refine ⟨fun r a ha => ?_, fun r a ha => ?_⟩ <;> obtain ⟨i, i0, i1, i2, e1, e2, e3, e4, e5⟩ := h.dnL.1 ha <;> obtain ⟨b1, b2, b3, b4, b5⟩ := h.at1 i0 i1 <;> have hw := h.wr hU hD i0 i1
 ·omega
 ·omega
theorem InF.lk (h : InF N UF U DF D all) (i0 : 0 ≤ i) (i1 : i < (all.length : Int)) : Lk (rwH UF U) (rwH DF D) (tlE (gt all i)) (hdE (gt all i)) (wtE (gt all i)) := by
 obtain ⟨b1, b2, b3, b4, b5⟩ := h.at1 i0 i1
 rcases b5 with ⟨c1, c2, c3⟩ | ⟨c1, c2, c3⟩
 ·exact .inl (h.upL.2 ⟨i, i0, i1, c1, c2.symm, rfl, rfl, c3.symm, rfl⟩)
 ·exact .inr (h.dnL.2 ⟨i, i0, i1, c1, c3.symm, rfl, rfl, c2.symm, rfl⟩)
theorem InF.wb (h : InF N UF U DF D all) (n : Nrm (ga N all all.length) L) (u0 : 0 ≤ u) (u1 : u < (N.length : Int)) {a b : Int} (hw : Wk L a b d) : a = gt N u -> ∃ v, 0 ≤ v /\ v < (N.length : Int) /\ b = gt N v /\ Wb (rwH UF U) (rwH DF D) 0 u v d := by
 induction hw with
 | refl => rintro rfl; exact ⟨u, u0, u1, rfl, .refl u0⟩
 | step x d y w _ ha ih =>
  intro e
  obtain ⟨v, v0, v1, e2, hb⟩ := ih e
  obtain ⟨j, j0, j1, _, e3⟩ := ZeX ((h.memL n).1 ha)
  unfold ar at e3
  simp only [Prod.mk.injEq] at e3
  obtain ⟨q1, q2, q3⟩ := e3
  obtain ⟨⟨t1, t2⟩, t3, t4⟩ := h.tlr (i := j) j0 (by omega)
  have : v = tlE (gt all j) := h.od.2 _ _ v0 v1 t1 t2 (by rw [← e2, q1])
  subst this
  refine ⟨hdE (gt all j), t3, t4, q2, .step _ _ _ _ hb ?_ t3⟩
  rw [q3]
  exact h.lk j0 (by omega)
end Go.Vd

/-! (ClA) -/

set_option linter.unusedVariables false
set_option linter.unusedSimpArgs false
set_option maxHeartbeats 1000000
namespace Go.Vd
variable {n s : Int} {h : List (Int × Int)} {a : List Int} {K : Int -> Option Int} {cs : List (Int × Int)} {c id key : Int}
theorem Hp.le (H : Hp n h a K) (n0 : 0 ≤ n) : (h.length : Int) ≤ n := by
 have hnd : (h.map fun x => x.2).Nodup := by
  rw [List.nodup_iff_pairwise_ne, List.pairwise_map, List.pairwise_iff_getElem]
  intro i j hi hj hij e
  have e1 : gt h (i : Int) = h[i] := Zb5 hi
  have e2 : gt h (j : Int) = h[j] := Zb5 hj
  have := H.ix.inj (p := (i : Int)) (q := (j : Int)) (by omega) (by omega) (by omega) (by omega) (by rw [e1, e2]; exact e)
  omega
 have := ZeD (N := n.toNat) hnd fun x hx => by
  obtain ⟨y, hy, rfl⟩ := List.mem_map.1 hx
  obtain ⟨i, i0, i1, rfl⟩ := ZcE hy
  obtain ⟨f0, f1, _⟩ := H.ix.fwd i i0 i1
  omega
 rw [List.length_map] at this
 omega
theorem p_Key (H : Hp n h a K) (v0 : 0 ≤ id) (v1 : id < n) (hn : n ≤ 1099511627776) : ZaV h a id = some (match K id with | none => (0, false) | some k => (k, true)) := by
 have hal := H.len
 have hsm := H.small
 have hchk : Zab h a id = some Er.nil := by
  unfold Zab G; rw [if_pos (by omega), if_neg (by omega)]
 unfold ZaV
 rw [hchk, Option.bind_some, if_pos rfl]
 unfold G
 rw [if_pos (by omega), Option.bind_some]
 cases hk : K id with
 | none => rw [H.key_out v0 v1 hk]; rfl
 | some k =>
  obtain ⟨k1, k2, k3⟩ := H.key_in v0 v1 hk
  rw [decide_eq_false (by omega), if_neg (by decide), if_pos (by omega), if_pos (by omega), if_pos (by omega), k3]
theorem ZgN (H : Hp n h a K) (O : Ord4 h.length (gt h)) (v0 : 0 ≤ id) (v1 : id < n) (hn : n ≤ 1000000) :
  T (ZaF h a id key) fun r => Hp n r.2.2 r.2.1 (fun v => if v = id then some (match K v with | none => key | some k => min k key) else K v) /\ Ord4 r.2.2.length (gt r.2.2) := by
 have hl := H.le (by omega)
 unfold ZaF
 rw [p_Key H v0 v1 (by omega), Option.bind_some]
 cases hk : K id with
 | none =>
  dsimp only
  rw [if_neg (by decide), Option.bind_some, if_neg (by decide)]
  refine Zo _ (ZkN (key := key) H O v0 v1 (by omega) (fun old e => by rw [hk] at e; cases e) (by omega)) ?_
  rintro ⟨e, a', h'⟩ ⟨_, _, r2, r3⟩
  simp only [Zc]
  refine ⟨r2.keys fun v _ _ => ?_, r3⟩
  by_cases e : v = id
  ·rw [if_pos e, if_pos e, e, hk]
  ·rw [if_neg e, if_neg e]
 | some k =>
  dsimp only
  rw [if_pos rfl, Option.bind_some]
  by_cases hle : k ≤ key
  ·rw [decide_eq_true hle, if_pos rfl]
   simp only [Zc]
   refine ⟨H.keys fun v _ _ => ?_, O⟩
   by_cases e : v = id
   ·rw [if_pos e, e, hk]; dsimp only; rw [Int.min_eq_left hle]
   ·rw [if_neg e]
  ·rw [decide_eq_false hle, if_neg (by decide)]
   refine Zo _ (ZkN (key := key) H O v0 v1 (by omega) (fun old e => by rw [hk] at e; cases e; omega) (by omega)) ?_
   rintro ⟨e, a', h'⟩ ⟨_, _, r2, r3⟩
   simp only [Zc]
   refine ⟨r2.keys fun v _ _ => ?_, r3⟩
   by_cases e : v = id
   ·rw [if_pos e, if_pos e, e, hk]; dsimp only; rw [Int.min_eq_right (by omega)]
   ·rw [if_neg e, if_neg e]
theorem ZjF (hl : (h.length : Int) = 0) : Zal h a = some (0, 0, false, a, h) := by
 unfold Zal
 rw [Zjb, if_pos hl, Option.bind_some, if_neg (by decide)]
theorem ZjP (H : Hp n h a K) (O : Ord4 h.length (gt h)) (hn : n ≤ 1000000) (hl : 0 < (h.length : Int)) :
  T (Zal h a) fun r => r.1 = (gt h 0).2 /\ r.2.1 = (gt h 0).1 /\ r.2.2.1 = true /\ Hp n r.2.2.2.2 r.2.2.2.1 (fun v => if v = (gt h 0).2 then none else K v) /\ Ord4 r.2.2.2.2.length (gt r.2.2.2.2) := by
 obtain ⟨r, e, _, r2, r3⟩ := p_Pop H O (by omega) hl
 refine ⟨r, e, ?_⟩
 unfold Zal at e
 rw [Zjb, if_neg (by omega), Option.bind_some, if_pos rfl] at e
 obtain ⟨y, _, e2⟩ := bind_some e
 cases e2
 exact ⟨rfl, rfl, rfl, r2, r3⟩
theorem Hp.top (H : Hp n h a K) (O : Ord4 h.length (gt h)) (hl : 0 < (h.length : Int)) :
  (0 ≤ (gt h 0).2 /\ (gt h 0).2 < n) /\ K (gt h 0).2 = some (gt h 0).1 /\ ∀ x k, 0 ≤ x -> x < n -> K x = some k -> (gt h 0).1 ≤ k := by
 obtain ⟨f0, f1, f2⟩ := H.ix.fwd 0 (by omega) hl
 have hk := H.key _ f0 f1
 unfold Kf at hk
 rw [f2, if_neg (by omega), show (0 : Int) + 1 - 1 = 0 from rfl] at hk
 refine ⟨⟨f0, f1⟩, hk.symm, fun x k x0 x1 hd => ?_⟩
 obtain ⟨a0, a1, a2⟩ := H.key_in x0 x1 hd
 have := O.top (gt a x - 1) (by omega) (by omega)
 rw [a2] at this
 unfold Less at this
 dsimp only at this
 omega
theorem Hp.none (H : Hp n h a K) (hl : (h.length : Int) = 0) {x : Int} (x0 : 0 ≤ x) (x1 : x < n) : K x = none := by
 cases hk : K x with
 | none => rfl
 | some k => obtain ⟨a0, a1, _⟩ := H.key_in x0 x1 hk; omega
theorem Zlz {x d : Int} (x0 : 0 ≤ x) (x1 : x < (cs.length : Int)) (c0 : 0 ≤ c) (c1 : c ≤ 1000000) : T (Zb7 cs 1 c x d) fun r => r.1 = Er.nil /\ r.2.1 = cs.set x.toNat (d, 1) /\ 0 ≤ r.2.2 /\ r.2.2 ≤ c + 1 := by
 unfold Zb7
 refine Zo (fun o => o = false) ?_ fun o ho => ?_
 ·simp only [Zq, Zc]
  exact ⟨fun k => by omega, fun _ => by simp; omega⟩
 subst ho
 rw [if_neg (by decide), T_G]
 refine ⟨by omega, Zo (fun o => 0 ≤ o /\ o ≤ c + 1) ?_ fun o ho => ?_⟩
 ·simp only [Zq, T_G, Zc]
  exact ⟨fun _ => by omega, fun _ => by omega⟩
 ·simp only [Zc]; exact ⟨trivial, trivial, ho⟩
end Go.Vd

/-! (ClB) -/

set_option linter.unusedVariables false
set_option linter.unusedSimpArgs false
set_option maxHeartbeats 1000000
namespace Go.Vd
theorem ZiT {γ σ β : Type} {f : σ -> Option (σ ⊕ β)} {Q : β -> Prop} (I : γ -> σ -> Prop) (m : γ -> Nat)
  (step : ∀ g s, I g s -> T (f s) (Sum.elim (fun s' => ∃ g', I g' s' /\ m g' < m g) Q)) {g : γ} {s : σ} (h : I g s) : T (Zz f s) Q := by
 generalize hk : m g = k
 induction k using Nat.strongRecOn generalizing g s with
 | _ k ih =>
  obtain ⟨z, h1, h2⟩ := step g s h
  rw [Zd0, h1, Option.bind_some]
  cases z with
  | inl s' => obtain ⟨g', h2, h3⟩ := h2; exact ih (m g') (by omega) h2 rfl
  | inr b => exact ⟨b, rfl, h2⟩
variable {n s v d : Int} {h : List (Int × Int)} {a : List Int} {cs : List (Int × Int)} {c id key : Int} {F BF : List Int} {B BB : List B4} {S : List Int} {L : Lb}
def opK (S : List Int) (L : Lb) : Lb := fun x => if x ∈ S then none else L x
def clK (S : List Int) (L : Lb) : Lb := fun x => if x ∈ S then L x else none
theorem ZcC (f : Fst F (B.length : Int)) (v0 : 0 ≤ v) (v1 : v < (F.length : Int) - 1) : 0 ≤ gt F v /\ gt F v ≤ gt F (v + 1) /\ gt F (v + 1) ≤ (B.length : Int) /\ ((((B.take (gt F (v + 1)).toNat).drop (gt F v).toNat).length : Int) = gt F (v + 1) - gt F v) /\ rwH F B v = ((B.take (gt F (v + 1)).toNat).drop (gt F v).toNat).map (fun b => (b.1, b.2.1)) := by
 have a0 := f.le (a := 0) (b := v) (by omega) v0 (by omega)
 have a1 := f.le (a := v) (b := v + 1) v0 (by omega) (by omega)
 have a2 := f.le (a := v + 1) (b := (F.length : Int) - 1) (by omega) (by omega) (by omega)
 rw [f.z] at a0; rw [f.e] at a2
 refine ⟨a0, a1, a2, ZgZ a0 a1 a2, ?_⟩
 unfold rwH
 rw [if_pos ⟨v0, v1⟩]
theorem Zc8 {E : Type} [Inhabited E] {l : List E} {i : Int} (i0 : 0 ≤ i) (i1 : i < (l.length : Int)) : l.take (i + 1).toNat = l.take i.toNat ++ [gt l i] := by
 rw [show (i + 1).toNat = i.toNat + 1 from by omega, List.take_add_one]
 have : l[i.toNat]?.toList = [gt l i] := by
  unfold gt
  rw [List.getD_eq_getElem?_getD, List.getElem?_eq_getElem (by omega)]; rfl
 rw [this]
theorem Zkj (f : Fst F (B.length : Int)) (hn : (F.length : Int) = n + 1) (n1 : n ≤ 65536) (hB : B.length ≤ 1048576) (hr : ZbK (rwH F B) n) (v0 : 0 ≤ v) (v1 : v < n) (lc : (cs.length : Int) = n) {L' : Lb}
  (hS : v ∈ S) (sd : ∀ u ∈ S, ∃ k, L' u = some k) (hcs : ∀ x, DC cs x = clK S L' x) (d0 : 0 ≤ d) (d1 : d ≤ 10000000000000000000)
  (H : Hp n h a (opK S L)) (O : Ord4 h.length (gt h)) {y28 : List (Int × Int) × Int} (hy : y28.2 = 1) {y136 : Int × Int × Bool × List Int × List (Int × Int)} (e1 : y136.1 = v) (e2 : y136.2.1 = d) {er : Er} :
  T (Zz (fun zz_ => Zay F B y28 y136 (er, cs, c) zz_.1 zz_.2.1 zz_.2.2) (0, h, a)) fun r => Hp n r.1 r.2 (opK S ((rwH F B v).foldl (rlx d) L)) /\ Ord4 r.1.length (gt r.1) := by
 obtain ⟨a0, a1, a2, a3, a4⟩ := ZcC f v0 (by omega)
 have hr' := hr v
 rw [a4] at hr' ⊢
 generalize hR : (B.take (gt F (v + 1)).toNat).drop (gt F v).toNat = R at *
 refine ZH (fun z => 0 ≤ z.1 /\ z.1 ≤ (R.length : Int) /\ Hp n z.2.1 z.2.2 (opK S (((R.take z.1.toNat).map (fun b => (b.1, b.2.1))).foldl (rlx d) L)) /\ Ord4 z.2.1.length (gt z.2.1)) (fun z => ((R.length : Int) - z.1).toNat) ?_ ⟨by simp, by simp, by simpa using H, O⟩
 rintro ⟨i, q1, q2⟩ ⟨i0, i1, H, O⟩
 dsimp only at *
 unfold Zay
 rw [e1, e2, hR, Zq]
 refine ⟨fun hlt => ?_, fun hge => ?_⟩
 rotate_left
 ·simp only [Zc, Sum.elim_inr]
  rw [List.take_of_length_le (by omega)] at H
  exact ⟨H, O⟩
 have hm : gt R i ∈ R := Zah i0 hlt
 obtain ⟨q3, q4, q5⟩ := hr' _ (List.mem_map.2 ⟨_, hm, rfl⟩)
 dsimp only at q3 q4 q5
 have ht := Zc8 i0 hlt
 generalize gt R i = b at *
 rw [T_G, T_G]
 dsimp only
 rw [hy, Zit q3.1 (by omega), Option.bind_some, hcs]
 refine ⟨i0, by omega, ?_⟩
 have hfold : ((R.take (i + 1).toNat).map (fun b => (b.1, b.2.1))).foldl (rlx d) L = rlx d (((R.take i.toNat).map (fun b => (b.1, b.2.1))).foldl (rlx d) L) (b.1, b.2.1) := by
  rw [ht, List.map_append, List.foldl_append]; rfl
 unfold clK
 by_cases hb : b.1 ∈ S
 ·obtain ⟨k, hk⟩ := sd _ hb
  rw [if_pos hb, hk]
  dsimp only
  rw [if_neg (by decide)]
  simp only [T_G, Zc, Sum.elim_inl]
  refine ⟨by omega, ⟨by omega, by omega, H.keys fun x _ _ => ?_, O⟩, by omega⟩
  rw [hfold]
  unfold opK rlx
  by_cases ex : x ∈ S
  ·rw [if_pos ex, if_pos ex]
  ·rw [if_neg ex, if_neg ex, if_neg (fun q => ex (by rw [q]; exact hb))]
 ·rw [if_neg hb]
  dsimp only
  rw [if_pos (by decide)]
  simp only [T_G]
  refine ⟨by omega, Zo _ (ZgN (key := d + b.2.1) H O q3.1 q3.2 (by omega)) ?_⟩
  rintro ⟨er', a', h'⟩ ⟨H', O'⟩
  dsimp only at H' O' ⊢
  simp only [T_G, Zc, Sum.elim_inl]
  refine ⟨by omega, ⟨by omega, by omega, H'.keys fun x _ _ => ?_, O'⟩, by omega⟩
  rw [hfold]
  unfold opK rlx
  by_cases ex : x = b.1
  ·subst ex
   rw [if_pos rfl, if_neg hb, if_neg hb, if_pos rfl]
   all_goals rfl
  ·rw [if_neg ex]
   by_cases e2 : x ∈ S
   ·rw [if_pos e2, if_pos e2]
   ·rw [if_neg e2, if_neg e2, if_neg ex]
theorem Zkn (f : Fst F (B.length : Int)) (hn : (F.length : Int) = n + 1) (n1 : n ≤ 65536) (hB : B.length ≤ 1048576) (hr : ZbK (rwH F B) n) (s0 : 0 ≤ s) (s1 : s < n) :
  T (ZbB n F B BF BB s) fun r => ∃ cs c, r = .inr (cs, 1, c) /\ (cs.length : Int) = n /\ DjF (rwH F B) n s (DC cs) := by
 unfold ZbB
 rw [ZlG (by omega) n1, Option.bind_some, Sum.elim_inr, ZjY (by omega) n1, Option.bind_some, Sum.elim_inr, T_G]
 refine ⟨by omega, ?_⟩
 have hm : ((n.toNat : Nat) : Int) = n := by omega
 refine Zo _ (ZgN (key := 0) (Hp.empty hm) (fun p p0 p1 => by simp at p1; omega) s0 s1 (by omega)) ?_
 rintro ⟨er, a, h⟩ ⟨H, O⟩
 dsimp only at H O ⊢
 refine Za0 (fun r => False) ?_ (fun _ q => q.elim)
 have hno : ∀ y, DC (List.replicate n.toNat ((0 : Int), (0 : Int))) y = none := fun y => by
  unfold DC
  rw [if_neg]
  rintro ⟨_, _, e⟩
  have := ZgP (E := Int × Int) (m := n.toNat) (x := y)
  rw [show (default : Int × Int) = (0, 0) from rfl] at this
  rw [this] at e; cases e
 refine ZiT (γ := List Int × Lb) (fun g z => DjI (rwH F B) n s g.1 g.2 /\ Hp n z.2.2.1 z.2.2.2 (opK g.1 g.2) /\ Ord4 z.2.2.1.length (gt z.2.2.1) /\ (z.1.length : Int) = n /\ (∀ x, DC z.1 x = clK g.1 g.2 x) /\ 0 ≤ z.2.1 /\ z.2.1 ≤ (g.1.length : Int)) (fun g => (n - g.1.length).toNat) ?_ (g := ([], fun x => if x = s then some 0 else none)) ⟨.start s0 s1, H.keys fun x _ _ => ?_, O, by simp; omega, fun x => by rw [hno]; unfold clK; simp, by simp, by simp⟩
 rotate_left
 ·simp [opK]
 rintro ⟨S, L⟩ ⟨cs, c, h, a⟩ ⟨D, H, O, lc, hcs, c0, c1⟩
 dsimp only at *
 have hlS := D.len (by omega)
 unfold Za1
 by_cases hl : (h.length : Int) = 0
 ·rw [ZjF hl, Option.bind_some]
  dsimp only
  rw [if_pos (show (!false) = true from rfl)]
  simp only [Zdp, Zc, Sum.elim_inr, Sum.elim_inl]
  have hin : ∀ x k, L x = some k -> x ∈ S := fun x k hx => by
   have hrg := (D.rng x k hx).1
   have := H.none hl hrg.1 hrg.2
   unfold opK at this
   by_cases e : x ∈ S
   ·exact e
   ·rw [if_neg e, hx] at this; cases this
  have hL : DC cs = L := by
   funext x
   rw [hcs]; unfold clK
   by_cases e : x ∈ S
   ·rw [if_pos e]
   ·rw [if_neg e]
    cases hx : L x with
    | none => rfl
    | some k => exact absurd (hin x k hx) e
  refine ⟨cs, c, rfl, lc, ?_⟩
  rw [hL]
  exact D.fin (by omega) hin
 refine Zo _ (ZjP H O (by omega) (by omega)) ?_
 rintro ⟨v, d, b, a', h'⟩ ⟨e1, e2, e3, H', O'⟩
 obtain ⟨⟨t0, t1⟩, t2, t3⟩ := H.top O (by omega)
 dsimp only at e1 e2 e3 H' O' ⊢
 rw [← e1] at H' t0 t1 t2
 rw [← e2] at t2 t3
 subst e3
 rw [if_neg (by decide), T_G]
 refine ⟨by omega, ?_⟩
 have hv : v ∉ S := fun q => by unfold opK at t2; rw [if_pos q] at t2; cases t2
 have hd : L v = some d := by unfold opK at t2; rw [if_neg hv] at t2; exact t2
 have hmin : ∀ x k, x ∉ S -> L x = some k -> d ≤ k := fun x k hx hk => by
  have hrg := (D.rng x k hk).1
  exact t3 x k hrg.1 hrg.2 (by unfold opK; rw [if_neg hx]; exact hk)
 obtain ⟨_, d0, d1⟩ := D.rng v d hd
 have D' := D.step hr hv hd hmin
 have hlS' := D'.len (by omega)
 simp only [List.length_cons] at hlS'
 have hcv : ∀ x, DC (cs.set v.toNat (d, 1)) x = clK (v :: S) L x := fun x => by
  rw [ZlM t0 (by omega), hcs]
  unfold clK
  by_cases e : x = v
  ·rw [if_pos e, if_pos (by simp [e]), e, hd]
  ·rw [if_neg e]
   by_cases e2 : x ∈ S
   ·rw [if_pos e2, if_pos (by simp [e2])]
   ·rw [if_neg e2, if_neg (by simp [e, e2])]
 refine Zo _ (Zlz (d := d) t0 (by omega) c0 (by omega)) ?_
 rintro ⟨er2, cs2, c2⟩ ⟨g1, g2, g3, g4⟩
 dsimp only at g1 g2 g3 g4 ⊢
 subst g1; subst g2
 rw [if_pos rfl]
 obtain ⟨a0, a1, a2, a3, a4⟩ := ZcC f t0 (by omega)
 simp only [T_G]
 refine ⟨by omega, by omega, by omega, by omega, ?_⟩
 refine Zo _ (Zkj (S := v :: S) (L := L) (L' := L) (d := d) (v := v) f hn n1 hB hr t0 t1 (by simpa using lc) (by simp) ?_ hcv d0 (by omega) (H'.keys fun x _ _ => ?_) O' rfl rfl rfl) ?_
 ·intro u hu
  rcases List.mem_cons.1 hu with rfl | hu
  ·exact ⟨d, hd⟩
  ·exact D.sd u hu
 ·unfold opK
  by_cases e : x = v
  ·rw [if_pos e, if_pos (by simp [e])]
  ·rw [if_neg e]
   by_cases e2 : x ∈ S
   ·rw [if_pos e2, if_pos (by simp [e2])]
   ·rw [if_neg e2, if_neg (by simp [e, e2])]
 ·rintro ⟨h2, a2'⟩ ⟨H2, O2⟩
  dsimp only at H2 O2
  simp only [Zc, Sum.elim_inl]
  refine ⟨(v :: S, (rwH F B v).foldl (rlx d) L), ⟨D', H2, O2, by simpa using lc, fun x => ?_, g3, ?_⟩, ?_⟩
  ·rw [hcv]
   unfold clK
   by_cases e : x ∈ v :: S
   ·rw [if_pos e, if_pos e]
    have : ∃ k, L x = some k /\ k ≤ d := by
     rcases List.mem_cons.1 e with rfl | e
     ·exact ⟨d, hd, Int.le_refl _⟩
     ·obtain ⟨k, hk⟩ := D.sd x e; exact ⟨k, hk, D.low hv hd e hk⟩
    obtain ⟨k, k1, k2⟩ := this
    rw [k1]
    exact (Zeb (fun b hb => (hr v b hb).2.1) k1 k2).symm
   ·rw [if_neg e, if_neg e]
  ·simp only [List.length_cons]; omega
  ·simp only [List.length_cons]; omega
end Go.Vd

/-! (ClC) -/

set_option linter.unusedVariables false
set_option linter.unusedSimpArgs false
set_option maxHeartbeats 1000000
namespace Go.Vd
variable {n s r d k : Int} {cs : List (Int × Int)} {c id key : Int} {F BF N UF DF : List Int} {B BB U D : List B4} {L : Lb} {all : List E7}
theorem ZlD (hl : cs.length ≤ 100000) : T (Zb9 cs 1 c) fun l => l.Pairwise (· < ·) /\ l.length ≤ cs.length /\ ∀ x, x ∈ l ↔ ∃ k, DC cs x = some k := by
 unfold Zb9
 refine Zo (fun l => l.Pairwise (· < ·) /\ l.length ≤ cs.length /\ ∀ x, x ∈ l ↔ (0 ≤ x /\ x < (cs.length : Int) /\ (gt cs x).2 = 1)) ?_ ?_
 ·refine ZH (fun z => 0 ≤ z.1 /\ z.1 ≤ (cs.length : Int) /\ z.2.Pairwise (· < ·) /\ (z.2.length : Int) ≤ z.1 /\ ∀ x, x ∈ z.2 ↔ (0 ≤ x /\ x < z.1 /\ (gt cs x).2 = 1)) (fun z => ((cs.length : Int) - z.1).toNat) ?_ ⟨by simp, by simp, by simp, by simp, fun x => by simp; omega⟩
  rintro ⟨i, l⟩ ⟨i0, i1, hp, hl2, hm⟩
  dsimp only at *
  unfold Zbs
  rw [Zq]
  refine ⟨fun hlt => ?_, fun hge => ?_⟩
  rotate_left
  ·simp only [Zc, Sum.elim_inr]
   rw [show i = (cs.length : Int) from by omega] at hm
   exact ⟨hp, by omega, hm⟩
  rw [T_G, Zq]
  refine ⟨i0, fun he => ?_, fun he => ?_⟩
  ·simp only [T_G, Zc, Sum.elim_inl]
   refine ⟨by omega, by omega, ⟨by omega, by omega, ?_, by simp; omega, fun x => ?_⟩, by omega⟩
   ·rw [List.pairwise_append]
    refine ⟨hp, by simp, fun x hx y hy => ?_⟩
    rw [List.mem_singleton.1 hy]
    exact ((hm x).1 hx).2.1
   ·rw [List.mem_append, hm, List.mem_singleton]
    constructor
    ·rintro (h | h)
     ·exact ⟨h.1, by omega, h.2.2⟩
     ·subst h; exact ⟨i0, by omega, he⟩
    ·intro h
     by_cases e : x = i
     ·exact .inr e
     ·exact .inl ⟨h.1, by omega, h.2.2⟩
  ·simp only [T_G, Zc, Sum.elim_inl]
   refine ⟨by omega, ⟨by omega, by omega, hp, by omega, fun x => ?_⟩, by omega⟩
   rw [hm]
   constructor
   ·intro h; exact ⟨h.1, by omega, h.2.2⟩
   ·intro h
    by_cases e : x = i
    ·subst e; exact absurd h.2.2 he
    ·exact ⟨h.1, by omega, h.2.2⟩
 ·rintro l ⟨h1, h2, h3⟩
  simp only [Zc]
  refine ⟨h1, h2, fun x => ?_⟩
  rw [h3]
  unfold DC
  constructor
  ·intro h; exact ⟨_, if_pos h⟩
  ·rintro ⟨k, h⟩
   by_cases e : 0 ≤ x /\ x < (cs.length : Int) /\ (gt cs x).2 = 1
   ·exact e
   ·rw [if_neg e] at h; cases h
theorem Zj1 (f : Fst BF (BB.length : Int)) (hn : (BF.length : Int) = n + 1) (n1 : n ≤ 65536) (hB : BB.length ≤ 1048576) (hr : ZbK (rwH BF BB) n) (lc : (cs.length : Int) = n) (hd : ∀ x k, DC cs x = some k -> 0 ≤ k /\ k ≤ n * 140737488355328) (r0 : 0 ≤ r) (r1 : r < n) :
  T (Zbr n F B BF BB cs 1 c r d) fun _ => True := by
 obtain ⟨a0, a1, a2, a3, a4⟩ := ZcC f r0 (by omega)
 have hr' := hr r
 rw [a4] at hr'
 unfold Zbr
 simp only [T_G]
 refine ⟨by omega, by omega, by omega, by omega, Za0 (fun _ => True) ?_ fun _ _ => by simp⟩
 generalize hR : (BB.take (gt BF (r + 1)).toNat).drop (gt BF r).toNat = R at *
 refine ZH (fun i => 0 ≤ i /\ i ≤ (R.length : Int)) (fun i => ((R.length : Int) - i).toNat) ?_ ⟨by simp, by simp⟩
 rintro i ⟨i0, i1⟩
 unfold ZaN
 rw [hR, Zq]
 refine ⟨fun hlt => ?_, fun hge => by simp⟩
 have hm : gt R i ∈ R := Zah i0 hlt
 obtain ⟨q3, q4, q5⟩ := hr' _ (List.mem_map.2 ⟨_, hm, rfl⟩)
 dsimp only at q3 q4 q5
 generalize gt R i = b at *
 rw [T_G, T_G, Zit q3.1 (by omega), Option.bind_some]
 refine ⟨i0, by omega, ?_⟩
 cases hx : DC cs b.1 with
 | none =>
  dsimp only
  rw [if_neg (by decide)]
  simp only [T_G, Zc, Sum.elim_inl]
  exact ⟨by omega, ⟨by omega, by omega⟩, by omega⟩
 | some k =>
  obtain ⟨k0, k1⟩ := hd _ k hx
  dsimp only
  rw [if_pos rfl, T_G, Zq]
  refine ⟨by omega, fun _ => by simp, fun _ => ?_⟩
  simp only [T_G, Zc, Sum.elim_inl]
  exact ⟨by omega, ⟨by omega, by omega⟩, by omega⟩
structure ClR (row : Rw2) (n s : Int) (L : Lb) (seen : List (Int × Int × Bool)) : Prop where
 dj : DjF row n s L
 inc : seen.Pairwise (fun a b => a.1 < b.1)
 mem : ∀ x k, (∃ b, (x, k, b) ∈ seen) ↔ L x = some k
 len : (seen.length : Int) ≤ n
def ClQ (F : List Int) (B : List B4) (n s : Int) (r : List (Int × Int × Bool) × Er) : Prop := (¬ (0 ≤ s /\ s < n) /\ r = ([], .no 7)) ∨ ((0 ≤ s /\ s < n) /\ r.2 = .nil /\ ∃ L, ClR (rwH F B) n s L r.1)
theorem ZiS (f : Fst F (B.length : Int)) (hn : (F.length : Int) = n + 1) (n1 : n ≤ 65536) (hB : B.length ≤ 1048576) (hr : ZbK (rwH F B) n) (f2 : Fst BF (BB.length : Int)) (hn2 : (BF.length : Int) = n + 1) (hB2 : BB.length ≤ 1048576) (hr2 : ZbK (rwH BF BB) n) :
  T (Zbi n F B BF BB s) (ClQ F B n s) := by
 unfold Zbi
 refine Zo (fun o => o = decide (¬ (0 ≤ s /\ s < n))) ?_ ?_
 ·simp only [Zq, Zc]
  exact ⟨fun h => by symm; rw [decide_eq_true_iff]; omega, fun h => by congr 1; rw [eq_iff_iff]; omega⟩
 rintro _ rfl
 by_cases hs : 0 ≤ s /\ s < n
 rotate_left
 ·rw [if_pos (decide_eq_true hs)]
  simp only [Zc]
  exact .inl ⟨hs, rfl⟩
 rw [if_neg (by simp; omega)]
 refine Zo _ (Zkn f hn n1 hB hr hs.1 hs.2) ?_
 rintro _ ⟨cs, c, rfl, lc, D⟩
 rw [Sum.elim_inr]
 dsimp only
 have hdc : ∀ x k, DC cs x = some k -> 0 ≤ k /\ k ≤ n * 140737488355328 := fun x k hx => (D.rng x k hx).2
 refine Zo _ (ZlD (c := c) (by omega)) ?_
 rintro l ⟨g1, g2, g3⟩
 refine Zo (fun o => ClR (rwH F B) n s (DC cs) o) ?_ ?_
 ·refine ZH (fun z => 0 ≤ z.1 /\ z.1 ≤ (l.length : Int) /\ z.2.map (fun x => x.1) = l.take z.1.toNat /\ ∀ x k b, (x, k, b) ∈ z.2 -> DC cs x = some k) (fun z => ((l.length : Int) - z.1).toNat) ?_ ⟨by simp, by simp, by simp, fun x k b h => by cases h⟩
  rintro ⟨i, o⟩ ⟨i0, i1, ho, hd⟩
  dsimp only at *
  unfold Zbh
  rw [Zq]
  have hol : o.length = (o.map (fun x => x.1)).length := by simp
  rw [ho, List.length_take] at hol
  refine ⟨fun hlt => ?_, fun hge => ?_⟩
  rotate_left
  ·simp only [Zc, Sum.elim_inr]
   rw [List.take_of_length_le (by omega)] at ho
   refine ⟨D, ?_, fun x k => ⟨fun ⟨b, hb⟩ => hd x k b hb, fun hx => ?_⟩, by omega⟩
   ·rw [← ho, List.pairwise_map] at g1
    exact g1
   ·have : x ∈ o.map (fun x => x.1) := by rw [ho]; exact (g3 x).2 ⟨k, hx⟩
    obtain ⟨y, hy, rfl⟩ := List.mem_map.1 this
    obtain ⟨x, k', b⟩ := y
    have := hd x k' b hy
    rw [show ((x, k', b) : Int × Int × Bool).1 = x from rfl] at hx
    rw [hx] at this; cases this
    exact ⟨b, hy⟩
  have hm : gt l i ∈ l := Zah i0 hlt
  have ht := Zc8 i0 hlt
  obtain ⟨k, hk⟩ := (g3 _).1 hm
  have hrg := (D.rng _ _ hk).1
  generalize gt l i = x at *
  rw [T_G]
  dsimp only
  rw [Zit hrg.1 (by omega), Option.bind_some, hk]
  refine ⟨i0, ?_⟩
  refine Zo _ (Zj1 f2 hn2 n1 hB2 hr2 lc hdc hrg.1 hrg.2) ?_
  intro b _
  simp only [T_G, Zc, Sum.elim_inl]
  refine ⟨by omega, by omega, ⟨by omega, by omega, ?_, ?_⟩, by omega⟩
  ·rw [List.map_append, ho, ht]; rfl
  ·intro x' k' b' h
   rcases List.mem_append.1 h with h | h
   ·exact hd x' k' b' h
   ·cases List.mem_singleton.1 h; exact hk
 ·intro o ho
  simp only [Zc]
  exact .inr ⟨hs, rfl, _, ho⟩
theorem p_Up (h : InF N UF U DF D all) (hU : WL U) (hD : WL D) (e : ZZ N UF U DF D = some .nil) : T (Zcb N UF U DF D s) (ClQ UF U N.length s) := by
 unfold Zcb
 have sm := h.sm
 have ln := h.ln
 rw [e, Option.bind_some, if_pos rfl]
 refine Zo _ (ZiS (s := s) h.fU ln.1 (by have := sm.1; omega) (by have := sm.2; omega) (h.upOk hU hD).1 h.fD ln.2 (by have := sm.2; omega) (h.dnOk hU hD).1) ?_
 rintro ⟨a, b⟩ hq
 simp only [Zc]; exact hq
theorem ZjN (h : InF N UF U DF D all) (hU : WL U) (hD : WL D) (e : ZZ N UF U DF D = some .nil) : T (ZcU N UF U DF D s) (ClQ DF D N.length s) := by
 unfold ZcU
 have sm := h.sm
 have ln := h.ln
 rw [e, Option.bind_some, if_pos rfl]
 refine Zo _ (ZiS (s := s) h.fD ln.2 (by have := sm.1; omega) (by have := sm.2; omega) (h.dnOk hU hD).1 h.fU ln.1 (by have := sm.2; omega) (h.upOk hU hD).1) ?_
 rintro ⟨a, b⟩ hq
 simp only [Zc]; exact hq
end Go.Vd

/-! (QmA) -/

set_option linter.unusedVariables false
set_option linter.unusedSimpArgs false
set_option maxHeartbeats 1000000
namespace Go.Vd
variable {n s t : Int} {N UF DF : List Int} {U D : List B4} {L1 L2 : Lb} {all : List E7}
def MtQ (L1 L2 : Lb) (p m : Int) : Prop := (m = 18446744073709551615 /\ p = 0 /\ ∀ q x y, L1 q = some x -> L2 q = some y -> False) ∨
 (∃ x y, L1 p = some x /\ L2 p = some y /\ m = x + y /\ ∀ q x' y', L1 q = some x' -> L2 q = some y' -> m ≤ x' + y')
theorem ZkR {E : Type} (x : E) (l : List E) : ((x :: l).take (x :: l).length).drop (1 : Int).toNat = l := by
 rw [List.take_of_length_le (Nat.le_refl _)]; rfl
theorem Zk3 {up dn : List (Int × Int × Bool)} (hu : up.Pairwise (fun a b => a.1 < b.1)) (hd : dn.Pairwise (fun a b => a.1 < b.1)) (mu : ∀ x k, (∃ b, (x, k, b) ∈ up) ↔ L1 x = some k) (md : ∀ x k, (∃ b, (x, k, b) ∈ dn) ↔ L2 x = some k)
  (b1 : ∀ x k, L1 x = some k -> 0 ≤ k /\ k ≤ 1000000000000000000) (b2 : ∀ x k, L2 x = some k -> 0 ≤ k /\ k ≤ 1000000000000000000) :
  T (Zz (fun zz_ => ZbP zz_.1 zz_.2.1 zz_.2.2.1 zz_.2.2.2) (up, dn, 0, 18446744073709551615)) fun r => MtQ L1 L2 r.1 r.2 := by
 refine ZH (fun z => z.1.Pairwise (fun a b => a.1 < b.1) /\ z.2.1.Pairwise (fun a b => a.1 < b.1) /\ (∀ x k b, (x, k, b) ∈ z.1 -> L1 x = some k) /\ (∀ x k b, (x, k, b) ∈ z.2.1 -> L2 x = some k) /\
   (∀ q x y, L1 q = some x -> L2 q = some y -> ((∃ b, (q, x, b) ∈ z.1) /\ ∃ b, (q, y, b) ∈ z.2.1) ∨ z.2.2.2 ≤ x + y) /\ ((z.2.2.1 = 0 /\ z.2.2.2 = 18446744073709551615) ∨ ∃ x y, L1 z.2.2.1 = some x /\ L2 z.2.2.1 = some y /\ z.2.2.2 = x + y)) (fun z => z.1.length + z.2.1.length) ?_
  ⟨hu, hd, fun x k b h => (mu x k).1 ⟨b, h⟩, fun x k b h => (md x k).1 ⟨b, h⟩, fun q x y h1 h2 => .inl ⟨(mu q x).2 h1, (md q y).2 h2⟩, .inl ⟨rfl, rfl⟩⟩
 rintro ⟨u, d, p, m⟩ ⟨hu, hd, mu, md, hq, hb⟩
 dsimp only at *
 have fin : (u = [] ∨ d = []) -> MtQ L1 L2 p m := fun h => by
  have hall : ∀ q x y, L1 q = some x -> L2 q = some y -> m ≤ x + y := fun q x y h1 h2 => by
   rcases hq q x y h1 h2 with ⟨⟨b, g1⟩, ⟨b', g2⟩⟩ | h3
   ·rcases h with rfl | rfl
    ·cases g1
    ·cases g2
   ·exact h3
  rcases hb with ⟨rfl, rfl⟩ | ⟨x, y, h1, h2, h3⟩
  ·exact .inl ⟨rfl, rfl, fun q x y h1 h2 => by have := hall q x y h1 h2; have := b1 q x h1; have := b2 q y h2; omega⟩
  ·exact .inr ⟨x, y, h1, h2, h3, hall⟩
 unfold ZbP
 cases u with
 | nil =>
  rw [if_neg (by simp), Option.bind_some, if_neg (by decide)]
  simp only [Zc, Sum.elim_inr]; exact fin (.inl rfl)
 | cons a u =>
 rw [if_pos (by simp)]
 cases d with
 | nil =>
  rw [Option.bind_some, if_neg (by simp)]
  simp only [Zc, Sum.elim_inr]; exact fin (.inr rfl)
 | cons c d =>
 rw [Option.bind_some, if_pos (by simp), T_G, T_G]
 refine ⟨by simp, by simp, ?_⟩
 rw [show gt (a :: u) 0 = a from rfl, show gt (c :: d) 0 = c from rfl, ZkR, ZkR]
 obtain ⟨ra, da, ba⟩ := a
 obtain ⟨rc, dc, bc⟩ := c
 dsimp only
 have la := mu ra da ba (by simp)
 have lc := md rc dc bc (by simp)
 have q1 := b1 _ _ la
 have q2 := b2 _ _ lc
 have pu := List.pairwise_cons.1 hu
 have pd := List.pairwise_cons.1 hd
 have drU : ∀ q x, ra ≠ q -> (∃ b, (q, x, b) ∈ (ra, da, ba) :: u) -> ∃ b, (q, x, b) ∈ u := fun q x ne ⟨b, h⟩ => by
  rcases List.mem_cons.1 h with h | h
  ·cases h; exact absurd rfl ne
  ·exact ⟨b, h⟩
 have drD : ∀ q x, rc ≠ q -> (∃ b, (q, x, b) ∈ (rc, dc, bc) :: d) -> ∃ b, (q, x, b) ∈ d := fun q x ne ⟨b, h⟩ => by
  rcases List.mem_cons.1 h with h | h
  ·cases h; exact absurd rfl ne
  ·exact ⟨b, h⟩
 have geU : ∀ q x, (∃ b, (q, x, b) ∈ (ra, da, ba) :: u) -> ra ≤ q := fun q x ⟨b, h⟩ => by
  rcases List.mem_cons.1 h with h | h
  ·cases h; exact Int.le_refl _
  ·have := pu.1 _ h; dsimp only at this; omega
 have geD : ∀ q x, (∃ b, (q, x, b) ∈ (rc, dc, bc) :: d) -> rc ≤ q := fun q x ⟨b, h⟩ => by
  rcases List.mem_cons.1 h with h | h
  ·cases h; exact Int.le_refl _
  ·have := pd.1 _ h; dsimp only at this; omega
 refine Zo (fun o => o = true ↔ (ra = rc /\ da + dc < m)) ?_ fun o ho => ?_
 ·simp only [Zq, T_G, Zc]
  exact ⟨fun e => ⟨by omega, by simp [e]⟩, fun e => by simp [e]⟩
 refine Zo (fun o => (ra = rc /\ da + dc < m -> o = (ra, da + dc)) /\ (¬ (ra = rc /\ da + dc < m) -> o = (p, m))) ?_ fun o2 ho2 => ?_
 ·simp only [Zq, T_G, Zc]
  exact ⟨fun e => ⟨by omega, fun _ => trivial, fun k => absurd (ho.1 e) k⟩, fun e => ⟨fun k => absurd (ho.2 k) e, fun _ => trivial⟩⟩
 obtain ⟨p2, m2⟩ := o2
 have hb2 : ((p2 = 0 /\ m2 = 18446744073709551615) ∨ ∃ x y, L1 p2 = some x /\ L2 p2 = some y /\ m2 = x + y) /\ m2 ≤ m /\ (ra = rc -> m2 ≤ da + dc) := by
  by_cases e : ra = rc /\ da + dc < m
  ·cases ho2.1 e
   refine ⟨.inr ⟨da, dc, la, by rw [e.1]; exact lc, rfl⟩, by omega, fun _ => Int.le_refl _⟩
  ·cases ho2.2 e
   exact ⟨hb, Int.le_refl _, fun q => by omega⟩
 obtain ⟨hb2, hm, hm2⟩ := hb2
 have fU : ∀ x k b, (x, k, b) ∈ u -> L1 x = some k := fun x k b h => mu x k b (by simp [h])
 have fD : ∀ x k b, (x, k, b) ∈ d -> L2 x = some k := fun x k b h => md x k b (by simp [h])
 rw [Zq]
 refine ⟨fun h1 => ?_, fun h1 => ?_⟩
 ·rw [T_G, Zq]
  refine ⟨by simp; omega, fun h2 => ?_, fun h2 => ?_⟩
  ·simp only [T_G, Zc, Sum.elim_inl, List.length_cons]
   refine ⟨by omega, ⟨pu.2, pd.2, fU, fD, fun q x y g1 g2 => ?_, hb2⟩, by omega⟩
   rcases hq q x y g1 g2 with ⟨k1, k2⟩ | k
   ·by_cases e : ra = q
    ·subst e
     rw [la] at g1; cases g1
     rw [show ra = rc from by omega, lc] at g2; cases g2
     exact .inr (hm2 (by omega))
    ·exact .inl ⟨drU q x e k1, drD q y (by omega) k2⟩
   ·exact .inr (by omega)
  ·simp only [Zc, Sum.elim_inl, List.length_cons]
   refine ⟨⟨pu.2, hd, fU, md, fun q x y g1 g2 => ?_, hb2⟩, by omega⟩
   rcases hq q x y g1 g2 with ⟨k1, k2⟩ | k
   ·have := geD q y k2
    exact .inl ⟨drU q x (by omega) k1, k2⟩
   ·exact .inr (by omega)
 ·rw [if_pos (by omega)]
  simp only [T_G, Zc, Sum.elim_inl, List.length_cons]
  refine ⟨by omega, ⟨hu, pd.2, mu, fD, fun q x y g1 g2 => ?_, hb2⟩, by omega⟩
  rcases hq q x y g1 g2 with ⟨k1, k2⟩ | k
  ·have := geU q x k1
   exact .inl ⟨k1, drD q y (by omega) k2⟩
  ·exact .inr (by omega)
def ZkH (N UF DF : List Int) (U D : List B4) (s t : Int) (r : Int × Int × Er) : Prop :=
 (¬ ((0 ≤ s /\ s < (N.length : Int)) /\ 0 ≤ t /\ t < (N.length : Int)) /\ r.1 = 0 /\ r.2.1 = 0 /\ r.2.2 ≠ .nil) ∨
 (((0 ≤ s /\ s < (N.length : Int)) /\ 0 ≤ t /\ t < (N.length : Int)) /\ ∃ a b L1 L2, (0 ≤ a /\ a < (N.length : Int) /\ gt N a = s) /\ (0 ≤ b /\ b < (N.length : Int) /\ gt N b = t) /\ DjF (rwH UF U) N.length a L1 /\ DjF (rwH DF D) N.length b L2 /\
   ((r = (0, 0, .no 16) /\ ∀ q x y, L1 q = some x -> L2 q = some y -> False) ∨ (r.2.2 = .nil /\ ∃ x y, L1 r.1 = some x /\ L2 r.1 = some y /\ r.2.1 = x + y /\ ∀ q x' y', L1 q = some x' -> L2 q = some y' -> r.2.1 ≤ x' + y')))
theorem ZjU (h : InF N UF U DF D all) (hU : WL U) (hD : WL D) (e : ZZ N UF U DF D = some .nil) (few : N.length ≤ 1000) : T (Za2 N UF U DF D s t) (ZkH N UF DF U D s t) := by
 unfold Za2
 refine Zo _ (ZkM e h.od (by omega)) ?_
 rintro ⟨l, er⟩ ⟨h1, h2⟩
 dsimp only at h1 h2 ⊢
 subst h1
 rw [if_pos rfl]
 have hl := h2.1
 refine Za0 (fun _ => (0 ≤ s /\ s < (N.length : Int)) /\ 0 ≤ t /\ t < (N.length : Int)) ?_ ?_
 ·refine ZH (fun i => 0 ≤ i /\ i ≤ 2 /\ (0 < i -> 0 ≤ s /\ s < (N.length : Int)) /\ (1 < i -> 0 ≤ t /\ t < (N.length : Int))) (fun i => (2 - i).toNat) ?_ ⟨by omega, by omega, fun q => by omega, fun q => by omega⟩
  rintro i ⟨i0, i1, hs, ht⟩
  unfold ZcI
  rw [Zq]
  refine ⟨fun hi => ?_, fun hi => ?_⟩
  rotate_left
  ·simp only [List.length_cons, List.length_nil] at hi
   simp only [Zc, Sum.elim_inr]
   exact ⟨hs (by omega), ht (by omega)⟩
  simp only [List.length_cons, List.length_nil] at hi
  rw [T_G]
  refine ⟨i0, ?_⟩
  refine Zo (fun o => o = true ↔ ¬ (0 ≤ gt [s, t] i /\ gt [s, t] i < (N.length : Int))) ?_ fun o ho => ?_
  ·simp only [Zq, Zc, decide_eq_true_iff]
   exact ⟨fun q => by simp; omega, fun q => by omega⟩
  rw [Zq]
  refine ⟨fun q => ?_, fun q => ?_⟩
  ·unfold Zba
   have bad : ¬ ((0 ≤ s /\ s < (N.length : Int)) /\ 0 ≤ t /\ t < (N.length : Int)) := fun k => by
    refine ho.1 q ?_
    rcases (show i = 0 ∨ i = 1 by omega) with rfl | rfl
    ·exact k.1
    ·exact k.2
   simp only [if_false, reduceCtorEq, Option.bind_some, Option.map_some, Zc, Sum.elim_inr, Sum.elim_inl]
   exact .inl ⟨bad, rfl, rfl, by simp⟩
  ·simp only [T_G, Zc, Sum.elim_inl]
   have hok : 0 ≤ gt [s, t] i /\ gt [s, t] i < (N.length : Int) := Classical.not_not.1 fun k => q (ho.2 k)
   refine ⟨by omega, ⟨by omega, by omega, fun _ => ?_, fun k => ?_⟩, by omega⟩
   ·by_cases k : 0 < i
    ·exact hs k
    ·rw [show i = 0 by omega] at hok; exact hok
   ·rw [show i = 1 by omega] at hok; exact hok
 rintro _ ⟨⟨s0, s1⟩, t0, t1⟩
 obtain ⟨a0, a1, a2⟩ := h2.at h.od s0 s1
 obtain ⟨c0, c1, c2⟩ := h2.at h.od t0 t1
 rw [T_G]
 refine ⟨by omega, Zo _ (p_Up h hU hD e) ?_⟩
 rintro ⟨up, er⟩ hup
 dsimp only
 rcases hup with ⟨q, _⟩ | ⟨_, rfl, L1, k1⟩
 ·exact absurd ⟨a0, a1⟩ q
 rw [if_pos rfl, T_G]
 refine ⟨by omega, Zo _ (ZjN h hU hD e) ?_⟩
 rintro ⟨dn, er⟩ hdn
 dsimp only
 rcases hdn with ⟨q, _⟩ | ⟨_, rfl, L2, k2⟩
 ·exact absurd ⟨c0, c1⟩ q
 rw [if_pos rfl]
 refine Zo _ (Zk3 k1.inc k2.inc k1.mem k2.mem (fun x k hx => by have := (k1.dj.rng x k hx).2; omega) (fun x k hx => by have := (k2.dj.rng x k hx).2; omega)) ?_
 rintro ⟨p, m⟩ hq
 dsimp only at hq ⊢
 have big : ∀ q x y, L1 q = some x -> L2 q = some y -> x + y < 18446744073709551615 := fun q x y g1 g2 => by
  have := (k1.dj.rng q x g1).2; have := (k2.dj.rng q y g2).2; omega
 rw [Zq]
 simp only [Zc]
 refine ⟨fun hm => ?_, fun hm => ?_⟩
 ·refine .inr ⟨⟨⟨s0, s1⟩, t0, t1⟩, _, _, L1, L2, ⟨a0, a1, a2⟩, ⟨c0, c1, c2⟩, k1.dj, k2.dj, .inl ⟨rfl, ?_⟩⟩
  rcases hq with ⟨_, _, g⟩ | ⟨x, y, g1, g2, g3, _⟩
  ·exact g
  ·have := big _ _ _ g1 g2; omega
 ·refine .inr ⟨⟨⟨s0, s1⟩, t0, t1⟩, _, _, L1, L2, ⟨a0, a1, a2⟩, ⟨c0, c1, c2⟩, k1.dj, k2.dj, .inr ⟨rfl, ?_⟩⟩
  rcases hq with ⟨g, _⟩ | g
  ·exact absurd g hm
  ·exact g
end Go.Vd

/-! (PrTwo) -/

set_option linter.unusedVariables false
set_option linter.unusedSimpArgs false
set_option maxHeartbeats 1000000
namespace Go.Vd
variable {row : Rw2} {s x d : Int} {N UF DF : List Int} {U D : List B4}
theorem Wy.up (h : Rs row) (g : Wy row s x d) : s ≤ x := by
 induction g with
 | refl => exact Int.le_refl _
 | step u d a _ ha ih => have := h u a ha; omega
theorem Wy.self (h : Rs row) (hr : ∀ v, ∀ a ∈ row v, 0 ≤ a.2) {x d : Int} (g : Wy row s x d) (e : x = s) : d = 0 := by
 cases g with
 | refl => rfl
 | step u d a g ha => have := h u a ha; have := g.up h; omega
theorem ZjK {all : List E7} {er : Er} (hN : W32 N) (hUF : W32 UF) (hU : WL U) (hDF : W32 DF) (hD : WL D) (lU : U.length ≤ 9000000000000) (lD : D.length ≤ 9000000000000) (lN : N.length ≤ 9000000000000000) (e : Zbl N UF U DF D = some (all, er)) : HierA N UF U DF D er /\ (er = .nil -> InF N UF U DF D all) := by
 obtain ⟨⟨all', er'⟩, e', hA, hF, _⟩ := Zg8 hN hUF hU hDF hD lU lD lN
 rw [e] at e'
 cases e'
 refine ⟨hA, fun h => ?_⟩
 obtain ⟨f1, f2, f3, f4, f5, f6, f7⟩ := hF h
 exact ⟨f1, f2, f3, f4, f5, f6, fun j j0 j1 => (f7 j j0 j1).1, fun j j0 j1 => (f7 j j0 j1).2⟩
theorem tW : W32 tN /\ W32 tUF /\ WL tU /\ W32 tDF /\ WL tD := by
 refine ⟨fun x h => ?_, fun x h => ?_, fun x h => ?_, fun x h => ?_, fun x h => ?_⟩ <;> simp at h
 ·omega
 ·omega
 ·rcases h with rfl | rfl <;> simp
 ·omega
 ·subst h; simp
theorem t_InF : InF tN tUF tU tDF tD tAll := by
 obtain ⟨h1, h2, h3, h4, h5⟩ := tW
 exact (ZjK h1 h2 h3 h4 h5 (by simp) (by simp) (by simp) Zka).2 rfl
theorem p_two : Zcl = some true := by
 obtain ⟨h1, h2, h3, h4, h5⟩ := tW
 have F := t_InF
 have uR := (F.upOk h3 h5).2
 have dR := (F.dnOk h3 h5).2
 obtain ⟨⟨p, d, er⟩, em, hm⟩ := ZjU (s := 0) (t := 2) F h3 h5 (Zkb Zka) (by simp)
 unfold Zcl Zbf
 rw [Zlk, Option.bind_some, em, Option.bind_some, Option.bind_some]
 dsimp only
 rcases hm with ⟨q, _⟩ | ⟨_, a, b, L1, L2, ⟨a0, a1, a2⟩, ⟨b0, b1, b2⟩, D1, D2, hq⟩
 ·exact absurd ⟨⟨by omega, by simp⟩, by omega, by simp⟩ q
 have ea : a = 1 := F.od.2 a 1 a0 a1 (by omega) (by simp) (by rw [a2]; rfl)
 have eb : b = 2 := F.od.2 b 2 b0 b1 (by omega) (by simp) (by rw [b2]; rfl)
 subst ea; subst eb
 have r0 : rwH tUF tU 0 = [(2, 1)] := by simp [rwH, gt]
 have r1 : rwH tUF tU 1 = [(2, 5)] := by simp [rwH, gt]
 have r2 : rwH tUF tU 2 = [] := by simp [rwH, gt]
 have c2 : rwH tDF tD 2 = [] := by simp [rwH, gt]
 have hL2 : L2 2 = some 0 := D2.src
 obtain ⟨k, k1, k2⟩ := D1.low (x := 2) (d := 0 + 5) (.step 1 0 (2, 5) .refl (by rw [r1]; simp))
 rcases hq with ⟨_, q⟩ | ⟨rfl, x, y, g1, g2, g3, g4⟩
 ·exact (q 2 k 0 k1 hL2).elim
 dsimp only at g1 g2 g3 g4
 have hp : p = 2 := by
  have hw := D2.way _ _ g2
  have := hw.up dR
  have := (D2.rng _ _ g2).1.2
  simp at this; omega
 subst hp
 rw [hL2] at g2; cases g2
 have hx : x = 5 := by
  have hw := D1.way _ _ g1
  generalize hz : (2 : Int) = z at hw
  cases hw with
  | refl => omega
  | step u e a hw ha =>
   have u1 := hw.up uR
   have u2 := uR u a ha
   obtain rfl : u = 1 := by omega
   rw [r1] at ha
   rw [List.mem_singleton.1 ha]
   have := hw.self uR (fun v a ha => ((F.upOk h3 h5).1 v a ha).2.1) rfl
   dsimp only; omega
 rw [if_pos rfl, g3, hx]; rfl
end Go.Vd

/-! (SnA) -/

set_option linter.unusedVariables false
set_option linter.unusedSimpArgs false
set_option maxHeartbeats 1000000
namespace Go.Vd
variable {n u r v d : Int} {out : List (List (Int × Int))} {S : List Int} {L : Lb} {h : List (Int × Int)} {a : List Int}
def rwO (out : List (List (Int × Int))) (r : Int) : Rw2 := fun v => if 0 ≤ v /\ v < (out.length : Int) then (gt out v).filter (fun a => decide (r < a.1)) else []
def LD (D : List Int) (L : Lb) : Prop := ∀ x, 0 ≤ x -> x < (D.length : Int) -> gt D x = match L x with | none => 18446744073709551615 | some k => k
structure WebOk (out : List (List (Int × Int))) (n : Int) : Prop where
 ok : ∀ v, ∀ a ∈ gt out v, (0 ≤ a.1 /\ a.1 < n) /\ 0 ≤ a.2 /\ a.2 ≤ 140737488355328
 len : ∀ v, (gt out v).length ≤ 1000000000
theorem WebOk.row (w : WebOk out n) : ZbK (rwO out r) n := by
 intro v a ha
 unfold rwO at ha
 split at ha
 ·exact w.ok v a (List.mem_filter.1 ha).1
 ·cases ha
theorem Zkf {b : Int × Int} {k : Int} (h : L b.1 = some k) (hk : k ≤ d + b.2) : rlx d L b = L := by
 funext x
 unfold rlx
 by_cases e : x = b.1
 ·rw [if_pos e, e, h]; dsimp only; rw [Int.min_eq_left hk]
 ·rw [if_neg e]
theorem Zk4 (hn : (out.length : Int) = n) (n1 : n ≤ 65536) (w : WebOk out n) (v0 : 0 ≤ v) (v1 : v < n) (hS : ∀ x ∈ S, ∃ k, L x = some k /\ k ≤ d) (d0 : 0 ≤ d) (d1 : d ≤ 10000000000000000000)
  {D : List Int} (lD : (D.length : Int) = n) (hD : LD D L) (H : Hp n h a (opK S L)) (O : Ord4 h.length (gt h)) {y : Int × Int × Bool × List Int × List (Int × Int)} (e1 : y.1 = v) (e2 : y.2.1 = d) :
  T (Zz (fun zz_ => ZaZ out r y zz_.1 zz_.2.1 zz_.2.2.1 zz_.2.2.2) (0, D, h, a)) fun z => (z.1.length : Int) = n /\ LD z.1 ((rwO out r v).foldl (rlx d) L) /\ Hp n z.2.1 z.2.2 (opK S ((rwO out r v).foldl (rlx d) L)) /\ Ord4 z.2.1.length (gt z.2.1) := by
 have hrw : rwO out r v = (gt out v).filter (fun a => decide (r < a.1)) := by unfold rwO; rw [if_pos ⟨v0, by omega⟩]
 have hok := w.ok v
 have hlen := w.len v
 rw [hrw]
 generalize hR : gt out v = R at *
 refine ZH (fun z => 0 ≤ z.1 /\ z.1 ≤ (R.length : Int) /\ (z.2.1.length : Int) = n /\ LD z.2.1 (((R.take z.1.toNat).filter (fun a => decide (r < a.1))).foldl (rlx d) L) /\ Hp n z.2.2.1 z.2.2.2 (opK S (((R.take z.1.toNat).filter (fun a => decide (r < a.1))).foldl (rlx d) L)) /\ Ord4 z.2.2.1.length (gt z.2.2.1)) (fun z => ((R.length : Int) - z.1).toNat) ?_ ⟨by simp, by simp, lD, by simpa using hD, by simpa using H, O⟩
 clear hD lD H O
 rintro ⟨i, D, q1, q2⟩ ⟨i0, i1, lD, hD, H, O⟩
 dsimp only at *
 unfold ZaZ
 rw [e1, e2, hR, Zq]
 refine ⟨fun hlt => ?_, fun hge => ?_⟩
 rotate_left
 ·simp only [Zc, Sum.elim_inr]
  rw [List.take_of_length_le (by omega)] at hD H
  exact ⟨lD, hD, H, O⟩
 have hm : gt R i ∈ R := Zah i0 hlt
 obtain ⟨q3, q4, q5⟩ := hok _ hm
 have ht := Zc8 i0 hlt
 have hf0 : ∀ b ∈ (R.take i.toNat).filter (fun a => decide (r < a.1)), 0 ≤ b.2 := fun b hb => (hok b (List.mem_of_mem_take (List.mem_filter.1 hb).1)).2.1
 generalize hb0 : gt R i = b at *
 have hLS : ∀ x ∈ S, ∃ k, ((R.take i.toNat).filter (fun a => decide (r < a.1))).foldl (rlx d) L x = some k /\ k ≤ d := fun x hx => by
  obtain ⟨k, k1, k2⟩ := hS x hx
  exact ⟨k, Zeb hf0 k1 k2, k2⟩
 have hfold : ((R.take (i + 1).toNat).filter (fun a => decide (r < a.1))).foldl (rlx d) L = if r < b.1 then rlx d (((R.take i.toNat).filter (fun a => decide (r < a.1))).foldl (rlx d) L) b else ((R.take i.toNat).filter (fun a => decide (r < a.1))).foldl (rlx d) L := by
  rw [ht, List.filter_append, List.foldl_append]
  by_cases e : r < b.1
  ·rw [if_pos e, List.filter_cons_of_pos (by simpa using e)]; rfl
  ·rw [if_neg e, List.filter_cons_of_neg (by simpa using e)]; rfl
 generalize ((R.take i.toNat).filter (fun a => decide (r < a.1))).foldl (rlx d) L = M at *
 rw [T_G]
 refine ⟨i0, ?_⟩
 by_cases hb : r < b.1
 rotate_left
 ·rw [if_neg (by omega), Option.bind_some, if_neg (by decide)]
  simp only [T_G, Zc, Sum.elim_inl]
  rw [hfold, if_neg hb]
  exact ⟨by omega, ⟨by omega, by omega, lD, hD, H, O⟩, by omega⟩
 rw [if_pos (by omega)]
 rw [if_pos hb] at hfold
 have hDb := hD b.1 q3.1 (by omega)
 unfold G
 rw [if_pos (by omega), if_pos (by omega), Option.bind_some]
 by_cases hlt2 : d + b.2 < gt D b.1
 rotate_left
 ·rw [decide_eq_false hlt2, if_neg (by decide), if_pos (by omega)]
  simp only [Zc, Sum.elim_inl]
  have : ∃ k, M b.1 = some k /\ k ≤ d + b.2 := by
   cases hM : M b.1 with
   | none => rw [hM] at hDb; dsimp only at hDb; omega
   | some k => rw [hM] at hDb; exact ⟨k, rfl, by dsimp only at hDb; omega⟩
  obtain ⟨k, k1, k2⟩ := this
  rw [hfold, Zkf k1 k2]
  exact ⟨⟨by omega, by omega, lD, hD, H, O⟩, by omega⟩
 rw [decide_eq_true hlt2, if_pos rfl, if_pos (by omega), if_pos (by omega), if_pos (by omega), if_pos (by rw [List.length_set]; omega)]
 have hnS : b.1 ∉ S := fun q => by
  obtain ⟨k, k1, k2⟩ := hLS _ q
  rw [k1] at hDb; dsimp only at hDb; omega
 have hkey : gt (D.set b.1.toNat (d + b.2)) b.1 = d + b.2 := by rw [Zbj q3.1 (by omega) q3.1, if_pos rfl]
 rw [hkey]
 refine Zo _ (ZgN (key := d + b.2) H O q3.1 q3.2 (by omega)) ?_
 rintro ⟨er', a', h'⟩ ⟨H', O'⟩
 dsimp only at H' O' ⊢
 rw [if_pos (by omega)]
 simp only [Zc, Sum.elim_inl]
 rw [hfold]
 have hr1 : ∀ x, rlx d M b x = if x = b.1 then some (d + b.2) else M x := fun x => by
  unfold rlx
  by_cases e : x = b.1
  ·rw [if_pos e, if_pos e, e]
   cases hM : M b.1 with
   | none => rfl
   | some k => rw [hM] at hDb; dsimp only at hDb ⊢; rw [Int.min_eq_right (by omega)]
  ·rw [if_neg e, if_neg e]
 refine ⟨⟨by omega, by omega, by rw [List.length_set]; exact lD, fun x x0 x1 => ?_, H'.keys fun x _ _ => ?_, O'⟩, by omega⟩
 ·rw [List.length_set] at x1
  rw [Zbj q3.1 (by omega) x0, hr1]
  by_cases e : x = b.1
  ·rw [if_pos e, if_pos e]
  ·rw [if_neg e, if_neg e]; exact hD x x0 x1
 ·unfold opK
  rw [hr1]
  by_cases e : x = b.1
  ·rw [if_pos e, e, if_neg hnS, if_neg hnS, if_pos rfl]
   cases hM : M b.1 with
   | none => rfl
   | some k => rw [hM] at hDb; dsimp only at hDb ⊢; rw [Int.min_eq_right (by omega)]
  ·rw [if_neg e]
   by_cases e2 : x ∈ S
   ·rw [if_pos e2, if_pos e2]
   ·rw [if_neg e2, if_neg e2, if_neg e]
theorem Zly (hn : (out.length : Int) = n) (n1 : n ≤ 65536) (w : WebOk out n) (u0 : 0 ≤ u) (u1 : u < n) :
  T (Zco out r u) fun D => (D.length : Int) = n /\ ∃ L, LD D L /\ DjF (rwO out r) n u L := by
 unfold Zco
 rw [T_G]
 refine ⟨by omega, ?_⟩
 refine Zo (fun o => (o.length : Int) = n /\ ∀ x, 0 ≤ x -> x < n -> gt o x = 18446744073709551615) ?_ ?_
 ·refine ZH (fun z => 0 ≤ z.1 /\ z.1 ≤ n /\ (z.2.length : Int) = n /\ ∀ x, 0 ≤ x -> x < z.1 -> gt z.2 x = 18446744073709551615) (fun z => (n - z.1).toNat) ?_ ⟨by simp, by omega, by simp; omega, fun x x0 x1 => by dsimp only at x1; omega⟩
  rintro ⟨i, o⟩ ⟨i0, i1, lo, ho⟩
  dsimp only at *
  unfold ZbD
  rw [List.length_replicate, Zq]
  refine ⟨fun hlt => ?_, fun hge => ?_⟩
  ·simp only [T_G, Zc, Sum.elim_inl]
   refine ⟨by omega, by omega, ⟨by omega, by omega, by rw [List.length_set]; exact lo, fun x x0 x1 => ?_⟩, by omega⟩
   rw [Zbj i0 (by omega) x0]
   by_cases e : x = i
   ·rw [if_pos e]
   ·rw [if_neg e]; exact ho x x0 (by omega)
  ·simp only [Zc, Sum.elim_inr]
   exact ⟨lo, fun x x0 x1 => ho x x0 (by omega)⟩
 rintro o ⟨lo, ho⟩
 rw [hn, ZjY (by omega) n1, Option.bind_some, Sum.elim_inr, T_G, T_G]
 refine ⟨by omega, by omega, ?_⟩
 have hm : ((n.toNat : Nat) : Int) = n := by omega
 refine Zo _ (ZgN (key := 0) (Hp.empty hm) (fun p p0 p1 => by simp at p1; omega) u0 u1 (by omega)) ?_
 rintro ⟨er, a, h⟩ ⟨H, O⟩
 dsimp only at H O ⊢
 refine Za0 (fun r => False) ?_ (fun _ q => q.elim)
 refine ZiT (γ := List Int × Lb) (fun g z => DjI (rwO out r) n u g.1 g.2 /\ (z.1.length : Int) = n /\ LD z.1 g.2 /\ Hp n z.2.1 z.2.2 (opK g.1 g.2) /\ Ord4 z.2.1.length (gt z.2.1)) (fun g => (n - g.1.length).toNat) ?_ (g := ([], fun x => if x = u then some 0 else none)) ⟨.start u0 u1, by rw [List.length_set]; exact lo, fun x x0 x1 => ?_, H.keys fun x _ _ => ?_, O⟩
 rotate_left
 ·dsimp only at x1 ⊢
  rw [List.length_set] at x1
  rw [Zbj u0 (by omega) x0]
  by_cases e : x = u
  ·rw [if_pos e, if_pos e]
  ·rw [if_neg e, if_neg e]; exact ho x x0 (by omega)
 ·simp [opK]
 rintro ⟨S, L⟩ ⟨D, h, a⟩ ⟨I, lD, hD, H, O⟩
 dsimp only at *
 have hlS := I.len (by omega)
 unfold ZbG
 by_cases hl : (h.length : Int) = 0
 ·rw [ZjF hl, Option.bind_some]
  dsimp only
  rw [if_pos (show (!false) = true from rfl)]
  simp only [Zdp, Zc, Sum.elim_inr, Sum.elim_inl]
  refine ⟨lD, L, hD, I.fin (by omega) fun x k hx => ?_⟩
  have hrg := (I.rng x k hx).1
  have := H.none hl hrg.1 hrg.2
  unfold opK at this
  by_cases e : x ∈ S
  ·exact e
  ·rw [if_neg e, hx] at this; cases this
 refine Zo _ (ZjP H O (by omega) (by omega)) ?_
 rintro ⟨v, d, b, a', h'⟩ ⟨e1, e2, e3, H', O'⟩
 obtain ⟨⟨t0, t1⟩, t2, t3⟩ := H.top O (by omega)
 dsimp only at e1 e2 e3 H' O' ⊢
 rw [← e1] at H' t0 t1 t2
 rw [← e2] at t2 t3
 subst e3
 rw [if_neg (by decide), T_G]
 refine ⟨by omega, ?_⟩
 have hv : v ∉ S := fun q => by unfold opK at t2; rw [if_pos q] at t2; cases t2
 have hd : L v = some d := by unfold opK at t2; rw [if_neg hv] at t2; exact t2
 have hmin : ∀ x k, x ∉ S -> L x = some k -> d ≤ k := fun x k hx hk => by
  have hrg := (I.rng x k hk).1
  exact t3 x k hrg.1 hrg.2 (by unfold opK; rw [if_neg hx]; exact hk)
 obtain ⟨_, d0, d1⟩ := I.rng v d hd
 have I' := I.step w.row hv hd hmin
 have hlS' := I'.len (by omega)
 simp only [List.length_cons] at hlS'
 refine Zo _ (Zk4 (S := v :: S) (L := L) (d := d) (v := v) hn n1 w t0 t1 ?_ d0 (by omega) lD hD (H'.keys fun x _ _ => ?_) O' rfl rfl) ?_
 ·intro x hx
  rcases List.mem_cons.1 hx with rfl | hx
  ·exact ⟨d, hd, Int.le_refl _⟩
  ·obtain ⟨k, hk⟩ := I.sd x hx; exact ⟨k, hk, I.low hv hd hx hk⟩
 ·unfold opK
  by_cases e : x = v
  ·rw [if_pos e, if_pos (by simp [e])]
  ·rw [if_neg e]
   by_cases e2 : x ∈ S
   ·rw [if_pos e2, if_pos (by simp [e2])]
   ·rw [if_neg e2, if_neg (by simp [e, e2])]
 ·rintro ⟨D2, h2, a2⟩ ⟨g1, g2, g3, g4⟩
  dsimp only at g1 g2 g3 g4
  simp only [Zc, Sum.elim_inl]
  exact ⟨(v :: S, (rwO out r v).foldl (rlx d) L), ⟨I', g1, g2, g3, g4⟩, by simp only [List.length_cons]; omega⟩
end Go.Vd

/-! (SnB) -/

set_option linter.unusedVariables false
set_option linter.unusedSimpArgs false
set_option maxHeartbeats 1000000
namespace Go.Vd
variable {N UF DF : List Int} {U D : List B4} {all : List E7} {i r n : Int} {w : List (List (Int × Int))}
theorem Zkm (f : Fst UF (U.length : Int)) (hn : (UF.length : Int) = n + 1) (n1 : n ≤ 65536) (hB : U.length ≤ 1048576) (hr : ZbK (rwH UF U) n) (r0 : 0 ≤ r) (r1 : r < n) (lw : (w.length : Int) = n) (hl : ∀ v, 0 ≤ v -> (gt w v).length ≤ 10000000) :
  T (Zz (fun zz_ => ZbJ UF U r zz_.1 zz_.2) (w, 0)) fun w' => (w'.length : Int) = n /\ (∀ v, 0 ≤ v -> v < n -> ∀ a, a ∈ gt w' v ↔ a ∈ gt w v ∨ (v = r /\ a ∈ rwH UF U r)) /\ ∀ v, 0 ≤ v -> ((gt w' v).length : Int) ≤ (gt w v).length + (gt UF (r + 1) - gt UF r) := by
 obtain ⟨a0, a1, a2, a3, a4⟩ := ZcC f r0 (by omega)
 have hr' := hr r
 rw [a4] at hr' ⊢
 generalize hR : (U.take (gt UF (r + 1)).toNat).drop (gt UF r).toNat = R at *
 refine ZH (fun z => 0 ≤ z.2 /\ z.2 ≤ (R.length : Int) /\ (z.1.length : Int) = n /\ (∀ v, 0 ≤ v -> v < n -> ∀ a, a ∈ gt z.1 v ↔ a ∈ gt w v ∨ (v = r /\ a ∈ (R.take z.2.toNat).map fun b => (b.1, b.2.1))) /\ ∀ v, 0 ≤ v -> ((gt z.1 v).length : Int) ≤ (gt w v).length + z.2) (fun z => ((R.length : Int) - z.2).toNat) ?_
  ⟨by simp, by simp, lw, fun v _ _ a => by simp, fun v _ => by simp⟩
 rintro ⟨o, i⟩ ⟨i0, i1, lo, hm, hc⟩
 dsimp only at *
 unfold ZbJ
 rw [hR, Zq]
 refine ⟨fun hlt => ?_, fun hge => ?_⟩
 rotate_left
 ·simp only [Zc, Sum.elim_inr]
  rw [List.take_of_length_le (by omega)] at hm
  exact ⟨lo, hm, fun v v0 => by have := hc v v0; omega⟩
 have hb : gt R i ∈ R := Zah i0 hlt
 obtain ⟨q3, q4, q5⟩ := hr' _ (List.mem_map.2 ⟨_, hb, rfl⟩)
 dsimp only at q3 q4 q5
 have ht := Zc8 i0 hlt
 generalize gt R i = b at *
 have c1 := hc r r0
 have c2 := hl r r0
 simp only [T_G, Zc, Sum.elim_inl]
 refine ⟨i0, by omega, by omega, by omega, by omega, ⟨by omega, by omega, by rw [List.length_set]; exact lo, fun v v0 v1 a => ?_, fun v v0 => ?_⟩, by omega⟩
 ·rw [Zbj r0 (by omega) v0, ht, List.map_append, List.mem_append]
  by_cases e : v = r
  ·rw [if_pos e, List.mem_append, hm r r0 r1, e]
   simp only [true_and, List.map_cons, List.map_nil, List.mem_singleton, or_assoc]
  ·rw [if_neg e, hm v v0 v1]
   simp only [e, false_and, or_false]
 ·rw [Zbj r0 (by omega) v0]
  by_cases e : v = r
  ·rw [if_pos e, e]; simp only [List.length_append, List.length_cons, List.length_nil]; omega
  ·rw [if_neg e]; have := hc v v0; omega
theorem Zkx (f : Fst DF (D.length : Int)) (hn : (DF.length : Int) = n + 1) (n1 : n ≤ 65536) (hB : D.length ≤ 1048576) (hr : ZbK (rwH DF D) n) (r0 : 0 ≤ r) (r1 : r < n) (lw : (w.length : Int) = n) (hl : ∀ v, 0 ≤ v -> (gt w v).length ≤ 10000000) :
  T (Zz (fun zz_ => ZbI DF D r zz_.1 zz_.2) (w, 0)) fun w' => (w'.length : Int) = n /\ (∀ v, 0 ≤ v -> v < n -> ∀ a, a ∈ gt w' v ↔ a ∈ gt w v ∨ (a.1 = r /\ (v, a.2) ∈ rwH DF D r)) /\ ∀ v, 0 ≤ v -> ((gt w' v).length : Int) ≤ (gt w v).length + (gt DF (r + 1) - gt DF r) := by
 obtain ⟨a0, a1, a2, a3, a4⟩ := ZcC f r0 (by omega)
 have hr' := hr r
 rw [a4] at hr' ⊢
 generalize hR : (D.take (gt DF (r + 1)).toNat).drop (gt DF r).toNat = R at *
 refine ZH (fun z => 0 ≤ z.2 /\ z.2 ≤ (R.length : Int) /\ (z.1.length : Int) = n /\ (∀ v, 0 ≤ v -> v < n -> ∀ a, a ∈ gt z.1 v ↔ a ∈ gt w v ∨ (a.1 = r /\ (v, a.2) ∈ (R.take z.2.toNat).map fun b => (b.1, b.2.1))) /\ ∀ v, 0 ≤ v -> ((gt z.1 v).length : Int) ≤ (gt w v).length + z.2) (fun z => ((R.length : Int) - z.2).toNat) ?_
  ⟨by simp, by simp, lw, fun v _ _ a => by simp, fun v _ => by simp⟩
 rintro ⟨o, i⟩ ⟨i0, i1, lo, hm, hc⟩
 dsimp only at *
 unfold ZbI
 rw [hR, Zq]
 refine ⟨fun hlt => ?_, fun hge => ?_⟩
 rotate_left
 ·simp only [Zc, Sum.elim_inr]
  rw [List.take_of_length_le (by omega)] at hm
  exact ⟨lo, hm, fun v v0 => by have := hc v v0; omega⟩
 have hb : gt R i ∈ R := Zah i0 hlt
 obtain ⟨q3, q4, q5⟩ := hr' _ (List.mem_map.2 ⟨_, hb, rfl⟩)
 dsimp only at q3 q4 q5
 have ht := Zc8 i0 hlt
 generalize gt R i = b at *
 have c1 := hc b.1 q3.1
 have c2 := hl b.1 q3.1
 simp only [T_G, Zc, Sum.elim_inl]
 refine ⟨i0, by omega, by omega, by omega, ⟨by omega, by omega, by rw [List.length_set]; exact lo, fun v v0 v1 a => ?_, fun v v0 => ?_⟩, by omega⟩
 ·rw [Zbj q3.1 (by omega) v0, ht, List.map_append, List.mem_append]
  obtain ⟨x, y⟩ := a
  dsimp only
  by_cases e : v = b.1
  ·rw [if_pos e, List.mem_append, hm b.1 q3.1 q3.2, e]
   simp only [List.map_cons, List.map_nil, List.mem_singleton, Prod.mk.injEq, true_and, or_assoc, and_or_left]
  ·rw [if_neg e, hm v v0 v1]
   simp only [List.map_cons, List.map_nil, List.mem_singleton, Prod.mk.injEq, e, false_and, or_false]
 ·rw [Zbj q3.1 (by omega) v0]
  by_cases e : v = b.1
  ·rw [if_pos e, e]; simp only [List.length_append, List.length_cons, List.length_nil]; omega
  ·rw [if_neg e]; have := hc v v0; omega
def Web (up dn : Rw2) (n : Int) (w : List (List (Int × Int))) : Prop := (w.length : Int) = n /\ (∀ v, 0 ≤ v -> v < n -> ∀ a, a ∈ gt w v ↔ Lk up dn v a.1 a.2) /\ ∀ v, 0 ≤ v -> (gt w v).length ≤ 10000000
theorem ZgB {F : List Int} {B : List B4} {a : Int × Int} (hF : (F.length : Int) = n + 1) (h : a ∈ rwH F B r) : 0 ≤ r /\ r < n := by
 unfold rwH at h
 split at h
 ·omega
 ·cases h
theorem Zll (h : InF N UF U DF D all) (hU : WL U) (hD : WL D) : T (Zdb N UF U DF D) (Web (rwH UF U) (rwH DF D) N.length) := by
 have sm := h.sm
 have ln := h.ln
 have up := (h.upOk hU hD).1
 have dn := (h.dnOk hU hD).1
 obtain ⟨n1, n2⟩ := sm
 obtain ⟨l1, l2⟩ := ln
 have fU := h.fU
 have fD := h.fD
 unfold Zdb
 rw [T_G]
 refine ⟨by omega, Zo _ ?_ fun w hw => by simp only [Zc]; exact hw⟩
 refine ZH (fun z => 0 ≤ z.1 /\ z.1 ≤ (N.length : Int) /\ (z.2.length : Int) = N.length /\ (∀ v, 0 ≤ v -> v < (N.length : Int) -> ∀ a, a ∈ gt z.2 v ↔ (v < z.1 /\ a ∈ rwH UF U v) ∨ (a.1 < z.1 /\ (v, a.2) ∈ rwH DF D a.1)) /\ ∀ v, 0 ≤ v -> ((gt z.2 v).length : Int) ≤ gt UF z.1 + gt DF z.1) (fun z => ((N.length : Int) - z.1).toNat) ?_
  ⟨by simp, by simp, by simp, fun v v0 v1 a => ?_, fun v v0 => ?_⟩
 rotate_left
 ·dsimp only
  rw [show gt (List.replicate N.length ([] : List (Int × Int))) v = [] from ZgP]
  constructor
  ·intro q; cases q
  ·rintro (⟨q, _⟩ | ⟨q, q2⟩)
   ·omega
   ·have := ZgB (n := N.length) l2 q2; omega
 ·dsimp only
  rw [show gt (List.replicate N.length ([] : List (Int × Int))) v = [] from ZgP, fU.z, fD.z]
  simp
 rintro ⟨i, w⟩ ⟨i0, i1, lw, hm, hc⟩
 dsimp only at *
 unfold Zcn
 rw [Zq]
 refine ⟨fun hlt => ?_, fun hge => ?_⟩
 rotate_left
 ·simp only [Zc, Sum.elim_inr]
  obtain rfl : i = (N.length : Int) := by omega
  have e1 := fU.e
  have e2 := fD.e
  rw [show (UF.length : Int) - 1 = N.length from by omega] at e1
  rw [show (DF.length : Int) - 1 = N.length from by omega] at e2
  refine ⟨lw, fun v v0 v1 a => ?_, fun v v0 => by have := hc v v0; omega⟩
  rw [hm v v0 v1]
  unfold Lk
  constructor
  ·rintro (⟨_, q⟩ | ⟨_, q⟩)
   ·exact .inl q
   ·exact .inr q
  ·rintro (q | q)
   ·exact .inl ⟨v1, q⟩
   ·exact .inr ⟨(ZgB (n := N.length) l2 q).2, q⟩
 obtain ⟨a0, a1, a2, _, _⟩ := ZcC (B := U) fU i0 (by omega)
 obtain ⟨b0, b1, b2, _, _⟩ := ZcC (B := D) fD i0 (by omega)
 simp only [T_G]
 refine ⟨by omega, by omega, by omega, by omega, ?_⟩
 refine Zo _ (Zkm fU l1 (by omega) (by omega) up i0 hlt lw fun v v0 => by have := hc v v0; omega) ?_
 rintro w1 ⟨g1, g2, g3⟩
 simp only [T_G]
 refine ⟨by omega, by omega, by omega, ?_⟩
 refine Zo _ (Zkx fD l2 (by omega) (by omega) dn i0 hlt g1 fun v v0 => by have := hc v v0; have := g3 v v0; omega) ?_
 rintro w2 ⟨k1, k2, k3⟩
 simp only [Zc, Sum.elim_inl]
 refine ⟨⟨by omega, by omega, k1, fun v v0 v1 a => ?_, fun v v0 => by have := hc v v0; have := g3 v v0; have := k3 v v0; omega⟩, by omega⟩
 rw [k2 v v0 v1, g2 v v0 v1, hm v v0 v1]
 constructor
 ·rintro ((( ⟨q, q2⟩ | ⟨q, q2⟩) | ⟨rfl, q2⟩) | ⟨q, q2⟩)
  ·exact .inl ⟨by omega, q2⟩
  ·exact .inr ⟨by omega, q2⟩
  ·exact .inl ⟨by omega, q2⟩
  ·exact .inr ⟨by omega, by rw [q]; exact q2⟩
 ·rintro (⟨q, q2⟩ | ⟨q, q2⟩)
  ·by_cases e : v = i
   ·exact .inl (.inr ⟨e, by rw [← e]; exact q2⟩)
   ·exact .inl (.inl (.inl ⟨by omega, q2⟩))
  ·by_cases e : a.1 = i
   ·exact .inr ⟨e, by rw [← e]; exact q2⟩
   ·exact .inl (.inl (.inr ⟨by omega, q2⟩))
end Go.Vd

/-! (SnC) -/

set_option linter.unusedVariables false
set_option linter.unusedSimpArgs false
set_option maxHeartbeats 1000000
namespace Go.Vd
variable {N UF DF : List Int} {U D : List B4} {all : List E7} {i r n u x k : Int} {w : List (List (Int × Int))}
theorem Web.lk (hw : Web (rwH UF U) (rwH DF D) n w) {v : Int} {a : Int × Int} (h : a ∈ gt w v) : ∃ v', 0 ≤ v' /\ v' < n /\ Lk (rwH UF U) (rwH DF D) v' a.1 a.2 := by
 have e : gt w v = gt w ((v.toNat : Nat) : Int) := by unfold gt; rw [Int.toNat_natCast]
 by_cases q : v.toNat < w.length
 ·rw [e] at h
  have := hw.1
  exact ⟨_, by omega, by omega, (hw.2.1 _ (by omega) (by omega) a).1 h⟩
 ·have : gt w v = [] := by unfold gt; rw [List.getD_eq_getElem?_getD, List.getElem?_eq_none (by omega)]; rfl
  rw [this] at h; cases h
theorem Web.ok (hw : Web (rwH UF U) (rwH DF D) n w) (hnD : (DF.length : Int) = n + 1) (hu : ZbK (rwH UF U) n) (hd : ZbK (rwH DF D) n) : WebOk w n := by
 refine ⟨fun v a ha => ?_, fun v => ?_⟩
 ·obtain ⟨v', v0, v1, h | h⟩ := hw.lk ha
  ·exact hu _ _ h
  ·exact ⟨ZgB hnD h, (hd _ _ h).2⟩
 ·have e : gt w v = gt w ((v.toNat : Nat) : Int) := by unfold gt; rw [Int.toNat_natCast]
  have := hw.2.2 ((v.toNat : Nat) : Int) (by omega)
  rw [e]; omega
theorem Web.wb (hw : Web (rwH UF U) (rwH DF D) n w) (k0 : r < u) {d : Int} (h : Wy (rwO w r) u x d) : Wb (rwH UF U) (rwH DF D) (r + 1) u x d := by
 induction h with
 | refl => exact .refl (by omega)
 | step v d a _ ha ih =>
  unfold rwO at ha
  split at ha
  ·rename_i hv
   obtain ⟨h1, h2⟩ := List.mem_filter.1 ha
   have := hw.1
   exact .step _ _ _ _ ih ((hw.2.1 v hv.1 (by omega) a).1 h1) (by have := of_decide_eq_true h2; omega)
  ·cases ha
theorem Web.wy (hw : Web (rwH UF U) (rwH DF D) n w) (hnU : (UF.length : Int) = n + 1) (hd : ZbK (rwH DF D) n) {d : Int} (h : Wb (rwH UF U) (rwH DF D) (r + 1) u x d) : Wy (rwO w r) u x d := by
 induction h with
 | refl _ => exact .refl
 | step v d y c _ hl hy ih =>
  have hv : 0 ≤ v /\ v < n := by
   rcases hl with h | h
   ·exact ZgB hnU h
   ·exact (hd _ _ h).1
  refine .step v d (y, c) ih ?_
  unfold rwO
  have := hw.1
  rw [if_pos ⟨hv.1, by omega⟩]
  exact List.mem_filter.2 ⟨(hw.2.1 v hv.1 hv.2 (y, c)).2 hl, decide_eq_true (by dsimp only; omega)⟩
theorem Zk9 (hw : Web (rwH UF U) (rwH DF D) n w) (fU : Fst UF (U.length : Int)) (fD : Fst DF (D.length : Int)) (hnU : (UF.length : Int) = n + 1) (hnD : (DF.length : Int) = n + 1) (n1 : n ≤ 65536) (lU : U.length ≤ 1048576) (lD : D.length ≤ 1048576)
  (hu : ZbK (rwH UF U) n) (hd : ZbK (rwH DF D) n) (rd : Rs (rwH DF D)) (r0 : 0 ≤ r) (r1 : r < n) : T (Zb3 w N UF U DF D r) fun b => b = true ↔ Tru (rwH UF U) (rwH DF D) r := by
 obtain ⟨a0, a1, a2, a3, a4⟩ := ZcC (B := U) fU r0 (by omega)
 obtain ⟨b0, b1, b2, b3, b4⟩ := ZcC (B := D) fD r0 (by omega)
 have hu' := hu r
 have hd' := hd r
 have rd' := rd r
 have key : Tru (rwH UF U) (rwH DF D) r ↔ ∀ a ∈ rwH DF D r, ∀ b ∈ rwH UF U r, a.1 ≠ b.1 -> ∃ e, Wb (rwH UF U) (rwH DF D) (r + 1) a.1 b.1 e /\ e ≤ a.2 + b.2 := Iff.rfl
 rw [key]
 clear key
 have hwok := hw.ok hnD hu hd
 have lw := hw.1
 generalize hP : Wb (rwH UF U) (rwH DF D) (r + 1) = P at *
 have hwy : ∀ {u x d}, P u x d -> Wy (rwO w r) u x d := fun {u x d} h => by rw [← hP] at h; exact hw.wy hnU hd h
 have hwb : ∀ {u x d}, r < u -> Wy (rwO w r) u x d -> P u x d := fun {u x d} q h => by rw [← hP]; exact hw.wb q h
 rw [a4] at hu' ⊢
 rw [b4] at hd' rd' ⊢
 unfold Zb3
 simp only [T_G]
 refine ⟨by omega, by omega, by omega, by omega, ?_⟩
 refine Za0 (fun _ => ∀ a ∈ ((D.take (gt DF (r + 1)).toNat).drop (gt DF r).toNat).map (fun b => (b.1, b.2.1)), ∀ b ∈ ((U.take (gt UF (r + 1)).toNat).drop (gt UF r).toNat).map (fun b => (b.1, b.2.1)), a.1 ≠ b.1 -> ∃ e, P a.1 b.1 e /\ e ≤ a.2 + b.2) ?_ fun _ h => by simp only [Zc, true_iff]; exact h
 generalize hR : (D.take (gt DF (r + 1)).toNat).drop (gt DF r).toNat = R at *
 generalize hS : (U.take (gt UF (r + 1)).toNat).drop (gt UF r).toNat = S at *
 refine ZH (fun i => 0 ≤ i /\ i ≤ (R.length : Int) /\ ∀ a ∈ (R.take i.toNat).map (fun b => (b.1, b.2.1)), ∀ b ∈ S.map (fun b => (b.1, b.2.1)), a.1 ≠ b.1 -> ∃ e, P a.1 b.1 e /\ e ≤ a.2 + b.2) (fun i => ((R.length : Int) - i).toNat) ?_ ⟨by omega, by omega, fun a ha => by simp at ha⟩
 rintro i ⟨i0, i1, hi⟩
 unfold Zbt
 rw [hR, hS, Zq]
 refine ⟨fun hlt => ?_, fun hge => ?_⟩
 rotate_left
 ·simp only [Zc, Sum.elim_inr]
  rw [List.take_of_length_le (by omega)] at hi; exact hi
 simp only [T_G]
 refine ⟨i0, by omega, by omega, by omega, ?_⟩
 rw [Zq]
 refine ⟨fun h0 => ?_, fun h0 => ?_⟩
 ·simp only [Zdp, Zc, Sum.elim_inr, Sum.elim_inl, true_iff]
  have : S = [] := List.eq_nil_of_length_eq_zero (by omega)
  intro a _ b hb
  rw [this] at hb; simp at hb
 have hm : gt R i ∈ R := Zah i0 hlt
 obtain ⟨q3, q4, q5⟩ := hd' _ (List.mem_map.2 ⟨_, hm, rfl⟩)
 have q6 := rd' _ (List.mem_map.2 ⟨_, hm, rfl⟩)
 dsimp only at q3 q4 q5 q6
 have ht := Zc8 i0 hlt
 have hmR : ((gt R i).1, (gt R i).2.1) ∈ R.map (fun b => (b.1, b.2.1)) := List.mem_map.2 ⟨_, hm, rfl⟩
 simp only [T_G]
 refine ⟨by omega, ?_⟩
 refine Zo _ (Zly lw n1 hwok q3.1 q3.2) ?_
 rintro L' ⟨lL, L, hL, DJ⟩
 refine Za0 (fun _ => ∀ b ∈ S.map (fun b => (b.1, b.2.1)), (gt R i).1 ≠ b.1 -> ∃ e, P (gt R i).1 b.1 e /\ e ≤ (gt R i).2.1 + b.2) ?_ ?_
 ·refine ZH (fun j => 0 ≤ j /\ j ≤ (S.length : Int) /\ ∀ b ∈ (S.take j.toNat).map (fun b => (b.1, b.2.1)), (gt R i).1 ≠ b.1 -> ∃ e, P (gt R i).1 b.1 e /\ e ≤ (gt R i).2.1 + b.2) (fun j => ((S.length : Int) - j).toNat) ?_ ⟨by omega, by omega, fun a ha => by simp at ha⟩
  rintro j ⟨j0, j1, hj⟩
  unfold Zbv
  rw [hR, hS, Zq]
  refine ⟨fun hlt2 => ?_, fun hge => ?_⟩
  rotate_left
  ·simp only [Zc, Sum.elim_inr]
   rw [List.take_of_length_le (by omega)] at hj; exact hj
  have hm2 : gt S j ∈ S := Zah j0 hlt2
  obtain ⟨p3, p4, p5⟩ := hu' _ (List.mem_map.2 ⟨_, hm2, rfl⟩)
  dsimp only at p3 p4 p5
  have ht2 := Zc8 j0 hlt2
  have hmS : ((gt S j).1, (gt S j).2.1) ∈ S.map (fun b => (b.1, b.2.1)) := List.mem_map.2 ⟨_, hm2, rfl⟩
  have nxt : ((gt R i).1 ≠ (gt S j).1 -> ∃ e, P (gt R i).1 (gt S j).1 e /\ e ≤ (gt R i).2.1 + (gt S j).2.1) -> ∀ b ∈ (S.take (j + 1).toNat).map (fun b => (b.1, b.2.1)), (gt R i).1 ≠ b.1 -> ∃ e, P (gt R i).1 b.1 e /\ e ≤ (gt R i).2.1 + b.2 := fun h b hb => by
   rw [ht2, List.map_append, List.mem_append] at hb
   rcases hb with hb | hb
   ·exact hj b hb
   ·simp only [List.map_cons, List.map_nil, List.mem_singleton] at hb
    subst hb; exact h
  rw [T_G, Zq]
  refine ⟨j0, fun he => ?_, fun hne => ?_⟩
  ·simp only [T_G, Zc, Sum.elim_inl]
   exact ⟨by omega, ⟨by omega, by omega, nxt fun q => absurd he q⟩, by omega⟩
  simp only [T_G]
  refine ⟨by omega, by omega, ?_⟩
  have hLb := hL (gt S j).1 p3.1 (by omega)
  rw [Zq]
  refine ⟨fun hgt => ?_, fun hle => ?_⟩
  ·simp only [Zdp, Zc, Sum.elim_inr, Sum.elim_inl, Bool.false_eq_true, false_iff]
   intro hall
   obtain ⟨e, h1, h2⟩ := hall _ hmR _ hmS hne
   obtain ⟨k, h3, h4⟩ := DJ.low (hwy h1)
   dsimp only at h2 h3
   rw [h3] at hLb; dsimp only at hLb; omega
  ·simp only [T_G, Zc, Sum.elim_inl]
   refine ⟨by omega, ⟨by omega, by omega, nxt fun _ => ?_⟩, by omega⟩
   cases hk : L (gt S j).1 with
   | none => rw [hk] at hLb; dsimp only at hLb; omega
   | some k => rw [hk] at hLb; exact ⟨k, hwb q6 (DJ.way _ _ hk), by dsimp only at hLb; omega⟩
 ·intro _ h
  simp only [T_G, Zc, Sum.elim_inl]
  refine ⟨by omega, ⟨by omega, by omega, fun a ha => ?_⟩, by omega⟩
  rw [ht, List.map_append, List.mem_append] at ha
  rcases ha with ha | ha
  ·exact hi a ha
  ·simp only [List.map_cons, List.map_nil, List.mem_singleton] at ha
   subst ha; exact h
theorem Zkl (h : InF N UF U DF D all) (hU : WL U) (hD : WL D) (e : ZZ N UF U DF D = some .nil) : T (ZbZ N UF U DF D) fun er => er = .nil ↔ ∀ r, 0 ≤ r -> r < (N.length : Int) -> Tru (rwH UF U) (rwH DF D) r := by
 have sm := h.sm
 have ln := h.ln
 unfold ZbZ
 rw [e, Option.bind_some, if_pos rfl]
 refine Zo _ (Zll h hU hD) ?_
 intro w hw
 refine Za0 (fun _ => ∀ r, 0 ≤ r -> r < (N.length : Int) -> Tru (rwH UF U) (rwH DF D) r) ?_ fun _ g => by simp only [Zc, true_iff]; exact g
 refine ZH (fun i => 0 ≤ i /\ i ≤ (N.length : Int) /\ ∀ r, 0 ≤ r -> r < i -> Tru (rwH UF U) (rwH DF D) r) (fun i => ((N.length : Int) - i).toNat) ?_ ⟨by omega, by omega, fun r r0 r1 => by omega⟩
 rintro i ⟨i0, i1, hi⟩
 unfold Zcm
 rw [Zq]
 refine ⟨fun hlt => ?_, fun hge => ?_⟩
 rotate_left
 ·simp only [Zc, Sum.elim_inr]
  exact fun r r0 r1 => hi r r0 (by omega)
 refine Zo _ (Zk9 hw h.fU h.fD ln.1 ln.2 (by have := sm.1; omega) (by have := sm.2; omega) (by have := sm.2; omega) (h.upOk hU hD).1 (h.dnOk hU hD).1 (h.dnOk hU hD).2 i0 hlt) ?_
 intro b hb
 rw [Zq]
 refine ⟨fun q => ?_, fun q => ?_⟩
 ·unfold Zba
  simp only [if_false, reduceCtorEq, Option.bind_some, Option.map_some, Zc, Sum.elim_inr, Sum.elim_inl, false_iff]
  intro g
  have := hb.2 (g i i0 hlt)
  rw [this] at q; cases q
 ·simp only [T_G, Zc, Sum.elim_inl]
  have hbt : b = true := by cases b with | true => rfl | false => exact absurd rfl q
  refine ⟨by have := sm.1; omega, ⟨by omega, by omega, fun r r0 r1 => ?_⟩, by omega⟩
  by_cases e : r = i
  ·rw [e]; exact hb.1 hbt
  ·exact hi r r0 (by omega)
end Go.Vd

/-! (UnA) -/

set_option linter.unusedVariables false
set_option linter.unusedSimpArgs false
set_option maxHeartbeats 1000000
namespace Go.Vd
variable {F N UF DF : List Int} {B U D : List B4} {all : List E7} {seen : List (Int × Int × Bool)} {L L' L1 L2 : Lb} {n s at_ k a b i r x y top : Int} {row : Rw2}
theorem DjF.uniq (h : DjF row n s L) (g : DjF row n s L') : L = L' := by
 funext x
 cases h1 : L x with
 | none =>
  cases h2 : L' x with
  | none => rfl
  | some k => obtain ⟨m, e, _⟩ := h.low (g.way x k h2); rw [h1] at e; cases e
 | some k =>
  obtain ⟨m, e, q⟩ := g.low (h.way x k h1)
  obtain ⟨m', e', q'⟩ := h.low (g.way x m e)
  rw [h1] at e'; cases e'
  rw [e]; congr 1; omega
theorem ZjH (f : Fst F (B.length : Int)) (hn : (F.length : Int) = n + 1) (n1 : n ≤ 1000) (hB : B.length ≤ 1048576) (hr : ZbK (rwH F B) n) (C : ClR (rwH F B) n s L seen) (hk : L at_ = some k) (ne : at_ ≠ s) :
  T (ZcB F B seen at_) fun r => ∃ kr, L r.1 = some kr /\ Rk F r.2 r.1 /\ (gt B r.2).1 = at_ /\ k = kr + (gt B r.2).2.1 := by
 have hlen := C.len
 have hat : ∀ x k, L x = some k -> ∃ j : Int, 0 ≤ j /\ j < (seen.length : Int) /\ (gt seen j).1 = x /\ (gt seen j).2.1 = k := fun x k h => by
  obtain ⟨b, hb⟩ := (C.mem x k).2 h
  obtain ⟨j, j0, j1, e⟩ := ZcE hb
  exact ⟨j, j0, j1, by rw [← e], by rw [← e]⟩
 have hof : ∀ j : Int, 0 ≤ j -> j < (seen.length : Int) -> L (gt seen j).1 = some (gt seen j).2.1 := fun j j0 j1 => (C.mem _ _).1 ⟨(gt seen j).2.2, Zah j0 j1⟩
 unfold ZcB
 refine Zo (fun o => o at_ = some k) ?_ ?_
 ·refine ZH (fun z => 0 ≤ z.2 /\ z.2 ≤ (seen.length : Int) /\ (∀ x v, z.1 x = some v -> L x = some v) /\ ∀ j, 0 ≤ j -> j < z.2 -> z.1 (gt seen j).1 ≠ none) (fun z => ((seen.length : Int) - z.2).toNat) ?_ ⟨by simp, by simp, fun x v h => by simp at h, fun j j0 j1 => by dsimp only at j1; omega⟩
  rintro ⟨o, i⟩ ⟨i0, i1, h1, h2⟩
  dsimp only at *
  unfold Zch
  rw [Zq]
  refine ⟨fun hlt => ?_, fun hge => ?_⟩
  ·simp only [T_G, Zc, Sum.elim_inl]
   refine ⟨i0, by omega, ⟨by omega, by omega, fun x v h => ?_, fun j j0 j1 => ?_⟩, by omega⟩
   ·by_cases e : x = (gt seen i).1
    ·rw [if_pos e] at h; cases h; rw [e]; exact hof i i0 hlt
    ·rw [if_neg e] at h; exact h1 x v h
   ·by_cases e : (gt seen j).1 = (gt seen i).1
    ·rw [if_pos e]; simp
    ·rw [if_neg e]
     refine h2 j j0 ?_
     by_cases q : j = i
     ·subst q; exact absurd rfl e
     ·omega
  ·simp only [Zc, Sum.elim_inr]
   obtain ⟨j, j0, j1, e1, e2⟩ := hat at_ k hk
   have := h2 j j0 (by omega)
   rw [e1] at this
   cases ho : o at_ with
   | none => exact absurd ho this
   | some v => have := h1 at_ v ho; rw [hk] at this; exact this.symm
 intro o ho
 refine Za0 (fun _ => False) ?_ fun _ q => q.elim
 refine ZH (fun i => 0 ≤ i /\ i ≤ (seen.length : Int) /\ ∀ j, 0 ≤ j -> j < i -> ∀ p, Rk F p (gt seen j).1 -> (gt B p).1 = at_ -> k ≠ (gt seen j).2.1 + (gt B p).2.1) (fun i => ((seen.length : Int) - i).toNat) ?_ ⟨by omega, by omega, fun j j0 j1 => by omega⟩
 rintro i ⟨i0, i1, hi⟩
 unfold Zcr
 rw [Zq]
 refine ⟨fun hlt => ?_, fun hge => ?_⟩
 rotate_left
 ·simp only [Zc, Sum.elim_inr]
  rcases C.dj.pre at_ k hk with e | ⟨u, ku, c, h1, h2, h3, h4⟩
  ·exact ne e
  ·obtain ⟨j, j0, j1, e1, e2⟩ := hat u ku h1
   obtain ⟨p, p1, _, _, rfl⟩ := (Zep f).1 h2
   dsimp only at h3 h4
   exact hi j j0 (by omega) p (by rw [e1]; exact p1) h3 (by rw [e2]; exact h4)
 have hL := hof i i0 hlt
 obtain ⟨g1, g2⟩ := C.dj.rng _ _ hL
 obtain ⟨a0, a1, a2, _, _⟩ := ZcC (B := B) f g1.1 (by omega)
 simp only [T_G]
 refine ⟨i0, by omega, ?_⟩
 refine Za0 (fun _ => ∀ p, Rk F p (gt seen i).1 -> (gt B p).1 = at_ -> k ≠ (gt seen i).2.1 + (gt B p).2.1) ?_ ?_
 ·refine ZH (fun q => gt F (gt seen i).1 ≤ q /\ q ≤ gt F ((gt seen i).1 + 1) /\ ∀ p, gt F (gt seen i).1 ≤ p -> p < q -> (gt B p).1 = at_ -> k ≠ (gt seen i).2.1 + (gt B p).2.1) (fun q => (gt F ((gt seen i).1 + 1) - q).toNat) ?_ ⟨by omega, by omega, fun p p0 p1 => by omega⟩
  rintro q ⟨q0, q1, hq⟩
  unfold Zci
  simp only [T_G]
  refine ⟨by omega, by omega, ?_⟩
  rw [Zq]
  refine ⟨fun hlt2 => ?_, fun hge => ?_⟩
  rotate_left
  ·simp only [Zc, Sum.elim_inr]
   exact fun p hp => hq p hp.2.2.1 (by have := hp.2.2.2; omega)
  have hrk : Rk F q (gt seen i).1 := ⟨g1.1, by omega, q0, hlt2⟩
  obtain ⟨w1, w2, w3⟩ := hr _ _ ((Zep f).2 ⟨q, hrk, by omega, by omega, rfl⟩)
  dsimp only at w1 w2 w3
  refine Zo (fun o => o = true ↔ ((gt B q).1 = at_ /\ (gt seen i).2.1 + (gt B q).2.1 = k)) ?_ ?_
  ·simp only [T_G, Zq, Zc]
   refine ⟨by omega, by omega, fun e => ⟨by omega, ?_⟩, fun e => by simp [e]⟩
   rw [ho, Option.getD_some, decide_eq_true_iff]
   exact ⟨fun q => ⟨e, q⟩, fun q => q.2⟩
  intro c hc
  rw [Zq]
  refine ⟨fun e => ?_, fun e => ?_⟩
  ·simp only [T_G, Zdp, Zc, Sum.elim_inr, Sum.elim_inl]
   obtain ⟨e1, e2⟩ := hc.1 e
   exact ⟨by omega, _, hL, hrk, e1, e2.symm⟩
  ·simp only [T_G, Zc, Sum.elim_inl]
   refine ⟨by omega, ⟨by omega, by omega, fun p p0 p1 => ?_⟩, by omega⟩
   by_cases ep : p = q
   ·subst ep; exact fun h1 h2 => e (hc.2 ⟨h1, h2.symm⟩)
   ·exact hq p p0 (by omega)
 ·intro _ h
  simp only [T_G, Zc, Sum.elim_inl]
  refine ⟨by omega, ⟨by omega, by omega, fun j j0 j1 => ?_⟩, by omega⟩
  by_cases e : j = i
  ·rw [e]; exact h
  ·exact hi j j0 (by omega)
theorem InF.upI (h : InF N UF U DF D all) (hr : Rk UF i r) : 0 ≤ i /\ i < (U.length : Int) /\ i < (all.length : Int) /\ tlE (gt all i) = r /\ hdE (gt all i) = (gt U i).1 /\ wtE (gt all i) = (gt U i).2.1 := by
 have ln := h.ln
 obtain ⟨a0, a1, a2, _, _⟩ := ZcC (B := U) h.fU hr.1 hr.2.1
 have hl := h.X.len
 have := hr.2.2
 obtain ⟨r', h1, h2⟩ := h.X.at' i (by omega) (by omega)
 unfold RkX at h1
 rw [if_pos (by omega)] at h1
 obtain rfl := h.fU.uniq h1 hr
 refine ⟨by omega, by omega, by omega, ?_⟩
 rw [h2]
 unfold e7 tlE hdE wtE lnk
 simp only [if_pos (show i < (U.length : Int) by omega), and_self]
theorem InF.dnI (h : InF N UF U DF D all) (hr : Rk DF i r) : 0 ≤ i /\ i < (D.length : Int) /\ (U.length : Int) + i < (all.length : Int) /\ tlE (gt all ((U.length : Int) + i)) = (gt D i).1 /\ hdE (gt all ((U.length : Int) + i)) = r /\ wtE (gt all ((U.length : Int) + i)) = (gt D i).2.1 := by
 have ln := h.ln
 obtain ⟨a0, a1, a2, _, _⟩ := ZcC (B := D) h.fD hr.1 hr.2.1
 have hl := h.X.len
 have := hr.2.2
 obtain ⟨r', h1, h2⟩ := h.X.at' ((U.length : Int) + i) (by omega) (by omega)
 unfold RkX at h1
 rw [if_neg (by omega), show (U.length : Int) + i - U.length = i by omega] at h1
 obtain rfl := h.fD.uniq h1 hr
 refine ⟨by omega, by omega, by omega, ?_⟩
 rw [h2]
 unfold e7 tlE hdE wtE lnk
 simp only [if_neg (show ¬ (U.length : Int) + i < (U.length : Int) by omega), show (U.length : Int) + i - U.length = i by omega, and_self]
theorem Zlt (h : InF N UF U DF D all) (hU : WL U) (hD : WL D) (e : ZZ N UF U DF D = some .nil) (few : N.length ≤ 1000) (a0 : 0 ≤ a) (a1 : a < (N.length : Int)) (b0 : 0 ≤ b) (b1 : b < (N.length : Int))
  (D1 : DjF (rwH UF U) N.length a L1) (D2 : DjF (rwH DF D) N.length b L2) (hx : L1 top = some x) (hy : L2 top = some y) :
  T (Zde N UF U DF D a top b) fun r => r.2 = .nil /\ Ch all r.1 a b (x + y) /\ (r.1.length : Int) ≤ 2 * N.length := by
 have sm := h.sm
 have ln := h.ln
 obtain ⟨uok, urs⟩ := h.upOk hU hD
 obtain ⟨dok, drs⟩ := h.dnOk hU hD
 have ht := (D1.rng _ _ hx).1
 unfold Zde
 refine Zo _ (p_Up (s := a) h hU hD e) ?_
 rintro ⟨up, er⟩ hup
 dsimp only
 rcases hup with ⟨q, _⟩ | ⟨_, rfl, L, k1⟩
 ·exact absurd ⟨a0, a1⟩ q
 obtain rfl := k1.dj.uniq D1
 rw [if_pos rfl]
 refine Zo _ (ZjN (s := b) h hU hD e) ?_
 rintro ⟨dn, er⟩ hdn
 dsimp only
 rcases hdn with ⟨q, _⟩ | ⟨_, rfl, L', k2⟩
 ·exact absurd ⟨b0, b1⟩ q
 obtain rfl := k2.dj.uniq D2
 rw [if_pos rfl]
 refine Zo (fun l => Ch all l a top x /\ (l.length : Int) ≤ N.length) ?_ ?_
 ·refine ZH (fun z => 0 ≤ z.2 /\ (z.1.length : Int) + z.2 ≤ top /\ ∃ k1, L z.2 = some k1 /\ Ch all z.1 z.2 top (x - k1)) (fun z => z.2.toNat) ?_ ⟨ht.1, by simp, x, hx, by rw [Int.sub_self]; exact .nil _⟩
  rintro ⟨l, p⟩ ⟨p0, p1, kp, h1, h2⟩
  dsimp only at *
  unfold Zck
  rw [Zq]
  refine ⟨fun ea => ?_, fun ea => ?_⟩
  ·simp only [Zc, Sum.elim_inr]
   subst ea
   rw [D1.src] at h1; cases h1
   rw [Int.sub_zero] at h2
   exact ⟨h2, by omega⟩
  refine Zo _ (ZjH h.fU ln.1 (by omega) (by have := sm.2; omega) uok k1 h1 ea) ?_
  rintro ⟨r, i⟩ ⟨kr, g1, g2, g3, g4⟩
  dsimp only at g1 g2 g3 g4 ⊢
  obtain ⟨i0, i1, i2, e1, e2, e3⟩ := h.upI g2
  have hlt := urs r ((gt U i).1, (gt U i).2.1) ((Zep h.fU).2 ⟨i, g2, i0, i1, rfl⟩)
  dsimp only at hlt
  have r0 := g2.1
  simp only [T_G, Zc, Sum.elim_inl, List.length_append, List.length_cons, List.length_nil]
  refine ⟨by omega, ⟨r0, by omega, kr, g1, ?_⟩, by omega⟩
  have := Ch.cons i top (x - kp) l i0 i2 (by rw [e2, g3]; exact h2)
  rw [e1, e3] at this
  rw [show x - kr = (gt U i).2.1 + (x - kp) by omega]; exact this
 rintro l0 ⟨hl0, hl1⟩
 refine Zo (fun l => Ch all l a b (x + y) /\ (l.length : Int) ≤ 2 * N.length) ?_ fun l hl => by simp only [Zc]; exact ⟨trivial, hl⟩
 refine ZH (fun z => 0 ≤ z.2 /\ (z.1.length : Int) + z.2 ≤ N.length + top /\ ∃ k2, L' z.2 = some k2 /\ Ch all z.1 a z.2 (x + (y - k2))) (fun z => z.2.toNat) ?_ ⟨ht.1, by dsimp only; omega, y, hy, by rw [Int.sub_self, Int.add_zero]; exact hl0⟩
 rintro ⟨l, p⟩ ⟨p0, p1, kp, h1, h2⟩
 dsimp only at *
 unfold Zcu
 rw [Zq]
 refine ⟨fun ea => ?_, fun ea => ?_⟩
 ·simp only [Zc, Sum.elim_inr]
  subst ea
  rw [D2.src] at h1; cases h1
  rw [Int.sub_zero] at h2
  exact ⟨h2, by omega⟩
 refine Zo _ (ZjH h.fD ln.2 (by omega) (by have := sm.2; omega) dok k2 h1 ea) ?_
 rintro ⟨r, i⟩ ⟨kr, g1, g2, g3, g4⟩
 dsimp only at g1 g2 g3 g4 ⊢
 obtain ⟨i0, i1, i2, e1, e2, e3⟩ := h.dnI g2
 have hlt := drs r ((gt D i).1, (gt D i).2.1) ((Zep h.fD).2 ⟨i, g2, i0, i1, rfl⟩)
 dsimp only at hlt
 have r0 := g2.1
 have m1 := sm.2
 simp only [T_G, Zc, Sum.elim_inl, List.length_append, List.length_cons, List.length_nil]
 refine ⟨by omega, by omega, ⟨r0, by omega, kr, g1, ?_⟩, by omega⟩
 have := Ch.one (all := all) (i := (U.length : Int) + i) (by omega) i2
 rw [e1, e2, e3, g3] at this
 have := h2.app this
 rw [show x + (y - kr) = x + (y - kp) + (gt D i).2.1 by omega]; exact this
end Go.Vd
