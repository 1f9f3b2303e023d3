/- Indexes that are set; items in order. Plain Lean: no program here. -/
import Derived.Test.YtnepbkkdhalbiaaPsbVpB
import Derived.Test.YtnepbkkdhalbiaaPsbISb
import Derived.Test.YtnepbkkdhalbiaaPsbVeN
import Derived.Test.YtnepbkkdhalbiaaPsbVeK
import Derived.Test.YtnepbkkdhalbiaaPsbVeC
import Derived.Test.YtnepbkkdhalbiaaPsbVeL
import Derived.Test.YtnepbkkdhalbiaaPsbVeB
set_option linter.unusedVariables false
set_option linter.unusedSimpArgs false
set_option linter.unusedSectionVars false
/-! (Hp0) -/

set_option linter.unusedVariables false
set_option linter.unusedSimpArgs false
namespace Go.Vd
theorem Zk0 {E : Type} [Inhabited E] {l : List E} {i j : Int} {v : E} (i0 : 0 ≤ i) (i1 : i < (l.length : Int)) (j0 : 0 ≤ j) : gt (l.set i.toNat v) j = if j = i then v else gt l j := by
 unfold gt
 rw [List.getD_eq_getElem?_getD, List.getD_eq_getElem?_getD, List.getElem?_set]
 by_cases h : j = i
 ·subst h; rw [if_pos rfl, if_pos (by omega), if_pos rfl]; rfl
 ·rw [if_neg (by omega), if_neg h]
def Less (a b : Int × Int) : Prop := a.1 < b.1 ∨ (a.1 = b.1 /\ a.2 < b.2)
instance (a b : Int × Int) : Decidable (Less a b) := by unfold Less; exact inferInstance
theorem Less.irr {a b : Int × Int} (h : Less a b) : ¬ Less b a := by unfold Less at *; omega
theorem Zg7 {a b c : Int × Int} (h : ¬ Less a b) (k : ¬ Less b c) : ¬ Less a c := by unfold Less at *; omega
theorem ZnH {a b c : Int × Int} (h : ¬ Less a b) (k : Less c b) : ¬ Less a c := by unfold Less at *; omega
end Go.Vd

/-! (Hb) -/

set_option linter.unusedVariables false
set_option linter.unusedSimpArgs false
namespace Go.Vd
variable {L : Int} {h h' : Int -> Int × Int}
def ZP (p : Int) : Int := (p - 1) / 2
theorem tdiv2 {p : Int} (h : 0 < p) : Int.tdiv (p - 1) 2 = ZP p := by
 unfold ZP; rw [Int.tdiv_eq_ediv_of_nonneg (by omega)]
def Ord2 (L : Int) (h : Int -> Int × Int) : Prop := ∀ p, 1 ≤ p -> p < L -> ¬ Less (h p) (h (ZP p))
def Up2 (L : Int) (h : Int -> Int × Int) (i : Int) : Prop :=
 (∀ p, 1 ≤ p -> p < L -> p ≠ i -> ¬ Less (h p) (h (ZP p))) /\ (1 ≤ i -> ∀ c, 1 ≤ c -> c < L -> ZP c = i -> ¬ Less (h c) (h (ZP i)))
def Down2 (L : Int) (h : Int -> Int × Int) (i : Int) : Prop :=
 (∀ p, 1 ≤ p -> p < L -> ZP p ≠ i -> ¬ Less (h p) (h (ZP p))) /\ (1 ≤ i -> ∀ c, 1 ≤ c -> c < L -> ZP c = i -> ¬ Less (h c) (h (ZP i)))
theorem Up2.done {i : Int} (U : Up2 L h i) (k : i = 0 ∨ ¬ Less (h i) (h (ZP i))) : Ord2 L h := by
 intro p p0 p1
 by_cases e : p = i
 ·subst e; rcases k with k | k
  ·omega
  ·exact k
 ·exact U.1 p p0 p1 e
theorem Up2.step {i : Int} (U : Up2 L h i) (i0 : 1 ≤ i) (i1 : i < L) (k : Less (h i) (h (ZP i)))
  (eh : ∀ p, 0 ≤ p -> p < L -> h' p = if p = ZP i then h i else if p = i then h (ZP i) else h p) : Up2 L h' (ZP i) := by
 have hq : ZP i < i /\ 0 ≤ ZP i := by unfold ZP; omega
 have e1 : h' (ZP i) = h i := by rw [eh _ hq.2 (by omega), if_pos rfl]
 have e2 : h' i = h (ZP i) := by rw [eh _ (by omega) i1, if_neg (by omega), if_pos rfl]
 have e3 : ∀ p, 0 ≤ p -> p < L -> p ≠ ZP i -> p ≠ i -> h' p = h p := fun p p0 p1 h1 h2 => by rw [eh p p0 p1, if_neg h1, if_neg h2]
 have pl : ∀ p, 1 ≤ p -> ZP p < p /\ 0 ≤ ZP p := fun p hp => by unfold ZP; omega
 refine ⟨fun p p0 p1 hp => ?_, fun q0 c c0 c1 hc => ?_⟩
 ·have := pl p p0
  by_cases hpi : p = i
  ·subst hpi; rw [e2, e1]; exact k.irr
  ·rw [e3 p (by omega) p1 hp hpi]
   by_cases h1 : ZP p = i
   ·rw [h1, e2]; exact U.2 i0 p p0 p1 h1
   ·by_cases h2 : ZP p = ZP i
    ·rw [h2, e1]
     have := U.1 p p0 p1 hpi
     rw [h2] at this
     exact ZnH this k
    ·rw [e3 _ (by omega) (by omega) h2 h1]; exact U.1 p p0 p1 hpi
 ·have := pl (ZP i) q0
  have hc' := pl c c0
  have e4 : h' (ZP (ZP i)) = h (ZP (ZP i)) := e3 _ (by omega) (by omega) (by omega) (by omega)
  have hq2 := U.1 (ZP i) q0 (by omega) (by omega)
  rw [e4]
  by_cases hci : c = i
  ·subst hci; rw [e2]; exact hq2
  ·rw [e3 c (by omega) c1 (by omega) hci]
   have := U.1 c c0 c1 hci
   rw [hc] at this
   exact Zg7 this hq2
theorem Down2.done {i : Int} (D : Down2 L h i) (k : ∀ c, 1 ≤ c -> c < L -> ZP c = i -> ¬ Less (h c) (h i)) : Ord2 L h := by
 intro p p0 p1
 by_cases e : ZP p = i
 ·rw [e]; exact k p p0 p1 e
 ·exact D.1 p p0 p1 e
theorem Down2.step {i b : Int} (D : Down2 L h i) (i0 : 0 ≤ i) (b0 : 1 ≤ b) (b1 : b < L) (hb : ZP b = i) (hm : ∀ c, 1 ≤ c -> c < L -> ZP c = i -> ¬ Less (h c) (h b)) (k : Less (h b) (h i))
  (eh : ∀ p, 0 ≤ p -> p < L -> h' p = if p = b then h i else if p = i then h b else h p) : Down2 L h' b := by
 have pl : ∀ p, 1 ≤ p -> ZP p < p /\ 0 ≤ ZP p := fun p hp => by unfold ZP; omega
 have hbi := pl b b0
 have e1 : h' b = h i := by rw [eh _ (by omega) b1, if_pos rfl]
 have e2 : h' i = h b := by rw [eh _ i0 (by omega), if_neg (by omega), if_pos rfl]
 have e3 : ∀ p, 0 ≤ p -> p < L -> p ≠ b -> p ≠ i -> h' p = h p := fun p p0 p1 h1 h2 => by rw [eh p p0 p1, if_neg h1, if_neg h2]
 refine ⟨fun p p0 p1 hp => ?_, fun q0 c c0 c1 hc => ?_⟩
 ·have := pl p p0
  by_cases hpb : p = b
  ·subst hpb; rw [e1, hb, e2]; exact k.irr
  ·by_cases h1 : ZP p = i
   ·rw [h1, e2, e3 p (by omega) p1 hpb (by omega)]; exact hm p p0 p1 h1
   ·by_cases hpi : p = i
    ·subst hpi
     rw [e2, e3 (ZP p) (by omega) (by omega) (by omega) (by omega)]
     exact D.2 p0 b b0 b1 hb
    ·rw [e3 p (by omega) p1 hpb hpi, e3 _ (by omega) (by omega) hp h1]; exact D.1 p p0 p1 h1
 ·have := pl c c0
  rw [hb, e2, e3 c (by omega) c1 (by omega) (by omega)]
  have := D.1 c c0 c1 (by omega)
  rwa [hc] at this
theorem Ord2.top (O : Ord2 L h) : ∀ p, 0 ≤ p -> p < L -> ¬ Less (h p) (h 0) := by
 intro p p0 p1
 generalize hk : p.toNat = k
 induction k using Nat.strongRecOn generalizing p with
 | _ k ih =>
  by_cases e : p = 0
  ·subst e; unfold Less; omega
  ·have hp : ZP p < p /\ 0 ≤ ZP p := by unfold ZP; omega
   exact Zg7 (O p (by omega) p1) (ih (ZP p).toNat (by omega) (ZP p) hp.2 (by omega) rfl)
def swp (l : List (Int × Int)) (i j : Int) : List (Int × Int) := (l.set i.toNat (gt l j)).set j.toNat (gt l i)
theorem Zm2 {l : List (Int × Int)} {i j : Int} : (swp l i j).length = l.length := by simp [swp]
theorem Zjs {l : List (Int × Int)} {i j : Int} (i0 : 0 ≤ i) (i1 : i < (l.length : Int)) (j0 : 0 ≤ j) (j1 : j < (l.length : Int)) {p : Int} (p0 : 0 ≤ p) : gt (swp l i j) p = if p = j then gt l i else if p = i then gt l j else gt l p := by
 unfold swp
 rw [Zk0 j0 (by simpa using j1) p0, Zk0 i0 i1 p0]
theorem ZgW {l : List (Int × Int)} {i j : Int} (i0 : 0 ≤ i) (i1 : i < (l.length : Int)) (j0 : 0 ≤ j) (j1 : j < (l.length : Int)) : (swp l i j).Perm l := by
 unfold swp
 have e : ∀ {k : Int}, 0 ≤ k -> ∀ hk : k.toNat < l.length, gt l k = l[k.toNat] := fun {k} k0 hk => by
  unfold gt; rw [List.getD_eq_getElem?_getD, List.getElem?_eq_getElem hk]; rfl
 rw [e i0 (by omega), e j0 (by omega)]
 exact List.set_set_perm (by omega) (by omega)
def Hq (q : List (Int × Int)) : Prop := Ord2 q.length (gt q)
theorem Ord2.congr {L : Int} {h h' : Int -> Int × Int} (O : Ord2 L h) (eh : ∀ p, 0 ≤ p -> p < L -> h' p = h p) : Ord2 L h' := fun p p0 p1 => by
 have hp : ZP p < p /\ 0 ≤ ZP p := by unfold ZP; omega
 rw [eh p (by omega) p1, eh _ hp.2 (by omega)]; exact O p p0 p1
end Go.Vd

/-! (LwSimple) -/

namespace Go.Vd
end Go.Vd

/-! (LwSimple2) -/

set_option linter.unusedVariables false
namespace Go.Vd
variable {fi to wt : List Int}
end Go.Vd

/-! (PrEa) -/

set_option linter.unusedVariables false
set_option linter.unusedSimpArgs false
namespace Go.Vd
variable {F T' W l : List Int}
theorem p_E (n : Int) : Zam n = some n := rfl
theorem Ziw {c : Int} {ps : List (Int × Int)} : Z7 c ps = some (decide (c ≠ 0 ∨ ps ≠ [])) := by
 unfold Z7
 by_cases h : c = 0
 ·rw [if_pos h]; subst h
  by_cases hp : 0 < (ps.length : Int)
  ·rw [Zmb (.inr hp), decide_eq_true (by omega)]
  ·rw [bad_f ⟨rfl, hp⟩, decide_eq_false (by omega)]
 ·rw [if_neg h, Zmb (.inl h)]
end Go.Vd

/-! (PrEb) -/

set_option linter.unusedVariables false
set_option linter.unusedSimpArgs false
namespace Go.Vd
variable {F T' W l : List Int}
theorem p_At {k i c : Int} {ps : List (Int × Int)} (h : ps.length ≤ 8796093021951) : ZbI k i c ps = some (c, (k, i) :: ps) := by
 unfold ZbI G
 rw [if_pos (by simp; omega)]; rfl
end Go.Vd

/-! (VeM) -/

set_option linter.unusedVariables false
set_option linter.unusedSimpArgs false
namespace Go.Vd
set_option linter.unusedSectionVars false
variable [Pins]
section
variable {P : Program} {H H' : AH} {E : Type} {C : CR E} {s : Value} {xs zs : List E} {W fp g : Fp}
structure News (C : CR E) (H : AH) (zs : List E) (css : List (List Value)) (g : Fp) : Prop where
 len : css.length = zs.length
 lt : Lt H g
 is : ∃ G : Nat -> Fp, ∀ (i : Nat) (x : E) (cs : List Value), zs[i]? = some x -> css[i]? = some cs -> C.rel H x cs (G i) /\ (∀ t ∈ G i, t ∈ g) /\ ∀ j, j < zs.length -> j ≠ i -> Dj (G i) (G j)
end
end Go.Vd

/-! (VeG) -/

set_option linter.unusedVariables false
set_option linter.unusedSimpArgs false
namespace Go.Vd
set_option linter.unusedSectionVars false
variable [Pins]
section
variable {P : Program} {H H' : AH} {F : Type} {enc : F -> List Value} {sz : Nat} {s : Value} {W fp g : Fp} {xs : List (Bool × List F × List F)} {hol : List (Nat × Bool)}
def sdG (k : Bool) (x : Bool × List F × List F) : List F := match k with | false => x.2.1 | true => x.2.2
def sdP (k : Bool) (x : Bool × List F × List F) (y : List F) : Bool × List F × List F := match k with | false => (x.1, y, x.2.2) | true => (x.1, x.2.1, y)
def sdO (k : Bool) : Nat := match k with | false => 1 | true => 2
def sdH (k : Bool) (h1 h2 : Value) : Value := match k with | false => h1 | true => h2
structure Nd {F : Type} (enc : F -> List Value) (sz : Nat) (H : AH) (s : Value) (xs : List (Bool × List F × List F)) (fp : Fp) (hol : List (Nat × Bool)) : Prop where
 lt : Lt H fp
 is : ∃ (css : List (List Value)) (f0 : Fp) (G : Nat -> Bool -> Fp), Ow id 3 H s css f0 /\ (∀ t ∈ f0, t ∈ fp) /\ css.length = xs.length /\
  (∀ (i : Nat) (x : Bool × List F × List F) (cs : List Value), xs[i]? = some x -> css[i]? = some cs -> ∃ h1 h2, cs = [.bool x.1, h1, h2] /\ h1.oneCell' = true /\ h2.oneCell' = true /\
   ∀ k, (i, k) ∉ hol -> Ow enc sz H (sdH k h1 h2) (sdG k x) (G i k)) /\
  (∀ i k, i < xs.length -> (i, k) ∉ hol -> (∀ t ∈ G i k, t ∈ fp) /\ Dj f0 (G i k) /\ ∀ j l, j < xs.length -> (j, l) ∉ hol -> (j, l) ≠ (i, k) -> Dj (G i k) (G j l))
theorem Nd.fr (h : Nd enc sz H s xs fp hol) (k : FrS W H H') (hd : Dj W fp) : Nd enc sz H' s xs fp hol := by
 obtain ⟨hl, css, f0, G, a, b, c, d, e⟩ := h
 refine ⟨hl.fr k, css, f0, G, a.fr k (hd.sub b), b, c, fun i x cs h1 h2 => ?_, e⟩
 obtain ⟨u1, u2, e1, e2, e3, e4⟩ := d i x cs h1 h2
 exact ⟨u1, u2, e1, e2, e3, fun q hq => (e4 q hq).fr k (hd.sub (e i q (List.getElem?_eq_some_iff.1 h1).1 hq).1)⟩
theorem Nd.ext (h : Nd enc sz H s xs fp hol) (k : Ext H H') : Nd enc sz H' s xs fp hol := h.fr (k.frS []) Dj.nil_l
theorem Nd.form (h : Nd enc sz H s xs fp hol) : ∃ a n c, s = .slice a n c := by obtain ⟨_, css, f0, G, a, _⟩ := h; exact a.form
theorem Nd.one1 (h : Nd enc sz H s xs fp hol) : s.oneCell' = true := by obtain ⟨_, css, f0, G, a, _⟩ := h; exact a.one1
theorem Nd.lenb {t : TypeId} (h : Nd enc sz H s xs fp hol) (hu : Zdy P t = true) : Zcn P t s H = some (.int .i64 xs.length) := by
 obtain ⟨_, css, f0, G, a, _, b, _⟩ := h
 rw [← b]; exact a.sq.lenb hu
theorem Nd.idxb {t : TypeId} {k : IntKind} {i : Int} (h : Nd enc sz H s xs fp hol) (ht : ZbF P t = some 3) (h0 : 0 ≤ i) (h1 : i < (xs.length : Int)) : ZaB P t s (.int k i) = some (elp s 3 i.toNat 0) := by
 obtain ⟨_, css, f0, G, a, _, b, _⟩ := h
 rw [← b] at h1
 exact a.sq.idxb ht h0 h1
theorem Nd.fldq {t : TypeId} {i : Int} {off f d : Nat} (h : Nd enc sz H s xs fp hol) (h0 : 0 ≤ i) (h1 : i < (xs.length : Int)) (hf : ZiF P t f = some d) : ZA P t (elp s 3 i.toNat off) f = some (elp s 3 i.toNat (off + d)) := by
 obtain ⟨_, css, f0, G, a, _, b, _⟩ := h
 rw [← b] at h1
 exact a.sq.fldq h0 h1 hf
theorem Nd.at (h : Nd enc sz H s xs fp hol) {i : Int} (h0 : 0 ≤ i) (h1 : i < (xs.length : Int)) :
  ∃ h1 h2, (∀ (P : Program) (t : TypeId) (off : Nat) (v : Value), Zdx P t [.bool (gt xs i).1, h1, h2] off = some v -> Za7 P t (elp s 3 i.toNat off) H = some v) /\
   (∀ k, (i.toNat, k) ∉ hol -> KdS enc sz H (sdH k h1 h2) (sdG k (gt xs i)) fp s 3 i.toNat (sdO k)) := by
 obtain ⟨hl, css, f0, G, a, b, c, d, e⟩ := h
 have hi : i.toNat < xs.length := by omega
 have hlt : i.toNat < css.length := by omega
 have hc : css[i.toNat]? = some css[i.toNat] := List.getElem?_eq_getElem hlt
 obtain ⟨u1, u2, e1, e2, e3, e4⟩ := d i.toNat _ _ (ZcB h0 h1) hc
 refine ⟨u1, u2, fun P t off v hv => ?_, fun k hk => ⟨(e4 k hk).sq.up (e i.toNat k hi hk).1 hl, ?_⟩⟩
 ·have h1' : i < (css.length : Int) := by omega
  refine a.sq.ld h0 h1' ?_
  have : gt css i = css[i.toNat] := Option.some.inj ((ZcB h0 h1').symm.trans hc)
  rw [this, e1]; exact hv
 ·have hv : css[i.toNat][sdO k]? = some (sdH k u1 u2) := by rw [e1]; cases k <;> rfl
  obtain ⟨bb, o, n, cc, kd, row, z1, z2, z3, z4⟩ := a.kid hc hv (by cases k <;> decide)
  exact ⟨bb, o, n, cc, kd, row, z1, z2, b _ z3, z4⟩
theorem Nd.borrow (k : Bool) {i : Int} {hd : Value} {ys : List F} (h : Nd enc sz H s xs fp hol) (h0 : 0 ≤ i) (h1 : i < (xs.length : Int)) (hn : (i.toNat, k) ∉ hol) (hk : KdS enc sz H hd ys fp s 3 i.toNat (sdO k)) (hys : ys = sdG k (gt xs i)) :
  ∃ fr g, Nd enc sz H s xs fr ((i.toNat, k) :: hol) /\ Ow enc sz H hd ys g /\ Dj fr g /\ (∀ t ∈ fr, t ∈ fp) /\ (∀ t ∈ g, t ∈ fp) := by
 obtain ⟨hl, css, f0, G, a, b, c, d, e⟩ := h
 have hi : i.toNat < xs.length := by omega
 have hlt : i.toNat < css.length := by omega
 have hc : css[i.toNat]? = some css[i.toNat] := List.getElem?_eq_getElem hlt
 obtain ⟨u1, u2, e1, e2, e3, e4⟩ := d i.toNat _ _ (ZcB h0 h1) hc
 obtain ⟨q1, q2, q3⟩ := e i.toNat k hi hn
 have hh : hd = sdH k u1 u2 := by
  have := Kid.same a hc (by cases k <;> decide) hk.kid
  rw [e1] at this
  cases k <;> exact (Option.some.inj this).symm
 have ho := e4 k hn
 rw [← hh, ← hys] at ho
 refine ⟨fp.filter fun t => t ∉ G i.toNat k, G i.toNat k, ⟨hl.sub fun t ht => (List.mem_filter.1 ht).1, css, f0, G, a, ?_, c, fun j x cs hj hcs => ?_, fun j l hj hjl => ?_⟩, ho, ?_, fun t ht => (List.mem_filter.1 ht).1, q1⟩
 ·exact fun t ht => List.mem_filter.2 ⟨b t ht, by simpa using fun hm => q2 t ht hm⟩
 ·obtain ⟨v1, v2, f1, f2, f3, f4⟩ := d j x cs hj hcs
  exact ⟨v1, v2, f1, f2, f3, fun l hl => f4 l fun hm => hl (List.mem_cons_of_mem _ hm)⟩
 ·have hne : (j, l) ≠ (i.toNat, k) := fun e => hjl (by rw [e]; exact List.mem_cons_self ..)
  have hjl' : (j, l) ∉ hol := fun hm => hjl (List.mem_cons_of_mem _ hm)
  obtain ⟨p1, p2, p3⟩ := e j l hj hjl'
  have hd2 := p3 i.toNat k hi hn (Ne.symm hne)
  refine ⟨fun t ht => List.mem_filter.2 ⟨p1 t ht, by simpa using fun hm => hd2 t ht hm⟩, p2, fun j' l' hj' hl' hne' => p3 j' l' hj' (fun hm => hl' (List.mem_cons_of_mem _ hm)) hne'⟩
 ·exact fun t ht hm => by have := (List.mem_filter.1 ht).2; simp at this; exact this hm
theorem Nd.close {t : TypeId} (k : Bool) {i : Int} {hd : Value} {y : List F} (hw : WF H) (h : Nd enc sz H s xs fp ((i.toNat, k) :: hol)) (ho : Ow enc sz H hd y g) (hdj : Dj fp g) (h0 : 0 ≤ i) (h1 : i < (xs.length : Int)) (hx : hd.cells.toList = [hd]) (hs : (P.info? t).map (·.size) = some 1) (ho1 : Zs [hd] = true) :
  ∃ H' fp', Zb1 P t (elp s 3 i.toNat (sdO k)) hd H = some H' /\ FrS fp H H' /\ Nd enc sz H' s (xs.set i.toNat (sdP k (gt xs i) y)) fp' hol /\ Inn (fp ++ g) H fp' := by
 obtain ⟨hl, css, f0, G, a, b, c, d, e⟩ := h
 have hi : i.toNat < xs.length := by omega
 have hic : i.toNat < css.length := by omega
 have hc : css[i.toNat]? = some css[i.toNat] := List.getElem?_eq_getElem hic
 have h1c : i < (css.length : Int) := by omega
 have hgc : gt css i = css[i.toNat] := Option.some.inj ((ZcB h0 h1c).symm.trans hc)
 have hgx := ZcB h0 h1
 obtain ⟨u1, u2, e1, e2, e3, e4⟩ := d i.toNat _ _ hgx hc
 obtain ⟨H', p1, p2, p3⟩ := a.store (P := P) (t := t) (off := sdO k) hw h0 h1c hd [hd] hx hs ho1 (Z2 css[i.toNat] (sdO k) [hd]) (by cases k <;> simp [sdO]) (by rw [hgc]; rfl)
 have hf0g : Dj f0 g := hdj.subl b
 have hone : hd.oneCell' = true := by unfold Zs at ho1; simpa using ho1
 have hout : ∀ j l, (j, l) ≠ (i.toNat, k) -> (j, l) ∉ hol -> (j, l) ∉ (i.toNat, k) :: hol := fun j l h1 h2 h3 => (List.mem_cons.1 h3).elim h1 h2
 refine ⟨H', fp ++ g, p1, p2.mono b, ⟨(hl.fr p2).app (ho.lt.fr p2), css.set i.toNat (Z2 css[i.toNat] (sdO k) [hd]), f0, fun j l => if (j, l) = (i.toNat, k) then g else G j l, p3, fun t ht => List.mem_append_left _ (b t ht), by simp [c], ?_, ?_⟩, Inn.self⟩
 ·intro j x cs hj hcs
  by_cases hji : j = i.toNat
  ·subst hji
   rw [List.getElem?_set_self hi] at hj
   rw [List.getElem?_set_self hic] at hcs
   cases hj; cases hcs
   refine ⟨sdH k hd u1, sdH k u2 hd, ?_, by cases k <;> assumption, by cases k <;> assumption, fun l hlh => ?_⟩
   ·rw [e1]; cases k <;> rfl
   ·by_cases hlk : l = k
    ·subst hlk
     try dsimp only
     rw [if_pos rfl]
     have := ho.fr p2 hf0g
     cases l <;> exact this
    ·have hne : ((i.toNat, l) : Nat × Bool) ≠ (i.toNat, k) := fun e => hlk (Prod.mk.inj e).2
     try dsimp only
     rw [if_neg hne]
     have hq := e4 l (hout _ _ hne hlh)
     have hq2 := hq.fr p2 (e i.toNat l hi (hout _ _ hne hlh)).2.1
     cases k <;> cases l <;> first | exact absurd rfl hlk | exact hq2
  ·rw [List.getElem?_set_ne (fun e => hji e.symm)] at hj hcs
   obtain ⟨v1, v2, f1, f2, f3, f4⟩ := d j x cs hj hcs
   refine ⟨v1, v2, f1, f2, f3, fun l hlh => ?_⟩
   have hne : ((j, l) : Nat × Bool) ≠ (i.toNat, k) := fun e => hji (Prod.mk.inj e).1
   try dsimp only
   rw [if_neg hne]
   exact (f4 l (hout _ _ hne hlh)).fr p2 (e j l (List.getElem?_eq_some_iff.1 hj).1 (hout _ _ hne hlh)).2.1
 ·intro j l hj hjl
  rw [List.length_set] at hj
  by_cases hji : ((j, l) : Nat × Bool) = (i.toNat, k)
  ·try dsimp only
   rw [if_pos hji]
   refine ⟨fun t ht => List.mem_append_right _ ht, hf0g, fun j' l' hj' hl' hne => ?_⟩
   rw [List.length_set] at hj'
   have hne' : ((j', l') : Nat × Bool) ≠ (i.toNat, k) := fun e => hne (e.trans hji.symm)
   try dsimp only
   rw [if_neg hne']
   exact (hdj.symm).sub (e j' l' hj' (hout _ _ hne' hl')).1
  ·try dsimp only
   rw [if_neg hji]
   obtain ⟨q1, q2, q3⟩ := e j l hj (hout _ _ hji hjl)
   refine ⟨fun t ht => List.mem_append_left _ (q1 t ht), q2, fun j' l' hj' hl' hne => ?_⟩
   rw [List.length_set] at hj'
   by_cases hne' : ((j', l') : Nat × Bool) = (i.toNat, k)
   ·try dsimp only
    rw [if_pos hne']; exact hdj.subl q1
   ·try dsimp only
    rw [if_neg hne']; exact q3 j' l' hj' (hout _ _ hne' hl') hne
theorem Nd.clearAt {t : TypeId} {i : Int} {v : Value} {b0 : Bool} {hol' : List (Nat × Bool)} (hw : WF H) (h : Nd enc sz H s xs fp hol) (hp : 0 < sz) (h0 : 0 ≤ i) (h1 : i < (xs.length : Int)) (hx : v.cells.toList = [.bool b0, .slice none 0 0, .slice none 0 0]) (hs : (P.info? t).map (·.size) = some 3)
  (hh : ∀ p ∈ hol, p.1 = i.toNat ∨ p ∈ hol') :
  ∃ H', Zb1 P t (elp s 3 i.toNat 0) v H = some H' /\ FrS fp H H' /\ Nd enc sz H' s (xs.set i.toNat (b0, [], [])) fp hol' := by
 obtain ⟨hl, css, f0, G, a, b, c, d, e⟩ := h
 have hi : i.toNat < xs.length := by omega
 have hic : i.toNat < css.length := by omega
 have hc : css[i.toNat]? = some css[i.toNat] := List.getElem?_eq_getElem hic
 have h1c : i < (css.length : Int) := by omega
 have hgc : gt css i = css[i.toNat] := Option.some.inj ((ZcB h0 h1c).symm.trans hc)
 obtain ⟨u1, u2, e1, e2, e3, e4⟩ := d i.toNat _ _ (ZcB h0 h1) hc
 obtain ⟨H', p1, p2, p3⟩ := a.store (P := P) (t := t) (off := 0) hw h0 h1c v [.bool b0, .slice none 0 0, .slice none 0 0] hx hs rfl [.bool b0, .slice none 0 0, .slice none 0 0] (by simp) (by rw [hgc, e1]; rfl)
 have hout : ∀ j l, j ≠ i.toNat -> (j, l) ∉ hol' -> (j, l) ∉ hol := fun j l h1 h2 h3 => (hh _ h3).elim h1 h2
 refine ⟨H', p1, p2.mono b, ⟨hl.fr p2, css.set i.toNat [.bool b0, .slice none 0 0, .slice none 0 0], f0, fun j l => if j = i.toNat then [] else G j l, p3, b, by simp [c], ?_, ?_⟩⟩
 ·intro j x cs hj hcs
  by_cases hji : j = i.toNat
  ·subst hji
   rw [List.getElem?_set_self hi] at hj
   rw [List.getElem?_set_self hic] at hcs
   cases hj; cases hcs
   refine ⟨_, _, rfl, rfl, rfl, fun l _ => ?_⟩
   try dsimp only
   rw [if_pos rfl]
   cases l <;> exact .nil hp
  ·rw [List.getElem?_set_ne (fun e => hji e.symm)] at hj hcs
   obtain ⟨v1, v2, f1, f2, f3, f4⟩ := d j x cs hj hcs
   refine ⟨v1, v2, f1, f2, f3, fun l hlh => ?_⟩
   try dsimp only
   rw [if_neg hji]
   exact (f4 l (hout j l hji hlh)).fr p2 (e j l (List.getElem?_eq_some_iff.1 hj).1 (hout j l hji hlh)).2.1
 ·intro j l hj hjl
  rw [List.length_set] at hj
  by_cases hji : j = i.toNat
  ·try dsimp only
   rw [if_pos hji]
   exact ⟨fun t ht => (by cases ht), Dj.nil_r, fun _ _ _ _ _ => Dj.nil_l⟩
  ·try dsimp only
   rw [if_neg hji]
   obtain ⟨q1, q2, q3⟩ := e j l hj (hout j l hji hjl)
   refine ⟨q1, q2, fun j' l' hj' hl' hne => ?_⟩
   rw [List.length_set] at hj'
   by_cases hne' : j' = i.toNat
   ·try dsimp only
    rw [if_pos hne']; exact Dj.nil_r
   ·try dsimp only
    rw [if_neg hne']; exact q3 j' l' hj' (hout j' l' hne' hl') hne
theorem Nd.open2 {i : Int} (h : Nd enc sz H s xs fp []) (h0 : 0 ≤ i) (h1 : i < (xs.length : Int)) :
  ∃ u1 u2 fr g1 g2, (∀ (P : Program) (t : TypeId) (v : Value), Zdx P t [.bool (gt xs i).1, u1, u2] 0 = some v -> Za7 P t (elp s 3 i.toNat 0) H = some v) /\
   Nd enc sz H s xs fr [(i.toNat, true), (i.toNat, false)] /\ Ow enc sz H u1 (gt xs i).2.1 g1 /\ Ow enc sz H u2 (gt xs i).2.2 g2 /\ Dj fr g1 /\ Dj fr g2 /\ Dj g1 g2 /\ (∀ t ∈ fr, t ∈ fp) /\ (∀ t ∈ g1, t ∈ fp) /\ (∀ t ∈ g2, t ∈ fp) := by
 obtain ⟨u1, u2, a1, a2⟩ := h.at h0 h1
 obtain ⟨fr, g, b1, b2, b3, b4, b5⟩ := h.borrow false h0 h1 (by simp) (a2 false (by simp)) rfl
 obtain ⟨v1, v2, c1, c2⟩ := b1.at h0 h1
 have hv : v2 = u2 := by
  have k1 := (a2 true (by simp)).kid
  have k2 := (c2 true (by simp)).kid
  obtain ⟨x1, x2, x3, x4, x5, x6, x7, x8, x9, y1, y2⟩ := k1
  obtain ⟨z1, z2, z3, z4, z5, z6, z7, z8, z9, w1, w2⟩ := k2
  rw [x7] at z7
  cases z7
  rw [y1] at w1
  cases w1
  rw [y2] at w2
  exact (Option.some.inj w2).symm
 obtain ⟨fr2, g2, d1, d2, d3, d4, d5⟩ := b1.borrow true h0 h1 (by simp) (c2 true (by simp)) rfl
 have d2' : Ow enc sz H u2 (gt xs i).2.2 g2 := by rw [← hv]; exact d2
 exact ⟨u1, u2, fr2, g, g2, fun P t v hh => a1 P t 0 v hh, d1, b2, d2', b3.subl d4, d3, fun t h1 h2 => b3 t (d5 t h2) h1, fun t ht => b4 t (d4 t ht), b5, fun t ht => b4 t (d5 t ht)⟩
theorem Nd.zeros {n : Nat} (hp : 0 < sz) (h : Ow id 3 H s (List.replicate n [.bool false, .slice none 0 0, .slice none 0 0]) fp) : Nd enc sz H s (List.replicate n (false, [], [])) fp [] := by
 refine ⟨h.lt, _, fp, fun _ _ => [], h, fun _ h => h, by simp, fun i x cs hx hc => ?_, fun i k _ _ => ⟨fun t h => (by cases h), Dj.nil_r, fun _ _ _ _ _ => Dj.nil_l⟩⟩
 have e1 := List.eq_of_mem_replicate (List.mem_of_getElem? hx)
 have e2 := List.eq_of_mem_replicate (List.mem_of_getElem? hc)
 subst e1; subst e2
 exact ⟨_, _, rfl, rfl, rfl, fun k _ => by cases k <;> exact .nil hp⟩
end
end Go.Vd

namespace Go.Vd
/-! Steps under short names: what is reckoned is reckoned by itself. -/
section
set_option linter.unusedSectionVars false
variable [Pins] {P : Program} {ops : Array Oper} {K : AAct -> AH -> Prop} {α : AAct} {H : AH} {o : Oper} {rest : List Oper} {tbl : List (List Nat)} {i : Nat} {rs : List Nat} {fl : List (Nat × AAct × Value)}
theorem q_ (v : Value) (k : Zm P ops K rest (α.put o.dst v) H) (h : ZbV P ops o α H = some v := by kernel_rfl) : Zm P ops K (o :: rest) α H := Zhb v h k
theorem l_' (v : Value) (x : Option Value) (h : x = some v) (k : Zm P ops K rest (α.put o.dst v) H) (h1 : ZbV P ops o α H = x := by kernel_rfl) : Zm P ops K (o :: rest) α H := Zba v h1 h k
theorem e_' (v : Value) (k : Zp P ops tbl K rs fl (α.put (Zag ops i) v) H) (h : ZcJ P ops tbl i rs α H = some v := by kernel_rfl) : Zp P ops tbl K (i :: rs) fl α H := ZcP v h k
theorem m_' (v : Value) (x : Option Value) (h : x = some v) (k : Zp P ops tbl K rs fl (α.put (Zag ops i) v) H) (h1 : ZcJ P ops tbl i rs α H = x := by kernel_rfl) : Zp P ops tbl K (i :: rs) fl α H := ZdL v h1 h k
theorem ZkT : ∀ {l : List (Nat × Value)}, (l.map fun p => α p.1) = l.map (·.2) -> Has α l
  | [], _ => trivial
  | (_, _) :: _, h => ⟨(List.cons.inj h).1, ZkT (List.cons.inj h).2⟩
theorem ha_ {l : List (Nat × Value)} (h : (l.map fun p => α p.1) = l.map (·.2) := by kernel_rfl) : Has α l := ZkT h
theorem n_' (k : Zm P ops K rest (α.put o.dst undef) H) (hg : Region.wanted o (ZT ops α) = false := by kernel_rfl) : Zm P ops K (o :: rest) α H := s_no hg k
theorem j_' (k : Zp P ops tbl K rs fl (α.put (Zag ops i) undef) H) (h : idle ops i α = true := by kernel_rfl) : Zp P ops tbl K (i :: rs) fl α H := ZnF h k
theorem g_' {N id : Nat} {l : List Oper} {Q : Exit -> AAct -> AH -> Prop} (h : Zm P l.toArray (Q .normal) l α H) (hok : Zez N l = true := by kernel_rfl) : aWp P N (.region id l.toArray false) Q α H := w_reg hok h
theorem w_' (x : Int) (hw : IntKind.i64.wrap x = x) (kk : Zm P ops K rest (α.put o.dst (.int .i64 x)) H) (h : ZbV P ops o α H = some (.int .i64 (IntKind.i64.wrap x)) := by kernel_rfl) : Zm P ops K (o :: rest) α H := s_w x h hw kk
end
abbrev i_ (n : Int) : Value := .int .i64 n
abbrev pt_ (b o : Nat) : Value := .pointer (some ⟨b, o, none⟩)
end Go.Vd
namespace Go.Vd
section
variable [Pins] {P : Program} {α : AAct} {H H' : AH} {W : Fp} {b o : Nat} {cs : List Value} {t : TypeId} {v : Value}
theorem Ext.n (h : Ext H H') : H.next ≤ H'.next := h.next
theorem FrS.n (h : FrS W H H') : H.next ≤ H'.next := h.next
theorem t_ {a b c : Nat} (h : a ≤ b) (k : b ≤ c) : a ≤ c := Nat.le_trans h k
theorem Row.l_ (h : Row H b cs) (hv : Zdx P t cs o = some v := by kernel_rfl) : Za7 P t (.pointer (some ⟨b, o, none⟩)) H = some v := h.ld hv
theorem rt_ {t : Nat} {v : Value} {l : List ResultVar} {vs : List Value} (hr : Zcd P α H l = some vs) (h : α t = v := by kernel_rfl) : Zcd P α H (.tmp t :: l) = some (v :: vs) := ZcG h hr
theorem oi_ {E : Type} {a b : E} (h : some a = some b) : a = b := Option.some.inj h
theorem f0_ (wf : WF H) : FrS [] H H := .refl wf
noncomputable abbrev aL_ (t : TypeId) (v : Value) (H : AH) : Option Value := Za7 Go.Proofs.Try.prog t v H
end
end Go.Vd
namespace Go.Vd
section
set_option linter.unusedSectionVars false
variable [Pins] {N : Nat} {Q : Exit -> AAct -> AH -> Prop} {ops : Array Oper} {K : AAct -> AH -> Prop} {α : AAct} {H H' : AH} {o : Oper} {rest : List Oper} {tbl : List (List Nat)} {i : Nat} {rs : List Nat} {fl : List (Nat × AAct × Value)}
variable {b : Nat} {cs : List Value} {E : Type} {enc : E -> List Value} {sz : Nat} {s : Value} {xs : List E} {fp : Fp} {j : Int}
theorem lr_ (t : TypeId) (p : Nat) (v : Value) (u : Row H b cs) (k : Zm Go.Proofs.Try.prog ops K rest (α.put o.dst v) H) (hv : Zdx Go.Proofs.Try.prog t cs p = some v := by kernel_rfl) (h1 : ZbV Go.Proofs.Try.prog ops o α H = Za7 Go.Proofs.Try.prog t (.pointer (some ⟨b, p, none⟩)) H := by kernel_rfl) : Zm Go.Proofs.Try.prog ops K (o :: rest) α H := Zba v h1 (u.ld hv) k
theorem mr_ (t : TypeId) (p : Nat) (v : Value) (u : Row H b cs) (k : Zp Go.Proofs.Try.prog ops tbl K rs fl (α.put (Zag ops i) v) H) (hv : Zdx Go.Proofs.Try.prog t cs p = some v := by kernel_rfl) (h1 : ZcJ Go.Proofs.Try.prog ops tbl i rs α H = Za7 Go.Proofs.Try.prog t (.pointer (some ⟨b, p, none⟩)) H := by kernel_rfl) : Zp Go.Proofs.Try.prog ops tbl K (i :: rs) fl α H := ZdL v h1 (u.ld hv) k
theorem le_ [Inhabited E] (t : TypeId) (f : Nat) (v : Value) (u : Sq enc sz H s xs fp) (h0 : 0 ≤ j) (h2 : j < (xs.length : Int)) (k : Zm Go.Proofs.Try.prog ops K rest (α.put o.dst v) H) (hv : Zdx Go.Proofs.Try.prog t (enc (gt xs j)) f = some v := by kernel_rfl) (h1 : ZbV Go.Proofs.Try.prog ops o α H = Za7 Go.Proofs.Try.prog t (elp s sz j.toNat f) H := by kernel_rfl) : Zm Go.Proofs.Try.prog ops K (o :: rest) α H := Zba v h1 (u.ld h0 h2 hv) k
theorem me_ [Inhabited E] (t : TypeId) (f : Nat) (v : Value) (u : Sq enc sz H s xs fp) (h0 : 0 ≤ j) (h2 : j < (xs.length : Int)) (k : Zp Go.Proofs.Try.prog ops tbl K rs fl (α.put (Zag ops i) v) H) (hv : Zdx Go.Proofs.Try.prog t (enc (gt xs j)) f = some v := by kernel_rfl) (h1 : ZcJ Go.Proofs.Try.prog ops tbl i rs α H = Za7 Go.Proofs.Try.prog t (elp s sz j.toNat f) H := by kernel_rfl) : Zp Go.Proofs.Try.prog ops tbl K (i :: rs) fl α H := ZdL v h1 (u.ld h0 h2 hv) k
theorem Sq.ix_ (u : Sq enc sz H s xs fp) (t : TypeId) (h0 : 0 ≤ j) (h2 : j < (xs.length : Int)) (k : Zm Go.Proofs.Try.prog ops K rest (α.put o.dst (elp s sz j.toNat 0)) H) (ht : ZbF Go.Proofs.Try.prog t = some sz := by kernel_rfl) (h1 : ZbV Go.Proofs.Try.prog ops o α H = ZaB Go.Proofs.Try.prog t s (.int .i64 j) := by kernel_rfl) : Zm Go.Proofs.Try.prog ops K (o :: rest) α H := Zba _ h1 (u.idxb ht h0 h2) k
theorem Sq.mx_ (u : Sq enc sz H s xs fp) (t : TypeId) (h0 : 0 ≤ j) (h2 : j < (xs.length : Int)) (k : Zp Go.Proofs.Try.prog ops tbl K rs fl (α.put (Zag ops i) (elp s sz j.toNat 0)) H) (ht : ZbF Go.Proofs.Try.prog t = some sz := by kernel_rfl) (h1 : ZcJ Go.Proofs.Try.prog ops tbl i rs α H = ZaB Go.Proofs.Try.prog t s (.int .i64 j) := by kernel_rfl) : Zp Go.Proofs.Try.prog ops tbl K (i :: rs) fl α H := ZdL _ h1 (u.idxb ht h0 h2) k
theorem Sq.ln_ (u : Sq enc sz H s xs fp) (t : TypeId) (k : Zm Go.Proofs.Try.prog ops K rest (α.put o.dst (.int .i64 xs.length)) H) (ht : Zdy Go.Proofs.Try.prog t = true := by kernel_rfl) (h1 : ZbV Go.Proofs.Try.prog ops o α H = Zcn Go.Proofs.Try.prog t s H := by kernel_rfl) : Zm Go.Proofs.Try.prog ops K (o :: rest) α H := Zba _ h1 (u.lenb ht) k
theorem Sq.mn_ (u : Sq enc sz H s xs fp) (t : TypeId) (k : Zp Go.Proofs.Try.prog ops tbl K rs fl (α.put (Zag ops i) (.int .i64 xs.length)) H) (ht : Zdy Go.Proofs.Try.prog t = true := by kernel_rfl) (h1 : ZcJ Go.Proofs.Try.prog ops tbl i rs α H = Zcn Go.Proofs.Try.prog t s H := by kernel_rfl) : Zp Go.Proofs.Try.prog ops tbl K (i :: rs) fl α H := ZdL _ h1 (u.lenb ht) k
theorem Nst.ix_ {C : CR E} (u : Nst C H s xs fp) (t : TypeId) (h0 : 0 ≤ j) (h2 : j < (xs.length : Int)) (k : Zm Go.Proofs.Try.prog ops K rest (α.put o.dst (elp s C.sz j.toNat 0)) H) (ht : ZbF Go.Proofs.Try.prog t = some C.sz := by kernel_rfl) (h1 : ZbV Go.Proofs.Try.prog ops o α H = ZaB Go.Proofs.Try.prog t s (.int .i64 j) := by kernel_rfl) : Zm Go.Proofs.Try.prog ops K (o :: rest) α H := Zba _ h1 (u.idxb ht h0 h2) k
theorem Nst.mx_ {C : CR E} (u : Nst C H s xs fp) (t : TypeId) (h0 : 0 ≤ j) (h2 : j < (xs.length : Int)) (k : Zp Go.Proofs.Try.prog ops tbl K rs fl (α.put (Zag ops i) (elp s C.sz j.toNat 0)) H) (ht : ZbF Go.Proofs.Try.prog t = some C.sz := by kernel_rfl) (h1 : ZcJ Go.Proofs.Try.prog ops tbl i rs α H = ZaB Go.Proofs.Try.prog t s (.int .i64 j) := by kernel_rfl) : Zp Go.Proofs.Try.prog ops tbl K (i :: rs) fl α H := ZdL _ h1 (u.idxb ht h0 h2) k
theorem Nst.ln_ {C : CR E} (u : Nst C H s xs fp) (t : TypeId) (k : Zm Go.Proofs.Try.prog ops K rest (α.put o.dst (.int .i64 xs.length)) H) (ht : Zdy Go.Proofs.Try.prog t = true := by kernel_rfl) (h1 : ZbV Go.Proofs.Try.prog ops o α H = Zcn Go.Proofs.Try.prog t s H := by kernel_rfl) : Zm Go.Proofs.Try.prog ops K (o :: rest) α H := Zba _ h1 (u.lenb ht) k
theorem Nst.mn_ {C : CR E} (u : Nst C H s xs fp) (t : TypeId) (k : Zp Go.Proofs.Try.prog ops tbl K rs fl (α.put (Zag ops i) (.int .i64 xs.length)) H) (ht : Zdy Go.Proofs.Try.prog t = true := by kernel_rfl) (h1 : ZcJ Go.Proofs.Try.prog ops tbl i rs α H = Zcn Go.Proofs.Try.prog t s H := by kernel_rfl) : Zp Go.Proofs.Try.prog ops tbl K (i :: rs) fl α H := ZdL _ h1 (u.lenb ht) k
theorem Nd.ix_ {xs : List (Bool × List E × List E)} {hol : List (Nat × Bool)} (u : Nd enc sz H s xs fp hol) (t : TypeId) (h0 : 0 ≤ j) (h2 : j < (xs.length : Int)) (k : Zm Go.Proofs.Try.prog ops K rest (α.put o.dst (elp s 3 j.toNat 0)) H) (ht : ZbF Go.Proofs.Try.prog t = some 3 := by kernel_rfl) (h1 : ZbV Go.Proofs.Try.prog ops o α H = ZaB Go.Proofs.Try.prog t s (.int .i64 j) := by kernel_rfl) : Zm Go.Proofs.Try.prog ops K (o :: rest) α H := Zba _ h1 (u.idxb ht h0 h2) k
theorem Nd.mx_ {xs : List (Bool × List E × List E)} {hol : List (Nat × Bool)} (u : Nd enc sz H s xs fp hol) (t : TypeId) (h0 : 0 ≤ j) (h2 : j < (xs.length : Int)) (k : Zp Go.Proofs.Try.prog ops tbl K rs fl (α.put (Zag ops i) (elp s 3 j.toNat 0)) H) (ht : ZbF Go.Proofs.Try.prog t = some 3 := by kernel_rfl) (h1 : ZcJ Go.Proofs.Try.prog ops tbl i rs α H = ZaB Go.Proofs.Try.prog t s (.int .i64 j) := by kernel_rfl) : Zp Go.Proofs.Try.prog ops tbl K (i :: rs) fl α H := ZdL _ h1 (u.idxb ht h0 h2) k
theorem Nd.ln_ {xs : List (Bool × List E × List E)} {hol : List (Nat × Bool)} (u : Nd enc sz H s xs fp hol) (t : TypeId) (k : Zm Go.Proofs.Try.prog ops K rest (α.put o.dst (.int .i64 xs.length)) H) (ht : Zdy Go.Proofs.Try.prog t = true := by kernel_rfl) (h1 : ZbV Go.Proofs.Try.prog ops o α H = Zcn Go.Proofs.Try.prog t s H := by kernel_rfl) : Zm Go.Proofs.Try.prog ops K (o :: rest) α H := Zba _ h1 (u.lenb ht) k
theorem Nd.mn_ {xs : List (Bool × List E × List E)} {hol : List (Nat × Bool)} (u : Nd enc sz H s xs fp hol) (t : TypeId) (k : Zp Go.Proofs.Try.prog ops tbl K rs fl (α.put (Zag ops i) (.int .i64 xs.length)) H) (ht : Zdy Go.Proofs.Try.prog t = true := by kernel_rfl) (h1 : ZcJ Go.Proofs.Try.prog ops tbl i rs α H = Zcn Go.Proofs.Try.prog t s H := by kernel_rfl) : Zp Go.Proofs.Try.prog ops tbl K (i :: rs) fl α H := ZdL _ h1 (u.lenb ht) k
theorem ck_ {f : FuncId} {args : Array Value} {K' : Value -> AH -> Prop} (hf : ACalls Go.Proofs.Try.prog f args H K') (k : ∀ v H', K' v H' -> Zm Go.Proofs.Try.prog ops K rest (α.put o.dst v) H') (h : ZgB Go.Proofs.Try.prog ops o α = some (f, args) := by kernel_rfl) : Zm Go.Proofs.Try.prog ops K (o :: rest) α H := Zju f args h hf k
theorem dk_ {f : FuncId} {args : Array Value} {K' : Value -> AH -> Prop} (hf : ACalls Go.Proofs.Try.prog f args H K') (k : ∀ v H', K' v H' -> ZbY Go.Proofs.Try.prog ops tbl i H' fl /\ Zp Go.Proofs.Try.prog ops tbl K rs fl (α.put (Zag ops i) v) H') (h : ZdJ ops i (fun o => ZgB Go.Proofs.Try.prog ops o α) = some (f, args) := by kernel_rfl) : Zp Go.Proofs.Try.prog ops tbl K (i :: rs) fl α H := d_ck f args h hf k
theorem ek_ {x : Option AH} (h : x = some H') (k : Zm Go.Proofs.Try.prog ops K rest (α.put o.dst undef) H') (h1 : ZhN Go.Proofs.Try.prog ops o α H = x.map fun H' => (undef, H') := by kernel_rfl) : Zm Go.Proofs.Try.prog ops K (o :: rest) α H := ZaY undef h1 (ZiM h) k
theorem fk_ {x : Option AH} (h : x = some H') (st : ZbY Go.Proofs.Try.prog ops tbl i H' fl) (k : Zp Go.Proofs.Try.prog ops tbl K rs fl (α.put (Zag ops i) undef) H') (h1 : ZdJ ops i (fun o => ZhN Go.Proofs.Try.prog ops o α H) = x.map fun H' => (undef, H') := by kernel_rfl) : Zp Go.Proofs.Try.prog ops tbl K (i :: rs) fl α H := Zg3 undef h1 (ZiM h) st k
theorem wc_ {c : Operand} {x y : Code} (p : Prop) [Decidable p] (ht : p -> aWp Go.Proofs.Try.prog N x Q α H) (hf : ¬ p -> aWp Go.Proofs.Try.prog N y Q α H) (hb : ZM α c = .bool (decide p) := by kernel_rfl) (hok : Zc7 c = true := by rfl) : aWp Go.Proofs.Try.prog N (.cond c x y) Q α H := Zgz p hb hok ht hf
theorem wb_ {c : Operand} {x y : Code} (b : Bool) (ht : b = true -> aWp Go.Proofs.Try.prog N x Q α H) (hf : b = false -> aWp Go.Proofs.Try.prog N y Q α H) (hb : ZM α c = .bool b := by kernel_rfl) (hok : Zc7 c = true := by rfl) : aWp Go.Proofs.Try.prog N (.cond c x y) Q α H := Zjj b hb hok ht hf
theorem sb_ (p : Prop) [Decidable p] (ht : p -> Zm Go.Proofs.Try.prog ops K rest (α.put o.dst (.bool true)) H) (hf : ¬p -> Zm Go.Proofs.Try.prog ops K rest (α.put o.dst (.bool false)) H) (h : ZbV Go.Proofs.Try.prog ops o α H = some (.bool (decide p)) := by kernel_rfl) : Zm Go.Proofs.Try.prog ops K (o :: rest) α H := s_b p h ht hf
theorem db_ (p : Prop) [Decidable p] (ht : p -> Zp Go.Proofs.Try.prog ops tbl K rs fl (α.put (Zag ops i) (.bool true)) H) (hf : ¬p -> Zp Go.Proofs.Try.prog ops tbl K rs fl (α.put (Zag ops i) (.bool false)) H) (h : ZcJ Go.Proofs.Try.prog ops tbl i rs α H = some (.bool (decide p)) := by kernel_rfl) : Zp Go.Proofs.Try.prog ops tbl K (i :: rs) fl α H := d_b p h ht hf
theorem rk_ (hw : WF H) (cs : List Value) (k : ∀ b H', Ext H H' -> Inn [] H [b] -> Row H' b cs -> Zm Go.Proofs.Try.prog ops K rest (α.put o.dst (.pointer (some ⟨b, 0, none⟩))) H') (h : Zc6 Go.Proofs.Try.prog ops o α = some (.row .own cs, Zdg) := by kernel_rfl) : Zm Go.Proofs.Try.prog ops K (o :: rest) α H := s_rwk hw cs h k
theorem rl_ (hw : WF H) (cs : List Value) (k : ∀ b H', Ext H H' -> Inn [] H [b] -> Row H' b cs -> Zm Go.Proofs.Try.prog ops K rest (α.put o.dst (.pointer (some ⟨b, 0, none⟩))) H') (h1 : Zs cs = true := by kernel_rfl) (h : Zc6 Go.Proofs.Try.prog ops o α = if Zs cs = true then some (.row .own cs, Zdg) else none := by kernel_rfl) : Zm Go.Proofs.Try.prog ops K (o :: rest) α H := ZbJ hw cs h1 h k
theorem sq_ {x y : Code} (h : ∀ {K : AAct -> AH -> Prop}, (∀ α H, aWp Go.Proofs.Try.prog N y Q α H -> K α H) -> aWp Go.Proofs.Try.prog N x (ZcZ K Q) α H) : aWp Go.Proofs.Try.prog N (.seq x y) Q α H := Znl fun _ k => h k
theorem ab_ {f : FuncId} {fn : Func} {c : Code} {args : Array Value} {K : Value -> AH -> Prop} (hf : Go.Proofs.Try.prog.funcs[f]? = some fn) (h : aWp Go.Proofs.Try.prog fn.ntmps c (ZdS Go.Proofs.Try.prog fn K) (Zhl args) H) (hb : fn.body = some c := by rfl) (hn : Nat.ble args.size fn.ntmps = true := by rfl) : ACalls Go.Proofs.Try.prog f args H K := Zds mixed hf hb (Nat.le_of_ble_eq_true hn) h
theorem br_ {fn : Func} {K : Value -> AH -> Prop} (vs : List Value) (k : K (Zeu vs) H) (h : Zcd Go.Proofs.Try.prog α H fn.results.toList = some vs := by kernel_rfl) : ZdS Go.Proofs.Try.prog fn K .ret α H := Zan h k
theorem nr_ {fn : Func} {K : Value -> AH -> Prop} (vs : List Value) (k : K (Zeu vs) H) (h : Zcd Go.Proofs.Try.prog α H fn.results.toList = some vs := by kernel_rfl) : ZdS Go.Proofs.Try.prog fn K .normal α H := ZeY h k
theorem ra_ (t p : Nat) (hw : WF H) (h : Row H b cs) (vs cs' : List Value) (hx : (Value.agg vs.toArray).cells.toList = vs := by kernel_rfl) (hs : (Go.Proofs.Try.prog.info? t).map (·.size) = some vs.length := by kernel_rfl) (h1 : Zs vs = true := by kernel_rfl) (hl : Nat.ble (p + vs.length) cs.length = true := by kernel_rfl) (hcs : Z2 cs p vs = cs' := by kernel_rfl) : ∃ H', Zb1 Go.Proofs.Try.prog t (.pointer (some ⟨b, p, none⟩)) (.agg vs.toArray) H = some H' /\ FrS [b] H H' /\ Row H' b cs' := Row.store hw h _ vs hx hs h1 (Nat.le_of_ble_eq_true hl) cs' hcs
theorem rb_ (t p : Nat) (hw : WF H) (h : Row H b cs) (v : Value) (cs' : List Value) (hx : v.cells.toList = [v] := by kernel_rfl) (hs : (Go.Proofs.Try.prog.info? t).map (·.size) = some [v].length := by kernel_rfl) (h1 : Zs [v] = true := by kernel_rfl) (hl : Nat.ble (p + [v].length) cs.length = true := by kernel_rfl) (hcs : Z2 cs p [v] = cs' := by kernel_rfl) : ∃ H', Zb1 Go.Proofs.Try.prog t (.pointer (some ⟨b, p, none⟩)) v H = some H' /\ FrS [b] H H' /\ Row H' b cs' := Row.store hw h _ [v] hx hs h1 (Nat.le_of_ble_eq_true hl) cs' hcs
end
section
variable {H H1 H2 : AH} {W S : Fp}
theorem fr_ (h : WF H) : FrS W H H := .refl h
theorem fs_ (hw : WF H) (h : FrS W H H1) (k : FrS S H1 H2) (hi : Inn W H S) : FrS W H H2 := .step hw h k hi
theorem bs_ {α β : Type} {x : Option α} {f : α -> Option β} {r : β} (h : x.bind f = some r) : ∃ y, x = some y /\ f y = some r := bind_some h
theorem lt_ {n : Nat} : n < n + 1 := Nat.lt_succ_self n
theorem dn_ {a : Fp} : Dj [] a := Dj.nil_l
theorem in_ : Inn W H [] := Inn.nil
theorem ir_ : Inn W H W := Inn.refl'
end
end Go.Vd

/-! (InA) -/

set_option maxRecDepth 100000
set_option maxHeartbeats 4000000
set_option linter.unusedVariables false
set_option linter.unusedSimpArgs false
namespace Go.Vd
section
variable {α : Type}
theorem ZlO {a r u : List α} {i m : Nat} {y : α} (ha : a.length = i) (hr : r.length = m + 1) (hu : u.length = m) :
  ((a ++ r).take i ++ [y] ++ (a ++ r).drop (i + 1)).take (i + 1) ++ u ++ ((a ++ r).take i ++ [y] ++ (a ++ r).drop (i + 1)).drop (i + 1 + m) = a ++ ([y] ++ u) := by
 subst ha; subst hu
 have h1 : (a ++ r).take a.length = a := List.take_left
 have h2 : (a ++ r).drop (a.length + 1) = r.drop 1 := by rw [List.drop_append]; simp
 rw [h1, h2]
 have h3 : (a ++ [y] ++ r.drop 1).take (a.length + 1) = a ++ [y] := by
  have : (a ++ [y]).length = a.length + 1 := by simp
  rw [← this]; exact List.take_left
 have h4 : (a ++ [y] ++ r.drop 1).drop (a.length + 1 + u.length) = [] := List.drop_eq_nil_of_le (by simp; omega)
 rw [h3, h4]; simp
theorem Zly {a J u : List α} {i m : Nat} {y : α} (ha : a.length = i) (hJ : 1 ≤ J.length) (hu : u.length = m) :
  ((a ++ u ++ J).take (i + 1) ++ u ++ (a ++ u ++ J).drop (i + 1 + m)).take i ++ [y] ++ ((a ++ u ++ J).take (i + 1) ++ u ++ (a ++ u ++ J).drop (i + 1 + m)).drop (i + 1) = a ++ ([y] ++ u) ++ J.drop 1 := by
 subst ha; subst hu
 have h1 : ((a ++ u ++ J).take (a.length + 1)).length = a.length + 1 := by rw [List.length_take]; simp; omega
 have h2 : (a ++ u ++ J).drop (a.length + 1 + u.length) = J.drop 1 := by
  have : a.length + 1 + u.length = (a ++ u).length + 1 := by simp; omega
  rw [this, List.drop_append]; simp
 rw [h2]
 have h3 : ((a ++ u ++ J).take (a.length + 1) ++ u ++ J.drop 1).take a.length = a := by
  rw [List.append_assoc, List.take_append_of_le_length (by omega), List.take_take, Nat.min_eq_left (by omega), List.append_assoc]; exact List.take_left
 have h4 : ((a ++ u ++ J).take (a.length + 1) ++ u ++ J.drop 1).drop (a.length + 1) = u ++ J.drop 1 := by
  have : ((a ++ u ++ J).take (a.length + 1) ++ (u ++ J.drop 1)).drop ((a ++ u ++ J).take (a.length + 1)).length = u ++ J.drop 1 := List.drop_left
  rw [h1] at this
  rw [List.append_assoc]; exact this
 rw [h3, h4]; simp
end
section
variable [Pins]
variable {H : AH} {E : Type} {enc : E -> List Value} {s t : Value} {xs : List E} {y : E} {fp ft : Fp} {i j : Int}
structure InS (enc : E -> List Value) (H : AH) (s : Value) (xs : List E) (fs : Fp) : Prop where
 ow : Ow enc 3 H s xs fs
 is : ((s = .slice none 0 0 ∨ s = Zbu) /\ xs = []) ∨ ∃ b c J, s = .slice (some ⟨b, 0, none⟩) xs.length c /\ fs = [b] /\ Rw H b .own 3 (xs.map enc ++ J) /\ xs.length + J.length = c
theorem ZiI {f : FuncId} {rest : List Value} {P : Program} {R : List E} (wf : WF H) (h : Ow enc 3 H s xs fp)
  (k : ∀ s' H' fs, WF H' -> FrS fp H H' -> InS enc H' s' xs fs -> Inn fp H fs -> ACalls P f (s' :: rest).toArray H' fun v H2 => ∃ fp', FrS fs H' H2 /\ Ow enc 3 H2 v R fp' /\ Inn fs H' fp') :
  ACalls P f (s :: rest).toArray H fun v H2 => ∃ fp', FrS fp H H2 /\ Ow enc 3 H2 v R fp' /\ Inn fp H fp' := by
 have fin : ∀ {s'} {H'} {fs : Fp}, FrS fp H H' -> Inn fp H fs -> ACalls P f (s' :: rest).toArray H' (fun v H2 => ∃ fp', FrS fs H' H2 /\ Ow enc 3 H2 v R fp' /\ Inn fs H' fp') ->
   ACalls P f (s' :: rest).toArray H' fun v H2 => ∃ fp', FrS fp H H2 /\ Ow enc 3 H2 v R fp' /\ Inn fp H fp' := fun hf hi hk =>
  hk.mono fun v H2 ⟨f', a, b, c⟩ => ⟨f', hf.step wf a hi, b, hi.trans hf.next c⟩
 refine ACalls.spread wf h (fun hx hs => ?_) (fun hx => ?_) (fun H2 b c R' hf hb hn hg hl ho hc hcell => ?_)
 ·subst hx; subst hs
  exact fin (.refl wf) Inn.nil (k _ H [] wf (.refl wf) ⟨.nil (by decide), .inl ⟨.inl rfl, rfl⟩⟩ Inn.nil)
 ·subst hx
  exact fin (.refl wf) Inn.nil (k _ H [] wf (.refl wf) ⟨.void (by decide), .inl ⟨.inr rfl, rfl⟩⟩ Inn.nil)
 ·have hlo : (∀ x ∈ xs, (enc x).length = 3) /\ ∀ x ∈ xs, Zs (enc x) = true := by
   rcases h.is with ⟨_, rfl⟩ | ⟨φ, _, o⟩
   ·exact ⟨fun x hx => (by cases hx), fun x hx => (by cases hx)⟩
   ·exact ⟨o.len, o.one⟩
  have hlt : b < H2.next := by omega
  obtain ⟨J, hr, hJ⟩ := Rw.of (enc := enc) (xs := xs) hlt (by decide) hg hl hc hlo.1 hcell
  have hin : Inn fp H [b] := fun t ht => .inr (by rw [List.mem_singleton.1 ht]; omega)
  exact fin hf hin (k _ H2 [b] hf.wf hf ⟨hr.ow (.inl ⟨rfl, rfl⟩) rfl hlo.2 hlt rfl (by simpa using hJ), .inr ⟨b, c, J, rfl, rfl, hr, hJ⟩⟩ hin)
end
end Go.Vd

/-! (InB) -/

set_option maxRecDepth 100000
set_option maxHeartbeats 4000000
set_option linter.unusedVariables false
set_option linter.unusedSimpArgs false
namespace Go.Vd
section
variable [Pins]
variable {H : AH} {E : Type} {enc : E -> List Value} {s t : Value} {xs : List E} {y : E} {fs ft : Fp} {i : Int}
attribute [local irreducible] Zm Zp aWp
theorem ZkW (wf : WF H) (hs : InS enc H s xs fs) (ht : Ow enc 3 H t [y] ft) (dj : Dj fs ft) (g : 0 ≤ i /\ i ≤ (xs.length : Int) /\ (xs.length : Int) ≤ 1000000000) :
  ACalls Go.Proofs.Try.prog 65 #[s, .int .i64 i, t] H fun v H' => ∃ fp', FrS fs H H' /\ Ow enc 3 H' v (xs.take i.toNat ++ ([y] ++ xs.drop i.toNat)) fp' /\ Inn fs H fp' := by
 obtain ⟨g0, g1, g2⟩ := g
 obtain ⟨tb, tc, kt, ct, rfl, tlt, tg, tk, tlen, tcell, ty, ty1⟩ : ∃ tb tc kt ct, t = .slice (some ⟨tb, 0, none⟩) 1 tc /\ tb < H.next /\ H.get tb = some (.row kt ct) /\ (kt ≠ .ro /\ ZE H tb ∈ ft) /\ 3 ≤ ct.length /\ H.cells tb 0 (1 * 3) = some ([enc y].flatMap id) /\ (enc y).length = 3 /\ Zs (enc y) = true := by
  rcases ht.is with ⟨_, h⟩ | ⟨φ, hφ, o⟩
  ·cases h
  rcases o.is with ⟨_, h⟩ | ⟨b, c, k, cs, e1, e2, e3, e4, e5, e6, e7⟩
  ·cases h
  have hl := o.len y (List.mem_singleton.2 rfl)
  have e5' : 1 ≤ c := e5
  refine ⟨b, c, k, cs, e1, e2, e3, ⟨?_, ?_⟩, by omega, ?_, hl, o.one y (List.mem_singleton.2 rfl)⟩
  ·rcases e4 with ⟨rfl, _⟩ | rfl <;> simp
  ·rcases e4 with ⟨rfl, rfl⟩ | rfl
   ·rw [show ZE H φ = φ by simp [ZE, e3]]; exact hφ
   ·rw [show ZE H b = φ by simp [ZE, e3]]; exact hφ
  ·rcases ht.sq.src with ⟨h, _⟩ | h
   ·rw [e1] at h; simp [Zbu] at h
   ·rw [e1] at h
    have := h.cells.2
    simpa using this
 refine Zds mixed Go.Proofs.Try.func65 rfl (Nat.le_of_ble_eq_true rfl) ?_
 refine sq_ fun k1 => g_' (q_ (.slice none 0 0) (Za (k1 _ _ (sq_ fun k2 => g_' (q_ s (q_ (.int .i64 i) ?_))))))
 obtain ⟨v1, hv1⟩ : ∃ v, ZH Go.Proofs.Try.prog 69 s (some (.int .i64 i)) none none H = some v := by
  rcases hs.is with ⟨hs0, rfl⟩ | ⟨b, c, J, rfl, _, hr, hJ⟩
  ·obtain rfl : i = 0 := by simp at g1; omega
   obtain ⟨m, z, hT⟩ := ZaI (P := Go.Proofs.Try.prog) (t := 69) (n := 3) (by kernel_rfl)
   obtain ⟨e, inf, hu, hi, _⟩ := Zas hT
   rcases hs0 with rfl | rfl
   ·exact ⟨_, by unfold ZH; simp only [hu, hi]; simp [ZX]; rfl⟩
   ·exact ⟨_, by unfold ZH Zbu; simp only [hu, hi]; simp [ZX]; rfl⟩
  ·exact hr.slo0 (by simp) (by kernel_rfl) g0 (by omega) (by omega)
 refine Zba v1 (x := ZH Go.Proofs.Try.prog 69 s (some (.int .i64 i)) none none H) (by kernel_rfl) hv1 ?_
 refine Za (k2 _ _ (sq_ fun k3 => g_' (q_ (.slice (some ⟨tb, 0, none⟩) 1 tc) ?_)))
 refine Zba (.int .i64 1) (x := Zcn Go.Proofs.Try.prog 69 (.slice (some ⟨tb, 0, none⟩) 1 tc) H) (by kernel_rfl) (ht.sq.lenb (by kernel_rfl)) ?_
 refine q_ (.int .i64 1) (Za (k3 _ _ (sq_ fun k5 => sq_ fun k4 => g_' (q_ (.int .i64 1) (q_ (.bool false) (Za (k4 _ _ ?_)))))))
 refine Zjj false (by kernel_rfl) rfl (fun h => by cases h) (fun _ => ?_)
 refine Zf (k5 _ _ (sq_ fun k6 => g_' (q_ s ?_)))
 refine Zba (.int .i64 xs.length) (x := Zcn Go.Proofs.Try.prog 69 s H) (by kernel_rfl) (hs.ow.sq.lenb (by kernel_rfl)) ?_
 refine q_ (.int .i64 xs.length) (Za (k6 _ _ (sq_ fun k8 => sq_ fun k7 => g_' (q_ (.int .i64 i) (q_ (.int .i64 xs.length) (q_ (.bool (decide (i = (xs.length : Int)))) (Za (k7 _ _ ?_))))))))
 refine Zgz (i = (xs.length : Int)) (by kernel_rfl) rfl (fun h => ?_) (fun hi => ?_)
 ·refine sq_ fun k9 => g_' (q_ s (q_ (.slice (some ⟨tb, 0, none⟩) 1 tc) ?_))
  obtain ⟨s2, H2, f2, ha, hf, ho2, hi2⟩ := Ow.append (P := Go.Proofs.Try.prog) 24 wf hs.ow ht.sq (fun x hx => by rw [List.mem_singleton.1 hx]; exact ty1) (at_ := #[69, 69]) rfl rfl (by kernel_rfl) (by kernel_rfl) (by decide) (by simp only [List.length_cons, List.length_nil]; omega)
  refine ZaY s2 (x := Zaf Go.Proofs.Try.prog #[69, 69] s (.slice (some ⟨tb, 0, none⟩) 1 tc) H) (by kernel_rfl) ha ?_
  refine q_ s2 (Za (k9 _ _ ?_))
  refine Zg ?_
  dsimp only [ZcZ]
  refine Zan (vs := [s2]) (ZcG (by kernel_rfl) (rfl)) ?_
  refine ⟨f2, hf, ?_, hi2⟩
  rw [h, Int.toNat_natCast, List.take_length, List.drop_length, List.append_nil]
  exact ho2
 rcases hs.is with ⟨_, rfl⟩ | ⟨b, c, J, rfl, rfl, hr, hJ⟩
 ·simp at hi g1; omega
 have hmap : (xs.map enc).length = xs.length := List.length_map ..
 have hcl : (xs.map enc ++ J).length = c := by rw [List.length_append, hmap]; exact hJ
 have hone : ∀ x ∈ xs, Zs (enc x) = true := by
  rcases hs.ow.is with ⟨_, rfl⟩ | ⟨φ, _, o⟩
  ·intro x hx; cases hx
  ·exact o.one
 have hlen3 : ∀ x ∈ xs, (enc x).length = 3 := fun x hx => hr.len _ (List.mem_append_left _ (List.mem_map_of_mem hx))
 have htok : ZE H b = b := by simp [ZE, hr.get]
 have htb : tb ≠ b := fun e => dj b (List.mem_singleton.2 rfl) (by rw [← htok]; rw [← e]; exact tk.2)
 have hdl : ((xs.drop i.toNat).map enc).length = xs.length - i.toNat := by simp
 have hd3 : ∀ x ∈ (xs.drop i.toNat).map enc, x.length = 3 := fun x hx => by
  obtain ⟨u, hu, rfl⟩ := List.mem_map.1 hx
  exact hlen3 u (List.mem_of_mem_drop hu)
 have hyl : ∀ x ∈ [enc y], x.length = 3 := fun x hx => by rw [List.mem_singleton.1 hx]; exact ty
 have hal : ((xs.take i.toNat).map enc).length = i.toNat := by simp; omega
 have hsplit : xs.map enc = (xs.take i.toNat).map enc ++ (xs.drop i.toNat).map enc := by rw [← List.map_append, List.take_append_drop]
 have hus : ((xs.map enc ++ J).drop i.toNat).take (xs.length - i.toNat) = (xs.drop i.toNat).map enc := by
  have e1 : ((xs.take i.toNat).map enc ++ ((xs.drop i.toNat).map enc ++ J)).drop ((xs.take i.toNat).map enc).length = (xs.drop i.toNat).map enc ++ J := List.drop_left
  have e2 : ((xs.drop i.toNat).map enc ++ J).take ((xs.drop i.toNat).map enc).length = (xs.drop i.toNat).map enc := List.take_left
  rw [hal] at e1
  rw [hdl] at e2
  rw [hsplit, List.append_assoc, e1, e2]
 have hone' : ∀ x ∈ xs.take i.toNat ++ ([y] ++ xs.drop i.toNat), Zs (enc x) = true := fun x hx => by
  rcases List.mem_append.1 hx with hx | hx
  ·exact hone x (List.mem_of_mem_take hx)
  ·rcases List.mem_append.1 hx with hx | hx
   ·rw [List.mem_singleton.1 hx]; exact ty1
   ·exact hone x (List.mem_of_mem_drop hx)
 have hnl : (xs.take i.toNat ++ ([y] ++ xs.drop i.toNat)).length = xs.length + 1 := by simp; omega
 have hnmap : (xs.take i.toNat ++ ([y] ++ xs.drop i.toNat)).map enc = (xs.take i.toNat).map enc ++ ([enc y] ++ (xs.drop i.toNat).map enc) := by simp
 refine Zf (k8 _ _ (sq_ fun k11 => sq_ fun k10 => g_' (q_ (.int .i64 xs.length) (q_ (.int .i64 1) (w_' ((xs.length : Int) + 1) (Zo ⟨by omega, by omega⟩) (q_ (.slice (some ⟨b, 0, none⟩) xs.length c) ?_))))))
 refine Zba (.int .i64 c) (x := Zhe Go.Proofs.Try.prog 69 (.slice (some ⟨b, 0, none⟩) xs.length c) H) (by kernel_rfl) (hr.cap (by kernel_rfl)) ?_
 refine q_ (.bool (decide ((xs.length : Int) + 1 > (c : Int)))) (Za (k10 _ _ ?_))
 refine Zgz ((xs.length : Int) + 1 > (c : Int)) (by kernel_rfl) rfl (fun hc => ?_) (fun hc => ?_)
 ·-- a new row
  refine sq_ fun k12 => g_' (q_ (.slice (some ⟨b, 0, none⟩) xs.length c) (q_ (.int .i64 i) ?_))
  refine Zba (.slice (some ⟨b, 0, none⟩) i.toNat c) (x := ZH Go.Proofs.Try.prog 69 (.slice (some ⟨b, 0, none⟩) xs.length c) none (some (.int .i64 i)) none H) (by kernel_rfl) (hr.shi (by kernel_rfl) g0 (by omega)) ?_
  refine q_ (.int .i64 xs.length) (q_ (.int .i64 1) (w_' ((xs.length : Int) + 1) (Zo ⟨by omega, by omega⟩) (q_ (.int .i64 i) (w_' ((xs.length : Int) + 1 - i) (Zo ⟨by omega, by omega⟩) ?_))))
  obtain ⟨H2, zs, ha, he2, hn2, hr2⟩ := hr.grow (P := Go.Proofs.Try.prog) (at_ := #[69, 3]) (t0 := 69) (t1 := 3) (m := 24) (n := i.toNat) (c := c) (kk := .i64) (ki := .i64) (z := (xs.length : Int) + 1 - i) wf rfl rfl (by kernel_rfl) (by kernel_rfl) (by omega) (by omega) (by omega) (by decide) (by omega)
  rw [show i.toNat + ((xs.length : Int) + 1 - i).toNat = xs.length + 1 by omega] at ha
  have hJ0 : J = [] := List.eq_nil_of_length_eq_zero (by omega)
  subst hJ0
  rw [List.append_nil] at hr hus hr2
  rw [show (xs.map enc).take i.toNat = (xs.take i.toNat).map enc from (List.map_take ..).symm] at hr2
  generalize hz : List.replicate ((xs.length : Int) + 1 - i).toNat zs = Z at hr2
  have hzl : Z.length = xs.length - i.toNat + 1 := by rw [← hz, List.length_replicate]; omega
  refine ZaY (.slice (some ⟨H.next, 0, none⟩) (xs.length + 1) (xs.length + 1)) (x := Zaf Go.Proofs.Try.prog #[69, 3] (.slice (some ⟨b, 0, none⟩) i.toNat c) (.int .i64 ((xs.length : Int) + 1 - i)) H) (by kernel_rfl) ha ?_
  refine q_ (.slice (some ⟨H.next, 0, none⟩) (xs.length + 1) (xs.length + 1)) (Za (k12 _ _ (sq_ fun k13 => g_' (q_ (.slice (some ⟨H.next, 0, none⟩) (xs.length + 1) (xs.length + 1)) (q_ (.int .i64 i) ?_)))))
  refine Zba (.slice (some ⟨H.next, i.toNat * 3, none⟩) (xs.length + 1 - i.toNat) (xs.length + 1 - i.toNat)) (x := ZH Go.Proofs.Try.prog 69 (.slice (some ⟨H.next, 0, none⟩) (xs.length + 1) (xs.length + 1)) (some (.int .i64 i)) none none H2) (by kernel_rfl) (hr2.slo (by kernel_rfl) g0 (by omega) (by omega) (by omega)) ?_
  refine q_ (.slice (some ⟨tb, 0, none⟩) 1 tc) ?_
  have tcell2 : H2.cells tb 0 ([enc y].length * 3) = some ([enc y].flatMap id) := by
   rw [← tcell]; unfold AH.cells; rw [he2.same tb tlt]; rfl
  obtain ⟨H3, hc3, f3, n3, r3⟩ := hr2.copy (P := Go.Proofs.Try.prog) (at_ := #[69, 69]) (t0 := 69) (m := 24) (o := i.toNat) (n1 := xs.length + 1 - i.toNat) (c1 := xs.length + 1 - i.toNat) (b2 := tb) (o2 := 0) (n2 := 1) (c2 := tc) (us := [enc y]) (φ := H.next) he2.wf (.inr rfl) rfl (by kernel_rfl) tcell2 (by simp only [List.length_cons, List.length_nil]; omega) hyl (by rw [List.length_append, hal, hzl]; simp only [List.length_cons, List.length_nil]; omega)
  refine ZaY _ (x := ZdH Go.Proofs.Try.prog #[69, 69] (.slice (some ⟨H.next, i.toNat * 3, none⟩) (xs.length + 1 - i.toNat) (xs.length + 1 - i.toNat)) (.slice (some ⟨tb, 0, none⟩) 1 tc) H2) (by kernel_rfl) hc3 ?_
  refine Za (k13 _ _ ?_)
  have hbn : b < H2.next := by have := hr.lt; omega
  have hrb : Rw H3 b .own 3 (xs.map enc) := (hr.fr (he2.frS []) (fun h => by cases h)).fr (f3.frS (W := [H.next]) (List.mem_singleton.2 rfl)) (by
   have : ZE H2 b = b := by simp [ZE, he2.same b hr.lt, hr.get]
   rw [this]; intro h; have := List.mem_singleton.1 h; have := hr.lt; omega)
  refine sq_ fun k14 => ?_
  refine ZW [0, 1, 2, 3, 4, 5, 6, 7, 8] (by kernel_rfl) ?_
  refine ZcP (.slice (some ⟨H.next, 0, none⟩) (xs.length + 1) (xs.length + 1)) (by kernel_rfl) ?_
  refine ZcP (.int .i64 i) (by kernel_rfl) ?_
  refine ZcP (.int .i64 1) (by kernel_rfl) ?_
  refine d_w (i + 1) (k := .i64) (x := i + 1) (by kernel_rfl) (Zo ⟨by omega, by omega⟩) ?_
  refine ZdL (.slice (some ⟨H.next, (i + 1).toNat * 3, none⟩) (xs.length + 1 - (i + 1).toNat) (xs.length + 1 - (i + 1).toNat)) (x := ZH Go.Proofs.Try.prog 69 (.slice (some ⟨H.next, 0, none⟩) (xs.length + 1) (xs.length + 1)) (some (.int .i64 (i + 1))) none none H3) (by kernel_rfl) (r3.slo (by kernel_rfl) (by omega) (by omega) (by omega) (by omega)) ?_
  refine ZcP (.slice (some ⟨b, 0, none⟩) xs.length c) (by kernel_rfl) ?_
  refine ZcP (.int .i64 i) (by kernel_rfl) ?_
  refine ZdL (.slice (some ⟨b, i.toNat * 3, none⟩) (xs.length - i.toNat) (c - i.toNat)) (x := ZH Go.Proofs.Try.prog 69 (.slice (some ⟨b, 0, none⟩) xs.length c) (some (.int .i64 i)) none none H3) (by kernel_rfl) (hrb.slo (by kernel_rfl) (by omega) (by omega) (by omega) (by omega)) ?_
  have ccell : H3.cells b (i.toNat * 3) (((xs.drop i.toNat).map enc).length * 3) = some (((xs.drop i.toNat).map enc).flatMap id) := by
   rw [hdl]
   have := hrb.cells (o := i.toNat) (n := xs.length - i.toNat) (by rw [hmap]; omega)
   rw [hus] at this; exact this
  obtain ⟨H4, hc4, f4, n4, r4⟩ := r3.copy (P := Go.Proofs.Try.prog) (at_ := #[69, 69]) (t0 := 69) (m := 24) (o := (i + 1).toNat) (n1 := xs.length + 1 - (i + 1).toNat) (c1 := xs.length + 1 - (i + 1).toNat) (b2 := b) (o2 := i.toNat * 3) (n2 := xs.length - i.toNat) (c2 := c - i.toNat) (us := (xs.drop i.toNat).map enc) (φ := H.next) f3.wf (.inr rfl) rfl (by kernel_rfl) ccell (by rw [hdl]; omega) hd3
   (by rw [hdl]; simp only [List.length_append, List.length_take, List.length_drop, hal, hzl, List.length_cons, List.length_nil]; omega)
  refine Zg3 _ (x := ZdH Go.Proofs.Try.prog #[69, 69] (.slice (some ⟨H.next, (i + 1).toNat * 3, none⟩) (xs.length + 1 - (i + 1).toNat) (xs.length + 1 - (i + 1).toNat)) (.slice (some ⟨b, i.toNat * 3, none⟩) (xs.length - i.toNat) (c - i.toNat)) H3) (by kernel_rfl) hc4 trivial ?_
  refine ZR ?_
  refine k14 _ _ (sq_ fun k15 => g_' (q_ (.slice (some ⟨H.next, 0, none⟩) (xs.length + 1) (xs.length + 1)) (q_ (.slice (some ⟨H.next, 0, none⟩) (xs.length + 1) (xs.length + 1)) (Za (k15 _ _ ?_)))))
  refine Zg ?_
  dsimp only [ZcZ]
  refine Zan (vs := [.slice (some ⟨H.next, 0, none⟩) (xs.length + 1) (xs.length + 1)]) (ZcG (by kernel_rfl) (rfl)) ?_
  have hfin := ZlO (y := enc y) hal hzl hdl
  rw [hdl, show (i + 1).toNat = i.toNat + 1 by omega] at r4
  rw [show ([enc y] : List (List Value)).length = 1 from rfl, hfin] at r4
  have hlt4 : H.next < H4.next := by omega
  refine ⟨[H.next], ?_, r4.ow (.inr rfl) (J := []) (by rw [hnmap, List.append_nil]) hone' hlt4 hnl ?_, fun u hu => .inr (by rw [List.mem_singleton.1 hu]; exact Nat.le_refl _)⟩
  ·have a1 : FrS [b] H H2 := he2.frS [b]
   have hin : Inn [b] H [H.next] := fun u hu => .inr (by rw [List.mem_singleton.1 hu]; exact Nat.le_refl _)
   have a2 := a1.step wf (f3.frS (W := [H.next]) (List.mem_singleton.2 rfl)) hin
   exact a2.step wf (f4.frS (W := [H.next]) (List.mem_singleton.2 rfl)) hin
  ·simp only [List.length_append, hal, hdl, List.length_cons, List.length_nil]; omega
 -- in place
 refine Zf (k11 _ _ ?_)
 have hJ1 : 1 ≤ J.length := by omega
 have hn1 : ((xs.length : Int) + 1).toNat = xs.length + 1 := by omega
 refine sq_ fun k21 => g_' (q_ (.slice (some ⟨b, 0, none⟩) xs.length c) (q_ (.int .i64 xs.length) (q_ (.int .i64 1) (w_' ((xs.length : Int) + 1) (Zo ⟨by omega, by omega⟩) ?_))))
 refine Zba (.slice (some ⟨b, 0, none⟩) (xs.length + 1) c) (x := ZH Go.Proofs.Try.prog 69 (.slice (some ⟨b, 0, none⟩) xs.length c) none (some (.int .i64 ((xs.length : Int) + 1))) none H) (by kernel_rfl) (by have := hr.shi (P := Go.Proofs.Try.prog) (t := 69) (kk := .i64) (i := (xs.length : Int) + 1) (n := xs.length) (c := c) (by kernel_rfl) (by omega) (by omega); rw [hn1] at this; exact this) ?_
 refine q_ (.slice (some ⟨b, 0, none⟩) (xs.length + 1) c) (Za (k21 _ _ (sq_ fun k23 => sq_ fun k22 => g_' (q_ (.slice (some ⟨tb, 0, none⟩) 1 tc) (q_ (.slice (some ⟨b, 0, none⟩) (xs.length + 1) c) (q_ (.int .i64 i) (q_ (.int .i64 1) (w_' (i + 1) (Zo ⟨by omega, by omega⟩) ?_))))))))
 have hsl2 : ZH Go.Proofs.Try.prog 69 (.slice (some ⟨b, 0, none⟩) (xs.length + 1) c) (some (.int .i64 (i + 1))) none none H = some (.slice (some ⟨b, (i + 1).toNat * 3, none⟩) (xs.length + 1 - (i + 1).toNat) (c - (i + 1).toNat)) := hr.slo (by kernel_rfl) (by omega) (by omega) (by omega) (by omega)
 have hsl1 : ZH Go.Proofs.Try.prog 69 (.slice (some ⟨b, 0, none⟩) (xs.length + 1) c) (some (.int .i64 i)) none none H = some (.slice (some ⟨b, i.toNat * 3, none⟩) (xs.length + 1 - i.toNat) (c - i.toNat)) := hr.slo (by kernel_rfl) (by omega) (by omega) (by omega) (by omega)
 refine Zba (.slice (some ⟨b, (i + 1).toNat * 3, none⟩) (xs.length + 1 - (i + 1).toNat) (c - (i + 1).toNat)) (x := ZH Go.Proofs.Try.prog 69 (.slice (some ⟨b, 0, none⟩) (xs.length + 1) c) (some (.int .i64 (i + 1))) none none H) (by kernel_rfl) hsl2 ?_
 refine s_ov (g := 77) (fn := Go.Proofs.Try.f77) (tS := 69) (tR := 4) (tb := tb) (tc := tc) (b := b) (off := (i + 1).toNat * 3) (n := xs.length + 1 - (i + 1).toNat) (c := c - (i + 1).toNat) (sz := 3) (kt := kt) (ct := ct) rfl (by kernel_rfl) (by kernel_rfl) Go.Proofs.Try.func77 (by kernel_rfl) (by kernel_rfl) (by kernel_rfl) (by kernel_rfl) (by kernel_rfl) (by kernel_rfl) (by kernel_rfl) (by omega) tg tk.1 hr.get ?_ htb ?_
 ·rw [ZaC (enc := id) hr.len]; omega
 refine q_ (.bool true) (Za (k22 _ _ ?_))
 refine Zjj true (by kernel_rfl) rfl (fun _ => ?_) (fun h => by cases h)
 refine sq_ fun k24 => ?_
 refine ZW [0, 1, 2, 3, 4, 5, 6, 7, 8] (by kernel_rfl) ?_
 refine ZcP (.slice (some ⟨b, 0, none⟩) (xs.length + 1) c) (by kernel_rfl) ?_
 refine ZcP (.int .i64 i) (by kernel_rfl) ?_
 refine ZcP (.int .i64 1) (by kernel_rfl) ?_
 refine d_w (i + 1) (k := .i64) (x := i + 1) (by kernel_rfl) (Zo ⟨by omega, by omega⟩) ?_
 refine ZdL (.slice (some ⟨b, (i + 1).toNat * 3, none⟩) (xs.length + 1 - (i + 1).toNat) (c - (i + 1).toNat)) (x := ZH Go.Proofs.Try.prog 69 (.slice (some ⟨b, 0, none⟩) (xs.length + 1) c) (some (.int .i64 (i + 1))) none none H) (by kernel_rfl) hsl2 ?_
 refine ZcP (.slice (some ⟨b, 0, none⟩) (xs.length + 1) c) (by kernel_rfl) ?_
 refine ZcP (.int .i64 i) (by kernel_rfl) ?_
 refine ZdL (.slice (some ⟨b, i.toNat * 3, none⟩) (xs.length + 1 - i.toNat) (c - i.toNat)) (x := ZH Go.Proofs.Try.prog 69 (.slice (some ⟨b, 0, none⟩) (xs.length + 1) c) (some (.int .i64 i)) none none H) (by kernel_rfl) hsl1 ?_
 have ccell : H.cells b (i.toNat * 3) (((xs.drop i.toNat).map enc).length * 3) = some (((xs.drop i.toNat).map enc).flatMap id) := by
  rw [hdl]
  have := hr.cells (o := i.toNat) (n := xs.length - i.toNat) (by rw [List.length_append, hmap]; omega)
  rw [hus] at this; exact this
 obtain ⟨H2, hc2, f2, n2, r2⟩ := hr.copy (P := Go.Proofs.Try.prog) (at_ := #[69, 69]) (t0 := 69) (m := 24) (o := (i + 1).toNat) (n1 := xs.length + 1 - (i + 1).toNat) (c1 := c - (i + 1).toNat) (b2 := b) (o2 := i.toNat * 3) (n2 := xs.length + 1 - i.toNat) (c2 := c - i.toNat) (us := (xs.drop i.toNat).map enc) (φ := b) wf (.inl ⟨rfl, rfl⟩) rfl (by kernel_rfl) ccell (by rw [hdl]; omega) hd3
  (by rw [hdl, List.length_append, hmap]; omega)
 refine Zg3 _ (x := ZdH Go.Proofs.Try.prog #[69, 69] (.slice (some ⟨b, (i + 1).toNat * 3, none⟩) (xs.length + 1 - (i + 1).toNat) (c - (i + 1).toNat)) (.slice (some ⟨b, i.toNat * 3, none⟩) (xs.length + 1 - i.toNat) (c - i.toNat)) H) (by kernel_rfl) hc2 trivial ?_
 refine ZR ?_
 refine k24 _ _ (sq_ fun k25 => g_' (q_ (.slice (some ⟨b, 0, none⟩) (xs.length + 1) c) (q_ (.int .i64 i) ?_)))
 refine Zba (.slice (some ⟨b, i.toNat * 3, none⟩) (xs.length + 1 - i.toNat) (c - i.toNat)) (x := ZH Go.Proofs.Try.prog 69 (.slice (some ⟨b, 0, none⟩) (xs.length + 1) c) (some (.int .i64 i)) none none H2) (by kernel_rfl) (r2.slo (by kernel_rfl) g0 (by omega) (by omega) (by omega)) ?_
 refine q_ (.slice (some ⟨tb, 0, none⟩) 1 tc) ?_
 have tcell2 : H2.cells tb 0 ([enc y].length * 3) = some ([enc y].flatMap id) := by
  rw [← tcell]; unfold AH.cells
  rw [f2.same tb tlt (fun e => dj b (List.mem_singleton.2 rfl) (by rw [← e]; exact tk.2))]; rfl
 obtain ⟨H3, hc3, f3, n3, r3⟩ := r2.copy (P := Go.Proofs.Try.prog) (at_ := #[69, 69]) (t0 := 69) (m := 24) (o := i.toNat) (n1 := xs.length + 1 - i.toNat) (c1 := c - i.toNat) (b2 := tb) (o2 := 0) (n2 := 1) (c2 := tc) (us := [enc y]) (φ := b) f2.wf (.inl ⟨rfl, rfl⟩) rfl (by kernel_rfl) tcell2 (by simp only [List.length_cons, List.length_nil]; omega) hyl
  (by simp only [List.length_append, List.length_take, List.length_drop, hdl, hmap, List.length_cons, List.length_nil]; omega)
 refine ZaY _ (x := ZdH Go.Proofs.Try.prog #[69, 69] (.slice (some ⟨b, i.toNat * 3, none⟩) (xs.length + 1 - i.toNat) (c - i.toNat)) (.slice (some ⟨tb, 0, none⟩) 1 tc) H2) (by kernel_rfl) hc3 ?_
 refine Za (k25 _ _ (sq_ fun k26 => g_' (q_ (.slice (some ⟨b, 0, none⟩) (xs.length + 1) c) (q_ (.slice (some ⟨b, 0, none⟩) (xs.length + 1) c) (Za (k26 _ _ ?_))))))
 refine Zg ?_
 dsimp only [ZcZ]
 refine Zan (vs := [.slice (some ⟨b, 0, none⟩) (xs.length + 1) c]) (ZcG (by kernel_rfl) (rfl)) ?_
 have hfin := Zly (y := enc y) hal hJ1 hdl
 rw [hdl, show (i + 1).toNat = i.toNat + 1 by omega, hsplit] at r3
 rw [show ([enc y] : List (List Value)).length = 1 from rfl, hfin] at r3
 have hlt3 : b < H3.next := r3.lt
 refine ⟨[b], ?_, r3.ow (.inl ⟨rfl, rfl⟩) (J := J.drop 1) (by rw [hnmap]) hone' hlt3 hnl ?_, Inn.self⟩
 ·exact (f2.frS (W := [b]) (List.mem_singleton.2 rfl)).step wf (f3.frS (W := [b]) (List.mem_singleton.2 rfl)) Inn.self
 ·simp only [List.length_append, hal, hdl, List.length_drop, List.length_cons, List.length_nil]; omega
end
end Go.Vd

/-! (InC) -/

set_option maxRecDepth 100000
set_option maxHeartbeats 4000000
set_option linter.unusedVariables false
set_option linter.unusedSimpArgs false
namespace Go.Vd
section
variable {α : Type}
theorem Zl2 {a d u J z : List α} {i j m : Nat} (ha : a.length = i) (hd : d.length = j) (hu : u.length = m) (hz : z.length = j) :
  ((a ++ (d ++ u) ++ J).take i ++ u ++ (a ++ (d ++ u) ++ J).drop (i + m)).take (i + m) ++ z ++ ((a ++ (d ++ u) ++ J).take i ++ u ++ (a ++ (d ++ u) ++ J).drop (i + m)).drop (i + m + j) = a ++ u ++ (z ++ J) := by
 subst ha; subst hd; subst hu
 have h1 : (a ++ (d ++ u) ++ J).take a.length = a := by rw [List.append_assoc]; exact List.take_left
 have hl : (a ++ u).length = a.length + u.length := List.length_append
 have h2 : ∀ W : List α, (a ++ u ++ W).take (a.length + u.length) = a ++ u := fun W => by rw [← hl]; exact List.take_left
 have h3 : ∀ W : List α, (a ++ u ++ W).drop (a.length + u.length + d.length) = W.drop d.length := fun W => by
  rw [← hl, ← List.drop_drop, List.drop_left]
 rw [h1, h2, h3, List.drop_drop]
 have h4 : (a ++ (d ++ u) ++ J).drop (a.length + u.length + d.length) = J := by
  have : a.length + u.length + d.length = (a ++ (d ++ u)).length := by simp; omega
  rw [this]; exact List.drop_left
 rw [h4]; simp
end
section
variable [Pins]
variable {H : AH} {E : Type} {enc : E -> List Value} {s t : Value} {xs : List E} {y : E} {fp fs ft : Fp} {i j : Int}
theorem ZlE (wf : WF H) (h : Ow enc 3 H s xs fp) (ht : Ow enc 3 H t [y] ft) (dj : Dj fp ft) (g : 0 ≤ i /\ i ≤ (xs.length : Int) /\ (xs.length : Int) ≤ 1000000000) :
  ACalls Go.Proofs.Try.prog 65 #[s, .int .i64 i, t] H fun v H' => ∃ fp', FrS fp H H' /\ Ow enc 3 H' v (xs.take i.toNat ++ ([y] ++ xs.drop i.toNat)) fp' /\ Inn fp H fp' :=
 ZiI (rest := [.int .i64 i, t]) wf h fun s' H' fs wf' hf hs hi => ZkW wf' hs (ht.fr hf dj) (hi.dj dj ht.lt) g
theorem Rw.app {P : Program} {b b2 o2 n2 c2 n c m : Nat} {css us : List (List Value)} {at_ : Array TypeId} {t0 t1 : TypeId} (hw : WF H) (h : Rw H b .own 3 css) (a0 : at_[0]? = some t0) (a1 : at_[1]? = some t1) (hT' : Ze7 P t0 = some (3, m)) (hT1' : Zdy P t1 = true)
  (hc : H.cells b2 o2 (us.length * 3) = some (us.flatMap id)) (hn2 : us.length = n2) (h1 : ∀ x ∈ us, Zs x = true) (hl : ∀ x ∈ us, x.length = 3) (hroom : n + us.length ≤ c) (hcc : css.length = c) :
  ∃ H', Zaf P at_ (.slice (some ⟨b, 0, none⟩) n c) (.slice (some ⟨b2, o2, none⟩) n2 c2) H = some (.slice (some ⟨b, 0, none⟩) (n + us.length) c, H') /\ Fr b H H' /\ H'.next = H.next /\ Rw H' b .own 3 (css.take n ++ us ++ css.drop (n + us.length)) := by
 subst hn2
 obtain ⟨z, hT⟩ := Zdi hT'
 obtain ⟨e1, hT1⟩ := Zdj hT1'
 obtain ⟨e, i, hu1, hi, hel, hs, hb⟩ := Zas hT
 have hone : Zs (us.flatMap id) = true := Ze5 (enc := id) h1
 have key : Zaf P at_ (.slice (some ⟨b, 0, none⟩) n c) (.slice (some ⟨b2, o2, none⟩) us.length c2) H = AH.append H 3 m (.slice (some ⟨b, 0, none⟩) n c) us.length (us.flatMap id) := by
  unfold Zaf
  rw [a0, a1]
  simp only [Option.bind_some, hel, hT1, hs, hb, hc, hone, if_true]
 have hlen := ZaC (enc := id) (sz := 3) hl
 rw [key]
 unfold AH.append
 rw [if_neg (by omega)]
 dsimp only
 rw [if_pos hroom]
 by_cases h0 : us.length = 0
 ·obtain rfl := List.eq_nil_of_length_eq_zero h0
  exact ⟨H, by simp, (Ext.refl hw).toFr b, rfl, by simpa using h⟩
 ·obtain ⟨H', p1, p2, p3, p4⟩ := h.put hw (.inl ⟨rfl, rfl⟩) (o := n) (us := us) hl (by omega)
  refine ⟨H', ?_, p2, p3, p4⟩
  rw [if_neg h0, Nat.zero_add, p1]; rfl
theorem Rw.clear {P : Program} {b o n c m : Nat} {css : List (List Value)} {at_ : Array TypeId} {t0 : TypeId} (hw : WF H) (h : Rw H b .own 3 css) (a0 : at_[0]? = some t0) (hT' : Ze7 P t0 = some (3, m)) (hroom : o + n ≤ css.length) :
  ∃ H' Z, Z.length = n /\ ZcM P at_ (.slice (some ⟨b, o * 3, none⟩) n c) H = some H' /\ Fr b H H' /\ H'.next = H.next /\ Rw H' b .own 3 (css.take o ++ Z ++ css.drop (o + n)) := by
 obtain ⟨z, hT⟩ := Zdi hT'
 obtain ⟨e, i, hu1, hi, hel, hs, hb⟩ := Zas hT
 have hzl : z.cells.toList.length = 3 := by
  unfold Zaq at hel
  rw [hu1] at hel
  dsimp only at hel
  rw [hi] at hel
  dsimp only at hel
  split at hel
  ·split at hel
   ·rename_i hh; cases hel; rw [← hs]; simpa using hh.1
   ·cases hel
  ·cases hel
 have hel0 : at_[0]?.bind (Zaq P) = some (e, i, z) := by rw [a0]; exact hel
 have hZ : ZZ z n = (List.replicate n z.cells.toList).flatMap id := by unfold ZZ; rw [List.flatMap_id]
 have hZl : (List.replicate n z.cells.toList).length = n := List.length_replicate
 obtain ⟨H', p1, p2, p3, p4⟩ := h.put hw (.inl ⟨rfl, rfl⟩) (o := o) (us := List.replicate n z.cells.toList) (fun x hx => by rw [(List.mem_replicate.1 hx).2]; exact hzl) (by rw [hZl]; exact hroom)
 by_cases h0 : n = 0
 ·subst h0
  refine ⟨H, [], rfl, ?_, (Ext.refl hw).toFr b, rfl, by simpa using h⟩
  unfold ZcM
  rw [hel0]
  simp
 ·refine ⟨H', List.replicate n z.cells.toList, hZl, ?_, p2, p3, by rw [hZl] at p4; exact p4⟩
  unfold ZcM
  rw [hel0]
  dsimp only
  rw [if_neg h0, hZ, p1]
attribute [local irreducible] Zm Zp aWp
theorem Zll (wf : WF H) (hs : InS enc H s xs fs) (g : 0 ≤ i /\ i ≤ j /\ j ≤ (xs.length : Int) /\ (xs.length : Int) ≤ 1000000000) :
  ACalls Go.Proofs.Try.prog 66 #[s, .int .i64 i, .int .i64 j] H fun v H' => ∃ fp', FrS fs H H' /\ Ow enc 3 H' v (xs.take i.toNat ++ xs.drop j.toNat) fp' /\ Inn fs H fp' := by
 obtain ⟨g0, g1, g2, g3⟩ := g
 refine Zds mixed Go.Proofs.Try.func66 rfl (Nat.le_of_ble_eq_true rfl) ?_
 refine sq_ fun k1 => g_' (q_ (.slice none 0 0) (Za (k1 _ _ (sq_ fun k2 => g_' (q_ s (q_ (.int .i64 i) (q_ (.int .i64 j) (q_ s ?_))))))))
 refine Zba (.int .i64 xs.length) (x := Zcn Go.Proofs.Try.prog 69 s H) (by kernel_rfl) (hs.ow.sq.lenb (by kernel_rfl)) ?_
 obtain ⟨b0, n0, c0, cb0, hs3, hc0⟩ : ∃ b0 n0 c0 cb0, (((s = .slice none 0 0 ∨ s = Zbu) /\ c0 = 0) ∨ (s = .slice (some ⟨b0, 0, none⟩) n0 c0 /\ H.get b0 = some (.row .own cb0))) /\ xs.length ≤ c0 := by
  rcases hs.is with ⟨h, rfl⟩ | ⟨b, c, J, h, _, hr, hJ⟩
  ·exact ⟨0, 0, 0, [], .inl ⟨h, rfl⟩, Nat.le_refl _⟩
  ·exact ⟨b, xs.length, c, _, .inr ⟨h, hr.get⟩, by omega⟩
 refine s_s3 (b := b0) (n := n0) (c := c0) (cb := cb0) (sz := 3) (s := s) (k1 := .i64) (k2 := .i64) (k3 := .i64) (i := i) (j := j) (m := xs.length) rfl (by kernel_rfl) (by kernel_rfl) (by kernel_rfl) hs3 (by kernel_rfl) (by kernel_rfl) (by kernel_rfl) g0 g1 g2 (by omega) fun v3 => ?_
 refine Za (k2 _ _ (sq_ fun k4 => sq_ fun k3 => g_' (q_ (.int .i64 i) (q_ (.int .i64 j) (q_ (.bool (decide (i = j))) (Za (k3 _ _ ?_)))))))
 refine Zgz (i = j) (by kernel_rfl) rfl (fun h => ?_) (fun hi => ?_)
 ·refine sq_ fun k9 => g_' (q_ s (q_ s (Za (k9 _ _ ?_))))
  refine Zg ?_
  dsimp only [ZcZ]
  refine Zan (vs := [s]) (ZcG (by kernel_rfl) (rfl)) ?_
  refine ⟨fs, .refl wf, ?_, Inn.self⟩
  rw [h, List.take_append_drop]
  exact hs.ow
 rcases hs.is with ⟨_, rfl⟩ | ⟨b, c, J, rfl, rfl, hr, hJ⟩
 ·simp at g2; omega
 have hmap : (xs.map enc).length = xs.length := List.length_map ..
 have hcl : (xs.map enc ++ J).length = c := by rw [List.length_append, hmap]; exact hJ
 have hone : ∀ x ∈ xs, Zs (enc x) = true := by
  rcases hs.ow.is with ⟨_, rfl⟩ | ⟨φ, _, o⟩
  ·intro x hx; cases hx
  ·exact o.one
 have hlen3 : ∀ x ∈ xs, (enc x).length = 3 := fun x hx => hr.len _ (List.mem_append_left _ (List.mem_map_of_mem hx))
 have hul : ((xs.drop j.toNat).map enc).length = xs.length - j.toNat := by simp
 have hu3 : ∀ x ∈ (xs.drop j.toNat).map enc, x.length = 3 := fun x hx => by
  obtain ⟨u, hu, rfl⟩ := List.mem_map.1 hx
  exact hlen3 u (List.mem_of_mem_drop hu)
 have hu1 : ∀ x ∈ (xs.drop j.toNat).map enc, Zs x = true := fun x hx => by
  obtain ⟨u, hu, rfl⟩ := List.mem_map.1 hx
  exact hone u (List.mem_of_mem_drop hu)
 have hal : ((xs.take i.toNat).map enc).length = i.toNat := by simp; omega
 have hdl : (((xs.drop i.toNat).take (j.toNat - i.toNat)).map enc).length = j.toNat - i.toNat := by simp; omega
 have hsplit : xs.map enc = (xs.take i.toNat).map enc ++ (((xs.drop i.toNat).take (j.toNat - i.toNat)).map enc ++ (xs.drop j.toNat).map enc) := by
  have e1 : xs.drop j.toNat = (xs.drop i.toNat).drop (j.toNat - i.toNat) := by rw [List.drop_drop]; congr 1; omega
  rw [e1, ← List.map_append, ← List.map_append, List.take_append_drop, List.take_append_drop]
 have hus : ((xs.map enc ++ J).drop j.toNat).take (xs.length - j.toNat) = (xs.drop j.toNat).map enc := by
  rw [List.drop_append_of_le_length (by omega), ← List.map_drop, List.take_append_of_le_length (by omega), ← hul, List.take_length]
 have hone' : ∀ x ∈ xs.take i.toNat ++ xs.drop j.toNat, Zs (enc x) = true := fun x hx => by
  rcases List.mem_append.1 hx with hx | hx
  ·exact hone x (List.mem_of_mem_take hx)
  ·exact hone x (List.mem_of_mem_drop hx)
 have hnl : (xs.take i.toNat ++ xs.drop j.toNat).length = i.toNat + (xs.length - j.toNat) := by simp; omega
 refine Zf (k4 _ _ (sq_ fun k5 => g_' (q_ (.slice (some ⟨b, 0, none⟩) xs.length c) ?_)))
 refine Zba (.int .i64 xs.length) (x := Zcn Go.Proofs.Try.prog 69 (.slice (some ⟨b, 0, none⟩) xs.length c) H) (by kernel_rfl) (hs.ow.sq.lenb (by kernel_rfl)) ?_
 refine q_ (.int .i64 xs.length) (Za (k5 _ _ ?_))
 -- what stays is put behind the beginning
 obtain ⟨o2, c2, hsl, hcell⟩ : ∃ o2 c2, ZH Go.Proofs.Try.prog 69 (.slice (some ⟨b, 0, none⟩) xs.length c) (some (.int .i64 j)) none none H = some (.slice (some ⟨b, o2, none⟩) (xs.length - j.toNat) c2) /\ H.cells b o2 (((xs.drop j.toNat).map enc).length * 3) = some (((xs.drop j.toNat).map enc).flatMap id) := by
  by_cases hjc : j < (c : Int)
  ·refine ⟨_, _, hr.slo (by kernel_rfl) (by omega) g2 (by omega) hjc, ?_⟩
   rw [hul]
   have := hr.cells (o := j.toNat) (n := xs.length - j.toNat) (by rw [hcl]; omega)
   rw [hus] at this; exact this
  ·obtain ⟨m, z, hT⟩ := ZaI (P := Go.Proofs.Try.prog) (t := 69) (n := 3) (by kernel_rfl)
   obtain ⟨e, inf, hu, hi', _⟩ := Zas hT
   refine ⟨0, c - j.toNat, ?_, ?_⟩
   ·unfold ZH
    simp only [hu, hi', ZX, show 0 ≤ j by omega, if_true, hr.get]
    rw [if_pos (by omega), if_neg (by simp [AObj.isLoose]; omega)]
   ·rw [show (xs.drop j.toNat).map enc = [] from List.eq_nil_of_length_eq_zero (by omega)]
    have := hr.cells (o := 0) (n := 0) (by omega)
    simpa using this
 refine sq_ fun k6 => ?_
 refine ZW [0, 1, 2, 3, 4, 5, 6, 7] (by kernel_rfl) ?_
 refine ZcP (.slice (some ⟨b, 0, none⟩) xs.length c) (by kernel_rfl) ?_
 refine ZcP (.int .i64 i) (by kernel_rfl) ?_
 refine ZdL (.slice (some ⟨b, 0, none⟩) i.toNat c) (x := ZH Go.Proofs.Try.prog 69 (.slice (some ⟨b, 0, none⟩) xs.length c) none (some (.int .i64 i)) none H) (by kernel_rfl) (hr.shi (by kernel_rfl) g0 (by omega)) ?_
 refine ZcP (.slice (some ⟨b, 0, none⟩) xs.length c) (by kernel_rfl) ?_
 refine ZcP (.int .i64 j) (by kernel_rfl) ?_
 refine ZdL (.slice (some ⟨b, o2, none⟩) (xs.length - j.toNat) c2) (x := ZH Go.Proofs.Try.prog 69 (.slice (some ⟨b, 0, none⟩) xs.length c) (some (.int .i64 j)) none none H) (by kernel_rfl) hsl ?_
 obtain ⟨H2, ha2, f2, n2, r2⟩ := hr.app (P := Go.Proofs.Try.prog) (at_ := #[69, 69]) (t0 := 69) (t1 := 69) (m := 24) (n := i.toNat) (c := c) (b2 := b) (o2 := o2) (n2 := xs.length - j.toNat) (c2 := c2) (us := (xs.drop j.toNat).map enc) wf rfl rfl (by kernel_rfl) (by kernel_rfl) hcell hul hu1 hu3 (by rw [hul]; omega) hcl
 refine Zg3 _ (x := Zaf Go.Proofs.Try.prog #[69, 69] (.slice (some ⟨b, 0, none⟩) i.toNat c) (.slice (some ⟨b, o2, none⟩) (xs.length - j.toNat) c2) H) (by kernel_rfl) ha2 trivial ?_
 generalize hnn : i.toNat + ((xs.drop j.toNat).map enc).length = nn at r2
 refine ZcP (.slice (some ⟨b, 0, none⟩) nn c) (by kernel_rfl) ?_
 refine ZR ?_
 refine k6 _ _ ?_
 have hnn' : nn = i.toNat + (xs.length - j.toNat) := by rw [← hnn, hul]
 refine sq_ fun k7 => g_' (q_ (.slice (some ⟨b, 0, none⟩) nn c) (q_ (.slice (some ⟨b, 0, none⟩) nn c) ?_))
 refine Zba (.int .i64 nn) (x := Zcn Go.Proofs.Try.prog 69 (.slice (some ⟨b, 0, none⟩) nn c) H2) (by kernel_rfl) (by
  obtain ⟨e, hu⟩ := Zdj (P := Go.Proofs.Try.prog) (t := 69) (by kernel_rfl)
  unfold Zcn; simp only [hu]) ?_
 refine q_ (.int .i64 xs.length) ?_
 refine Zba (.slice (some ⟨b, nn * 3, none⟩) (xs.length - nn) (c - nn)) (x := ZH Go.Proofs.Try.prog 69 (.slice (some ⟨b, 0, none⟩) nn c) (some (.int .i64 nn)) (some (.int .i64 xs.length)) none H2) (by kernel_rfl) (by
  have := r2.sboth (P := Go.Proofs.Try.prog) (t := 69) (k1 := .i64) (k2 := .i64) (i := nn) (j := xs.length) (n := nn) (c := c) (by kernel_rfl) (by omega) (by omega) (by omega) (by omega)
  simpa using this) ?_
 have hr2l : ((xs.map enc ++ J).take i.toNat ++ (xs.drop j.toNat).map enc ++ (xs.map enc ++ J).drop nn).length = c := by
  simp only [List.length_append, List.length_take, List.length_drop, hul, hmap]; omega
 obtain ⟨H3, Z, hZ, ha3, f3, n3, r3⟩ := r2.clear (P := Go.Proofs.Try.prog) (at_ := #[69]) (t0 := 69) (m := 24) (o := nn) (n := xs.length - nn) (c := c - nn) f2.wf rfl (by kernel_rfl) (by rw [hr2l]; omega)
 refine ZaY (.tuple #[]) (x := (ZcM Go.Proofs.Try.prog #[69] (.slice (some ⟨b, nn * 3, none⟩) (xs.length - nn) (c - nn)) H2).map fun H' => (.tuple #[], H')) (by kernel_rfl) (by rw [ha3]; rfl) ?_
 refine Za (k7 _ _ (sq_ fun k8 => g_' (q_ (.slice (some ⟨b, 0, none⟩) nn c) (q_ (.slice (some ⟨b, 0, none⟩) nn c) (Za (k8 _ _ ?_))))))
 refine Zg ?_
 dsimp only [ZcZ]
 refine Zan (vs := [.slice (some ⟨b, 0, none⟩) nn c]) (ZcG (by kernel_rfl) (rfl)) ?_
 have hfin := Zl2 (z := Z) (J := J) hal hdl hul (by omega)
 rw [hnn', show i.toNat + (xs.length - j.toNat) + (xs.length - (i.toNat + (xs.length - j.toNat))) = i.toNat + (xs.length - j.toNat) + (j.toNat - i.toNat) by omega, hsplit, hfin] at r3
 refine ⟨[b], ?_, r3.ow (.inl ⟨rfl, rfl⟩) (J := Z ++ J) (by rw [List.map_append]) hone' r3.lt (by rw [hnl, hnn']) ?_, Inn.self⟩
 ·exact (f2.frS (W := [b]) (List.mem_singleton.2 rfl)).step wf (f3.frS (W := [b]) (List.mem_singleton.2 rfl)) Inn.self
 ·simp only [List.length_append, hal, hul, hZ]; omega
theorem ZlL (wf : WF H) (h : Ow enc 3 H s xs fp) (g : 0 ≤ i /\ i ≤ j /\ j ≤ (xs.length : Int) /\ (xs.length : Int) ≤ 1000000000) :
  ACalls Go.Proofs.Try.prog 66 #[s, .int .i64 i, .int .i64 j] H fun v H' => ∃ fp', FrS fp H H' /\ Ow enc 3 H' v (xs.take i.toNat ++ xs.drop j.toNat) fp' /\ Inn fp H fp' :=
 ZiI (rest := [.int .i64 i, .int .i64 j]) wf h fun s' H' fs wf' hf hs hi => Zll wf' hs g
end
end Go.Vd

/-! (VeP) -/

namespace Go.Vd
set_option linter.unusedSectionVars false
set_option linter.unusedVariables false
variable [Pins]
variable {P : Program} {H H' : AH} {E : Type}
def Zgs (enc : E -> List Value) (k : IntKind) (p : Int × E) : Value × Value := (.int k p.1, .agg (enc p.2).toArray)
def lkS : List (Int × E) -> Int -> Option E
 | [], _ => none
 | p :: l, k => if k = p.1 then some p.2 else lkS l k
structure Ms (ki : IntKind) (enc : E -> List Value) (H : AH) (b : Nat) (f : Int -> Option E) : Prop where
 lt : b < H.next
 is : ∃ m clock, H.get b = some (.map (m.map (Zgs enc ki)) clock) /\ (m.map (·.1)).Nodup /\ ∀ k, lkS m k = f k
variable {ki : IntKind} {enc : E -> List Value} {b : Nat} {f : Int -> Option E} {z : E} {W : Fp}
theorem Ms.ext (h : Ms ki enc H b f) (k : Ext H H') : Ms ki enc H' b f := by
 obtain ⟨m, c, h1, h2⟩ := h.is
 exact ⟨Nat.lt_of_lt_of_le h.lt k.next, m, c, (k.same b h.lt).trans h1, h2⟩
theorem Ms.frS (h : Ms ki enc H b f) (k : FrS W H H') (hd : Dj W [b]) : Ms ki enc H' b f := by
 obtain ⟨h1, m, clock, h2, h3⟩ := h
 exact ⟨Nat.lt_of_lt_of_le h1 k.next, m, clock, (k.same b h1 (by unfold ZE; rw [h2]; exact fun hm => hd _ hm (List.mem_singleton.2 rfl))).trans h2, h3⟩
theorem Ms.ltF (h : Ms ki enc H b f) : Lt H [b] := fun t ht => by rw [List.mem_singleton.1 ht]; exact h.lt
def Zjk (P : Program) (t : TypeId) : Option (TypeDesc × Value) :=
 match P.underlying t with
 | some (.map kt et) => match P.underlying kt, (P.info? et).bind (·.zero) with
  | some d, some y => some (d, y)
  | _, _ => none
 | _ => none
theorem Zf9 {t : TypeId} {zv : Value} (h : Zjk P t = some (.int ki, zv)) : ∃ kt et, P.underlying t = some (.map kt et) /\ P.underlying kt = some (.int ki) /\ (P.info? et).bind (·.zero) = some zv := by
 unfold Zjk at h
 split at h
 ·rename_i kt et hu
  split at h
  ·rename_i d y hd hy
   cases h
   exact ⟨kt, et, hu, hd, hy⟩
  ·cases h
 ·cases h
theorem ZfP (m : List (Int × E)) (k : Int) (i : Nat) : ∃ r, Zc0 (.int ki) (.int ki k) (m.map (Zgs enc ki)) i = some r /\ (match r with
  | none => lkS m k = none
  | some (j, v) => ∃ n x, j = i + n /\ m[n]? = some (k, x) /\ v = .agg (enc x).toArray /\ lkS m k = some x) := by
 induction m generalizing i with
 | nil => exact ⟨none, rfl, rfl⟩
 | cons p l ih =>
  simp only [List.map_cons, Zc0, Zgs, Instr.sameNow, if_true]
  by_cases hk : k = p.1
  ·refine ⟨some (i, .agg (enc p.2).toArray), ?_, 0, p.2, rfl, ?_, rfl, ?_⟩
   ·rw [show (k == p.1) = true from by simp [hk]]
   ·simp [hk]
   ·simp [lkS, hk]
  ·rw [show (k == p.1) = false from by simp [hk]]
   dsimp only
   obtain ⟨r, h1, h2⟩ := ih (i + 1)
   refine ⟨r, h1, ?_⟩
   cases r with
   | none => simp only [lkS, if_neg hk]; exact h2
   | some q =>
    obtain ⟨j, v⟩ := q
    obtain ⟨n, x, g1, g2, g3, g4⟩ := h2
    exact ⟨n + 1, x, by omega, by simpa using g2, g3, by simp only [lkS, if_neg hk]; exact g4⟩
theorem Ms.look (h : Ms ki enc H b f) (z : E) {t : TypeId} {zv v : Value} (hz : zv = .agg (enc z).toArray) (hp : plain zv = true) (ht : Zjk P t = some (.int ki, zv)) (k : Int) (hv : v = .agg (enc ((f k).getD z)).toArray) : ZcR P t (.map (some b)) (.int ki k) false H = some v := by
 subst hz hv
 obtain ⟨kt, et, h1, h2, h3⟩ := Zf9 ht
 obtain ⟨m, c, g1, g2, g3⟩ := h.is
 obtain ⟨r, r1, r2⟩ := ZfP (ki := ki) (enc := enc) m k 0
 unfold ZcR
 rw [h1]
 simp only [h2, h3, Zg6 h2, g1, hp]
 rw [if_pos (by rfl)]
 simp only [r1]
 rw [← g3]
 cases r with
 | none => rw [r2]; rfl
 | some q =>
  obtain ⟨j, v⟩ := q
  obtain ⟨n, x, _, _, e3, e4⟩ := r2
  rw [e4, e3]; rfl
theorem Ms.look2 (h : Ms ki enc H b f) (z : E) {t : TypeId} {zv v : Value} (hz : zv = .agg (enc z).toArray) (hp : plain zv = true) (ht : Zjk P t = some (.int ki, zv)) (k : Int) (hv : v = .tuple #[.agg (enc ((f k).getD z)).toArray, .bool (f k).isSome]) : ZcR P t (.map (some b)) (.int ki k) true H = some v := by
 subst hz hv
 obtain ⟨kt, et, h1, h2, h3⟩ := Zf9 ht
 obtain ⟨m, c, g1, g2, g3⟩ := h.is
 obtain ⟨r, r1, r2⟩ := ZfP (ki := ki) (enc := enc) m k 0
 unfold ZcR
 rw [h1]
 simp only [h2, h3, Zg6 h2, g1, hp]
 rw [if_pos (by rfl)]
 simp only [r1]
 rw [← g3]
 cases r with
 | none => rw [r2]; rfl
 | some q =>
  obtain ⟨j, v⟩ := q
  obtain ⟨n, x, _, _, e3, e4⟩ := r2
  rw [e4, e3]; rfl
theorem ZmH {m : List (Int × E)} {n : Nat} {k : Int} {x v : E} (hn : m[n]? = some (k, x)) (hd : (m.map (·.1)).Nodup) (y : Int) : lkS (m.set n (k, v)) y = if y = k then some v else lkS m y := by
 induction m generalizing n with
 | nil => simp at hn
 | cons p l ih =>
  cases n with
  | zero =>
   simp at hn; subst hn
   simp only [List.set_cons_zero, lkS]
   by_cases hy : y = k <;> simp [hy]
  | succ n =>
   simp only [List.map_cons, List.nodup_cons] at hd
   simp only [List.getElem?_cons_succ] at hn
   simp only [List.set_cons_succ, lkS]
   have hmem : k ∈ l.map (·.1) := List.mem_map.2 ⟨(k, x), List.mem_of_getElem? hn, rfl⟩
   by_cases hy : y = p.1
   ·rw [if_pos hy, if_neg (fun e => hd.1 (by rw [← hy, e]; exact hmem)), if_pos hy]
   ·rw [if_neg hy, if_neg hy]; exact ih hn hd.2
theorem ZmP {m : List (Int × E)} {k : Int} {v : E} (hk : lkS m k = none) (y : Int) : lkS (m ++ [(k, v)]) y = if y = k then some v else lkS m y := by
 induction m with
 | nil => simp [lkS]
 | cons p l ih =>
  simp only [lkS] at hk
  split at hk
  ·cases hk
  ·rename_i hkp
   simp only [List.cons_append, lkS, ih hk]
   by_cases hy : y = p.1
   ·rw [if_pos hy, if_neg (fun e => hkp (by rw [← e, hy])), if_pos hy]
   ·rw [if_neg hy, if_neg hy]
theorem Zl7 {m : List (Int × E)} {k : Int} : lkS m k = none ↔ k ∉ m.map (·.1) := by
 induction m with
 | nil => simp [lkS]
 | cons p l ih =>
  simp only [lkS, List.map_cons, List.mem_cons, not_or]
  by_cases hk : k = p.1
  ·simp [hk]
  ·simp [hk, ih]
theorem Ms.put (hw : WF H) (h : Ms ki enc H b f) {t : TypeId} {zv val : Value} (ht : Zjk P t = some (.int ki, zv)) (k : Int) (v : E) (hv : val = .agg (enc v).toArray) :
  ∃ H', ZcS P t (.map (some b)) (.int ki k) val H = some H' /\ Fr b H H' /\ Ms ki enc H' b (fun x => if x = k then some v else f x) := by
 subst hv
 obtain ⟨kt, et, h1, h2, h3⟩ := Zf9 ht
 obtain ⟨m, c, g1, g2, g3⟩ := h.is
 obtain ⟨r, r1, r2⟩ := ZfP (ki := ki) (enc := enc) m k 0
 have hred : ∀ X, (match Zc0 (.int ki) (.int ki k) (m.map (Zgs enc ki)) 0 with
    | some (some (i, _)) => some (H.upd b (.map ((m.map (Zgs enc ki)).set i (.int ki k, .agg (enc v).toArray)) c))
    | some none => some (H.upd b (.map (m.map (Zgs enc ki) ++ [(.int ki k, .agg (enc v).toArray)]) (c + 1)))
    | none => none) = some X -> ZcS P t (.map (some b)) (.int ki k) (.agg (enc v).toArray) H = some X := by
  intro X hX
  unfold ZcS
  rw [h1]
  simp only [h2, g1, Zg6 h2]
  rw [if_pos (by rfl)]
  exact hX
 rw [r1] at hred
 cases r with
 | none =>
  refine ⟨_, hred _ rfl, ZjQ hw h.lt g1, h.lt, m ++ [(k, v)], c + 1, by simp [AH.upd, Zgs], ?_, fun y => by rw [ZmP r2, g3]⟩
  rw [List.map_append, List.nodup_append]
  refine ⟨g2, by simp, fun x hx y hy => ?_⟩
  simp at hy; subst hy
  rintro rfl
  exact Zl7.1 r2 hx
 | some q =>
  obtain ⟨j, u⟩ := q
  obtain ⟨n, x, e1, e2, e3, e4⟩ := r2
  have : j = n := by omega
  subst this
  refine ⟨_, hred _ rfl, ZjQ hw h.lt g1, h.lt, m.set j (k, v), c, by simp [AH.upd, Zgs, List.map_set], ?_, fun y => by rw [ZmH e2 g2, g3]⟩
  rw [List.map_set]
  have : (m.map (·.1)).set j k = m.map (·.1) := by
   apply List.ext_getElem?
   intro i
   rw [List.getElem?_set]
   split
   ·rename_i hij; subst hij; simp [e2]; have := (List.getElem?_eq_some_iff.1 e2).1; omega
   ·rfl
  show (List.set (m.map (·.1)) j k).Nodup
  rw [this]; exact g2
theorem Zie (hw : WF H) : Ext H (H.push (.map [] 0)) /\ Ms ki enc (H.push (.map [] 0)) H.next (fun _ => none) :=
 ⟨Zcw hw _ (fun _ _ _ e => by cases e), Nat.lt_succ_self _, [], 0, AH.push_get _ _, by simp, fun _ => rfl⟩
section seq
variable {ops : Array Oper} {K : AAct -> AH -> Prop} {α : AAct} {o : Oper} {rest : List Oper}
theorem s_ms (ki : IntKind) (enc : E -> List Value) (hw : WF H) (h : Zc6 P ops o α = some (.map [] 0, fun b => .map (some b)))
  (k : ∀ b H', Ext H H' -> Inn [] H [b] -> Ms ki enc H' b (fun _ => none) -> Zm P ops K rest (α.put o.dst (.map (some b))) H') : Zm P ops K (o :: rest) α H :=
 s_n _ _ (ZaM h).1 (ZaM h).2.1 (ZaM h).2.2 (k H.next _ (Zie (ki := ki) (enc := enc) hw).1 (.one (.inr rfl)) (Zie hw).2)
end seq
def ZiE (P : Program) (ρ : Operand -> Value) : Op -> Option (FuncId × TypeId × Addr × Array Value)
 | .call { callee := .invoke r name, args, argTypes := _ } => match ρ r with
  | .iface t (.pointer (some a)) => match ZfQ P t name with
   | some (g, e) => if ZdN P g then some (g, e, a, args.map ρ) else none
   | none => none
  | _ => none
 | _ => none
def Zke (P : Program) (ops : Array Oper) (o : Oper) (α : AAct) : Option (FuncId × TypeId × Addr × Array Value) :=
 if Region.wanted o (ZT ops α) = true then match cls o.op with
  | .call => match Zdd P (ZM α) o.op with
   | none => ZiE P (ZM α) o.op
   | some _ => none
  | _ => none
 else none
theorem Zmy {ρ : Operand -> Value} {op : Op} {g : FuncId} {e : TypeId} {a : Addr} {as_ : Array Value} {v : Value} (h : ZiE P ρ op = some (g, e, a, as_)) (hl : Za7 P e (.pointer (some a)) H = some v) : Zea P ρ H op = some (g, #[v] ++ as_) := by
 unfold ZiE at h
 split at h
 ·split at h
  ·split at h
   ·split at h
    ·cases h
     rename_i hm hc
     unfold Zea
     simp only [*, if_true]
    ·cases h
   ·cases h
  ·cases h
 ·cases h
theorem ZkE {ops : Array Oper} {o : Oper} {α : AAct} {x : FuncId × TypeId × Addr × Array Value} (h : Zke P ops o α = some x) : Region.wanted o (ZT ops α) = true /\ cls o.op = .call /\ Zdd P (ZM α) o.op = none /\ ZiE P (ZM α) o.op = some x := by
 unfold Zke at h
 split at h
 ·rename_i hg
  split at h
  ·rename_i hc
   split at h
   ·rename_i hn; exact ⟨hg, hc, hn, h⟩
   ·cases h
  ·cases h
 ·cases h
section seq
variable {ops : Array Oper} {K : AAct -> AH -> Prop} {α : AAct} {o : Oper} {rest : List Oper}
theorem Zf4 (f : FuncId) (e : TypeId) (a : Addr) (as_ : Array Value) (v : Value) (args : Array Value) (hargs : #[v] ++ as_ = args) {K' : Value -> AH -> Prop} (h : Zke P ops o α = some (f, e, a, as_)) (hl : Za7 P e (.pointer (some a)) H = some v) (hf : ACalls P f args H K')
  (k : ∀ v H', K' v H' -> Zm P ops K rest (α.put o.dst v) H') : Zm P ops K (o :: rest) α H := by
 subst hargs
 obtain ⟨h1, h2, h3, h4⟩ := ZkE h
 simp only [Zm, h1, if_true]
 exact .inl (by simp only [ZbC, h2, h3, Zmy h4 hl]; exact hf.mono k)
end seq
section draw
variable {ops : Array Oper} {K : AAct -> AH -> Prop} {α : AAct} {tbl : List (List Nat)} {i : Nat} {rest : List Nat} {fl : List (Nat × AAct × Value)}
end draw
end Go.Vd
