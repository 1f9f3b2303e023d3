/- Indexes that are set; items in order. Plain Lean: no program here. -/
import Derived.Test.YtmcecdjpconioaaGreatDoorPscVpB
import Derived.Test.YtmcecdjpconioaaGreatDoorPscISc
import Derived.Test.YtmcecdjpconioaaGreatDoorPscVeN
import Derived.Test.YtmcecdjpconioaaGreatDoorPscVeK
import Derived.Test.YtmcecdjpconioaaGreatDoorPscVeC
import Derived.Test.YtmcecdjpconioaaGreatDoorPscVeL
import Derived.Test.YtmcecdjpconioaaGreatDoorPscVeB
import Derived.Test.YtmcecdjpconioaaGreatDoorPscSo0
import Derived.Test.YtmcecdjpconioaaGreatDoorPscVdQ
set_option linter.unusedVariables false
set_option linter.unusedSimpArgs false
set_option linter.unusedSectionVars false
/-! (Hp0) -/

set_option linter.unusedVariables false
set_option linter.unusedSimpArgs false
namespace Go.Vd
theorem Zdm {E : Type} [Inhabited E] {l : List E} {i j : Int} {v : E} (i0 : 0 ≤ i) (i1 : i < (l.length : Int)) (j0 : 0 ≤ j) : gt (l.set i.toNat v) j = if j = i then v else gt l j := by
 unfold gt
 rw [List.getD_eq_getElem?_getD, List.getD_eq_getElem?_getD, List.getElem?_set]
 by_cases h : j = i
 ·subst h; rw [if_pos rfl, if_pos (by omega), if_pos rfl]; rfl
 ·rw [if_neg (by omega), if_neg h]
def Less (a b : Int × Int) : Prop := a.1 < b.1 ∨ (a.1 = b.1 /\ a.2 < b.2)
instance (a b : Int × Int) : Decidable (Less a b) := by unfold Less; exact inferInstance
theorem Less.irr {a b : Int × Int} (h : Less a b) : ¬ Less b a := by unfold Less at *; omega
theorem Zhr {a b c : Int × Int} (h : ¬ Less a b) (k : ¬ Less b c) : ¬ Less a c := by unfold Less at *; omega
theorem Zn5 {a b c : Int × Int} (h : ¬ Less a b) (k : Less c b) : ¬ Less a c := by unfold Less at *; omega
end Go.Vd

/-! (Hb) -/

set_option linter.unusedVariables false
set_option linter.unusedSimpArgs false
namespace Go.Vd
variable {L : Int} {h h' : Int -> Int × Int}
def ZV (p : Int) : Int := (p - 1) / 2
theorem tdiv2 {p : Int} (h : 0 < p) : Int.tdiv (p - 1) 2 = ZV p := by
 unfold ZV; rw [Int.tdiv_eq_ediv_of_nonneg (by omega)]
def Ord2 (L : Int) (h : Int -> Int × Int) : Prop := ∀ p, 1 ≤ p -> p < L -> ¬ Less (h p) (h (ZV p))
def Up2 (L : Int) (h : Int -> Int × Int) (i : Int) : Prop :=
 (∀ p, 1 ≤ p -> p < L -> p ≠ i -> ¬ Less (h p) (h (ZV p))) /\ (1 ≤ i -> ∀ c, 1 ≤ c -> c < L -> ZV c = i -> ¬ Less (h c) (h (ZV i)))
def Down2 (L : Int) (h : Int -> Int × Int) (i : Int) : Prop :=
 (∀ p, 1 ≤ p -> p < L -> ZV p ≠ i -> ¬ Less (h p) (h (ZV p))) /\ (1 ≤ i -> ∀ c, 1 ≤ c -> c < L -> ZV c = i -> ¬ Less (h c) (h (ZV i)))
theorem Up2.done {i : Int} (U : Up2 L h i) (k : i = 0 ∨ ¬ Less (h i) (h (ZV i))) : Ord2 L h := by
 intro p p0 p1
 by_cases e : p = i
 ·subst e; rcases k with k | k
  ·omega
  ·exact k
 ·exact U.1 p p0 p1 e
theorem Up2.step {i : Int} (U : Up2 L h i) (i0 : 1 ≤ i) (i1 : i < L) (k : Less (h i) (h (ZV i)))
  (eh : ∀ p, 0 ≤ p -> p < L -> h' p = if p = ZV i then h i else if p = i then h (ZV i) else h p) : Up2 L h' (ZV i) := by
 have hq : ZV i < i /\ 0 ≤ ZV i := by unfold ZV; omega
 have e1 : h' (ZV i) = h i := by rw [eh _ hq.2 (by omega), if_pos rfl]
 have e2 : h' i = h (ZV i) := by rw [eh _ (by omega) i1, if_neg (by omega), if_pos rfl]
 have e3 : ∀ p, 0 ≤ p -> p < L -> p ≠ ZV i -> p ≠ i -> h' p = h p := fun p p0 p1 h1 h2 => by rw [eh p p0 p1, if_neg h1, if_neg h2]
 have pl : ∀ p, 1 ≤ p -> ZV p < p /\ 0 ≤ ZV p := fun p hp => by unfold ZV; omega
 refine ⟨fun p p0 p1 hp => ?_, fun q0 c c0 c1 hc => ?_⟩
 ·have := pl p p0
  by_cases hpi : p = i
  ·subst hpi; rw [e2, e1]; exact k.irr
  ·rw [e3 p (by omega) p1 hp hpi]
   by_cases h1 : ZV p = i
   ·rw [h1, e2]; exact U.2 i0 p p0 p1 h1
   ·by_cases h2 : ZV p = ZV i
    ·rw [h2, e1]
     have := U.1 p p0 p1 hpi
     rw [h2] at this
     exact Zn5 this k
    ·rw [e3 _ (by omega) (by omega) h2 h1]; exact U.1 p p0 p1 hpi
 ·have := pl (ZV i) q0
  have hc' := pl c c0
  have e4 : h' (ZV (ZV i)) = h (ZV (ZV i)) := e3 _ (by omega) (by omega) (by omega) (by omega)
  have hq2 := U.1 (ZV i) q0 (by omega) (by omega)
  rw [e4]
  by_cases hci : c = i
  ·subst hci; rw [e2]; exact hq2
  ·rw [e3 c (by omega) c1 (by omega) hci]
   have := U.1 c c0 c1 hci
   rw [hc] at this
   exact Zhr this hq2
theorem Down2.done {i : Int} (D : Down2 L h i) (k : ∀ c, 1 ≤ c -> c < L -> ZV c = i -> ¬ Less (h c) (h i)) : Ord2 L h := by
 intro p p0 p1
 by_cases e : ZV p = i
 ·rw [e]; exact k p p0 p1 e
 ·exact D.1 p p0 p1 e
theorem Down2.step {i b : Int} (D : Down2 L h i) (i0 : 0 ≤ i) (b0 : 1 ≤ b) (b1 : b < L) (hb : ZV b = i) (hm : ∀ c, 1 ≤ c -> c < L -> ZV c = i -> ¬ Less (h c) (h b)) (k : Less (h b) (h i))
  (eh : ∀ p, 0 ≤ p -> p < L -> h' p = if p = b then h i else if p = i then h b else h p) : Down2 L h' b := by
 have pl : ∀ p, 1 ≤ p -> ZV p < p /\ 0 ≤ ZV p := fun p hp => by unfold ZV; omega
 have hbi := pl b b0
 have e1 : h' b = h i := by rw [eh _ (by omega) b1, if_pos rfl]
 have e2 : h' i = h b := by rw [eh _ i0 (by omega), if_neg (by omega), if_pos rfl]
 have e3 : ∀ p, 0 ≤ p -> p < L -> p ≠ b -> p ≠ i -> h' p = h p := fun p p0 p1 h1 h2 => by rw [eh p p0 p1, if_neg h1, if_neg h2]
 refine ⟨fun p p0 p1 hp => ?_, fun q0 c c0 c1 hc => ?_⟩
 ·have := pl p p0
  by_cases hpb : p = b
  ·subst hpb; rw [e1, hb, e2]; exact k.irr
  ·by_cases h1 : ZV p = i
   ·rw [h1, e2, e3 p (by omega) p1 hpb (by omega)]; exact hm p p0 p1 h1
   ·by_cases hpi : p = i
    ·subst hpi
     rw [e2, e3 (ZV p) (by omega) (by omega) (by omega) (by omega)]
     exact D.2 p0 b b0 b1 hb
    ·rw [e3 p (by omega) p1 hpb hpi, e3 _ (by omega) (by omega) hp h1]; exact D.1 p p0 p1 h1
 ·have := pl c c0
  rw [hb, e2, e3 c (by omega) c1 (by omega) (by omega)]
  have := D.1 c c0 c1 (by omega)
  rwa [hc] at this
theorem Ord2.top (O : Ord2 L h) : ∀ p, 0 ≤ p -> p < L -> ¬ Less (h p) (h 0) := by
 intro p p0 p1
 generalize hk : p.toNat = k
 induction k using Nat.strongRecOn generalizing p with
 | _ k ih =>
  by_cases e : p = 0
  ·subst e; unfold Less; omega
  ·have hp : ZV p < p /\ 0 ≤ ZV p := by unfold ZV; omega
   exact Zhr (O p (by omega) p1) (ih (ZV p).toNat (by omega) (ZV p) hp.2 (by omega) rfl)
def swp (l : List (Int × Int)) (i j : Int) : List (Int × Int) := (l.set i.toNat (gt l j)).set j.toNat (gt l i)
theorem Zm5 {l : List (Int × Int)} {i j : Int} : (swp l i j).length = l.length := by simp [swp]
theorem Zjz {l : List (Int × Int)} {i j : Int} (i0 : 0 ≤ i) (i1 : i < (l.length : Int)) (j0 : 0 ≤ j) (j1 : j < (l.length : Int)) {p : Int} (p0 : 0 ≤ p) : gt (swp l i j) p = if p = j then gt l i else if p = i then gt l j else gt l p := by
 unfold swp
 rw [Zdm j0 (by simpa using j1) p0, Zdm i0 i1 p0]
theorem Zhp {l : List (Int × Int)} {i j : Int} (i0 : 0 ≤ i) (i1 : i < (l.length : Int)) (j0 : 0 ≤ j) (j1 : j < (l.length : Int)) : (swp l i j).Perm l := by
 unfold swp
 have e : ∀ {k : Int}, 0 ≤ k -> ∀ hk : k.toNat < l.length, gt l k = l[k.toNat] := fun {k} k0 hk => by
  unfold gt; rw [List.getD_eq_getElem?_getD, List.getElem?_eq_getElem hk]; rfl
 rw [e i0 (by omega), e j0 (by omega)]
 exact List.set_set_perm (by omega) (by omega)
def Hq (q : List (Int × Int)) : Prop := Ord2 q.length (gt q)
theorem Ord2.congr {L : Int} {h h' : Int -> Int × Int} (O : Ord2 L h) (eh : ∀ p, 0 ≤ p -> p < L -> h' p = h p) : Ord2 L h' := fun p p0 p1 => by
 have hp : ZV p < p /\ 0 ≤ ZV p := by unfold ZV; omega
 rw [eh p (by omega) p1, eh _ hp.2 (by omega)]; exact O p p0 p1
end Go.Vd

/-! (LwSimple) -/

namespace Go.Vd
end Go.Vd

/-! (LwSimple2) -/

set_option linter.unusedVariables false
namespace Go.Vd
variable {fi to wt : List Int}
end Go.Vd

/-! (PrEa) -/

set_option linter.unusedVariables false
set_option linter.unusedSimpArgs false
namespace Go.Vd
variable {F T' W l : List Int}
theorem p_E (n : Int) : Zab n = some n := rfl
theorem ZiZ {c : Int} {ps : List (Int × Int)} : ZY c ps = some (decide (c ≠ 0 ∨ ps ≠ [])) := by
 unfold ZY
 by_cases h : c = 0
 ·rw [if_pos h]; subst h
  by_cases hp : 0 < (ps.length : Int)
  ·rw [ZiU (.inr hp), decide_eq_true (by omega)]
  ·rw [ZmP ⟨rfl, hp⟩, decide_eq_false (by omega)]
 ·rw [if_neg h, ZiU (.inl h)]
end Go.Vd

/-! (PrEb) -/

set_option linter.unusedVariables false
set_option linter.unusedSimpArgs false
namespace Go.Vd
variable {F T' W l : List Int}
theorem p_At {k i c : Int} {ps : List (Int × Int)} (h : ps.length ≤ 8796093021951) : Zb2 k i c ps = some (c, (k, i) :: ps) := by
 unfold Zb2 G
 rw [if_pos (by simp; omega)]; rfl
end Go.Vd

/-! (PrSg) -/

set_option linter.unusedVariables false
set_option linter.unusedSimpArgs false
namespace Go.Vd
def Er.good : Er -> Prop
 | .nil => True
 | .no n => n ≠ 0
 | .at _ _ e => e ≠ .nil /\ e.good
theorem Er.good.num {e : Er} (h : e.good) (hn : e ≠ .nil) : e.num = some e.code /\ e.code ≠ 0 := by
 induction e with
 | nil => exact absurd rfl hn
 | no n => exact ⟨rfl, h⟩
 | «at» k i e ih => exact ih h.2 h.1
theorem Zn8 {c : Int} {ps : List (Int × Int)} : ZY c ps = some (decide (c ≠ 0 ∨ ps ≠ [])) := by
 unfold ZY
 by_cases h : c = 0
 ·rw [if_pos h]; subst h
  by_cases hp : 0 < (ps.length : Int)
  ·rw [ZiU (.inr hp), decide_eq_true (by omega)]
  ·rw [ZmP ⟨rfl, hp⟩, decide_eq_false (by omega)]
 ·rw [if_neg h, ZiU (.inl h)]
end Go.Vd

/-! (PrSame) -/

namespace Go.Vd
theorem ZnH {er : Er} (hg : er.good) (hl : er.pls.length ≤ 17592186044160) : Zbs er er.code er.pls = some true := by
 refine Zd1.1 ?_
 unfold Zbs
 rw [Zn8, Option.bind_some]
 by_cases hn : er = .nil
 ·subst hn; simp [Er.code, Er.pls]
 obtain ⟨h1, h2⟩ := hg.num hn
 rw [decide_eq_true (Or.inl h2), if_neg (by decide), if_neg hn]
 refine Zcf (fun e => e ≠ .nil /\ e.pls = []) ?_ fun e ⟨e0, e1⟩ => ?_
 ·refine ZS (fun s => 0 ≤ s.1 /\ s.1 ≤ (er.pls.length : Int) /\ s.2.good /\ s.2 ≠ .nil /\ s.2.pls = er.pls.drop s.1.toNat) (fun s => ((er.pls.length : Int) - s.1).toNat) ?_ ⟨by simp, by simp, hg, hn, by simp⟩
  rintro ⟨i, e⟩ ⟨i0, i1, g, gn, hp⟩
  dsimp only at *
  unfold Zbq
  rw [Zs]
  refine ⟨fun hi => ?_, fun hi => ?_⟩
  ·rw [List.drop_eq_getElem_cons (i := i.toNat) (by omega)] at hp
   cases e with
   | nil => exact absurd rfl gn
   | no n => simp [Er.pls] at hp; omega
   | «at» k j e =>
    simp only [Er.pls, List.cons.injEq] at hp
    obtain ⟨q1, q2⟩ := hp
    have hgt : gt er.pls i = (k, j) := by
     have hq : gt er.pls ((i.toNat : Nat) : Int) = er.pls[i.toNat] := Zfb (by omega)
     rw [q1, ← hq]; congr 1; omega
    rw [T_G, if_pos (show (Er.at k j e).isAt = true from rfl), hgt, if_pos (show (Er.at k j e).fk = (k, j).1 /\ (Er.at k j e).fi = (k, j).2 from ⟨rfl, rfl⟩), T_G, Zd, Sum.elim_inl]
    refine ⟨i0, by omega, ⟨by dsimp only; omega, by dsimp only; omega, g.2, g.1, ?_⟩, by dsimp only; omega⟩
    dsimp only [Er.fe]
    rw [show (i + 1).toNat = i.toNat + 1 from by omega]; exact q2
  ·simp only [Zd, Sum.elim_inr]
   exact ⟨gn, by rw [hp, List.drop_of_length_le (by omega)]⟩
 ·have hat : ¬ e.isAt = true := by
   cases e with
   | nil => exact absurd rfl e0
   | no n => simp [Er.isAt]
   | «at» k i e => simp [Er.pls] at e1
  rw [if_neg hat, h1]
  simp only [Option.isSome_some, if_true, Option.getD_some, decide_true, Bool.not_true, Option.bind_some, Bool.false_eq_true, if_false]
  refine Zcf (fun _ => True) ?_ fun _ _ => by simp
  refine ZS (fun i => 1 ≤ i /\ i ≤ 21) (fun i => (21 - i).toNat) ?_ ⟨by omega, by omega⟩
  rintro i ⟨i0, i1⟩
  unfold ZbA
  have hq : (decide (er.num = some i)) = (decide (i = er.code)) := by
   rw [h1]; congr 1; simp [eq_comm]
  simp only [Zs, T_G, Zd, Zd9, Sum.elim_inl, Sum.elim_inr]
  exact ⟨fun h => ⟨fun _ => ⟨by omega, ⟨by omega, by omega⟩, by omega⟩, fun h => absurd hq h⟩, fun _ => trivial⟩
end Go.Vd

/-! (PrSpN) -/

set_option linter.unusedVariables false
set_option linter.unusedSimpArgs false
namespace Go.Vd
theorem ZnZ {n : Int} (h : n ≠ 0) : Zbs (.no n) n [] = some true := ZnH (er := .no n) (by simpa [Er.good] using h) (by simp [Er.pls])
end Go.Vd

/-! (VeM) -/

set_option linter.unusedVariables false
set_option linter.unusedSimpArgs false
namespace Go.Vd
set_option linter.unusedSectionVars false
variable [Pins]
section
variable {P : Program} {H H' : AH} {E : Type} {C : CR E} {s : Value} {xs zs : List E} {W fp g : Fp}
structure News (C : CR E) (H : AH) (zs : List E) (css : List (List Value)) (g : Fp) : Prop where
 len : css.length = zs.length
 lt : Lt H g
 is : ∃ G : Nat -> Fp, ∀ (i : Nat) (x : E) (cs : List Value), zs[i]? = some x -> css[i]? = some cs -> C.rel H x cs (G i) /\ (∀ t ∈ G i, t ∈ g) /\ ∀ j, j < zs.length -> j ≠ i -> Dj (G i) (G j)
end
end Go.Vd

/-! (VeG) -/

set_option linter.unusedVariables false
set_option linter.unusedSimpArgs false
namespace Go.Vd
set_option linter.unusedSectionVars false
variable [Pins]
section
variable {P : Program} {H H' : AH} {F : Type} {enc : F -> List Value} {sz : Nat} {s : Value} {W fp g : Fp} {xs : List (Bool × List F × List F)} {hol : List (Nat × Bool)}
def sdG (k : Bool) (x : Bool × List F × List F) : List F := match k with | false => x.2.1 | true => x.2.2
def sdP (k : Bool) (x : Bool × List F × List F) (y : List F) : Bool × List F × List F := match k with | false => (x.1, y, x.2.2) | true => (x.1, x.2.1, y)
def sdO (k : Bool) : Nat := match k with | false => 1 | true => 2
def sdH (k : Bool) (h1 h2 : Value) : Value := match k with | false => h1 | true => h2
structure Nd {F : Type} (enc : F -> List Value) (sz : Nat) (H : AH) (s : Value) (xs : List (Bool × List F × List F)) (fp : Fp) (hol : List (Nat × Bool)) : Prop where
 lt : Lt H fp
 is : ∃ (css : List (List Value)) (f0 : Fp) (G : Nat -> Bool -> Fp), Ow id 3 H s css f0 /\ (∀ t ∈ f0, t ∈ fp) /\ css.length = xs.length /\
  (∀ (i : Nat) (x : Bool × List F × List F) (cs : List Value), xs[i]? = some x -> css[i]? = some cs -> ∃ h1 h2, cs = [.bool x.1, h1, h2] /\ h1.oneCell' = true /\ h2.oneCell' = true /\
   ∀ k, (i, k) ∉ hol -> Ow enc sz H (sdH k h1 h2) (sdG k x) (G i k)) /\
  (∀ i k, i < xs.length -> (i, k) ∉ hol -> (∀ t ∈ G i k, t ∈ fp) /\ Dj f0 (G i k) /\ ∀ j l, j < xs.length -> (j, l) ∉ hol -> (j, l) ≠ (i, k) -> Dj (G i k) (G j l))
theorem Nd.fr (h : Nd enc sz H s xs fp hol) (k : FrS W H H') (hd : Dj W fp) : Nd enc sz H' s xs fp hol := by
 obtain ⟨hl, css, f0, G, a, b, c, d, e⟩ := h
 refine ⟨hl.fr k, css, f0, G, a.fr k (hd.sub b), b, c, fun i x cs h1 h2 => ?_, e⟩
 obtain ⟨u1, u2, e1, e2, e3, e4⟩ := d i x cs h1 h2
 exact ⟨u1, u2, e1, e2, e3, fun q hq => (e4 q hq).fr k (hd.sub (e i q (List.getElem?_eq_some_iff.1 h1).1 hq).1)⟩
theorem Nd.ext (h : Nd enc sz H s xs fp hol) (k : Ext H H') : Nd enc sz H' s xs fp hol := h.fr (k.frS []) Dj.nil_l
theorem Nd.form (h : Nd enc sz H s xs fp hol) : ∃ a n c, s = .slice a n c := by obtain ⟨_, css, f0, G, a, _⟩ := h; exact a.form
theorem Nd.one1 (h : Nd enc sz H s xs fp hol) : s.oneCell' = true := by obtain ⟨_, css, f0, G, a, _⟩ := h; exact a.one1
theorem Nd.lenb {t : TypeId} (h : Nd enc sz H s xs fp hol) (hu : Zd4 P t = true) : ZcQ P t s H = some (.int .i64 xs.length) := by
 obtain ⟨_, css, f0, G, a, _, b, _⟩ := h
 rw [← b]; exact a.sq.lenb hu
theorem Nd.idxb {t : TypeId} {k : IntKind} {i : Int} (h : Nd enc sz H s xs fp hol) (ht : Za8 P t = some 3) (h0 : 0 ≤ i) (h1 : i < (xs.length : Int)) : Zad P t s (.int k i) = some (elp s 3 i.toNat 0) := by
 obtain ⟨_, css, f0, G, a, _, b, _⟩ := h
 rw [← b] at h1
 exact a.sq.idxb ht h0 h1
theorem Nd.fldq {t : TypeId} {i : Int} {off f d : Nat} (h : Nd enc sz H s xs fp hol) (h0 : 0 ≤ i) (h1 : i < (xs.length : Int)) (hf : ZiV P t f = some d) : Zy P t (elp s 3 i.toNat off) f = some (elp s 3 i.toNat (off + d)) := by
 obtain ⟨_, css, f0, G, a, _, b, _⟩ := h
 rw [← b] at h1
 exact a.sq.fldq h0 h1 hf
theorem Nd.at (h : Nd enc sz H s xs fp hol) {i : Int} (h0 : 0 ≤ i) (h1 : i < (xs.length : Int)) :
  ∃ h1 h2, (∀ (P : Program) (t : TypeId) (off : Nat) (v : Value), Zd3 P t [.bool (gt xs i).1, h1, h2] off = some v -> ZbP P t (elp s 3 i.toNat off) H = some v) /\
   (∀ k, (i.toNat, k) ∉ hol -> KdS enc sz H (sdH k h1 h2) (sdG k (gt xs i)) fp s 3 i.toNat (sdO k)) := by
 obtain ⟨hl, css, f0, G, a, b, c, d, e⟩ := h
 have hi : i.toNat < xs.length := by omega
 have hlt : i.toNat < css.length := by omega
 have hc : css[i.toNat]? = some css[i.toNat] := List.getElem?_eq_getElem hlt
 obtain ⟨u1, u2, e1, e2, e3, e4⟩ := d i.toNat _ _ (Zc9 h0 h1) hc
 refine ⟨u1, u2, fun P t off v hv => ?_, fun k hk => ⟨(e4 k hk).sq.up (e i.toNat k hi hk).1 hl, ?_⟩⟩
 ·have h1' : i < (css.length : Int) := by omega
  refine a.sq.ld h0 h1' ?_
  have : gt css i = css[i.toNat] := Option.some.inj ((Zc9 h0 h1').symm.trans hc)
  rw [this, e1]; exact hv
 ·have hv : css[i.toNat][sdO k]? = some (sdH k u1 u2) := by rw [e1]; cases k <;> rfl
  obtain ⟨bb, o, n, cc, kd, row, z1, z2, z3, z4⟩ := a.kid hc hv (by cases k <;> decide)
  exact ⟨bb, o, n, cc, kd, row, z1, z2, b _ z3, z4⟩
theorem Nd.borrow (k : Bool) {i : Int} {hd : Value} {ys : List F} (h : Nd enc sz H s xs fp hol) (h0 : 0 ≤ i) (h1 : i < (xs.length : Int)) (hn : (i.toNat, k) ∉ hol) (hk : KdS enc sz H hd ys fp s 3 i.toNat (sdO k)) (hys : ys = sdG k (gt xs i)) :
  ∃ fr g, Nd enc sz H s xs fr ((i.toNat, k) :: hol) /\ Ow enc sz H hd ys g /\ Dj fr g /\ (∀ t ∈ fr, t ∈ fp) /\ (∀ t ∈ g, t ∈ fp) := by
 obtain ⟨hl, css, f0, G, a, b, c, d, e⟩ := h
 have hi : i.toNat < xs.length := by omega
 have hlt : i.toNat < css.length := by omega
 have hc : css[i.toNat]? = some css[i.toNat] := List.getElem?_eq_getElem hlt
 obtain ⟨u1, u2, e1, e2, e3, e4⟩ := d i.toNat _ _ (Zc9 h0 h1) hc
 obtain ⟨q1, q2, q3⟩ := e i.toNat k hi hn
 have hh : hd = sdH k u1 u2 := by
  have := Kid.same a hc (by cases k <;> decide) hk.kid
  rw [e1] at this
  cases k <;> exact (Option.some.inj this).symm
 have ho := e4 k hn
 rw [← hh, ← hys] at ho
 refine ⟨fp.filter fun t => t ∉ G i.toNat k, G i.toNat k, ⟨hl.sub fun t ht => (List.mem_filter.1 ht).1, css, f0, G, a, ?_, c, fun j x cs hj hcs => ?_, fun j l hj hjl => ?_⟩, ho, ?_, fun t ht => (List.mem_filter.1 ht).1, q1⟩
 ·exact fun t ht => List.mem_filter.2 ⟨b t ht, by simpa using fun hm => q2 t ht hm⟩
 ·obtain ⟨v1, v2, f1, f2, f3, f4⟩ := d j x cs hj hcs
  exact ⟨v1, v2, f1, f2, f3, fun l hl => f4 l fun hm => hl (List.mem_cons_of_mem _ hm)⟩
 ·have hne : (j, l) ≠ (i.toNat, k) := fun e => hjl (by rw [e]; exact List.mem_cons_self ..)
  have hjl' : (j, l) ∉ hol := fun hm => hjl (List.mem_cons_of_mem _ hm)
  obtain ⟨p1, p2, p3⟩ := e j l hj hjl'
  have hd2 := p3 i.toNat k hi hn (Ne.symm hne)
  refine ⟨fun t ht => List.mem_filter.2 ⟨p1 t ht, by simpa using fun hm => hd2 t ht hm⟩, p2, fun j' l' hj' hl' hne' => p3 j' l' hj' (fun hm => hl' (List.mem_cons_of_mem _ hm)) hne'⟩
 ·exact fun t ht hm => by have := (List.mem_filter.1 ht).2; simp at this; exact this hm
theorem Nd.close {t : TypeId} (k : Bool) {i : Int} {hd : Value} {y : List F} (hw : WF H) (h : Nd enc sz H s xs fp ((i.toNat, k) :: hol)) (ho : Ow enc sz H hd y g) (hdj : Dj fp g) (h0 : 0 ≤ i) (h1 : i < (xs.length : Int)) (hx : hd.cells.toList = [hd]) (hs : (P.info? t).map (·.size) = some 1) (ho1 : Zw [hd] = true) :
  ∃ H' fp', Zda P t (elp s 3 i.toNat (sdO k)) hd H = some H' /\ FrS fp H H' /\ Nd enc sz H' s (xs.set i.toNat (sdP k (gt xs i) y)) fp' hol /\ Inn (fp ++ g) H fp' := by
 obtain ⟨hl, css, f0, G, a, b, c, d, e⟩ := h
 have hi : i.toNat < xs.length := by omega
 have hic : i.toNat < css.length := by omega
 have hc : css[i.toNat]? = some css[i.toNat] := List.getElem?_eq_getElem hic
 have h1c : i < (css.length : Int) := by omega
 have hgc : gt css i = css[i.toNat] := Option.some.inj ((Zc9 h0 h1c).symm.trans hc)
 have hgx := Zc9 h0 h1
 obtain ⟨u1, u2, e1, e2, e3, e4⟩ := d i.toNat _ _ hgx hc
 obtain ⟨H', p1, p2, p3⟩ := a.store (P := P) (t := t) (off := sdO k) hw h0 h1c hd [hd] hx hs ho1 (Z9 css[i.toNat] (sdO k) [hd]) (by cases k <;> simp [sdO]) (by rw [hgc]; rfl)
 have hf0g : Dj f0 g := hdj.subl b
 have hone : hd.oneCell' = true := by unfold Zw at ho1; simpa using ho1
 have hout : ∀ j l, (j, l) ≠ (i.toNat, k) -> (j, l) ∉ hol -> (j, l) ∉ (i.toNat, k) :: hol := fun j l h1 h2 h3 => (List.mem_cons.1 h3).elim h1 h2
 refine ⟨H', fp ++ g, p1, p2.mono b, ⟨(hl.fr p2).app (ho.lt.fr p2), css.set i.toNat (Z9 css[i.toNat] (sdO k) [hd]), f0, fun j l => if (j, l) = (i.toNat, k) then g else G j l, p3, fun t ht => List.mem_append_left _ (b t ht), by simp [c], ?_, ?_⟩, Inn.self⟩
 ·intro j x cs hj hcs
  by_cases hji : j = i.toNat
  ·subst hji
   rw [List.getElem?_set_self hi] at hj
   rw [List.getElem?_set_self hic] at hcs
   cases hj; cases hcs
   refine ⟨sdH k hd u1, sdH k u2 hd, ?_, by cases k <;> assumption, by cases k <;> assumption, fun l hlh => ?_⟩
   ·rw [e1]; cases k <;> rfl
   ·by_cases hlk : l = k
    ·subst hlk
     try dsimp only
     rw [if_pos rfl]
     have := ho.fr p2 hf0g
     cases l <;> exact this
    ·have hne : ((i.toNat, l) : Nat × Bool) ≠ (i.toNat, k) := fun e => hlk (Prod.mk.inj e).2
     try dsimp only
     rw [if_neg hne]
     have hq := e4 l (hout _ _ hne hlh)
     have hq2 := hq.fr p2 (e i.toNat l hi (hout _ _ hne hlh)).2.1
     cases k <;> cases l <;> first | exact absurd rfl hlk | exact hq2
  ·rw [List.getElem?_set_ne (fun e => hji e.symm)] at hj hcs
   obtain ⟨v1, v2, f1, f2, f3, f4⟩ := d j x cs hj hcs
   refine ⟨v1, v2, f1, f2, f3, fun l hlh => ?_⟩
   have hne : ((j, l) : Nat × Bool) ≠ (i.toNat, k) := fun e => hji (Prod.mk.inj e).1
   try dsimp only
   rw [if_neg hne]
   exact (f4 l (hout _ _ hne hlh)).fr p2 (e j l (List.getElem?_eq_some_iff.1 hj).1 (hout _ _ hne hlh)).2.1
 ·intro j l hj hjl
  rw [List.length_set] at hj
  by_cases hji : ((j, l) : Nat × Bool) = (i.toNat, k)
  ·try dsimp only
   rw [if_pos hji]
   refine ⟨fun t ht => List.mem_append_right _ ht, hf0g, fun j' l' hj' hl' hne => ?_⟩
   rw [List.length_set] at hj'
   have hne' : ((j', l') : Nat × Bool) ≠ (i.toNat, k) := fun e => hne (e.trans hji.symm)
   try dsimp only
   rw [if_neg hne']
   exact (hdj.symm).sub (e j' l' hj' (hout _ _ hne' hl')).1
  ·try dsimp only
   rw [if_neg hji]
   obtain ⟨q1, q2, q3⟩ := e j l hj (hout _ _ hji hjl)
   refine ⟨fun t ht => List.mem_append_left _ (q1 t ht), q2, fun j' l' hj' hl' hne => ?_⟩
   rw [List.length_set] at hj'
   by_cases hne' : ((j', l') : Nat × Bool) = (i.toNat, k)
   ·try dsimp only
    rw [if_pos hne']; exact hdj.subl q1
   ·try dsimp only
    rw [if_neg hne']; exact q3 j' l' hj' (hout _ _ hne' hl') hne
theorem Nd.clearAt {t : TypeId} {i : Int} {v : Value} {b0 : Bool} {hol' : List (Nat × Bool)} (hw : WF H) (h : Nd enc sz H s xs fp hol) (hp : 0 < sz) (h0 : 0 ≤ i) (h1 : i < (xs.length : Int)) (hx : v.cells.toList = [.bool b0, .slice none 0 0, .slice none 0 0]) (hs : (P.info? t).map (·.size) = some 3)
  (hh : ∀ p ∈ hol, p.1 = i.toNat ∨ p ∈ hol') :
  ∃ H', Zda P t (elp s 3 i.toNat 0) v H = some H' /\ FrS fp H H' /\ Nd enc sz H' s (xs.set i.toNat (b0, [], [])) fp hol' := by
 obtain ⟨hl, css, f0, G, a, b, c, d, e⟩ := h
 have hi : i.toNat < xs.length := by omega
 have hic : i.toNat < css.length := by omega
 have hc : css[i.toNat]? = some css[i.toNat] := List.getElem?_eq_getElem hic
 have h1c : i < (css.length : Int) := by omega
 have hgc : gt css i = css[i.toNat] := Option.some.inj ((Zc9 h0 h1c).symm.trans hc)
 obtain ⟨u1, u2, e1, e2, e3, e4⟩ := d i.toNat _ _ (Zc9 h0 h1) hc
 obtain ⟨H', p1, p2, p3⟩ := a.store (P := P) (t := t) (off := 0) hw h0 h1c v [.bool b0, .slice none 0 0, .slice none 0 0] hx hs rfl [.bool b0, .slice none 0 0, .slice none 0 0] (by simp) (by rw [hgc, e1]; rfl)
 have hout : ∀ j l, j ≠ i.toNat -> (j, l) ∉ hol' -> (j, l) ∉ hol := fun j l h1 h2 h3 => (hh _ h3).elim h1 h2
 refine ⟨H', p1, p2.mono b, ⟨hl.fr p2, css.set i.toNat [.bool b0, .slice none 0 0, .slice none 0 0], f0, fun j l => if j = i.toNat then [] else G j l, p3, b, by simp [c], ?_, ?_⟩⟩
 ·intro j x cs hj hcs
  by_cases hji : j = i.toNat
  ·subst hji
   rw [List.getElem?_set_self hi] at hj
   rw [List.getElem?_set_self hic] at hcs
   cases hj; cases hcs
   refine ⟨_, _, rfl, rfl, rfl, fun l _ => ?_⟩
   try dsimp only
   rw [if_pos rfl]
   cases l <;> exact .nil hp
  ·rw [List.getElem?_set_ne (fun e => hji e.symm)] at hj hcs
   obtain ⟨v1, v2, f1, f2, f3, f4⟩ := d j x cs hj hcs
   refine ⟨v1, v2, f1, f2, f3, fun l hlh => ?_⟩
   try dsimp only
   rw [if_neg hji]
   exact (f4 l (hout j l hji hlh)).fr p2 (e j l (List.getElem?_eq_some_iff.1 hj).1 (hout j l hji hlh)).2.1
 ·intro j l hj hjl
  rw [List.length_set] at hj
  by_cases hji : j = i.toNat
  ·try dsimp only
   rw [if_pos hji]
   exact ⟨fun t ht => (by cases ht), Dj.nil_r, fun _ _ _ _ _ => Dj.nil_l⟩
  ·try dsimp only
   rw [if_neg hji]
   obtain ⟨q1, q2, q3⟩ := e j l hj (hout j l hji hjl)
   refine ⟨q1, q2, fun j' l' hj' hl' hne => ?_⟩
   rw [List.length_set] at hj'
   by_cases hne' : j' = i.toNat
   ·try dsimp only
    rw [if_pos hne']; exact Dj.nil_r
   ·try dsimp only
    rw [if_neg hne']; exact q3 j' l' hj' (hout j' l' hne' hl') hne
theorem Nd.open2 {i : Int} (h : Nd enc sz H s xs fp []) (h0 : 0 ≤ i) (h1 : i < (xs.length : Int)) :
  ∃ u1 u2 fr g1 g2, (∀ (P : Program) (t : TypeId) (v : Value), Zd3 P t [.bool (gt xs i).1, u1, u2] 0 = some v -> ZbP P t (elp s 3 i.toNat 0) H = some v) /\
   Nd enc sz H s xs fr [(i.toNat, true), (i.toNat, false)] /\ Ow enc sz H u1 (gt xs i).2.1 g1 /\ Ow enc sz H u2 (gt xs i).2.2 g2 /\ Dj fr g1 /\ Dj fr g2 /\ Dj g1 g2 /\ (∀ t ∈ fr, t ∈ fp) /\ (∀ t ∈ g1, t ∈ fp) /\ (∀ t ∈ g2, t ∈ fp) := by
 obtain ⟨u1, u2, a1, a2⟩ := h.at h0 h1
 obtain ⟨fr, g, b1, b2, b3, b4, b5⟩ := h.borrow false h0 h1 (by simp) (a2 false (by simp)) rfl
 obtain ⟨v1, v2, c1, c2⟩ := b1.at h0 h1
 have hv : v2 = u2 := by
  have k1 := (a2 true (by simp)).kid
  have k2 := (c2 true (by simp)).kid
  obtain ⟨x1, x2, x3, x4, x5, x6, x7, x8, x9, y1, y2⟩ := k1
  obtain ⟨z1, z2, z3, z4, z5, z6, z7, z8, z9, w1, w2⟩ := k2
  rw [x7] at z7
  cases z7
  rw [y1] at w1
  cases w1
  rw [y2] at w2
  exact (Option.some.inj w2).symm
 obtain ⟨fr2, g2, d1, d2, d3, d4, d5⟩ := b1.borrow true h0 h1 (by simp) (c2 true (by simp)) rfl
 have d2' : Ow enc sz H u2 (gt xs i).2.2 g2 := by rw [← hv]; exact d2
 exact ⟨u1, u2, fr2, g, g2, fun P t v hh => a1 P t 0 v hh, d1, b2, d2', b3.subl d4, d3, fun t h1 h2 => b3 t (d5 t h2) h1, fun t ht => b4 t (d4 t ht), b5, fun t ht => b4 t (d5 t ht)⟩
theorem Nd.zeros {n : Nat} (hp : 0 < sz) (h : Ow id 3 H s (List.replicate n [.bool false, .slice none 0 0, .slice none 0 0]) fp) : Nd enc sz H s (List.replicate n (false, [], [])) fp [] := by
 refine ⟨h.lt, _, fp, fun _ _ => [], h, fun _ h => h, by simp, fun i x cs hx hc => ?_, fun i k _ _ => ⟨fun t h => (by cases h), Dj.nil_r, fun _ _ _ _ _ => Dj.nil_l⟩⟩
 have e1 := List.eq_of_mem_replicate (List.mem_of_getElem? hx)
 have e2 := List.eq_of_mem_replicate (List.mem_of_getElem? hc)
 subst e1; subst e2
 exact ⟨_, _, rfl, rfl, rfl, fun k _ => by cases k <;> exact .nil hp⟩
end
end Go.Vd

namespace Go.Vd
/-! Steps under short names: what is reckoned is reckoned by itself. -/
section
set_option linter.unusedSectionVars false
variable [Pins] {P : Program} {ops : Array Oper} {K : AAct -> AH -> Prop} {α : AAct} {H : AH} {o : Oper} {rest : List Oper} {tbl : List (List Nat)} {i : Nat} {rs : List Nat} {fl : List (Nat × AAct × Value)}
theorem q_ (v : Value) (k : Zp P ops K rest (α.put o.dst v) H) (h : ZbM P ops o α H = some v := by kernel_rfl) : Zp P ops K (o :: rest) α H := Zgo v h k
theorem l_' (v : Value) (x : Option Value) (h : x = some v) (k : Zp P ops K rest (α.put o.dst v) H) (h1 : ZbM P ops o α H = x := by kernel_rfl) : Zp P ops K (o :: rest) α H := Zbi v h1 h k
theorem e_' (v : Value) (k : Zq P ops tbl K rs fl (α.put (Z4 ops i) v) H) (h : Zcu P ops tbl i rs α H = some v := by kernel_rfl) : Zq P ops tbl K (i :: rs) fl α H := ZcZ v h k
theorem m_' (v : Value) (x : Option Value) (h : x = some v) (k : Zq P ops tbl K rs fl (α.put (Z4 ops i) v) H) (h1 : Zcu P ops tbl i rs α H = x := by kernel_rfl) : Zq P ops tbl K (i :: rs) fl α H := Zd5 v h1 h k
theorem Zlm : ∀ {l : List (Nat × Value)}, (l.map fun p => α p.1) = l.map (·.2) -> Has α l
  | [], _ => trivial
  | (_, _) :: _, h => ⟨(List.cons.inj h).1, Zlm (List.cons.inj h).2⟩
theorem ha_ {l : List (Nat × Value)} (h : (l.map fun p => α p.1) = l.map (·.2) := by kernel_rfl) : Has α l := Zlm h
theorem n_' (k : Zp P ops K rest (α.put o.dst undef) H) (hg : Region.wanted o (ZX ops α) = false := by kernel_rfl) : Zp P ops K (o :: rest) α H := s_no hg k
theorem j_' (k : Zq P ops tbl K rs fl (α.put (Z4 ops i) undef) H) (h : Zim ops i α = true := by kernel_rfl) : Zq P ops tbl K (i :: rs) fl α H := ZlQ h k
theorem g_' {N id : Nat} {l : List Oper} {Q : Exit -> AAct -> AH -> Prop} (h : Zp P l.toArray (Q .normal) l α H) (hok : ZeV N l = true := by kernel_rfl) : aWp P N (.region id l.toArray false) Q α H := ZmR hok h
theorem w_' (x : Int) (hw : IntKind.i64.wrap x = x) (kk : Zp P ops K rest (α.put o.dst (.int .i64 x)) H) (h : ZbM P ops o α H = some (.int .i64 (IntKind.i64.wrap x)) := by kernel_rfl) : Zp P ops K (o :: rest) α H := s_w x h hw kk
end
abbrev i_ (n : Int) : Value := .int .i64 n
abbrev pt_ (b o : Nat) : Value := .pointer (some ⟨b, o, none⟩)
end Go.Vd
namespace Go.Vd
section
set_option linter.unusedSectionVars false
variable [Pins] {N : Nat} {Q : Exit -> AAct -> AH -> Prop} {ops : Array Oper} {K : AAct -> AH -> Prop} {α : AAct} {H : AH} {tbl : List (List Nat)} {fl : List (Nat × AAct × Value)}
noncomputable def vQ (ops : Array Oper) (o : Oper) (α : AAct) (H : AH) : Value := if Region.wanted o (ZX ops α) = true then (ZbM Go.Proofs.Tryz.prog ops o α H).getD undef else undef
noncomputable def rQ (ops : Array Oper) (H : AH) : Nat -> List Oper -> AAct -> AAct
  | 0, _, α => α
  | n + 1, l, α => match l with | [] => α | o :: r => rQ ops H n r (α.put o.dst (vQ ops o α H))
noncomputable def kQ (ops : Array Oper) (H : AH) : Nat -> List Oper -> AAct -> Bool
  | 0, _, _ => true
  | n + 1, l, α => match l with | [] => true | o :: r => (!Region.wanted o (ZX ops α) || (ZbM Go.Proofs.Tryz.prog ops o α H).isSome) && kQ ops H n r (α.put o.dst (vQ ops o α H))
theorem qs_ {rest : List Oper} (n : Nat) (k : Zp Go.Proofs.Tryz.prog ops K (rest.drop n) (rQ ops H n rest α) H) (h : kQ ops H n rest α = true := by kernel_rfl) : Zp Go.Proofs.Tryz.prog ops K rest α H := by
  induction n generalizing rest α with
  | zero => exact k
  | succ n ih =>
    cases rest with
    | nil => exact k
    | cons o r =>
      simp only [kQ, Bool.and_eq_true, Bool.or_eq_true, Bool.not_eq_true'] at h
      have t := ih k h.2
      cases hw : Region.wanted o (ZX ops α) with
      | false => exact s_no hw (by rwa [show vQ ops o α H = undef by unfold vQ; rw [hw]; rfl] at t)
      | true =>
        obtain ⟨v, hv⟩ := Option.isSome_iff_exists.1 (h.1.resolve_left (by rw [hw]; decide))
        exact Zgo v hv (by rwa [show vQ ops o α H = v by unfold vQ; rw [hw, hv]; rfl] at t)
theorem sn_ {id : Nat} {l : List Oper} {y : Code} (k : aWp Go.Proofs.Tryz.prog N y Q (rQ l.toArray H l.length l α) H) (hok : ZeV N l = true := by kernel_rfl) (h : kQ l.toArray H l.length l α = true := by kernel_rfl) : aWp Go.Proofs.Tryz.prog N (.seq (.region id l.toArray false) y) Q α H :=
  Zlq fun _ kk => ZmR hok (qs_ l.length (by rw [List.drop_length]; exact Za (kk _ _ k)) h)
noncomputable def vD (ops : Array Oper) (tbl : List (List Nat)) (i : Nat) (r : List Nat) (α : AAct) (H : AH) : Value := if Zim ops i α = true then undef else (Zcu Go.Proofs.Tryz.prog ops tbl i r α H).getD undef
noncomputable def rD (ops : Array Oper) (tbl : List (List Nat)) (H : AH) : Nat -> List Nat -> AAct -> AAct
  | 0, _, α => α
  | n + 1, l, α => match l with | [] => α | i :: r => rD ops tbl H n r (α.put (Z4 ops i) (vD ops tbl i r α H))
noncomputable def kD (ops : Array Oper) (tbl : List (List Nat)) (H : AH) : Nat -> List Nat -> AAct -> Bool
  | 0, _, _ => true
  | n + 1, l, α => match l with | [] => true | i :: r => (Zim ops i α || (Zcu Go.Proofs.Tryz.prog ops tbl i r α H).isSome) && kD ops tbl H n r (α.put (Z4 ops i) (vD ops tbl i r α H))
theorem es_ {rs : List Nat} (n : Nat) (k : Zq Go.Proofs.Tryz.prog ops tbl K (rs.drop n) fl (rD ops tbl H n rs α) H) (h : kD ops tbl H n rs α = true := by kernel_rfl) : Zq Go.Proofs.Tryz.prog ops tbl K rs fl α H := by
  induction n generalizing rs α with
  | zero => exact k
  | succ n ih =>
    cases rs with
    | nil => exact k
    | cons i r =>
      simp only [kD, Bool.and_eq_true, Bool.or_eq_true] at h
      have t := ih k h.2
      cases hw : Zim ops i α with
      | true => exact ZlQ hw (by rwa [show vD ops tbl i r α H = undef by unfold vD; rw [hw]; rfl] at t)
      | false =>
        obtain ⟨v, hv⟩ := Option.isSome_iff_exists.1 (h.1.resolve_left (by rw [hw]; decide))
        exact ZcZ v hv (by rwa [show vD ops tbl i r α H = v by unfold vD; rw [hw, hv]; rfl] at t)
end
end Go.Vd
namespace Go.Vd
section
variable [Pins] {P : Program} {α : AAct} {H H' : AH} {W : Fp} {b o : Nat} {cs : List Value} {t : TypeId} {v : Value}
theorem Ext.n (h : Ext H H') : H.next ≤ H'.next := h.next
theorem FrS.n (h : FrS W H H') : H.next ≤ H'.next := h.next
theorem t_ {a b c : Nat} (h : a ≤ b) (k : b ≤ c) : a ≤ c := Nat.le_trans h k
theorem Row.l_ (h : Row H b cs) (hv : Zd3 P t cs o = some v := by kernel_rfl) : ZbP P t (.pointer (some ⟨b, o, none⟩)) H = some v := h.ld hv
theorem rt_ {t : Nat} {v : Value} {l : List ResultVar} {vs : List Value} (hr : Zdc P α H l = some vs) (h : α t = v := by kernel_rfl) : Zdc P α H (.tmp t :: l) = some (v :: vs) := Zdb h hr
theorem oi_ {E : Type} {a b : E} (h : some a = some b) : a = b := Option.some.inj h
theorem f0_ (wf : WF H) : FrS [] H H := .refl wf
noncomputable abbrev aL_ (t : TypeId) (v : Value) (H : AH) : Option Value := ZbP Go.Proofs.Tryz.prog t v H
end
end Go.Vd
namespace Go.Vd
section
set_option linter.unusedSectionVars false
variable [Pins] {N : Nat} {Q : Exit -> AAct -> AH -> Prop} {ops : Array Oper} {K : AAct -> AH -> Prop} {α : AAct} {H H' : AH} {o : Oper} {rest : List Oper} {tbl : List (List Nat)} {i : Nat} {rs : List Nat} {fl : List (Nat × AAct × Value)}
variable {b : Nat} {cs : List Value} {E : Type} {enc : E -> List Value} {sz : Nat} {s : Value} {xs : List E} {fp : Fp} {j : Int}
theorem lr_ (t : TypeId) (p : Nat) (v : Value) (u : Row H b cs) (k : Zp Go.Proofs.Tryz.prog ops K rest (α.put o.dst v) H) (hv : Zd3 Go.Proofs.Tryz.prog t cs p = some v := by kernel_rfl) (h1 : ZbM Go.Proofs.Tryz.prog ops o α H = ZbP Go.Proofs.Tryz.prog t (.pointer (some ⟨b, p, none⟩)) H := by kernel_rfl) : Zp Go.Proofs.Tryz.prog ops K (o :: rest) α H := Zbi v h1 (u.ld hv) k
theorem mr_ (t : TypeId) (p : Nat) (v : Value) (u : Row H b cs) (k : Zq Go.Proofs.Tryz.prog ops tbl K rs fl (α.put (Z4 ops i) v) H) (hv : Zd3 Go.Proofs.Tryz.prog t cs p = some v := by kernel_rfl) (h1 : Zcu Go.Proofs.Tryz.prog ops tbl i rs α H = ZbP Go.Proofs.Tryz.prog t (.pointer (some ⟨b, p, none⟩)) H := by kernel_rfl) : Zq Go.Proofs.Tryz.prog ops tbl K (i :: rs) fl α H := Zd5 v h1 (u.ld hv) k
theorem le_ [Inhabited E] (t : TypeId) (f : Nat) (v : Value) (u : Sq enc sz H s xs fp) (h0 : 0 ≤ j) (h2 : j < (xs.length : Int)) (k : Zp Go.Proofs.Tryz.prog ops K rest (α.put o.dst v) H) (hv : Zd3 Go.Proofs.Tryz.prog t (enc (gt xs j)) f = some v := by kernel_rfl) (h1 : ZbM Go.Proofs.Tryz.prog ops o α H = ZbP Go.Proofs.Tryz.prog t (elp s sz j.toNat f) H := by kernel_rfl) : Zp Go.Proofs.Tryz.prog ops K (o :: rest) α H := Zbi v h1 (u.ld h0 h2 hv) k
theorem me_ [Inhabited E] (t : TypeId) (f : Nat) (v : Value) (u : Sq enc sz H s xs fp) (h0 : 0 ≤ j) (h2 : j < (xs.length : Int)) (k : Zq Go.Proofs.Tryz.prog ops tbl K rs fl (α.put (Z4 ops i) v) H) (hv : Zd3 Go.Proofs.Tryz.prog t (enc (gt xs j)) f = some v := by kernel_rfl) (h1 : Zcu Go.Proofs.Tryz.prog ops tbl i rs α H = ZbP Go.Proofs.Tryz.prog t (elp s sz j.toNat f) H := by kernel_rfl) : Zq Go.Proofs.Tryz.prog ops tbl K (i :: rs) fl α H := Zd5 v h1 (u.ld h0 h2 hv) k
theorem Sq.ix_ (u : Sq enc sz H s xs fp) (t : TypeId) (h0 : 0 ≤ j) (h2 : j < (xs.length : Int)) (k : Zp Go.Proofs.Tryz.prog ops K rest (α.put o.dst (elp s sz j.toNat 0)) H) (ht : Za8 Go.Proofs.Tryz.prog t = some sz := by kernel_rfl) (h1 : ZbM Go.Proofs.Tryz.prog ops o α H = Zad Go.Proofs.Tryz.prog t s (.int .i64 j) := by kernel_rfl) : Zp Go.Proofs.Tryz.prog ops K (o :: rest) α H := Zbi _ h1 (u.idxb ht h0 h2) k
theorem Sq.mx_ (u : Sq enc sz H s xs fp) (t : TypeId) (h0 : 0 ≤ j) (h2 : j < (xs.length : Int)) (k : Zq Go.Proofs.Tryz.prog ops tbl K rs fl (α.put (Z4 ops i) (elp s sz j.toNat 0)) H) (ht : Za8 Go.Proofs.Tryz.prog t = some sz := by kernel_rfl) (h1 : Zcu Go.Proofs.Tryz.prog ops tbl i rs α H = Zad Go.Proofs.Tryz.prog t s (.int .i64 j) := by kernel_rfl) : Zq Go.Proofs.Tryz.prog ops tbl K (i :: rs) fl α H := Zd5 _ h1 (u.idxb ht h0 h2) k
theorem Sq.ln_ (u : Sq enc sz H s xs fp) (t : TypeId) (k : Zp Go.Proofs.Tryz.prog ops K rest (α.put o.dst (.int .i64 xs.length)) H) (ht : Zd4 Go.Proofs.Tryz.prog t = true := by kernel_rfl) (h1 : ZbM Go.Proofs.Tryz.prog ops o α H = ZcQ Go.Proofs.Tryz.prog t s H := by kernel_rfl) : Zp Go.Proofs.Tryz.prog ops K (o :: rest) α H := Zbi _ h1 (u.lenb ht) k
theorem Sq.mn_ (u : Sq enc sz H s xs fp) (t : TypeId) (k : Zq Go.Proofs.Tryz.prog ops tbl K rs fl (α.put (Z4 ops i) (.int .i64 xs.length)) H) (ht : Zd4 Go.Proofs.Tryz.prog t = true := by kernel_rfl) (h1 : Zcu Go.Proofs.Tryz.prog ops tbl i rs α H = ZcQ Go.Proofs.Tryz.prog t s H := by kernel_rfl) : Zq Go.Proofs.Tryz.prog ops tbl K (i :: rs) fl α H := Zd5 _ h1 (u.lenb ht) k
theorem Nst.ix_ {C : CR E} (u : Nst C H s xs fp) (t : TypeId) (h0 : 0 ≤ j) (h2 : j < (xs.length : Int)) (k : Zp Go.Proofs.Tryz.prog ops K rest (α.put o.dst (elp s C.sz j.toNat 0)) H) (ht : Za8 Go.Proofs.Tryz.prog t = some C.sz := by kernel_rfl) (h1 : ZbM Go.Proofs.Tryz.prog ops o α H = Zad Go.Proofs.Tryz.prog t s (.int .i64 j) := by kernel_rfl) : Zp Go.Proofs.Tryz.prog ops K (o :: rest) α H := Zbi _ h1 (u.idxb ht h0 h2) k
theorem Nst.mx_ {C : CR E} (u : Nst C H s xs fp) (t : TypeId) (h0 : 0 ≤ j) (h2 : j < (xs.length : Int)) (k : Zq Go.Proofs.Tryz.prog ops tbl K rs fl (α.put (Z4 ops i) (elp s C.sz j.toNat 0)) H) (ht : Za8 Go.Proofs.Tryz.prog t = some C.sz := by kernel_rfl) (h1 : Zcu Go.Proofs.Tryz.prog ops tbl i rs α H = Zad Go.Proofs.Tryz.prog t s (.int .i64 j) := by kernel_rfl) : Zq Go.Proofs.Tryz.prog ops tbl K (i :: rs) fl α H := Zd5 _ h1 (u.idxb ht h0 h2) k
theorem Nst.ln_ {C : CR E} (u : Nst C H s xs fp) (t : TypeId) (k : Zp Go.Proofs.Tryz.prog ops K rest (α.put o.dst (.int .i64 xs.length)) H) (ht : Zd4 Go.Proofs.Tryz.prog t = true := by kernel_rfl) (h1 : ZbM Go.Proofs.Tryz.prog ops o α H = ZcQ Go.Proofs.Tryz.prog t s H := by kernel_rfl) : Zp Go.Proofs.Tryz.prog ops K (o :: rest) α H := Zbi _ h1 (u.lenb ht) k
theorem Nst.mn_ {C : CR E} (u : Nst C H s xs fp) (t : TypeId) (k : Zq Go.Proofs.Tryz.prog ops tbl K rs fl (α.put (Z4 ops i) (.int .i64 xs.length)) H) (ht : Zd4 Go.Proofs.Tryz.prog t = true := by kernel_rfl) (h1 : Zcu Go.Proofs.Tryz.prog ops tbl i rs α H = ZcQ Go.Proofs.Tryz.prog t s H := by kernel_rfl) : Zq Go.Proofs.Tryz.prog ops tbl K (i :: rs) fl α H := Zd5 _ h1 (u.lenb ht) k
theorem Hol.ix_ {E' : Type} {C : CR E} {enc' : E' -> List Value} {sz' off q : Nat} {upd : List E' -> E} (u : Hol C enc' sz' H s xs q off upd fp) (t : TypeId) (h0 : 0 ≤ j) (h2 : j < (xs.length : Int)) (k : Zp Go.Proofs.Tryz.prog ops K rest (α.put o.dst (elp s C.sz j.toNat 0)) H) (ht : Za8 Go.Proofs.Tryz.prog t = some C.sz := by kernel_rfl) (h1 : ZbM Go.Proofs.Tryz.prog ops o α H = Zad Go.Proofs.Tryz.prog t s (.int .i64 j) := by kernel_rfl) : Zp Go.Proofs.Tryz.prog ops K (o :: rest) α H := Zbi _ h1 (u.idxb ht h0 h2) k
theorem Hol.mx_ {E' : Type} {C : CR E} {enc' : E' -> List Value} {sz' off q : Nat} {upd : List E' -> E} (u : Hol C enc' sz' H s xs q off upd fp) (t : TypeId) (h0 : 0 ≤ j) (h2 : j < (xs.length : Int)) (k : Zq Go.Proofs.Tryz.prog ops tbl K rs fl (α.put (Z4 ops i) (elp s C.sz j.toNat 0)) H) (ht : Za8 Go.Proofs.Tryz.prog t = some C.sz := by kernel_rfl) (h1 : Zcu Go.Proofs.Tryz.prog ops tbl i rs α H = Zad Go.Proofs.Tryz.prog t s (.int .i64 j) := by kernel_rfl) : Zq Go.Proofs.Tryz.prog ops tbl K (i :: rs) fl α H := Zd5 _ h1 (u.idxb ht h0 h2) k
theorem Nd.ix_ {xs : List (Bool × List E × List E)} {hol : List (Nat × Bool)} (u : Nd enc sz H s xs fp hol) (t : TypeId) (h0 : 0 ≤ j) (h2 : j < (xs.length : Int)) (k : Zp Go.Proofs.Tryz.prog ops K rest (α.put o.dst (elp s 3 j.toNat 0)) H) (ht : Za8 Go.Proofs.Tryz.prog t = some 3 := by kernel_rfl) (h1 : ZbM Go.Proofs.Tryz.prog ops o α H = Zad Go.Proofs.Tryz.prog t s (.int .i64 j) := by kernel_rfl) : Zp Go.Proofs.Tryz.prog ops K (o :: rest) α H := Zbi _ h1 (u.idxb ht h0 h2) k
theorem Nd.mx_ {xs : List (Bool × List E × List E)} {hol : List (Nat × Bool)} (u : Nd enc sz H s xs fp hol) (t : TypeId) (h0 : 0 ≤ j) (h2 : j < (xs.length : Int)) (k : Zq Go.Proofs.Tryz.prog ops tbl K rs fl (α.put (Z4 ops i) (elp s 3 j.toNat 0)) H) (ht : Za8 Go.Proofs.Tryz.prog t = some 3 := by kernel_rfl) (h1 : Zcu Go.Proofs.Tryz.prog ops tbl i rs α H = Zad Go.Proofs.Tryz.prog t s (.int .i64 j) := by kernel_rfl) : Zq Go.Proofs.Tryz.prog ops tbl K (i :: rs) fl α H := Zd5 _ h1 (u.idxb ht h0 h2) k
theorem Nd.ln_ {xs : List (Bool × List E × List E)} {hol : List (Nat × Bool)} (u : Nd enc sz H s xs fp hol) (t : TypeId) (k : Zp Go.Proofs.Tryz.prog ops K rest (α.put o.dst (.int .i64 xs.length)) H) (ht : Zd4 Go.Proofs.Tryz.prog t = true := by kernel_rfl) (h1 : ZbM Go.Proofs.Tryz.prog ops o α H = ZcQ Go.Proofs.Tryz.prog t s H := by kernel_rfl) : Zp Go.Proofs.Tryz.prog ops K (o :: rest) α H := Zbi _ h1 (u.lenb ht) k
theorem Nd.mn_ {xs : List (Bool × List E × List E)} {hol : List (Nat × Bool)} (u : Nd enc sz H s xs fp hol) (t : TypeId) (k : Zq Go.Proofs.Tryz.prog ops tbl K rs fl (α.put (Z4 ops i) (.int .i64 xs.length)) H) (ht : Zd4 Go.Proofs.Tryz.prog t = true := by kernel_rfl) (h1 : Zcu Go.Proofs.Tryz.prog ops tbl i rs α H = ZcQ Go.Proofs.Tryz.prog t s H := by kernel_rfl) : Zq Go.Proofs.Tryz.prog ops tbl K (i :: rs) fl α H := Zd5 _ h1 (u.lenb ht) k
theorem ck_ {f : FuncId} {args : Array Value} {K' : Value -> AH -> Prop} (hf : ACalls Go.Proofs.Tryz.prog f args H K') (k : ∀ v H', K' v H' -> Zp Go.Proofs.Tryz.prog ops K rest (α.put o.dst v) H') (h : Zg1 Go.Proofs.Tryz.prog ops o α = some (f, args) := by kernel_rfl) : Zp Go.Proofs.Tryz.prog ops K (o :: rest) α H := Zgu f args h hf k
theorem dk_ {f : FuncId} {args : Array Value} {K' : Value -> AH -> Prop} (hf : ACalls Go.Proofs.Tryz.prog f args H K') (k : ∀ v H', K' v H' -> ZcL Go.Proofs.Tryz.prog ops tbl i H' fl /\ Zq Go.Proofs.Tryz.prog ops tbl K rs fl (α.put (Z4 ops i) v) H') (h : Zeb ops i (fun o => Zg1 Go.Proofs.Tryz.prog ops o α) = some (f, args) := by kernel_rfl) : Zq Go.Proofs.Tryz.prog ops tbl K (i :: rs) fl α H := ZkI f args h hf k
theorem ek_ {x : Option AH} (h : x = some H') (k : Zp Go.Proofs.Tryz.prog ops K rest (α.put o.dst undef) H') (h1 : Zib Go.Proofs.Tryz.prog ops o α H = x.map fun H' => (undef, H') := by kernel_rfl) : Zp Go.Proofs.Tryz.prog ops K (o :: rest) α H := ZaL undef h1 (Zjp h) k
theorem fk_ {x : Option AH} (h : x = some H') (st : ZcL Go.Proofs.Tryz.prog ops tbl i H' fl) (k : Zq Go.Proofs.Tryz.prog ops tbl K rs fl (α.put (Z4 ops i) undef) H') (h1 : Zeb ops i (fun o => Zib Go.Proofs.Tryz.prog ops o α H) = x.map fun H' => (undef, H') := by kernel_rfl) : Zq Go.Proofs.Tryz.prog ops tbl K (i :: rs) fl α H := Zgz undef h1 (Zjp h) st k
theorem wc_ {c : Operand} {x y : Code} (p : Prop) [Decidable p] (ht : p -> aWp Go.Proofs.Tryz.prog N x Q α H) (hf : ¬ p -> aWp Go.Proofs.Tryz.prog N y Q α H) (hb : ZW α c = .bool (decide p) := by kernel_rfl) (hok : ZdO c = true := by rfl) : aWp Go.Proofs.Tryz.prog N (.cond c x y) Q α H := ZgX p hb hok ht hf
theorem wb_ {c : Operand} {x y : Code} (b : Bool) (ht : b = true -> aWp Go.Proofs.Tryz.prog N x Q α H) (hf : b = false -> aWp Go.Proofs.Tryz.prog N y Q α H) (hb : ZW α c = .bool b := by kernel_rfl) (hok : ZdO c = true := by rfl) : aWp Go.Proofs.Tryz.prog N (.cond c x y) Q α H := Zjt b hb hok ht hf
theorem sb_ (p : Prop) [Decidable p] (ht : p -> Zp Go.Proofs.Tryz.prog ops K rest (α.put o.dst (.bool true)) H) (hf : ¬p -> Zp Go.Proofs.Tryz.prog ops K rest (α.put o.dst (.bool false)) H) (h : ZbM Go.Proofs.Tryz.prog ops o α H = some (.bool (decide p)) := by kernel_rfl) : Zp Go.Proofs.Tryz.prog ops K (o :: rest) α H := s_b p h ht hf
theorem db_ (p : Prop) [Decidable p] (ht : p -> Zq Go.Proofs.Tryz.prog ops tbl K rs fl (α.put (Z4 ops i) (.bool true)) H) (hf : ¬p -> Zq Go.Proofs.Tryz.prog ops tbl K rs fl (α.put (Z4 ops i) (.bool false)) H) (h : Zcu Go.Proofs.Tryz.prog ops tbl i rs α H = some (.bool (decide p)) := by kernel_rfl) : Zq Go.Proofs.Tryz.prog ops tbl K (i :: rs) fl α H := d_b p h ht hf
theorem rk_ (hw : WF H) (cs : List Value) (k : ∀ b H', Ext H H' -> Inn [] H [b] -> Row H' b cs -> Zp Go.Proofs.Tryz.prog ops K rest (α.put o.dst (.pointer (some ⟨b, 0, none⟩))) H') (h : Zdv Go.Proofs.Tryz.prog ops o α = some (.row .own cs, ZdG) := by kernel_rfl) : Zp Go.Proofs.Tryz.prog ops K (o :: rest) α H := s_rwk hw cs h k
theorem rl_ (hw : WF H) (cs : List Value) (k : ∀ b H', Ext H H' -> Inn [] H [b] -> Row H' b cs -> Zp Go.Proofs.Tryz.prog ops K rest (α.put o.dst (.pointer (some ⟨b, 0, none⟩))) H') (h1 : Zw cs = true := by kernel_rfl) (h : Zdv Go.Proofs.Tryz.prog ops o α = if Zw cs = true then some (.row .own cs, ZdG) else none := by kernel_rfl) : Zp Go.Proofs.Tryz.prog ops K (o :: rest) α H := ZaK hw cs h1 h k
theorem sq_ {x y : Code} (h : ∀ {K : AAct -> AH -> Prop}, (∀ α H, aWp Go.Proofs.Tryz.prog N y Q α H -> K α H) -> aWp Go.Proofs.Tryz.prog N x (Zds K Q) α H) : aWp Go.Proofs.Tryz.prog N (.seq x y) Q α H := Zlq fun _ k => h k
theorem ab_ {f : FuncId} {fn : Func} {c : Code} {args : Array Value} {K : Value -> AH -> Prop} (hf : Go.Proofs.Tryz.prog.funcs[f]? = some fn) (h : aWp Go.Proofs.Tryz.prog fn.ntmps c (Zfn Go.Proofs.Tryz.prog fn K) (Zi3 args) H) (hb : fn.body = some c := by rfl) (hn : Nat.ble args.size fn.ntmps = true := by rfl) : ACalls Go.Proofs.Tryz.prog f args H K := ZeB mixed hf hb (Nat.le_of_ble_eq_true hn) h
theorem br_ {fn : Func} {K : Value -> AH -> Prop} (vs : List Value) (k : K (Zfw vs) H) (h : Zdc Go.Proofs.Tryz.prog α H fn.results.toList = some vs := by kernel_rfl) : Zfn Go.Proofs.Tryz.prog fn K .ret α H := Zac h k
theorem nr_ {fn : Func} {K : Value -> AH -> Prop} (vs : List Value) (k : K (Zfw vs) H) (h : Zdc Go.Proofs.Tryz.prog α H fn.results.toList = some vs := by kernel_rfl) : Zfn Go.Proofs.Tryz.prog fn K .normal α H := Zfj h k
theorem ra_ (t p : Nat) (hw : WF H) (h : Row H b cs) (vs cs' : List Value) (hx : (Value.agg vs.toArray).cells.toList = vs := by kernel_rfl) (hs : (Go.Proofs.Tryz.prog.info? t).map (·.size) = some vs.length := by kernel_rfl) (h1 : Zw vs = true := by kernel_rfl) (hl : Nat.ble (p + vs.length) cs.length = true := by kernel_rfl) (hcs : Z9 cs p vs = cs' := by kernel_rfl) : ∃ H', Zda Go.Proofs.Tryz.prog t (.pointer (some ⟨b, p, none⟩)) (.agg vs.toArray) H = some H' /\ FrS [b] H H' /\ Row H' b cs' := Row.store hw h _ vs hx hs h1 (Nat.le_of_ble_eq_true hl) cs' hcs
theorem rb_ (t p : Nat) (hw : WF H) (h : Row H b cs) (v : Value) (cs' : List Value) (hx : v.cells.toList = [v] := by kernel_rfl) (hs : (Go.Proofs.Tryz.prog.info? t).map (·.size) = some [v].length := by kernel_rfl) (h1 : Zw [v] = true := by kernel_rfl) (hl : Nat.ble (p + [v].length) cs.length = true := by kernel_rfl) (hcs : Z9 cs p [v] = cs' := by kernel_rfl) : ∃ H', Zda Go.Proofs.Tryz.prog t (.pointer (some ⟨b, p, none⟩)) v H = some H' /\ FrS [b] H H' /\ Row H' b cs' := Row.store hw h _ [v] hx hs h1 (Nat.le_of_ble_eq_true hl) cs' hcs
end
section
variable {H H1 H2 : AH} {W S : Fp}
theorem fr_ (h : WF H) : FrS W H H := .refl h
theorem fs_ (hw : WF H) (h : FrS W H H1) (k : FrS S H1 H2) (hi : Inn W H S) : FrS W H H2 := .step hw h k hi
theorem bs_ {α β : Type} {x : Option α} {f : α -> Option β} {r : β} (h : x.bind f = some r) : ∃ y, x = some y /\ f y = some r := bind_some h
theorem lt_ {n : Nat} : n < n + 1 := Nat.lt_succ_self n
theorem dn_ {a : Fp} : Dj [] a := Dj.nil_l
theorem in_ : Inn W H [] := Inn.nil
theorem ir_ : Inn W H W := Inn.refl'
end
end Go.Vd

/-! (InA) -/

set_option maxRecDepth 100000
set_option maxHeartbeats 4000000
set_option linter.unusedVariables false
set_option linter.unusedSimpArgs false
namespace Go.Vd
section
variable {α : Type}
theorem ZmB {a r u : List α} {i m : Nat} {y : α} (ha : a.length = i) (hr : r.length = m + 1) (hu : u.length = m) :
  ((a ++ r).take i ++ [y] ++ (a ++ r).drop (i + 1)).take (i + 1) ++ u ++ ((a ++ r).take i ++ [y] ++ (a ++ r).drop (i + 1)).drop (i + 1 + m) = a ++ ([y] ++ u) := by
 subst ha; subst hu
 have h1 : (a ++ r).take a.length = a := List.take_left
 have h2 : (a ++ r).drop (a.length + 1) = r.drop 1 := by rw [List.drop_append]; simp
 rw [h1, h2]
 have h3 : (a ++ [y] ++ r.drop 1).take (a.length + 1) = a ++ [y] := by
  have : (a ++ [y]).length = a.length + 1 := by simp
  rw [← this]; exact List.take_left
 have h4 : (a ++ [y] ++ r.drop 1).drop (a.length + 1 + u.length) = [] := List.drop_eq_nil_of_le (by simp; omega)
 rw [h3, h4]; simp
theorem Zmc {a J u : List α} {i m : Nat} {y : α} (ha : a.length = i) (hJ : 1 ≤ J.length) (hu : u.length = m) :
  ((a ++ u ++ J).take (i + 1) ++ u ++ (a ++ u ++ J).drop (i + 1 + m)).take i ++ [y] ++ ((a ++ u ++ J).take (i + 1) ++ u ++ (a ++ u ++ J).drop (i + 1 + m)).drop (i + 1) = a ++ ([y] ++ u) ++ J.drop 1 := by
 subst ha; subst hu
 have h1 : ((a ++ u ++ J).take (a.length + 1)).length = a.length + 1 := by rw [List.length_take]; simp; omega
 have h2 : (a ++ u ++ J).drop (a.length + 1 + u.length) = J.drop 1 := by
  have : a.length + 1 + u.length = (a ++ u).length + 1 := by simp; omega
  rw [this, List.drop_append]; simp
 rw [h2]
 have h3 : ((a ++ u ++ J).take (a.length + 1) ++ u ++ J.drop 1).take a.length = a := by
  rw [List.append_assoc, List.take_append_of_le_length (by omega), List.take_take, Nat.min_eq_left (by omega), List.append_assoc]; exact List.take_left
 have h4 : ((a ++ u ++ J).take (a.length + 1) ++ u ++ J.drop 1).drop (a.length + 1) = u ++ J.drop 1 := by
  have : ((a ++ u ++ J).take (a.length + 1) ++ (u ++ J.drop 1)).drop ((a ++ u ++ J).take (a.length + 1)).length = u ++ J.drop 1 := List.drop_left
  rw [h1] at this
  rw [List.append_assoc]; exact this
 rw [h3, h4]; simp
end
section
variable [Pins]
variable {H : AH} {E : Type} {enc : E -> List Value} {s t : Value} {xs : List E} {y : E} {fp ft : Fp} {i j : Int}
structure InS (enc : E -> List Value) (H : AH) (s : Value) (xs : List E) (fs : Fp) : Prop where
 ow : Ow enc 3 H s xs fs
 is : ((s = .slice none 0 0 ∨ s = ZbN) /\ xs = []) ∨ ∃ b c J, s = .slice (some ⟨b, 0, none⟩) xs.length c /\ fs = [b] /\ Rw H b .own 3 (xs.map enc ++ J) /\ xs.length + J.length = c
theorem Zi8 {f : FuncId} {rest : List Value} {P : Program} {R : List E} (wf : WF H) (h : Ow enc 3 H s xs fp)
  (k : ∀ s' H' fs, WF H' -> FrS fp H H' -> InS enc H' s' xs fs -> Inn fp H fs -> ACalls P f (s' :: rest).toArray H' fun v H2 => ∃ fp', FrS fs H' H2 /\ Ow enc 3 H2 v R fp' /\ Inn fs H' fp') :
  ACalls P f (s :: rest).toArray H fun v H2 => ∃ fp', FrS fp H H2 /\ Ow enc 3 H2 v R fp' /\ Inn fp H fp' := by
 have fin : ∀ {s'} {H'} {fs : Fp}, FrS fp H H' -> Inn fp H fs -> ACalls P f (s' :: rest).toArray H' (fun v H2 => ∃ fp', FrS fs H' H2 /\ Ow enc 3 H2 v R fp' /\ Inn fs H' fp') ->
   ACalls P f (s' :: rest).toArray H' fun v H2 => ∃ fp', FrS fp H H2 /\ Ow enc 3 H2 v R fp' /\ Inn fp H fp' := fun hf hi hk =>
  hk.mono fun v H2 ⟨f', a, b, c⟩ => ⟨f', hf.step wf a hi, b, hi.trans hf.next c⟩
 refine ACalls.spread wf h (fun hx hs => ?_) (fun hx => ?_) (fun H2 b c R' hf hb hn hg hl ho hc hcell => ?_)
 ·subst hx; subst hs
  exact fin (.refl wf) Inn.nil (k _ H [] wf (.refl wf) ⟨.nil (by decide), .inl ⟨.inl rfl, rfl⟩⟩ Inn.nil)
 ·subst hx
  exact fin (.refl wf) Inn.nil (k _ H [] wf (.refl wf) ⟨.void (by decide), .inl ⟨.inr rfl, rfl⟩⟩ Inn.nil)
 ·have hlo : (∀ x ∈ xs, (enc x).length = 3) /\ ∀ x ∈ xs, Zw (enc x) = true := by
   rcases h.is with ⟨_, rfl⟩ | ⟨φ, _, o⟩
   ·exact ⟨fun x hx => (by cases hx), fun x hx => (by cases hx)⟩
   ·exact ⟨o.len, o.one⟩
  have hlt : b < H2.next := by omega
  obtain ⟨J, hr, hJ⟩ := Rw.of (enc := enc) (xs := xs) hlt (by decide) hg hl hc hlo.1 hcell
  have hin : Inn fp H [b] := fun t ht => .inr (by rw [List.mem_singleton.1 ht]; omega)
  exact fin hf hin (k _ H2 [b] hf.wf hf ⟨hr.ow (.inl ⟨rfl, rfl⟩) rfl hlo.2 hlt rfl (by simpa using hJ), .inr ⟨b, c, J, rfl, rfl, hr, hJ⟩⟩ hin)
end
end Go.Vd

/-! (InB) -/

set_option maxRecDepth 100000
set_option maxHeartbeats 4000000
set_option linter.unusedVariables false
set_option linter.unusedSimpArgs false
namespace Go.Vd
section
variable [Pins]
variable {H : AH} {E : Type} {enc : E -> List Value} {s t : Value} {xs : List E} {y : E} {fs ft : Fp} {i : Int}
attribute [local irreducible] Zp Zq aWp
theorem ZlM (wf : WF H) (hs : InS enc H s xs fs) (ht : Ow enc 3 H t [y] ft) (dj : Dj fs ft) (g : 0 ≤ i /\ i ≤ (xs.length : Int) /\ (xs.length : Int) ≤ 1000000000) :
  ACalls Go.Proofs.Tryz.prog 68 #[s, .int .i64 i, t] H fun v H' => ∃ fp', FrS fs H H' /\ Ow enc 3 H' v (xs.take i.toNat ++ ([y] ++ xs.drop i.toNat)) fp' /\ Inn fs H fp' := by
 obtain ⟨g0, g1, g2⟩ := g
 obtain ⟨tb, tc, kt, ct, rfl, tlt, tg, tk, tlen, tcell, ty, ty1⟩ : ∃ tb tc kt ct, t = .slice (some ⟨tb, 0, none⟩) 1 tc /\ tb < H.next /\ H.get tb = some (.row kt ct) /\ (kt ≠ .ro /\ ZG H tb ∈ ft) /\ 3 ≤ ct.length /\ H.cells tb 0 (1 * 3) = some ([enc y].flatMap id) /\ (enc y).length = 3 /\ Zw (enc y) = true := by
  rcases ht.is with ⟨_, h⟩ | ⟨φ, hφ, o⟩
  ·cases h
  rcases o.is with ⟨_, h⟩ | ⟨b, c, k, cs, e1, e2, e3, e4, e5, e6, e7⟩
  ·cases h
  have hl := o.len y (List.mem_singleton.2 rfl)
  have e5' : 1 ≤ c := e5
  refine ⟨b, c, k, cs, e1, e2, e3, ⟨?_, ?_⟩, by omega, ?_, hl, o.one y (List.mem_singleton.2 rfl)⟩
  ·rcases e4 with ⟨rfl, _⟩ | rfl <;> simp
  ·rcases e4 with ⟨rfl, rfl⟩ | rfl
   ·rw [show ZG H φ = φ by simp [ZG, e3]]; exact hφ
   ·rw [show ZG H b = φ by simp [ZG, e3]]; exact hφ
  ·rcases ht.sq.src with ⟨h, _⟩ | h
   ·rw [e1] at h; simp [ZbN] at h
   ·rw [e1] at h
    have := h.cells.2
    simpa using this
 refine ZeB mixed Go.Proofs.Tryz.func68 rfl (Nat.le_of_ble_eq_true rfl) ?_
 refine sq_ fun k1 => g_' (q_ (.slice none 0 0) (Za (k1 _ _ (sq_ fun k2 => g_' (q_ s (q_ (.int .i64 i) ?_))))))
 obtain ⟨v1, hv1⟩ : ∃ v, ZP Go.Proofs.Tryz.prog 92 s (some (.int .i64 i)) none none H = some v := by
  rcases hs.is with ⟨hs0, rfl⟩ | ⟨b, c, J, rfl, _, hr, hJ⟩
  ·obtain rfl : i = 0 := by simp at g1; omega
   obtain ⟨m, z, hT⟩ := ZaH (P := Go.Proofs.Tryz.prog) (t := 92) (n := 3) (by kernel_rfl)
   obtain ⟨e, inf, hu, hi, _⟩ := Zax hT
   rcases hs0 with rfl | rfl
   ·exact ⟨_, by unfold ZP; simp only [hu, hi]; simp [Z0]; rfl⟩
   ·exact ⟨_, by unfold ZP ZbN; simp only [hu, hi]; simp [Z0]; rfl⟩
  ·exact hr.slo0 (by simp) (by kernel_rfl) g0 (by omega) (by omega)
 refine Zbi v1 (x := ZP Go.Proofs.Tryz.prog 92 s (some (.int .i64 i)) none none H) (by kernel_rfl) hv1 ?_
 refine Za (k2 _ _ (sq_ fun k3 => g_' (q_ (.slice (some ⟨tb, 0, none⟩) 1 tc) ?_)))
 refine Zbi (.int .i64 1) (x := ZcQ Go.Proofs.Tryz.prog 92 (.slice (some ⟨tb, 0, none⟩) 1 tc) H) (by kernel_rfl) (ht.sq.lenb (by kernel_rfl)) ?_
 refine q_ (.int .i64 1) (Za (k3 _ _ (sq_ fun k5 => sq_ fun k4 => g_' (q_ (.int .i64 1) (q_ (.bool false) (Za (k4 _ _ ?_)))))))
 refine Zjt false (by kernel_rfl) rfl (fun h => by cases h) (fun _ => ?_)
 refine Zg (k5 _ _ (sq_ fun k6 => g_' (q_ s ?_)))
 refine Zbi (.int .i64 xs.length) (x := ZcQ Go.Proofs.Tryz.prog 92 s H) (by kernel_rfl) (hs.ow.sq.lenb (by kernel_rfl)) ?_
 refine q_ (.int .i64 xs.length) (Za (k6 _ _ (sq_ fun k8 => sq_ fun k7 => g_' (q_ (.int .i64 i) (q_ (.int .i64 xs.length) (q_ (.bool (decide (i = (xs.length : Int)))) (Za (k7 _ _ ?_))))))))
 refine ZgX (i = (xs.length : Int)) (by kernel_rfl) rfl (fun h => ?_) (fun hi => ?_)
 ·refine sq_ fun k9 => g_' (q_ s (q_ (.slice (some ⟨tb, 0, none⟩) 1 tc) ?_))
  obtain ⟨s2, H2, f2, ha, hf, ho2, hi2⟩ := Ow.append (P := Go.Proofs.Tryz.prog) 24 wf hs.ow ht.sq (fun x hx => by rw [List.mem_singleton.1 hx]; exact ty1) (at_ := #[92, 92]) rfl rfl (by kernel_rfl) (by kernel_rfl) (by decide) (by simp only [List.length_cons, List.length_nil]; omega)
  refine ZaL s2 (x := Zam Go.Proofs.Tryz.prog #[92, 92] s (.slice (some ⟨tb, 0, none⟩) 1 tc) H) (by kernel_rfl) ha ?_
  refine q_ s2 (Za (k9 _ _ ?_))
  refine Zh ?_
  dsimp only [Zds]
  refine Zac (vs := [s2]) (Zdb (by kernel_rfl) (rfl)) ?_
  refine ⟨f2, hf, ?_, hi2⟩
  rw [h, Int.toNat_natCast, List.take_length, List.drop_length, List.append_nil]
  exact ho2
 rcases hs.is with ⟨_, rfl⟩ | ⟨b, c, J, rfl, rfl, hr, hJ⟩
 ·simp at hi g1; omega
 have hmap : (xs.map enc).length = xs.length := List.length_map ..
 have hcl : (xs.map enc ++ J).length = c := by rw [List.length_append, hmap]; exact hJ
 have hone : ∀ x ∈ xs, Zw (enc x) = true := by
  rcases hs.ow.is with ⟨_, rfl⟩ | ⟨φ, _, o⟩
  ·intro x hx; cases hx
  ·exact o.one
 have hlen3 : ∀ x ∈ xs, (enc x).length = 3 := fun x hx => hr.len _ (List.mem_append_left _ (List.mem_map_of_mem hx))
 have htok : ZG H b = b := by simp [ZG, hr.get]
 have htb : tb ≠ b := fun e => dj b (List.mem_singleton.2 rfl) (by rw [← htok]; rw [← e]; exact tk.2)
 have hdl : ((xs.drop i.toNat).map enc).length = xs.length - i.toNat := by simp
 have hd3 : ∀ x ∈ (xs.drop i.toNat).map enc, x.length = 3 := fun x hx => by
  obtain ⟨u, hu, rfl⟩ := List.mem_map.1 hx
  exact hlen3 u (List.mem_of_mem_drop hu)
 have hyl : ∀ x ∈ [enc y], x.length = 3 := fun x hx => by rw [List.mem_singleton.1 hx]; exact ty
 have hal : ((xs.take i.toNat).map enc).length = i.toNat := by simp; omega
 have hsplit : xs.map enc = (xs.take i.toNat).map enc ++ (xs.drop i.toNat).map enc := by rw [← List.map_append, List.take_append_drop]
 have hus : ((xs.map enc ++ J).drop i.toNat).take (xs.length - i.toNat) = (xs.drop i.toNat).map enc := by
  have e1 : ((xs.take i.toNat).map enc ++ ((xs.drop i.toNat).map enc ++ J)).drop ((xs.take i.toNat).map enc).length = (xs.drop i.toNat).map enc ++ J := List.drop_left
  have e2 : ((xs.drop i.toNat).map enc ++ J).take ((xs.drop i.toNat).map enc).length = (xs.drop i.toNat).map enc := List.take_left
  rw [hal] at e1
  rw [hdl] at e2
  rw [hsplit, List.append_assoc, e1, e2]
 have hone' : ∀ x ∈ xs.take i.toNat ++ ([y] ++ xs.drop i.toNat), Zw (enc x) = true := fun x hx => by
  rcases List.mem_append.1 hx with hx | hx
  ·exact hone x (List.mem_of_mem_take hx)
  ·rcases List.mem_append.1 hx with hx | hx
   ·rw [List.mem_singleton.1 hx]; exact ty1
   ·exact hone x (List.mem_of_mem_drop hx)
 have hnl : (xs.take i.toNat ++ ([y] ++ xs.drop i.toNat)).length = xs.length + 1 := by simp; omega
 have hnmap : (xs.take i.toNat ++ ([y] ++ xs.drop i.toNat)).map enc = (xs.take i.toNat).map enc ++ ([enc y] ++ (xs.drop i.toNat).map enc) := by simp
 refine Zg (k8 _ _ (sq_ fun k11 => sq_ fun k10 => g_' (q_ (.int .i64 xs.length) (q_ (.int .i64 1) (w_' ((xs.length : Int) + 1) (Zo ⟨by omega, by omega⟩) (q_ (.slice (some ⟨b, 0, none⟩) xs.length c) ?_))))))
 refine Zbi (.int .i64 c) (x := Zhq Go.Proofs.Tryz.prog 92 (.slice (some ⟨b, 0, none⟩) xs.length c) H) (by kernel_rfl) (hr.cap (by kernel_rfl)) ?_
 refine q_ (.bool (decide ((xs.length : Int) + 1 > (c : Int)))) (Za (k10 _ _ ?_))
 refine ZgX ((xs.length : Int) + 1 > (c : Int)) (by kernel_rfl) rfl (fun hc => ?_) (fun hc => ?_)
 ·-- a new row
  refine sq_ fun k12 => g_' (q_ (.slice (some ⟨b, 0, none⟩) xs.length c) (q_ (.int .i64 i) ?_))
  refine Zbi (.slice (some ⟨b, 0, none⟩) i.toNat c) (x := ZP Go.Proofs.Tryz.prog 92 (.slice (some ⟨b, 0, none⟩) xs.length c) none (some (.int .i64 i)) none H) (by kernel_rfl) (hr.shi (by kernel_rfl) g0 (by omega)) ?_
  refine q_ (.int .i64 xs.length) (q_ (.int .i64 1) (w_' ((xs.length : Int) + 1) (Zo ⟨by omega, by omega⟩) (q_ (.int .i64 i) (w_' ((xs.length : Int) + 1 - i) (Zo ⟨by omega, by omega⟩) ?_))))
  obtain ⟨H2, zs, ha, he2, hn2, hr2⟩ := hr.grow (P := Go.Proofs.Tryz.prog) (at_ := #[92, 3]) (t0 := 92) (t1 := 3) (m := 24) (n := i.toNat) (c := c) (kk := .i64) (ki := .i64) (z := (xs.length : Int) + 1 - i) wf rfl rfl (by kernel_rfl) (by kernel_rfl) (by omega) (by omega) (by omega) (by decide) (by omega)
  rw [show i.toNat + ((xs.length : Int) + 1 - i).toNat = xs.length + 1 by omega] at ha
  have hJ0 : J = [] := List.eq_nil_of_length_eq_zero (by omega)
  subst hJ0
  rw [List.append_nil] at hr hus hr2
  rw [show (xs.map enc).take i.toNat = (xs.take i.toNat).map enc from (List.map_take ..).symm] at hr2
  generalize hz : List.replicate ((xs.length : Int) + 1 - i).toNat zs = Z at hr2
  have hzl : Z.length = xs.length - i.toNat + 1 := by rw [← hz, List.length_replicate]; omega
  refine ZaL (.slice (some ⟨H.next, 0, none⟩) (xs.length + 1) (xs.length + 1)) (x := Zam Go.Proofs.Tryz.prog #[92, 3] (.slice (some ⟨b, 0, none⟩) i.toNat c) (.int .i64 ((xs.length : Int) + 1 - i)) H) (by kernel_rfl) ha ?_
  refine q_ (.slice (some ⟨H.next, 0, none⟩) (xs.length + 1) (xs.length + 1)) (Za (k12 _ _ (sq_ fun k13 => g_' (q_ (.slice (some ⟨H.next, 0, none⟩) (xs.length + 1) (xs.length + 1)) (q_ (.int .i64 i) ?_)))))
  refine Zbi (.slice (some ⟨H.next, i.toNat * 3, none⟩) (xs.length + 1 - i.toNat) (xs.length + 1 - i.toNat)) (x := ZP Go.Proofs.Tryz.prog 92 (.slice (some ⟨H.next, 0, none⟩) (xs.length + 1) (xs.length + 1)) (some (.int .i64 i)) none none H2) (by kernel_rfl) (hr2.slo (by kernel_rfl) g0 (by omega) (by omega) (by omega)) ?_
  refine q_ (.slice (some ⟨tb, 0, none⟩) 1 tc) ?_
  have tcell2 : H2.cells tb 0 ([enc y].length * 3) = some ([enc y].flatMap id) := by
   rw [← tcell]; unfold AH.cells; rw [he2.same tb tlt]; rfl
  obtain ⟨H3, hc3, f3, n3, r3⟩ := hr2.copy (P := Go.Proofs.Tryz.prog) (at_ := #[92, 92]) (t0 := 92) (m := 24) (o := i.toNat) (n1 := xs.length + 1 - i.toNat) (c1 := xs.length + 1 - i.toNat) (b2 := tb) (o2 := 0) (n2 := 1) (c2 := tc) (us := [enc y]) (φ := H.next) he2.wf (.inr rfl) rfl (by kernel_rfl) tcell2 (by simp only [List.length_cons, List.length_nil]; omega) hyl (by rw [List.length_append, hal, hzl]; simp only [List.length_cons, List.length_nil]; omega)
  refine ZaL _ (x := ZeD Go.Proofs.Tryz.prog #[92, 92] (.slice (some ⟨H.next, i.toNat * 3, none⟩) (xs.length + 1 - i.toNat) (xs.length + 1 - i.toNat)) (.slice (some ⟨tb, 0, none⟩) 1 tc) H2) (by kernel_rfl) hc3 ?_
  refine Za (k13 _ _ ?_)
  have hbn : b < H2.next := by have := hr.lt; omega
  have hrb : Rw H3 b .own 3 (xs.map enc) := (hr.fr (he2.frS []) (fun h => by cases h)).fr (f3.frS (W := [H.next]) (List.mem_singleton.2 rfl)) (by
   have : ZG H2 b = b := by simp [ZG, he2.same b hr.lt, hr.get]
   rw [this]; intro h; have := List.mem_singleton.1 h; have := hr.lt; omega)
  refine sq_ fun k14 => ?_
  refine ZR [0, 1, 2, 3, 4, 5, 6, 7, 8] (by kernel_rfl) ?_
  refine ZcZ (.slice (some ⟨H.next, 0, none⟩) (xs.length + 1) (xs.length + 1)) (by kernel_rfl) ?_
  refine ZcZ (.int .i64 i) (by kernel_rfl) ?_
  refine ZcZ (.int .i64 1) (by kernel_rfl) ?_
  refine d_w (i + 1) (k := .i64) (x := i + 1) (by kernel_rfl) (Zo ⟨by omega, by omega⟩) ?_
  refine Zd5 (.slice (some ⟨H.next, (i + 1).toNat * 3, none⟩) (xs.length + 1 - (i + 1).toNat) (xs.length + 1 - (i + 1).toNat)) (x := ZP Go.Proofs.Tryz.prog 92 (.slice (some ⟨H.next, 0, none⟩) (xs.length + 1) (xs.length + 1)) (some (.int .i64 (i + 1))) none none H3) (by kernel_rfl) (r3.slo (by kernel_rfl) (by omega) (by omega) (by omega) (by omega)) ?_
  refine ZcZ (.slice (some ⟨b, 0, none⟩) xs.length c) (by kernel_rfl) ?_
  refine ZcZ (.int .i64 i) (by kernel_rfl) ?_
  refine Zd5 (.slice (some ⟨b, i.toNat * 3, none⟩) (xs.length - i.toNat) (c - i.toNat)) (x := ZP Go.Proofs.Tryz.prog 92 (.slice (some ⟨b, 0, none⟩) xs.length c) (some (.int .i64 i)) none none H3) (by kernel_rfl) (hrb.slo (by kernel_rfl) (by omega) (by omega) (by omega) (by omega)) ?_
  have ccell : H3.cells b (i.toNat * 3) (((xs.drop i.toNat).map enc).length * 3) = some (((xs.drop i.toNat).map enc).flatMap id) := by
   rw [hdl]
   have := hrb.cells (o := i.toNat) (n := xs.length - i.toNat) (by rw [hmap]; omega)
   rw [hus] at this; exact this
  obtain ⟨H4, hc4, f4, n4, r4⟩ := r3.copy (P := Go.Proofs.Tryz.prog) (at_ := #[92, 92]) (t0 := 92) (m := 24) (o := (i + 1).toNat) (n1 := xs.length + 1 - (i + 1).toNat) (c1 := xs.length + 1 - (i + 1).toNat) (b2 := b) (o2 := i.toNat * 3) (n2 := xs.length - i.toNat) (c2 := c - i.toNat) (us := (xs.drop i.toNat).map enc) (φ := H.next) f3.wf (.inr rfl) rfl (by kernel_rfl) ccell (by rw [hdl]; omega) hd3
   (by rw [hdl]; simp only [List.length_append, List.length_take, List.length_drop, hal, hzl, List.length_cons, List.length_nil]; omega)
  refine Zgz _ (x := ZeD Go.Proofs.Tryz.prog #[92, 92] (.slice (some ⟨H.next, (i + 1).toNat * 3, none⟩) (xs.length + 1 - (i + 1).toNat) (xs.length + 1 - (i + 1).toNat)) (.slice (some ⟨b, i.toNat * 3, none⟩) (xs.length - i.toNat) (c - i.toNat)) H3) (by kernel_rfl) hc4 trivial ?_
  refine ZK ?_
  refine k14 _ _ (sq_ fun k15 => g_' (q_ (.slice (some ⟨H.next, 0, none⟩) (xs.length + 1) (xs.length + 1)) (q_ (.slice (some ⟨H.next, 0, none⟩) (xs.length + 1) (xs.length + 1)) (Za (k15 _ _ ?_)))))
  refine Zh ?_
  dsimp only [Zds]
  refine Zac (vs := [.slice (some ⟨H.next, 0, none⟩) (xs.length + 1) (xs.length + 1)]) (Zdb (by kernel_rfl) (rfl)) ?_
  have hfin := ZmB (y := enc y) hal hzl hdl
  rw [hdl, show (i + 1).toNat = i.toNat + 1 by omega] at r4
  rw [show ([enc y] : List (List Value)).length = 1 from rfl, hfin] at r4
  have hlt4 : H.next < H4.next := by omega
  refine ⟨[H.next], ?_, r4.ow (.inr rfl) (J := []) (by rw [hnmap, List.append_nil]) hone' hlt4 hnl ?_, fun u hu => .inr (by rw [List.mem_singleton.1 hu]; exact Nat.le_refl _)⟩
  ·have a1 : FrS [b] H H2 := he2.frS [b]
   have hin : Inn [b] H [H.next] := fun u hu => .inr (by rw [List.mem_singleton.1 hu]; exact Nat.le_refl _)
   have a2 := a1.step wf (f3.frS (W := [H.next]) (List.mem_singleton.2 rfl)) hin
   exact a2.step wf (f4.frS (W := [H.next]) (List.mem_singleton.2 rfl)) hin
  ·simp only [List.length_append, hal, hdl, List.length_cons, List.length_nil]; omega
 -- in place
 refine Zg (k11 _ _ ?_)
 have hJ1 : 1 ≤ J.length := by omega
 have hn1 : ((xs.length : Int) + 1).toNat = xs.length + 1 := by omega
 refine sq_ fun k21 => g_' (q_ (.slice (some ⟨b, 0, none⟩) xs.length c) (q_ (.int .i64 xs.length) (q_ (.int .i64 1) (w_' ((xs.length : Int) + 1) (Zo ⟨by omega, by omega⟩) ?_))))
 refine Zbi (.slice (some ⟨b, 0, none⟩) (xs.length + 1) c) (x := ZP Go.Proofs.Tryz.prog 92 (.slice (some ⟨b, 0, none⟩) xs.length c) none (some (.int .i64 ((xs.length : Int) + 1))) none H) (by kernel_rfl) (by have := hr.shi (P := Go.Proofs.Tryz.prog) (t := 92) (kk := .i64) (i := (xs.length : Int) + 1) (n := xs.length) (c := c) (by kernel_rfl) (by omega) (by omega); rw [hn1] at this; exact this) ?_
 refine q_ (.slice (some ⟨b, 0, none⟩) (xs.length + 1) c) (Za (k21 _ _ (sq_ fun k23 => sq_ fun k22 => g_' (q_ (.slice (some ⟨tb, 0, none⟩) 1 tc) (q_ (.slice (some ⟨b, 0, none⟩) (xs.length + 1) c) (q_ (.int .i64 i) (q_ (.int .i64 1) (w_' (i + 1) (Zo ⟨by omega, by omega⟩) ?_))))))))
 have hsl2 : ZP Go.Proofs.Tryz.prog 92 (.slice (some ⟨b, 0, none⟩) (xs.length + 1) c) (some (.int .i64 (i + 1))) none none H = some (.slice (some ⟨b, (i + 1).toNat * 3, none⟩) (xs.length + 1 - (i + 1).toNat) (c - (i + 1).toNat)) := hr.slo (by kernel_rfl) (by omega) (by omega) (by omega) (by omega)
 have hsl1 : ZP Go.Proofs.Tryz.prog 92 (.slice (some ⟨b, 0, none⟩) (xs.length + 1) c) (some (.int .i64 i)) none none H = some (.slice (some ⟨b, i.toNat * 3, none⟩) (xs.length + 1 - i.toNat) (c - i.toNat)) := hr.slo (by kernel_rfl) (by omega) (by omega) (by omega) (by omega)
 refine Zbi (.slice (some ⟨b, (i + 1).toNat * 3, none⟩) (xs.length + 1 - (i + 1).toNat) (c - (i + 1).toNat)) (x := ZP Go.Proofs.Tryz.prog 92 (.slice (some ⟨b, 0, none⟩) (xs.length + 1) c) (some (.int .i64 (i + 1))) none none H) (by kernel_rfl) hsl2 ?_
 refine s_ov (g := 85) (fn := Go.Proofs.Tryz.f85) (tS := 92) (tR := 4) (tb := tb) (tc := tc) (b := b) (off := (i + 1).toNat * 3) (n := xs.length + 1 - (i + 1).toNat) (c := c - (i + 1).toNat) (sz := 3) (kt := kt) (ct := ct) rfl (by kernel_rfl) (by kernel_rfl) Go.Proofs.Tryz.func85 (by kernel_rfl) (by kernel_rfl) (by kernel_rfl) (by kernel_rfl) (by kernel_rfl) (by kernel_rfl) (by kernel_rfl) (by omega) tg tk.1 hr.get ?_ htb ?_
 ·rw [ZaB (enc := id) hr.len]; omega
 refine q_ (.bool true) (Za (k22 _ _ ?_))
 refine Zjt true (by kernel_rfl) rfl (fun _ => ?_) (fun h => by cases h)
 refine sq_ fun k24 => ?_
 refine ZR [0, 1, 2, 3, 4, 5, 6, 7, 8] (by kernel_rfl) ?_
 refine ZcZ (.slice (some ⟨b, 0, none⟩) (xs.length + 1) c) (by kernel_rfl) ?_
 refine ZcZ (.int .i64 i) (by kernel_rfl) ?_
 refine ZcZ (.int .i64 1) (by kernel_rfl) ?_
 refine d_w (i + 1) (k := .i64) (x := i + 1) (by kernel_rfl) (Zo ⟨by omega, by omega⟩) ?_
 refine Zd5 (.slice (some ⟨b, (i + 1).toNat * 3, none⟩) (xs.length + 1 - (i + 1).toNat) (c - (i + 1).toNat)) (x := ZP Go.Proofs.Tryz.prog 92 (.slice (some ⟨b, 0, none⟩) (xs.length + 1) c) (some (.int .i64 (i + 1))) none none H) (by kernel_rfl) hsl2 ?_
 refine ZcZ (.slice (some ⟨b, 0, none⟩) (xs.length + 1) c) (by kernel_rfl) ?_
 refine ZcZ (.int .i64 i) (by kernel_rfl) ?_
 refine Zd5 (.slice (some ⟨b, i.toNat * 3, none⟩) (xs.length + 1 - i.toNat) (c - i.toNat)) (x := ZP Go.Proofs.Tryz.prog 92 (.slice (some ⟨b, 0, none⟩) (xs.length + 1) c) (some (.int .i64 i)) none none H) (by kernel_rfl) hsl1 ?_
 have ccell : H.cells b (i.toNat * 3) (((xs.drop i.toNat).map enc).length * 3) = some (((xs.drop i.toNat).map enc).flatMap id) := by
  rw [hdl]
  have := hr.cells (o := i.toNat) (n := xs.length - i.toNat) (by rw [List.length_append, hmap]; omega)
  rw [hus] at this; exact this
 obtain ⟨H2, hc2, f2, n2, r2⟩ := hr.copy (P := Go.Proofs.Tryz.prog) (at_ := #[92, 92]) (t0 := 92) (m := 24) (o := (i + 1).toNat) (n1 := xs.length + 1 - (i + 1).toNat) (c1 := c - (i + 1).toNat) (b2 := b) (o2 := i.toNat * 3) (n2 := xs.length + 1 - i.toNat) (c2 := c - i.toNat) (us := (xs.drop i.toNat).map enc) (φ := b) wf (.inl ⟨rfl, rfl⟩) rfl (by kernel_rfl) ccell (by rw [hdl]; omega) hd3
  (by rw [hdl, List.length_append, hmap]; omega)
 refine Zgz _ (x := ZeD Go.Proofs.Tryz.prog #[92, 92] (.slice (some ⟨b, (i + 1).toNat * 3, none⟩) (xs.length + 1 - (i + 1).toNat) (c - (i + 1).toNat)) (.slice (some ⟨b, i.toNat * 3, none⟩) (xs.length + 1 - i.toNat) (c - i.toNat)) H) (by kernel_rfl) hc2 trivial ?_
 refine ZK ?_
 refine k24 _ _ (sq_ fun k25 => g_' (q_ (.slice (some ⟨b, 0, none⟩) (xs.length + 1) c) (q_ (.int .i64 i) ?_)))
 refine Zbi (.slice (some ⟨b, i.toNat * 3, none⟩) (xs.length + 1 - i.toNat) (c - i.toNat)) (x := ZP Go.Proofs.Tryz.prog 92 (.slice (some ⟨b, 0, none⟩) (xs.length + 1) c) (some (.int .i64 i)) none none H2) (by kernel_rfl) (r2.slo (by kernel_rfl) g0 (by omega) (by omega) (by omega)) ?_
 refine q_ (.slice (some ⟨tb, 0, none⟩) 1 tc) ?_
 have tcell2 : H2.cells tb 0 ([enc y].length * 3) = some ([enc y].flatMap id) := by
  rw [← tcell]; unfold AH.cells
  rw [f2.same tb tlt (fun e => dj b (List.mem_singleton.2 rfl) (by rw [← e]; exact tk.2))]; rfl
 obtain ⟨H3, hc3, f3, n3, r3⟩ := r2.copy (P := Go.Proofs.Tryz.prog) (at_ := #[92, 92]) (t0 := 92) (m := 24) (o := i.toNat) (n1 := xs.length + 1 - i.toNat) (c1 := c - i.toNat) (b2 := tb) (o2 := 0) (n2 := 1) (c2 := tc) (us := [enc y]) (φ := b) f2.wf (.inl ⟨rfl, rfl⟩) rfl (by kernel_rfl) tcell2 (by simp only [List.length_cons, List.length_nil]; omega) hyl
  (by simp only [List.length_append, List.length_take, List.length_drop, hdl, hmap, List.length_cons, List.length_nil]; omega)
 refine ZaL _ (x := ZeD Go.Proofs.Tryz.prog #[92, 92] (.slice (some ⟨b, i.toNat * 3, none⟩) (xs.length + 1 - i.toNat) (c - i.toNat)) (.slice (some ⟨tb, 0, none⟩) 1 tc) H2) (by kernel_rfl) hc3 ?_
 refine Za (k25 _ _ (sq_ fun k26 => g_' (q_ (.slice (some ⟨b, 0, none⟩) (xs.length + 1) c) (q_ (.slice (some ⟨b, 0, none⟩) (xs.length + 1) c) (Za (k26 _ _ ?_))))))
 refine Zh ?_
 dsimp only [Zds]
 refine Zac (vs := [.slice (some ⟨b, 0, none⟩) (xs.length + 1) c]) (Zdb (by kernel_rfl) (rfl)) ?_
 have hfin := Zmc (y := enc y) hal hJ1 hdl
 rw [hdl, show (i + 1).toNat = i.toNat + 1 by omega, hsplit] at r3
 rw [show ([enc y] : List (List Value)).length = 1 from rfl, hfin] at r3
 have hlt3 : b < H3.next := r3.lt
 refine ⟨[b], ?_, r3.ow (.inl ⟨rfl, rfl⟩) (J := J.drop 1) (by rw [hnmap]) hone' hlt3 hnl ?_, Inn.self⟩
 ·exact (f2.frS (W := [b]) (List.mem_singleton.2 rfl)).step wf (f3.frS (W := [b]) (List.mem_singleton.2 rfl)) Inn.self
 ·simp only [List.length_append, hal, hdl, List.length_drop, List.length_cons, List.length_nil]; omega
end
end Go.Vd

/-! (InC) -/

set_option maxRecDepth 100000
set_option maxHeartbeats 4000000
set_option linter.unusedVariables false
set_option linter.unusedSimpArgs false
namespace Go.Vd
section
variable {α : Type}
theorem ZmA {a d u J z : List α} {i j m : Nat} (ha : a.length = i) (hd : d.length = j) (hu : u.length = m) (hz : z.length = j) :
  ((a ++ (d ++ u) ++ J).take i ++ u ++ (a ++ (d ++ u) ++ J).drop (i + m)).take (i + m) ++ z ++ ((a ++ (d ++ u) ++ J).take i ++ u ++ (a ++ (d ++ u) ++ J).drop (i + m)).drop (i + m + j) = a ++ u ++ (z ++ J) := by
 subst ha; subst hd; subst hu
 have h1 : (a ++ (d ++ u) ++ J).take a.length = a := by rw [List.append_assoc]; exact List.take_left
 have hl : (a ++ u).length = a.length + u.length := List.length_append
 have h2 : ∀ W : List α, (a ++ u ++ W).take (a.length + u.length) = a ++ u := fun W => by rw [← hl]; exact List.take_left
 have h3 : ∀ W : List α, (a ++ u ++ W).drop (a.length + u.length + d.length) = W.drop d.length := fun W => by
  rw [← hl, ← List.drop_drop, List.drop_left]
 rw [h1, h2, h3, List.drop_drop]
 have h4 : (a ++ (d ++ u) ++ J).drop (a.length + u.length + d.length) = J := by
  have : a.length + u.length + d.length = (a ++ (d ++ u)).length := by simp; omega
  rw [this]; exact List.drop_left
 rw [h4]; simp
end
section
variable [Pins]
variable {H : AH} {E : Type} {enc : E -> List Value} {s t : Value} {xs : List E} {y : E} {fp fs ft : Fp} {i j : Int}
theorem Zmh (wf : WF H) (h : Ow enc 3 H s xs fp) (ht : Ow enc 3 H t [y] ft) (dj : Dj fp ft) (g : 0 ≤ i /\ i ≤ (xs.length : Int) /\ (xs.length : Int) ≤ 1000000000) :
  ACalls Go.Proofs.Tryz.prog 68 #[s, .int .i64 i, t] H fun v H' => ∃ fp', FrS fp H H' /\ Ow enc 3 H' v (xs.take i.toNat ++ ([y] ++ xs.drop i.toNat)) fp' /\ Inn fp H fp' :=
 Zi8 (rest := [.int .i64 i, t]) wf h fun s' H' fs wf' hf hs hi => ZlM wf' hs (ht.fr hf dj) (hi.dj dj ht.lt) g
theorem Rw.app {P : Program} {b b2 o2 n2 c2 n c m : Nat} {css us : List (List Value)} {at_ : Array TypeId} {t0 t1 : TypeId} (hw : WF H) (h : Rw H b .own 3 css) (a0 : at_[0]? = some t0) (a1 : at_[1]? = some t1) (hT' : Zfz P t0 = some (3, m)) (hT1' : Zd4 P t1 = true)
  (hc : H.cells b2 o2 (us.length * 3) = some (us.flatMap id)) (hn2 : us.length = n2) (h1 : ∀ x ∈ us, Zw x = true) (hl : ∀ x ∈ us, x.length = 3) (hroom : n + us.length ≤ c) (hcc : css.length = c) :
  ∃ H', Zam P at_ (.slice (some ⟨b, 0, none⟩) n c) (.slice (some ⟨b2, o2, none⟩) n2 c2) H = some (.slice (some ⟨b, 0, none⟩) (n + us.length) c, H') /\ Fr b H H' /\ H'.next = H.next /\ Rw H' b .own 3 (css.take n ++ us ++ css.drop (n + us.length)) := by
 subst hn2
 obtain ⟨z, hT⟩ := ZdH hT'
 obtain ⟨e1, hT1⟩ := ZdQ hT1'
 obtain ⟨e, i, hu1, hi, hel, hs, hb⟩ := Zax hT
 have hone : Zw (us.flatMap id) = true := Zfx (enc := id) h1
 have key : Zam P at_ (.slice (some ⟨b, 0, none⟩) n c) (.slice (some ⟨b2, o2, none⟩) us.length c2) H = AH.append H 3 m (.slice (some ⟨b, 0, none⟩) n c) us.length (us.flatMap id) := by
  unfold Zam
  rw [a0, a1]
  simp only [Option.bind_some, hel, hT1, hs, hb, hc, hone, if_true]
 have hlen := ZaB (enc := id) (sz := 3) hl
 rw [key]
 unfold AH.append
 rw [if_neg (by omega)]
 dsimp only
 rw [if_pos hroom]
 by_cases h0 : us.length = 0
 ·obtain rfl := List.eq_nil_of_length_eq_zero h0
  exact ⟨H, by simp, (Ext.refl hw).toFr b, rfl, by simpa using h⟩
 ·obtain ⟨H', p1, p2, p3, p4⟩ := h.put hw (.inl ⟨rfl, rfl⟩) (o := n) (us := us) hl (by omega)
  refine ⟨H', ?_, p2, p3, p4⟩
  rw [if_neg h0, Nat.zero_add, p1]; rfl
theorem Rw.clear {P : Program} {b o n c m : Nat} {css : List (List Value)} {at_ : Array TypeId} {t0 : TypeId} (hw : WF H) (h : Rw H b .own 3 css) (a0 : at_[0]? = some t0) (hT' : Zfz P t0 = some (3, m)) (hroom : o + n ≤ css.length) :
  ∃ H' Z, Z.length = n /\ ZdN P at_ (.slice (some ⟨b, o * 3, none⟩) n c) H = some H' /\ Fr b H H' /\ H'.next = H.next /\ Rw H' b .own 3 (css.take o ++ Z ++ css.drop (o + n)) := by
 obtain ⟨z, hT⟩ := ZdH hT'
 obtain ⟨e, i, hu1, hi, hel, hs, hb⟩ := Zax hT
 have hzl : z.cells.toList.length = 3 := by
  unfold ZaT at hel
  rw [hu1] at hel
  dsimp only at hel
  rw [hi] at hel
  dsimp only at hel
  split at hel
  ·split at hel
   ·rename_i hh; cases hel; rw [← hs]; simpa using hh.1
   ·cases hel
  ·cases hel
 have hel0 : at_[0]?.bind (ZaT P) = some (e, i, z) := by rw [a0]; exact hel
 have hZ : Z2 z n = (List.replicate n z.cells.toList).flatMap id := by unfold Z2; rw [List.flatMap_id]
 have hZl : (List.replicate n z.cells.toList).length = n := List.length_replicate
 obtain ⟨H', p1, p2, p3, p4⟩ := h.put hw (.inl ⟨rfl, rfl⟩) (o := o) (us := List.replicate n z.cells.toList) (fun x hx => by rw [(List.mem_replicate.1 hx).2]; exact hzl) (by rw [hZl]; exact hroom)
 by_cases h0 : n = 0
 ·subst h0
  refine ⟨H, [], rfl, ?_, (Ext.refl hw).toFr b, rfl, by simpa using h⟩
  unfold ZdN
  rw [hel0]
  simp
 ·refine ⟨H', List.replicate n z.cells.toList, hZl, ?_, p2, p3, by rw [hZl] at p4; exact p4⟩
  unfold ZdN
  rw [hel0]
  dsimp only
  rw [if_neg h0, hZ, p1]
attribute [local irreducible] Zp Zq aWp
theorem ZlA (wf : WF H) (hs : InS enc H s xs fs) (g : 0 ≤ i /\ i ≤ j /\ j ≤ (xs.length : Int) /\ (xs.length : Int) ≤ 1000000000) :
  ACalls Go.Proofs.Tryz.prog 69 #[s, .int .i64 i, .int .i64 j] H fun v H' => ∃ fp', FrS fs H H' /\ Ow enc 3 H' v (xs.take i.toNat ++ xs.drop j.toNat) fp' /\ Inn fs H fp' := by
 obtain ⟨g0, g1, g2, g3⟩ := g
 refine ZeB mixed Go.Proofs.Tryz.func69 rfl (Nat.le_of_ble_eq_true rfl) ?_
 refine sq_ fun k1 => g_' (q_ (.slice none 0 0) (Za (k1 _ _ (sq_ fun k2 => g_' (q_ s (q_ (.int .i64 i) (q_ (.int .i64 j) (q_ s ?_))))))))
 refine Zbi (.int .i64 xs.length) (x := ZcQ Go.Proofs.Tryz.prog 92 s H) (by kernel_rfl) (hs.ow.sq.lenb (by kernel_rfl)) ?_
 obtain ⟨b0, n0, c0, cb0, hs3, hc0⟩ : ∃ b0 n0 c0 cb0, (((s = .slice none 0 0 ∨ s = ZbN) /\ c0 = 0) ∨ (s = .slice (some ⟨b0, 0, none⟩) n0 c0 /\ H.get b0 = some (.row .own cb0))) /\ xs.length ≤ c0 := by
  rcases hs.is with ⟨h, rfl⟩ | ⟨b, c, J, h, _, hr, hJ⟩
  ·exact ⟨0, 0, 0, [], .inl ⟨h, rfl⟩, Nat.le_refl _⟩
  ·exact ⟨b, xs.length, c, _, .inr ⟨h, hr.get⟩, by omega⟩
 refine s_s3 (b := b0) (n := n0) (c := c0) (cb := cb0) (sz := 3) (s := s) (k1 := .i64) (k2 := .i64) (k3 := .i64) (i := i) (j := j) (m := xs.length) rfl (by kernel_rfl) (by kernel_rfl) (by kernel_rfl) hs3 (by kernel_rfl) (by kernel_rfl) (by kernel_rfl) g0 g1 g2 (by omega) fun v3 => ?_
 refine Za (k2 _ _ (sq_ fun k4 => sq_ fun k3 => g_' (q_ (.int .i64 i) (q_ (.int .i64 j) (q_ (.bool (decide (i = j))) (Za (k3 _ _ ?_)))))))
 refine ZgX (i = j) (by kernel_rfl) rfl (fun h => ?_) (fun hi => ?_)
 ·refine sq_ fun k9 => g_' (q_ s (q_ s (Za (k9 _ _ ?_))))
  refine Zh ?_
  dsimp only [Zds]
  refine Zac (vs := [s]) (Zdb (by kernel_rfl) (rfl)) ?_
  refine ⟨fs, .refl wf, ?_, Inn.self⟩
  rw [h, List.take_append_drop]
  exact hs.ow
 rcases hs.is with ⟨_, rfl⟩ | ⟨b, c, J, rfl, rfl, hr, hJ⟩
 ·simp at g2; omega
 have hmap : (xs.map enc).length = xs.length := List.length_map ..
 have hcl : (xs.map enc ++ J).length = c := by rw [List.length_append, hmap]; exact hJ
 have hone : ∀ x ∈ xs, Zw (enc x) = true := by
  rcases hs.ow.is with ⟨_, rfl⟩ | ⟨φ, _, o⟩
  ·intro x hx; cases hx
  ·exact o.one
 have hlen3 : ∀ x ∈ xs, (enc x).length = 3 := fun x hx => hr.len _ (List.mem_append_left _ (List.mem_map_of_mem hx))
 have hul : ((xs.drop j.toNat).map enc).length = xs.length - j.toNat := by simp
 have hu3 : ∀ x ∈ (xs.drop j.toNat).map enc, x.length = 3 := fun x hx => by
  obtain ⟨u, hu, rfl⟩ := List.mem_map.1 hx
  exact hlen3 u (List.mem_of_mem_drop hu)
 have hu1 : ∀ x ∈ (xs.drop j.toNat).map enc, Zw x = true := fun x hx => by
  obtain ⟨u, hu, rfl⟩ := List.mem_map.1 hx
  exact hone u (List.mem_of_mem_drop hu)
 have hal : ((xs.take i.toNat).map enc).length = i.toNat := by simp; omega
 have hdl : (((xs.drop i.toNat).take (j.toNat - i.toNat)).map enc).length = j.toNat - i.toNat := by simp; omega
 have hsplit : xs.map enc = (xs.take i.toNat).map enc ++ (((xs.drop i.toNat).take (j.toNat - i.toNat)).map enc ++ (xs.drop j.toNat).map enc) := by
  have e1 : xs.drop j.toNat = (xs.drop i.toNat).drop (j.toNat - i.toNat) := by rw [List.drop_drop]; congr 1; omega
  rw [e1, ← List.map_append, ← List.map_append, List.take_append_drop, List.take_append_drop]
 have hus : ((xs.map enc ++ J).drop j.toNat).take (xs.length - j.toNat) = (xs.drop j.toNat).map enc := by
  rw [List.drop_append_of_le_length (by omega), ← List.map_drop, List.take_append_of_le_length (by omega), ← hul, List.take_length]
 have hone' : ∀ x ∈ xs.take i.toNat ++ xs.drop j.toNat, Zw (enc x) = true := fun x hx => by
  rcases List.mem_append.1 hx with hx | hx
  ·exact hone x (List.mem_of_mem_take hx)
  ·exact hone x (List.mem_of_mem_drop hx)
 have hnl : (xs.take i.toNat ++ xs.drop j.toNat).length = i.toNat + (xs.length - j.toNat) := by simp; omega
 refine Zg (k4 _ _ (sq_ fun k5 => g_' (q_ (.slice (some ⟨b, 0, none⟩) xs.length c) ?_)))
 refine Zbi (.int .i64 xs.length) (x := ZcQ Go.Proofs.Tryz.prog 92 (.slice (some ⟨b, 0, none⟩) xs.length c) H) (by kernel_rfl) (hs.ow.sq.lenb (by kernel_rfl)) ?_
 refine q_ (.int .i64 xs.length) (Za (k5 _ _ ?_))
 -- what stays is put behind the beginning
 obtain ⟨o2, c2, hsl, hcell⟩ : ∃ o2 c2, ZP Go.Proofs.Tryz.prog 92 (.slice (some ⟨b, 0, none⟩) xs.length c) (some (.int .i64 j)) none none H = some (.slice (some ⟨b, o2, none⟩) (xs.length - j.toNat) c2) /\ H.cells b o2 (((xs.drop j.toNat).map enc).length * 3) = some (((xs.drop j.toNat).map enc).flatMap id) := by
  by_cases hjc : j < (c : Int)
  ·refine ⟨_, _, hr.slo (by kernel_rfl) (by omega) g2 (by omega) hjc, ?_⟩
   rw [hul]
   have := hr.cells (o := j.toNat) (n := xs.length - j.toNat) (by rw [hcl]; omega)
   rw [hus] at this; exact this
  ·obtain ⟨m, z, hT⟩ := ZaH (P := Go.Proofs.Tryz.prog) (t := 92) (n := 3) (by kernel_rfl)
   obtain ⟨e, inf, hu, hi', _⟩ := Zax hT
   refine ⟨0, c - j.toNat, ?_, ?_⟩
   ·unfold ZP
    simp only [hu, hi', Z0, show 0 ≤ j by omega, if_true, hr.get]
    rw [if_pos (by omega), if_neg (by simp [AObj.isLoose]; omega)]
   ·rw [show (xs.drop j.toNat).map enc = [] from List.eq_nil_of_length_eq_zero (by omega)]
    have := hr.cells (o := 0) (n := 0) (by omega)
    simpa using this
 refine sq_ fun k6 => ?_
 refine ZR [0, 1, 2, 3, 4, 5, 6, 7] (by kernel_rfl) ?_
 refine ZcZ (.slice (some ⟨b, 0, none⟩) xs.length c) (by kernel_rfl) ?_
 refine ZcZ (.int .i64 i) (by kernel_rfl) ?_
 refine Zd5 (.slice (some ⟨b, 0, none⟩) i.toNat c) (x := ZP Go.Proofs.Tryz.prog 92 (.slice (some ⟨b, 0, none⟩) xs.length c) none (some (.int .i64 i)) none H) (by kernel_rfl) (hr.shi (by kernel_rfl) g0 (by omega)) ?_
 refine ZcZ (.slice (some ⟨b, 0, none⟩) xs.length c) (by kernel_rfl) ?_
 refine ZcZ (.int .i64 j) (by kernel_rfl) ?_
 refine Zd5 (.slice (some ⟨b, o2, none⟩) (xs.length - j.toNat) c2) (x := ZP Go.Proofs.Tryz.prog 92 (.slice (some ⟨b, 0, none⟩) xs.length c) (some (.int .i64 j)) none none H) (by kernel_rfl) hsl ?_
 obtain ⟨H2, ha2, f2, n2, r2⟩ := hr.app (P := Go.Proofs.Tryz.prog) (at_ := #[92, 92]) (t0 := 92) (t1 := 92) (m := 24) (n := i.toNat) (c := c) (b2 := b) (o2 := o2) (n2 := xs.length - j.toNat) (c2 := c2) (us := (xs.drop j.toNat).map enc) wf rfl rfl (by kernel_rfl) (by kernel_rfl) hcell hul hu1 hu3 (by rw [hul]; omega) hcl
 refine Zgz _ (x := Zam Go.Proofs.Tryz.prog #[92, 92] (.slice (some ⟨b, 0, none⟩) i.toNat c) (.slice (some ⟨b, o2, none⟩) (xs.length - j.toNat) c2) H) (by kernel_rfl) ha2 trivial ?_
 generalize hnn : i.toNat + ((xs.drop j.toNat).map enc).length = nn at r2
 refine ZcZ (.slice (some ⟨b, 0, none⟩) nn c) (by kernel_rfl) ?_
 refine ZK ?_
 refine k6 _ _ ?_
 have hnn' : nn = i.toNat + (xs.length - j.toNat) := by rw [← hnn, hul]
 refine sq_ fun k7 => g_' (q_ (.slice (some ⟨b, 0, none⟩) nn c) (q_ (.slice (some ⟨b, 0, none⟩) nn c) ?_))
 refine Zbi (.int .i64 nn) (x := ZcQ Go.Proofs.Tryz.prog 92 (.slice (some ⟨b, 0, none⟩) nn c) H2) (by kernel_rfl) (by
  obtain ⟨e, hu⟩ := ZdQ (P := Go.Proofs.Tryz.prog) (t := 92) (by kernel_rfl)
  unfold ZcQ; simp only [hu]) ?_
 refine q_ (.int .i64 xs.length) ?_
 refine Zbi (.slice (some ⟨b, nn * 3, none⟩) (xs.length - nn) (c - nn)) (x := ZP Go.Proofs.Tryz.prog 92 (.slice (some ⟨b, 0, none⟩) nn c) (some (.int .i64 nn)) (some (.int .i64 xs.length)) none H2) (by kernel_rfl) (by
  have := r2.sboth (P := Go.Proofs.Tryz.prog) (t := 92) (k1 := .i64) (k2 := .i64) (i := nn) (j := xs.length) (n := nn) (c := c) (by kernel_rfl) (by omega) (by omega) (by omega) (by omega)
  simpa using this) ?_
 have hr2l : ((xs.map enc ++ J).take i.toNat ++ (xs.drop j.toNat).map enc ++ (xs.map enc ++ J).drop nn).length = c := by
  simp only [List.length_append, List.length_take, List.length_drop, hul, hmap]; omega
 obtain ⟨H3, Z, hZ, ha3, f3, n3, r3⟩ := r2.clear (P := Go.Proofs.Tryz.prog) (at_ := #[92]) (t0 := 92) (m := 24) (o := nn) (n := xs.length - nn) (c := c - nn) f2.wf rfl (by kernel_rfl) (by rw [hr2l]; omega)
 refine ZaL (.tuple #[]) (x := (ZdN Go.Proofs.Tryz.prog #[92] (.slice (some ⟨b, nn * 3, none⟩) (xs.length - nn) (c - nn)) H2).map fun H' => (.tuple #[], H')) (by kernel_rfl) (by rw [ha3]; rfl) ?_
 refine Za (k7 _ _ (sq_ fun k8 => g_' (q_ (.slice (some ⟨b, 0, none⟩) nn c) (q_ (.slice (some ⟨b, 0, none⟩) nn c) (Za (k8 _ _ ?_))))))
 refine Zh ?_
 dsimp only [Zds]
 refine Zac (vs := [.slice (some ⟨b, 0, none⟩) nn c]) (Zdb (by kernel_rfl) (rfl)) ?_
 have hfin := ZmA (z := Z) (J := J) hal hdl hul (by omega)
 rw [hnn', show i.toNat + (xs.length - j.toNat) + (xs.length - (i.toNat + (xs.length - j.toNat))) = i.toNat + (xs.length - j.toNat) + (j.toNat - i.toNat) by omega, hsplit, hfin] at r3
 refine ⟨[b], ?_, r3.ow (.inl ⟨rfl, rfl⟩) (J := Z ++ J) (by rw [List.map_append]) hone' r3.lt (by rw [hnl, hnn']) ?_, Inn.self⟩
 ·exact (f2.frS (W := [b]) (List.mem_singleton.2 rfl)).step wf (f3.frS (W := [b]) (List.mem_singleton.2 rfl)) Inn.self
 ·simp only [List.length_append, hal, hul, hZ]; omega
theorem Zmk (wf : WF H) (h : Ow enc 3 H s xs fp) (g : 0 ≤ i /\ i ≤ j /\ j ≤ (xs.length : Int) /\ (xs.length : Int) ≤ 1000000000) :
  ACalls Go.Proofs.Tryz.prog 69 #[s, .int .i64 i, .int .i64 j] H fun v H' => ∃ fp', FrS fp H H' /\ Ow enc 3 H' v (xs.take i.toNat ++ xs.drop j.toNat) fp' /\ Inn fp H fp' :=
 Zi8 (rest := [.int .i64 i, .int .i64 j]) wf h fun s' H' fs wf' hf hs hi => ZlA wf' hs g
end
end Go.Vd

/-! (VeP) -/

namespace Go.Vd
set_option linter.unusedSectionVars false
set_option linter.unusedVariables false
variable [Pins]
variable {P : Program} {H H' : AH} {E : Type}
def Zgq (enc : E -> List Value) (k : IntKind) (p : Int × E) : Value × Value := (.int k p.1, .agg (enc p.2).toArray)
def lkS : List (Int × E) -> Int -> Option E
 | [], _ => none
 | p :: l, k => if k = p.1 then some p.2 else lkS l k
structure Ms (ki : IntKind) (enc : E -> List Value) (H : AH) (b : Nat) (f : Int -> Option E) : Prop where
 lt : b < H.next
 is : ∃ m clock, H.get b = some (.map (m.map (Zgq enc ki)) clock) /\ (m.map (·.1)).Nodup /\ ∀ k, lkS m k = f k
variable {ki : IntKind} {enc : E -> List Value} {b : Nat} {f : Int -> Option E} {z : E} {W : Fp}
theorem Ms.ext (h : Ms ki enc H b f) (k : Ext H H') : Ms ki enc H' b f := by
 obtain ⟨m, c, h1, h2⟩ := h.is
 exact ⟨Nat.lt_of_lt_of_le h.lt k.next, m, c, (k.same b h.lt).trans h1, h2⟩
theorem Ms.frS (h : Ms ki enc H b f) (k : FrS W H H') (hd : Dj W [b]) : Ms ki enc H' b f := by
 obtain ⟨h1, m, clock, h2, h3⟩ := h
 exact ⟨Nat.lt_of_lt_of_le h1 k.next, m, clock, (k.same b h1 (by unfold ZG; rw [h2]; exact fun hm => hd _ hm (List.mem_singleton.2 rfl))).trans h2, h3⟩
theorem Ms.ltF (h : Ms ki enc H b f) : Lt H [b] := fun t ht => by rw [List.mem_singleton.1 ht]; exact h.lt
def Zjx (P : Program) (t : TypeId) : Option (TypeDesc × Value) :=
 match P.underlying t with
 | some (.map kt et) => match P.underlying kt, (P.info? et).bind (·.zero) with
  | some d, some y => some (d, y)
  | _, _ => none
 | _ => none
theorem Zgv {t : TypeId} {zv : Value} (h : Zjx P t = some (.int ki, zv)) : ∃ kt et, P.underlying t = some (.map kt et) /\ P.underlying kt = some (.int ki) /\ (P.info? et).bind (·.zero) = some zv := by
 unfold Zjx at h
 split at h
 ·rename_i kt et hu
  split at h
  ·rename_i d y hd hy
   cases h
   exact ⟨kt, et, hu, hd, hy⟩
  ·cases h
 ·cases h
theorem Zf3 (m : List (Int × E)) (k : Int) (i : Nat) : ∃ r, ZdU (.int ki) (.int ki k) (m.map (Zgq enc ki)) i = some r /\ (match r with
  | none => lkS m k = none
  | some (j, v) => ∃ n x, j = i + n /\ m[n]? = some (k, x) /\ v = .agg (enc x).toArray /\ lkS m k = some x) := by
 induction m generalizing i with
 | nil => exact ⟨none, rfl, rfl⟩
 | cons p l ih =>
  simp only [List.map_cons, ZdU, Zgq, Instr.sameNow, if_true]
  by_cases hk : k = p.1
  ·refine ⟨some (i, .agg (enc p.2).toArray), ?_, 0, p.2, rfl, ?_, rfl, ?_⟩
   ·rw [show (k == p.1) = true from by simp [hk]]
   ·simp [hk]
   ·simp [lkS, hk]
  ·rw [show (k == p.1) = false from by simp [hk]]
   dsimp only
   obtain ⟨r, h1, h2⟩ := ih (i + 1)
   refine ⟨r, h1, ?_⟩
   cases r with
   | none => simp only [lkS, if_neg hk]; exact h2
   | some q =>
    obtain ⟨j, v⟩ := q
    obtain ⟨n, x, g1, g2, g3, g4⟩ := h2
    exact ⟨n + 1, x, by omega, by simpa using g2, g3, by simp only [lkS, if_neg hk]; exact g4⟩
theorem Ms.look (h : Ms ki enc H b f) (z : E) {t : TypeId} {zv v : Value} (hz : zv = .agg (enc z).toArray) (hp : plain zv = true) (ht : Zjx P t = some (.int ki, zv)) (k : Int) (hv : v = .agg (enc ((f k).getD z)).toArray) : Zdj P t (.map (some b)) (.int ki k) false H = some v := by
 subst hz hv
 obtain ⟨kt, et, h1, h2, h3⟩ := Zgv ht
 obtain ⟨m, c, g1, g2, g3⟩ := h.is
 obtain ⟨r, r1, r2⟩ := Zf3 (ki := ki) (enc := enc) m k 0
 unfold Zdj
 rw [h1]
 simp only [h2, h3, Zhl h2, g1, hp]
 rw [if_pos (by rfl)]
 simp only [r1]
 rw [← g3]
 cases r with
 | none => rw [r2]; rfl
 | some q =>
  obtain ⟨j, v⟩ := q
  obtain ⟨n, x, _, _, e3, e4⟩ := r2
  rw [e4, e3]; rfl
theorem Ms.look2 (h : Ms ki enc H b f) (z : E) {t : TypeId} {zv v : Value} (hz : zv = .agg (enc z).toArray) (hp : plain zv = true) (ht : Zjx P t = some (.int ki, zv)) (k : Int) (hv : v = .tuple #[.agg (enc ((f k).getD z)).toArray, .bool (f k).isSome]) : Zdj P t (.map (some b)) (.int ki k) true H = some v := by
 subst hz hv
 obtain ⟨kt, et, h1, h2, h3⟩ := Zgv ht
 obtain ⟨m, c, g1, g2, g3⟩ := h.is
 obtain ⟨r, r1, r2⟩ := Zf3 (ki := ki) (enc := enc) m k 0
 unfold Zdj
 rw [h1]
 simp only [h2, h3, Zhl h2, g1, hp]
 rw [if_pos (by rfl)]
 simp only [r1]
 rw [← g3]
 cases r with
 | none => rw [r2]; rfl
 | some q =>
  obtain ⟨j, v⟩ := q
  obtain ⟨n, x, _, _, e3, e4⟩ := r2
  rw [e4, e3]; rfl
theorem ZnB {m : List (Int × E)} {n : Nat} {k : Int} {x v : E} (hn : m[n]? = some (k, x)) (hd : (m.map (·.1)).Nodup) (y : Int) : lkS (m.set n (k, v)) y = if y = k then some v else lkS m y := by
 induction m generalizing n with
 | nil => simp at hn
 | cons p l ih =>
  cases n with
  | zero =>
   simp at hn; subst hn
   simp only [List.set_cons_zero, lkS]
   by_cases hy : y = k <;> simp [hy]
  | succ n =>
   simp only [List.map_cons, List.nodup_cons] at hd
   simp only [List.getElem?_cons_succ] at hn
   simp only [List.set_cons_succ, lkS]
   have hmem : k ∈ l.map (·.1) := List.mem_map.2 ⟨(k, x), List.mem_of_getElem? hn, rfl⟩
   by_cases hy : y = p.1
   ·rw [if_pos hy, if_neg (fun e => hd.1 (by rw [← hy, e]; exact hmem)), if_pos hy]
   ·rw [if_neg hy, if_neg hy]; exact ih hn hd.2
theorem ZnC {m : List (Int × E)} {k : Int} {v : E} (hk : lkS m k = none) (y : Int) : lkS (m ++ [(k, v)]) y = if y = k then some v else lkS m y := by
 induction m with
 | nil => simp [lkS]
 | cons p l ih =>
  simp only [lkS] at hk
  split at hk
  ·cases hk
  ·rename_i hkp
   simp only [List.cons_append, lkS, ih hk]
   by_cases hy : y = p.1
   ·rw [if_pos hy, if_neg (fun e => hkp (by rw [← e, hy])), if_pos hy]
   ·rw [if_neg hy, if_neg hy]
theorem Zma {m : List (Int × E)} {k : Int} : lkS m k = none ↔ k ∉ m.map (·.1) := by
 induction m with
 | nil => simp [lkS]
 | cons p l ih =>
  simp only [lkS, List.map_cons, List.mem_cons, not_or]
  by_cases hk : k = p.1
  ·simp [hk]
  ·simp [hk, ih]
theorem Ms.put (hw : WF H) (h : Ms ki enc H b f) {t : TypeId} {zv val : Value} (ht : Zjx P t = some (.int ki, zv)) (k : Int) (v : E) (hv : val = .agg (enc v).toArray) :
  ∃ H', ZdS P t (.map (some b)) (.int ki k) val H = some H' /\ Fr b H H' /\ Ms ki enc H' b (fun x => if x = k then some v else f x) := by
 subst hv
 obtain ⟨kt, et, h1, h2, h3⟩ := Zgv ht
 obtain ⟨m, c, g1, g2, g3⟩ := h.is
 obtain ⟨r, r1, r2⟩ := Zf3 (ki := ki) (enc := enc) m k 0
 have hred : ∀ X, (match ZdU (.int ki) (.int ki k) (m.map (Zgq enc ki)) 0 with
    | some (some (i, _)) => some (H.upd b (.map ((m.map (Zgq enc ki)).set i (.int ki k, .agg (enc v).toArray)) c))
    | some none => some (H.upd b (.map (m.map (Zgq enc ki) ++ [(.int ki k, .agg (enc v).toArray)]) (c + 1)))
    | none => none) = some X -> ZdS P t (.map (some b)) (.int ki k) (.agg (enc v).toArray) H = some X := by
  intro X hX
  unfold ZdS
  rw [h1]
  simp only [h2, g1, Zhl h2]
  rw [if_pos (by rfl)]
  exact hX
 rw [r1] at hred
 cases r with
 | none =>
  refine ⟨_, hred _ rfl, Zkm hw h.lt g1, h.lt, m ++ [(k, v)], c + 1, by simp [AH.upd, Zgq], ?_, fun y => by rw [ZnC r2, g3]⟩
  rw [List.map_append, List.nodup_append]
  refine ⟨g2, by simp, fun x hx y hy => ?_⟩
  simp at hy; subst hy
  rintro rfl
  exact Zma.1 r2 hx
 | some q =>
  obtain ⟨j, u⟩ := q
  obtain ⟨n, x, e1, e2, e3, e4⟩ := r2
  have : j = n := by omega
  subst this
  refine ⟨_, hred _ rfl, Zkm hw h.lt g1, h.lt, m.set j (k, v), c, by simp [AH.upd, Zgq, List.map_set], ?_, fun y => by rw [ZnB e2 g2, g3]⟩
  rw [List.map_set]
  have : (m.map (·.1)).set j k = m.map (·.1) := by
   apply List.ext_getElem?
   intro i
   rw [List.getElem?_set]
   split
   ·rename_i hij; subst hij; simp [e2]; have := (List.getElem?_eq_some_iff.1 e2).1; omega
   ·rfl
  show (List.set (m.map (·.1)) j k).Nodup
  rw [this]; exact g2
theorem ZiC (hw : WF H) : Ext H (H.push (.map [] 0)) /\ Ms ki enc (H.push (.map [] 0)) H.next (fun _ => none) :=
 ⟨Zc1 hw _ (fun _ _ _ e => by cases e), Nat.lt_succ_self _, [], 0, AH.push_get _ _, by simp, fun _ => rfl⟩
section seq
variable {ops : Array Oper} {K : AAct -> AH -> Prop} {α : AAct} {o : Oper} {rest : List Oper}
theorem s_ms (ki : IntKind) (enc : E -> List Value) (hw : WF H) (h : Zdv P ops o α = some (.map [] 0, fun b => .map (some b)))
  (k : ∀ b H', Ext H H' -> Inn [] H [b] -> Ms ki enc H' b (fun _ => none) -> Zp P ops K rest (α.put o.dst (.map (some b))) H') : Zp P ops K (o :: rest) α H :=
 s_n _ _ (ZaU h).1 (ZaU h).2.1 (ZaU h).2.2 (k H.next _ (ZiC (ki := ki) (enc := enc) hw).1 (.one (.inr rfl)) (ZiC hw).2)
end seq
def ZiW (P : Program) (ρ : Operand -> Value) : Op -> Option (FuncId × TypeId × Addr × Array Value)
 | .call { callee := .invoke r name, args, argTypes := _ } => match ρ r with
  | .iface t (.pointer (some a)) => match Zf8 P t name with
   | some (g, e) => if Zec P g then some (g, e, a, args.map ρ) else none
   | none => none
  | _ => none
 | _ => none
def Zkz (P : Program) (ops : Array Oper) (o : Oper) (α : AAct) : Option (FuncId × TypeId × Addr × Array Value) :=
 if Region.wanted o (ZX ops α) = true then match cls o.op with
  | .call => match ZdV P (ZW α) o.op with
   | none => ZiW P (ZW α) o.op
   | some _ => none
  | _ => none
 else none
theorem Zny {ρ : Operand -> Value} {op : Op} {g : FuncId} {e : TypeId} {a : Addr} {as_ : Array Value} {v : Value} (h : ZiW P ρ op = some (g, e, a, as_)) (hl : ZbP P e (.pointer (some a)) H = some v) : Zfc P ρ H op = some (g, #[v] ++ as_) := by
 unfold ZiW at h
 split at h
 ·split at h
  ·split at h
   ·split at h
    ·cases h
     rename_i hm hc
     unfold Zfc
     simp only [*, if_true]
    ·cases h
   ·cases h
  ·cases h
 ·cases h
theorem ZkM {ops : Array Oper} {o : Oper} {α : AAct} {x : FuncId × TypeId × Addr × Array Value} (h : Zkz P ops o α = some x) : Region.wanted o (ZX ops α) = true /\ cls o.op = .call /\ ZdV P (ZW α) o.op = none /\ ZiW P (ZW α) o.op = some x := by
 unfold Zkz at h
 split at h
 ·rename_i hg
  split at h
  ·rename_i hc
   split at h
   ·rename_i hn; exact ⟨hg, hc, hn, h⟩
   ·cases h
  ·cases h
 ·cases h
section seq
variable {ops : Array Oper} {K : AAct -> AH -> Prop} {α : AAct} {o : Oper} {rest : List Oper}
theorem ZgN (f : FuncId) (e : TypeId) (a : Addr) (as_ : Array Value) (v : Value) (args : Array Value) (hargs : #[v] ++ as_ = args) {K' : Value -> AH -> Prop} (h : Zkz P ops o α = some (f, e, a, as_)) (hl : ZbP P e (.pointer (some a)) H = some v) (hf : ACalls P f args H K')
  (k : ∀ v H', K' v H' -> Zp P ops K rest (α.put o.dst v) H') : Zp P ops K (o :: rest) α H := by
 subst hargs
 obtain ⟨h1, h2, h3, h4⟩ := ZkM h
 simp only [Zp, h1, if_true]
 exact .inl (by simp only [Zcj, h2, h3, Zny h4 hl]; exact hf.mono k)
end seq
section draw
variable {ops : Array Oper} {K : AAct -> AH -> Prop} {α : AAct} {tbl : List (List Nat)} {i : Nat} {rest : List Nat} {fl : List (Nat × AAct × Value)}
end draw
end Go.Vd

/-! (Mo0) -/

namespace Go.Vd
theorem Za7 {E : Type} [Inhabited E] {l : List E} {i : Int} (h0 : 0 ≤ i) (h1 : i < (l.length : Int)) : l.take (i + 1).toNat = l.take i.toNat ++ [gt l i] := by
 have hi : i.toNat < l.length := by omega
 rw [show (i + 1).toNat = i.toNat + 1 from by omega, List.take_add_one, List.getElem?_eq_getElem hi]
 have : gt l i = l[i.toNat] := by simp [gt, List.getD_eq_getElem?_getD, hi]
 rw [this]; rfl
theorem ZcU {E : Type} [Inhabited E] {l : List E} {i j : Int} {v : E} (i0 : 0 ≤ i) (i1 : i < (l.length : Int)) (j0 : 0 ≤ j) : gt (l.set i.toNat v) j = if j = i then v else gt l j := by
 unfold gt
 rw [List.getD_eq_getElem?_getD, List.getD_eq_getElem?_getD, List.getElem?_set]
 by_cases h : j = i
 ·subst h; rw [if_pos rfl, if_pos rfl, if_pos (by omega)]; rfl
 ·rw [if_neg h, if_neg (by omega)]
theorem ZmI {E : Type} [Inhabited E] {l m : List E} (hl : l.length = m.length) (h : ∀ j : Int, 0 ≤ j -> j < (l.length : Int) -> gt l j = gt m j) : l = m := by
 refine List.ext_getElem hl fun j h1 h2 => ?_
 have := h (j : Int) (by omega) (by omega)
 rwa [Zfb h1, Zfb h2] at this
end Go.Vd

/-! (Gb) -/

set_option linter.unusedVariables false
set_option linter.unusedSimpArgs false
namespace Go.Vd
abbrev A3 := Int × Int × Int
theorem eq3 {x y : A3} (h1 : x.1 = y.1) (h2 : x.2.1 = y.2.1) (h3 : x.2.2 = y.2.2) : x = y := by
 obtain ⟨a, b, c⟩ := x; obtain ⟨a', b', c'⟩ := y
 simp only at h1 h2 h3
 subst h1; subst h2; subst h3; rfl
theorem ZdB {E : Type} [Inhabited E] {l : List E} {x : E} (h : x ∈ l) : ∃ i : Int, 0 ≤ i /\ i < (l.length : Int) /\ x = gt l i := by
 obtain ⟨i, hi, rfl⟩ := List.getElem_of_mem h
 exact ⟨i, by omega, by omega, (Zfb hi).symm⟩
end Go.Vd

/-! (NdL) -/

set_option linter.unusedVariables false
set_option linter.unusedSimpArgs false
namespace Go.Vd
theorem ZiA : ∀ {N : Nat} {l : List Int}, l.Nodup -> (∀ x ∈ l, 0 ≤ x /\ x < (N : Int)) -> l.length ≤ N := by
 intro N
 induction N with
 | zero =>
  intro l _ h
  cases l with
  | nil => simp
  | cons a l => have := h a (by simp); omega
 | succ N ih =>
  intro l hn h
  have h1 : (l.filter (fun x => decide (x ≠ (N : Int)))).length ≤ N := ih (hn.filter _) fun x hx => by
   have hm := List.mem_filter.1 hx
   have := h x hm.1
   have h3 := of_decide_eq_true hm.2
   omega
  have h2 : l.length ≤ (l.filter (fun x => decide (x ≠ (N : Int)))).length + 1 := by
   clear h h1 ih
   induction l with
   | nil => simp
   | cons a l ih2 =>
    rw [List.nodup_cons] at hn
    by_cases e : a = (N : Int)
    ·have : l.filter (fun x => decide (x ≠ (N : Int))) = l := List.filter_eq_self.2 fun x hx => decide_eq_true fun e2 => hn.1 (by rw [e, ← e2]; exact hx)
     rw [List.filter_cons, if_neg (by simp [e]), this]; simp
    ·rw [List.filter_cons, if_pos (by simp [e])]
     have := ih2 hn.2
     simp only [List.length_cons]; omega
  omega
end Go.Vd

/-! (WtA) -/

set_option linter.unusedVariables false
set_option linter.unusedSimpArgs false
namespace Go.Vd
abbrev Lab := Int -> Option (Int × Int × Int)
def lup (L : Lab) (x : Int) (y : Int × Int × Int) : Lab := fun z => if z = x then some y else L z
def opn (L : Lab) (x d : Int) : Prop := match L x with
 | none => True
 | some y => y.2.2 = 0 /\ d < y.1
instance (L : Lab) (x d : Int) : Decidable (opn L x d) := by
 unfold opn
 cases L x with
 | none => exact inferInstanceAs (Decidable True)
 | some y => exact inferInstanceAs (Decidable (_ /\ _))
def ZdM (d hp : Int) (L : Lab) (a : Int × Int) : Lab := if opn L a.1 (d + a.2) then lup L a.1 (d + a.2, hp + 1, 0) else L
def Ze1 (row : Int -> List (Int × Int)) (hops : Int) (L : Lab) (v : Int) (y : Int × Int × Int) : Lab :=
 if y.2.1 ≥ hops then lup L v (y.1, y.2.1, 1) else (row v).foldl (ZdM y.1 y.2.1) (lup L v (y.1, y.2.1, 1))
def WPick (L : Lab) (v : Int) (y : Int × Int × Int) : Prop :=
 L v = some y /\ y.2.2 = 0 /\ ∀ x z, L x = some z -> z.2.2 = 0 -> y.1 < z.1 ∨ (y.1 = z.1 /\ v ≤ x)
def WNo (L : Lab) : Prop := ∀ x z, L x = some z -> z.2.2 ≠ 0
variable {L L' : Lab} {row : Int -> List (Int × Int)} {hops settles most c N v : Int} {y : Int × Int × Int} {ss : List Int}
theorem WPick.uniq {v w : Int} {y z : Int × Int × Int} (h : WPick L v y) (k : WPick L w z) : v = w /\ y = z := by
 have h1 := h.2.2 w z k.1 k.2.1
 have h2 := k.2.2 v y h.1 h.2.1
 have e : v = w := by omega
 subst e
 exact ⟨rfl, Option.some.inj (h.1.symm.trans k.1)⟩
theorem WPick.no (h : WPick L v y) (k : WNo L) : False := k v y h.1 h.2.1
inductive WR (row : Int -> List (Int × Int)) (hops settles most : Int) : Int -> Lab -> Lab -> Prop
 | full (c : Int) (L : Lab) : settles ≤ c -> WR row hops settles most c L L
 | none (c : Int) (L : Lab) : c < settles -> WNo L -> WR row hops settles most c L L
 | far (c : Int) (L : Lab) (v : Int) (y : Int × Int × Int) : c < settles -> WPick L v y -> y.1 > most -> WR row hops settles most c L L
 | go (c : Int) (L : Lab) (v : Int) (y : Int × Int × Int) (L' : Lab) : c < settles -> WPick L v y -> ¬ y.1 > most -> WR row hops settles most (c + 1) (Ze1 row hops L v y) L' -> WR row hops settles most c L L'
theorem WR.uniq {A B : Lab} (h : WR row hops settles most c L A) (k : WR row hops settles most c L B) : A = B := by
 induction h with
 | full c L h1 =>
  cases k with
  | full => rfl
  | none => rfl
  | far => rfl
  | go _ _ _ _ _ k1 => omega
 | none c L h1 h2 =>
  cases k with
  | full => rfl
  | none => rfl
  | far => rfl
  | go _ _ _ _ _ _ k2 => exact (k2.no h2).elim
 | far c L v y h1 h2 h3 =>
  cases k with
  | full => rfl
  | none => rfl
  | far => rfl
  | go _ _ _ _ _ _ k2 k3 => rw [(h2.uniq k2).2] at h3; exact absurd h3 k3
 | go c L v y L' h1 h2 h3 _ ih =>
  cases k with
  | full _ _ k1 => omega
  | none _ _ _ k2 => exact (h2.no k2).elim
  | far _ _ _ _ _ k2 k3 => rw [← (h2.uniq k2).2] at k3; exact absurd k3 h3
  | go _ _ w z _ _ k2 _ k4 =>
   obtain ⟨rfl, rfl⟩ := h2.uniq k2
   exact ih k4
def Zk7 (row : Int -> List (Int × Int)) (N : Int) : Prop := ∀ v, ∀ a ∈ row v, (0 ≤ a.1 /\ a.1 < N) /\ 0 ≤ a.2 /\ a.2 ≤ 140737488355328
structure WI (N c : Int) (L : Lab) (ss : List Int) : Prop where
 dom : ∀ x y, L x = some y -> 0 ≤ x /\ x < N
 val : ∀ x y, L x = some y -> 0 ≤ y.1 /\ y.1 ≤ c * 140737488355328 /\ 0 ≤ y.2.1 /\ y.2.1 ≤ c /\ (y.2.2 = 0 ∨ y.2.2 = 1)
 st : ∀ x, x ∈ ss ↔ ∃ y, L x = some y /\ y.2.2 = 1
 nd : ss.Nodup
theorem WI.len (h : WI N c L ss) (n0 : 0 ≤ N) : (ss.length : Int) ≤ N := by
 obtain ⟨n, rfl⟩ := Int.eq_ofNat_of_zero_le n0
 have := ZiA (N := n) h.nd fun x hx => by
  obtain ⟨y, h1, _⟩ := (h.st x).1 hx
  exact h.dom x y h1
 omega
theorem WI.mono (h : WI N c L ss) {c' : Int} (hc : c ≤ c') : WI N c' L ss :=
 ⟨h.dom, fun x y e => by have := h.val x y e; omega, h.st, h.nd⟩
theorem WI.settle (h : WI N c L ss) (e : L v = some y) (h0 : y.2.2 = 0) : WI N c (lup L v (y.1, y.2.1, 1)) (v :: ss) := by
 have hv := h.val v y e
 have hn : v ∉ ss := fun hm => by
  obtain ⟨z, h1, h2⟩ := (h.st v).1 hm
  rw [e] at h1; cases h1; omega
 refine ⟨fun x z hz => ?_, fun x z hz => ?_, fun x => ?_, List.nodup_cons.2 ⟨hn, h.nd⟩⟩
 ·unfold lup at hz
  by_cases hx : x = v
  ·rw [hx]; exact h.dom v y e
  ·rw [if_neg hx] at hz; exact h.dom x z hz
 ·unfold lup at hz
  by_cases hx : x = v
  ·rw [if_pos hx] at hz; cases hz; exact ⟨hv.1, hv.2.1, hv.2.2.1, hv.2.2.2.1, .inr rfl⟩
  ·rw [if_neg hx] at hz; exact h.val x z hz
 ·unfold lup
  by_cases hx : x = v
  ·rw [if_pos hx, hx]; exact ⟨fun _ => ⟨_, rfl, rfl⟩, fun _ => by simp⟩
  ·rw [if_neg hx]
   simp only [List.mem_cons, hx, false_or]
   exact h.st x
theorem WI.rel (h : WI N c L ss) {d hp : Int} {a : Int × Int} (d0 : 0 ≤ d) (d1 : d + a.2 ≤ c * 140737488355328) (p0 : 0 ≤ hp) (p1 : hp + 1 ≤ c) (a0 : 0 ≤ a.1 /\ a.1 < N) (w0 : 0 ≤ a.2) : WI N c (ZdM d hp L a) ss := by
 unfold ZdM
 by_cases ho : opn L a.1 (d + a.2)
 ·rw [if_pos ho]
  refine ⟨fun x z hz => ?_, fun x z hz => ?_, fun x => ?_, h.nd⟩
  ·unfold lup at hz
   by_cases hx : x = a.1
   ·rw [hx]; exact a0
   ·rw [if_neg hx] at hz; exact h.dom x z hz
  ·unfold lup at hz
   by_cases hx : x = a.1
   ·rw [if_pos hx] at hz; cases hz; exact ⟨by dsimp only; omega, by dsimp only; omega, by dsimp only; omega, by dsimp only; omega, .inl rfl⟩
   ·rw [if_neg hx] at hz; exact h.val x z hz
  ·rw [h.st x]
   unfold lup
   by_cases hx : x = a.1
   ·rw [if_pos hx]
    constructor
    ·rintro ⟨z, h1, h2⟩
     rw [hx] at h1
     unfold opn at ho
     rw [h1] at ho
     dsimp only at ho
     omega
    ·rintro ⟨z, h1, h2⟩
     cases h1; cases h2
   ·rw [if_neg hx]
 ·rw [if_neg ho]; exact h
theorem WI.fold {d hp : Int} (d0 : 0 ≤ d) (d1 : d + 140737488355328 ≤ c * 140737488355328) (p0 : 0 ≤ hp) (p1 : hp + 1 ≤ c) : ∀ {l : List (Int × Int)} {L : Lab}, WI N c L ss -> (∀ a ∈ l, (0 ≤ a.1 /\ a.1 < N) /\ 0 ≤ a.2 /\ a.2 ≤ 140737488355328) -> WI N c (l.foldl (ZdM d hp) L) ss := by
 intro l
 induction l with
 | nil => intro L h _; exact h
 | cons a l ih =>
  intro L h hl
  have := hl a (by simp)
  exact ih (h.rel d0 (by omega) p0 p1 this.1 this.2.1) fun b hb => hl b (by simp [hb])
theorem WI.set (h : WI N c L ss) (hr : Zk7 row N) (hp : WPick L v y) : WI N (c + 1) (Ze1 row hops L v y) (v :: ss) := by
 have hv := h.val v y hp.1
 have h1 := (h.settle hp.1 hp.2.1).mono (c' := c + 1) (by omega)
 unfold Ze1
 split
 ·exact h1
 ·exact WI.fold (by omega) (by omega) (by omega) (by omega) h1 (hr v)
def ZdE (u : Int) : Lab := lup (fun _ => none) u (0, 0, 0)
theorem WI.zero {u : Int} (u0 : 0 ≤ u) (u1 : u < N) : WI N 0 (ZdE u) [] := by
 refine ⟨fun x z hz => ?_, fun x z hz => ?_, fun x => ?_, List.nodup_nil⟩
 ·unfold ZdE lup at hz
  by_cases hx : x = u
  ·rw [hx]; exact ⟨u0, u1⟩
  ·rw [if_neg hx] at hz; cases hz
 ·unfold ZdE lup at hz
  by_cases hx : x = u
  ·rw [if_pos hx] at hz; cases hz; simp
  ·rw [if_neg hx] at hz; cases hz
 ·simp only [List.not_mem_nil, false_iff]
  rintro ⟨z, h1, h2⟩
  unfold ZdE lup at h1
  by_cases hx : x = u
  ·rw [if_pos hx] at h1; cases h1; cases h2
  ·rw [if_neg hx] at h1; cases h1
end Go.Vd

/-! (WtB) -/

set_option linter.unusedVariables false
set_option linter.unusedSimpArgs false
namespace Go.Vd
abbrev Nd3 := Bool × List (Int × Int × Int) × List (Int × Int × Int)
variable {a : List Nd3} {b1 b2 b3 b4 : Int} {f : Int -> Option (Int × Int × Int)} {q : List (Int × Int)} {i j n : Int}
theorem Zil (i0 : 0 ≤ i) (i1 : i < (q.length : Int)) (j0 : 0 ≤ j) (j1 : j < (q.length : Int)) : Zal q i j = some (decide (Less (gt q i) (gt q j))) := by
 unfold Zal G
 rw [if_pos ⟨i0, i1⟩, if_pos ⟨j0, j1⟩]
 generalize gt q i = x
 generalize gt q j = y
 unfold Less
 by_cases h : x.1 < y.1
 ·rw [if_pos h]; simp [h]
 ·rw [if_neg h]
  by_cases e : x.1 = y.1
  ·rw [if_pos e]; simp [h, e]
  ·rw [if_neg e]; simp [h, e]
theorem Zih (i0 : 0 ≤ i) (i1 : i < (q.length : Int)) (j0 : 0 ≤ j) (j1 : j < (q.length : Int)) : Zaj q i j = some (swp q i j) := by
 unfold Zaj G
 rw [if_pos ⟨j0, j1⟩, if_pos ⟨i0, i1⟩, if_pos (by simpa using j1)]
 rfl
theorem p_hUp (hl : q.length ≤ 1000000000000) (j0 : 0 ≤ j) (j1 : j < (q.length : Int)) (U : Up2 q.length (gt q) j) :
  T (Zb6 a b1 b2 b3 b4 q f j) fun r => r.Perm q /\ Hq r := by
 unfold Zb6
 refine Zm (fun r => r.Perm q /\ Hq r) ?_ fun r h => by simpa using h
 refine ZS (fun z => z.1.Perm q /\ 0 ≤ z.2 /\ z.2 < (q.length : Int) /\ Up2 q.length (gt z.1) z.2) (fun z => z.2.toNat) ?_ ⟨List.Perm.refl _, j0, j1, U⟩
 rintro ⟨h, i⟩ ⟨hp, i0, i1, V⟩
 dsimp only at *
 have hlen := hp.length_eq
 unfold Zbc
 by_cases hz : i = 0
 ·subst hz
  simp only [T_G]
  refine ⟨by omega, by decide, ?_⟩
  rw [if_pos (by decide), Option.bind_some, if_pos rfl]
  simp only [Zd, Sum.elim_inr]
  refine ⟨hp, ?_⟩
  have := V.done (.inl rfl)
  unfold Hq; rw [hlen]; exact this
 ·have hpar : ZV i < i /\ 0 ≤ ZV i := by unfold ZV; omega
  rw [tdiv2 (by omega)]
  simp only [T_G]
  refine ⟨by omega, by omega, ?_⟩
  rw [if_neg (by omega), Zil (by omega) (by omega) hpar.2 (by omega), Option.bind_some, Option.bind_some]
  by_cases hless : Less (gt h i) (gt h (ZV i))
  ·rw [decide_eq_true hless, if_neg (by decide), Zih hpar.2 (by omega) (by omega) (by omega), Option.bind_some]
   simp only [Zd, Sum.elim_inl]
   refine ⟨⟨(Zhp hpar.2 (by omega) (by omega) (by omega)).trans hp, hpar.2, by omega, ?_⟩, by omega⟩
   refine V.step (by omega) i1 hless fun p p0 p1 => ?_
   rw [Zjz hpar.2 (by omega) (by omega) (by omega) p0]
   by_cases e1 : p = i
   ·subst e1; rw [if_pos rfl, if_neg (by omega), if_pos rfl]
   ·rw [if_neg e1]
    by_cases e2 : p = ZV i
    ·rw [if_pos e2, if_pos e2]
    ·rw [if_neg e2, if_neg e2, if_neg e1]
  ·rw [decide_eq_false hless, if_pos (by decide)]
   simp only [Zd, Sum.elim_inr]
   refine ⟨hp, ?_⟩
   have := V.done (.inr hless)
   unfold Hq; rw [hlen]; exact this
theorem Zni (hl : q.length ≤ 1000000000000) (n0 : 0 ≤ n) (n1 : n ≤ (q.length : Int)) (D : Down2 n (gt q) 0) :
  T (ZbK a b1 b2 b3 b4 q f 0 n) fun r => r.2.Perm q /\ Ord2 n (gt r.2) /\ ∀ p, n ≤ p -> p < (q.length : Int) -> gt r.2 p = gt q p := by
 unfold ZbK
 refine Zm (fun r => r.2.Perm q /\ Ord2 n (gt r.2) /\ ∀ p, n ≤ p -> p < (q.length : Int) -> gt r.2 p = gt q p) ?_ fun r h => by simpa using h
 refine ZS (fun z => z.1.Perm q /\ 0 ≤ z.2 /\ (z.2 < n ∨ z.2 = 0) /\ Down2 n (gt z.1) z.2 /\ ∀ p, n ≤ p -> p < (q.length : Int) -> gt z.1 p = gt q p) (fun z => (n - z.2).toNat) ?_ ⟨List.Perm.refl _, by simp, .inr rfl, D, fun _ _ _ => rfl⟩
 rintro ⟨h, i⟩ ⟨hp, i0, i1, E, hr⟩
 dsimp only at *
 have hlen := hp.length_eq
 have kids : ∀ c, 1 ≤ c -> ZV c = i -> c = 2 * i + 1 ∨ c = 2 * i + 1 + 1 := fun c c0 hc => by unfold ZV at hc; omega
 have par1 : ZV (2 * i + 1) = i := by unfold ZV; omega
 have par2' : ZV (2 * i + 1 + 1) = i := by unfold ZV; omega
 unfold ZaV
 simp only [T_G]
 refine ⟨by omega, by omega, ?_⟩
 by_cases hn : 2 * i + 1 ≥ n
 ·rw [if_pos hn, Option.bind_some, if_pos rfl]
  simp only [Zd, Sum.elim_inr]
  refine ⟨hp, E.done fun c c0 c1 hc => ?_, hr⟩
  have := kids c c0 hc
  omega
 ·rw [if_neg hn, Option.bind_some, if_neg (by simp; omega)]
  have hin : i < n := by omega
  simp only [T_G]
  refine ⟨by omega, ?_⟩
  -- the lesser child
  refine Zm (fun o => o = decide (2 * i + 1 + 1 < n /\ Less (gt h (2 * i + 1 + 1)) (gt h (2 * i + 1)))) ?_ ?_
  ·by_cases h2 : 2 * i + 1 + 1 < n
   ·rw [if_pos h2, Zil (by omega) (by omega) (by omega) (by omega), Option.bind_some]
    simp [h2]
   ·rw [if_neg h2]; simp [h2]
  rintro _ rfl
  have key : ∀ c, 1 ≤ c -> c < n -> ZV c = i -> (∀ d, 1 ≤ d -> d < n -> ZV d = i -> ¬ Less (gt h d) (gt h c)) ->
    T ((Zal h c i).bind fun y82 => if (!y82) = true then (some (Sum.inr (i, h))) else (((Zaj h i c).bind fun y92 => some (Sum.inl (y92, c))))) (Sum.elim (fun z : List (Int × Int) × Int => (z.1.Perm q /\ 0 ≤ z.2 /\ (z.2 < n ∨ z.2 = 0) /\ Down2 n (gt z.1) z.2 /\ ∀ p, n ≤ p -> p < (q.length : Int) -> gt z.1 p = gt q p) /\ (n - z.2).toNat < (n - i).toNat) fun r : Int × List (Int × Int) => r.2.Perm q /\ Ord2 n (gt r.2) /\ ∀ p, n ≤ p -> p < (q.length : Int) -> gt r.2 p = gt q p) := by
   intro c c0 c1 hc hm
   have hci : i < c := by have := kids c c0 hc; omega
   rw [Zil (by omega) (by omega) i0 (by omega), Option.bind_some]
   by_cases hless : Less (gt h c) (gt h i)
   ·rw [decide_eq_true hless, if_neg (by decide), Zih i0 (by omega) (by omega) (by omega), Option.bind_some]
    simp only [Zd, Sum.elim_inl]
    have hs : ∀ p, 0 ≤ p -> gt (swp h i c) p = if p = c then gt h i else if p = i then gt h c else gt h p := fun p p0 => Zjz i0 (by omega) (by omega) (by omega) p0
    refine ⟨⟨(Zhp i0 (by omega) (by omega) (by omega)).trans hp, by omega, .inl c1, E.step i0 c0 c1 hc hm hless fun p p0 p1 => hs p p0, fun p p0 p1 => ?_⟩, by omega⟩
    rw [hs p (by omega), if_neg (by omega), if_neg (by omega)]
    exact hr p p0 p1
   ·rw [decide_eq_false hless, if_pos (by decide)]
    simp only [Zd, Sum.elim_inr]
    refine ⟨hp, E.done fun d d0 d1 hd => ?_, hr⟩
    exact Zhr (hm d d0 d1 hd) hless
  by_cases hpick : 2 * i + 1 + 1 < n /\ Less (gt h (2 * i + 1 + 1)) (gt h (2 * i + 1))
  ·rw [decide_eq_true hpick, if_pos rfl, Option.bind_some]
   refine key _ (by omega) hpick.1 par2' fun d d0 d1 hd => ?_
   rcases kids d d0 hd with rfl | rfl
   ·exact hpick.2.irr
   ·unfold Less; omega
  ·rw [decide_eq_false hpick, if_neg (by decide), Option.bind_some]
   refine key _ (by omega) (by omega) par1 fun d d0 d1 hd => ?_
   rcases kids d d0 hd with rfl | rfl
   ·unfold Less; omega
   ·exact fun k => hpick ⟨d1, k⟩
theorem Zjv {E : Type} [Inhabited E] {l : List E} {x : E} {p : Int} (p0 : 0 ≤ p) : gt (l ++ [x]) p = if p = (l.length : Int) then x else gt l p := by
 unfold gt
 rw [List.getD_eq_getElem?_getD, List.getD_eq_getElem?_getD]
 by_cases h : p = (l.length : Int)
 ·subst h; simp
 ·rw [if_neg h]
  by_cases h2 : p < (l.length : Int)
  ·rw [List.getElem?_append_left (by omega)]
  ·rw [List.getElem?_eq_none (by simp; omega), List.getElem?_eq_none (by omega)]
theorem Zmd {E : Type} [Inhabited E] {l : List E} {m : Nat} {p : Int} (p0 : 0 ≤ p) (p1 : p < (m : Int)) : gt (l.take m) p = gt l p := by
 unfold gt
 rw [List.getD_eq_getElem?_getD, List.getD_eq_getElem?_getD, List.getElem?_take, if_pos (by omega)]
theorem Znj {d v : Int} (hq : Hq q) (hl : q.length ≤ 100000000000) : T (Zbw a b1 b2 b3 b4 q f d v) fun r => r.Perm ((d, v) :: q) /\ Hq r := by
 unfold Zbw ZcN Za9
 have hln : (q ++ [(d, v)]).length = q.length + 1 := by simp
 rw [ZgE, T_G]
 refine ⟨by omega, ?_⟩
 simp only [Zd, Option.bind_some, hln, T_G]
 refine ⟨by omega, ?_⟩
 refine Zm _ (p_hUp (q := q ++ [(d, v)]) (by omega) (by omega) (by rw [hln]; omega) ?_) ?_
 ·rw [hln, show ((q.length + 1 : Nat) : Int) - 1 = (q.length : Int) from by omega]
  have pl : ∀ p, 1 ≤ p -> ZV p < p /\ 0 ≤ ZV p := fun p hp => by unfold ZV; omega
  refine ⟨fun p p0 p1 hp => ?_, fun i0 c c0 c1 hc => ?_⟩
  ·have := pl p p0
   rw [Zjv (by omega), if_neg hp, Zjv (by omega), if_neg (by omega)]
   exact hq p p0 (by omega)
  ·have := pl c c0; omega
 ·rintro r ⟨h1, h2⟩
  simp only [Zd]
  exact ⟨h1.trans (List.perm_append_singleton _ _), h2⟩
theorem ZnV (hq : Hq q) (hl : q.length ≤ 100000000000) (h0 : 0 < (q.length : Int)) : T (ZbZ a b1 b2 b3 b4 q f) fun r => (r.1, r.2.1) = gt q 0 /\ (gt q 0 :: r.2.2.2).Perm q /\ Hq r.2.2.2 := by
 unfold ZbZ Za9
 simp only [Option.bind_some, T_G]
 refine ⟨by omega, ?_⟩
 have hs : ∀ p, 0 ≤ p -> gt (swp q 0 ((q.length : Int) - 1)) p = if p = (q.length : Int) - 1 then gt q 0 else if p = 0 then gt q ((q.length : Int) - 1) else gt q p := fun p p0 => Zjz (by omega) (by omega) (by omega) (by omega) p0
 have hsl : (swp q 0 ((q.length : Int) - 1)).length = q.length := Zm5
 have hsp := Zhp (l := q) (i := 0) (j := (q.length : Int) - 1) (by omega) (by omega) (by omega) (by omega)
 rw [Zih (by omega) (by omega) (by omega) (by omega), Option.bind_some]
 refine Zm _ (Zni (q := swp q 0 ((q.length : Int) - 1)) (by omega) (by omega) (by omega) ?_) ?_
 ·have pl : ∀ p, 1 ≤ p -> ZV p < p /\ 0 ≤ ZV p := fun p hp => by unfold ZV; omega
  refine ⟨fun p p0 p1 hp => ?_, fun i0 => by omega⟩
  have := pl p p0
  rw [hs p (by omega), if_neg (by omega), if_neg (by omega), hs _ this.2, if_neg (by omega), if_neg hp]
  exact hq p p0 (by omega)
 ·rintro ⟨b, r⟩ ⟨h1, h2, h3⟩
  dsimp only at *
  have hrl := h1.length_eq
  rw [hsl] at hrl
  have hlast := h3 ((q.length : Int) - 1) (by omega) (by omega)
  rw [hs _ (by omega), if_pos rfl] at hlast
  unfold Zc4
  simp only [T_G, ZgE, Zd, hrl]
  refine ⟨by omega, by omega, by omega, ?_⟩
  have hsplit : r = r.take ((q.length : Int) - 1).toNat ++ [gt r ((q.length : Int) - 1)] := by
   have e : r.take (((q.length : Int) - 1).toNat + 1) = r := List.take_of_length_le (by omega)
   have e2 := List.take_add_one (l := r) (i := ((q.length : Int) - 1).toNat)
   rw [e] at e2
   have : r[((q.length : Int) - 1).toNat]?.toList = [gt r ((q.length : Int) - 1)] := by
    unfold gt
    rw [List.getD_eq_getElem?_getD, List.getElem?_eq_getElem (by omega)]; rfl
   rw [this] at e2; exact e2
  refine ⟨by rw [hlast], ?_, ?_⟩
  ·rw [hlast] at hsplit
   refine List.Perm.trans ?_ (h1.trans hsp)
   conv => rhs; rw [hsplit]
   exact (List.perm_append_singleton _ _).symm
  ·have hlt : (r.take ((q.length : Int) - 1).toNat).length = q.length - 1 := by rw [List.length_take]; omega
   unfold Hq
   rw [hlt]
   refine Ord2.congr (h := gt r) ?_ fun p p0 p1 => Zmd p0 (by omega)
   rw [show ((q.length - 1 : Nat) : Int) = (q.length : Int) - 1 from by omega]; exact h2
end Go.Vd

/-! (OvA) -/

set_option linter.unusedVariables false
set_option linter.unusedSimpArgs false
namespace Go.Vd
abbrev Hf := Int × Int × Int
abbrev OAr := Int × Int × Int × Int
def Ris (l : List Hf) : Prop := l.Pairwise fun a b => a.1 < b.1
theorem Ris.uniq {l m : List Hf} (h : Ris l) (k : Ris m) (e : ∀ x, x ∈ l ↔ x ∈ m) : l = m := by
 induction l generalizing m with
 | nil =>
  cases m with
  | nil => rfl
  | cons b m => exact absurd ((e b).2 (List.mem_cons_self ..)) (by simp)
 | cons a l ih =>
  cases m with
  | nil => exact absurd ((e a).1 (List.mem_cons_self ..)) (by simp)
  | cons b m =>
   obtain ⟨h1, h2⟩ := List.pairwise_cons.1 h
   obtain ⟨k1, k2⟩ := List.pairwise_cons.1 k
   have hab : a = b := by
    rcases List.mem_cons.1 ((e a).1 (List.mem_cons_self ..)) with q | q
    ·exact q
    ·rcases List.mem_cons.1 ((e b).2 (List.mem_cons_self ..)) with p | p
     ·exact p.symm
     ·have := h1 b p; have := k1 a q; omega
   subst hab
   congr 1
   refine ih h2 k2 fun x => ?_
   have hx := e x
   constructor
   ·intro q
    rcases List.mem_cons.1 (hx.1 (List.mem_cons_of_mem _ q)) with p | p
    ·subst p; have := h1 _ q; omega
    ·exact p
   ·intro q
    rcases List.mem_cons.1 (hx.2 (List.mem_cons_of_mem _ q)) with p | p
    ·subst p; have := k1 _ q; omega
    ·exact p
def ZcP (h : Hf) (l : List Hf) : List Hf := l.filter (fun x => decide (x.1 < h.1)) ++ h :: l.filter (fun x => decide (h.1 < x.1))
def Zd2 (v : Int) (l : List Hf) : List Hf := l.filter (fun x => decide (x.1 ≠ v))
theorem Zf0 {h x : Hf} {l : List Hf} : x ∈ ZcP h l ↔ x = h ∨ (x ∈ l /\ x.1 ≠ h.1) := by
 simp only [ZcP, List.mem_append, List.mem_cons, List.mem_filter, decide_eq_true_eq]
 constructor
 ·rintro (⟨a, b⟩ | a | ⟨a, b⟩)
  ·exact .inr ⟨a, by omega⟩
  ·exact .inl a
  ·exact .inr ⟨a, by omega⟩
 ·rintro (a | ⟨a, b⟩)
  ·exact .inr (.inl a)
  ·by_cases q : x.1 < h.1
   ·exact .inl ⟨a, q⟩
   ·exact .inr (.inr ⟨a, by omega⟩)
theorem Zjj {v : Int} {x : Hf} {l : List Hf} : x ∈ Zd2 v l ↔ x ∈ l /\ x.1 ≠ v := by simp [Zd2]
theorem Ris.nil : Ris [] := List.Pairwise.nil
theorem Ris.ins {h : Hf} {l : List Hf} (k : Ris l) : Ris (ZcP h l) := by
 refine List.pairwise_append.2 ⟨k.filter _, List.pairwise_cons.2 ⟨fun x hx => ?_, k.filter _⟩, fun x hx y hy => ?_⟩
 ·have := (List.mem_filter.1 hx).2; simpa using this
 ·have h1 : x.1 < h.1 := by have := (List.mem_filter.1 hx).2; simpa using this
  rcases List.mem_cons.1 hy with e | e
  ·subst e; exact h1
  ·have : h.1 < y.1 := by have := (List.mem_filter.1 e).2; simpa using this
   omega
theorem Ris.del {v : Int} {l : List Hf} (k : Ris l) : Ris (Zd2 v l) := k.filter _
def cl (f : OAr -> Option Hf) (l0 : List Hf) (arcs : List OAr) : List Hf := arcs.foldl (fun l a => match f a with | some h => ZcP h l | none => l) l0
def Ds (f : OAr -> Option Hf) (arcs : List OAr) : Prop := arcs.Pairwise fun a b => ∀ h k, f a = some h -> f b = some k -> h.1 ≠ k.1
theorem ZlH {f : OAr -> Option Hf} {arcs : List OAr} : ∀ {l0 : List Hf}, Ris l0 -> Ris (cl f l0 arcs) := by
 induction arcs with
 | nil => exact fun h => h
 | cons a arcs ih =>
  intro l0 h
  unfold cl
  rw [List.foldl_cons]
  refine ih ?_
  cases f a with
  | none => exact h
  | some x => exact h.ins
theorem Zl5 {f : OAr -> Option Hf} {arcs : List OAr} (hd : Ds f arcs) {x : Hf} : ∀ {l0 : List Hf}, x ∈ cl f l0 arcs ↔ (∃ a ∈ arcs, f a = some x) ∨ (x ∈ l0 /\ ∀ a ∈ arcs, ∀ h, f a = some h -> h.1 ≠ x.1) := by
 induction arcs with
 | nil => intro l0; simp [cl]
 | cons a arcs ih =>
  intro l0
  obtain ⟨d1, d2⟩ := List.pairwise_cons.1 hd
  have e : cl f l0 (a :: arcs) = cl f (match f a with | some h => ZcP h l0 | none => l0) arcs := by unfold cl; rw [List.foldl_cons]
  rw [e, ih d2]
  cases hf : f a with
  | none =>
   dsimp only
   constructor
   ·rintro (⟨b, hb, h⟩ | ⟨h1, h2⟩)
    ·exact .inl ⟨b, List.mem_cons_of_mem _ hb, h⟩
    ·refine .inr ⟨h1, fun b hb h hh => ?_⟩
     rcases List.mem_cons.1 hb with e | e
     ·rw [e, hf] at hh; cases hh
     ·exact h2 b e h hh
   ·rintro (⟨b, hb, h⟩ | ⟨h1, h2⟩)
    ·rcases List.mem_cons.1 hb with e | e
     ·rw [e, hf] at h; cases h
     ·exact .inl ⟨b, e, h⟩
    ·exact .inr ⟨h1, fun b hb => h2 b (List.mem_cons_of_mem _ hb)⟩
  | some y =>
   dsimp only
   rw [Zf0]
   constructor
   ·rintro (⟨b, hb, h⟩ | ⟨h1 | ⟨h1, h3⟩, h2⟩)
    ·exact .inl ⟨b, List.mem_cons_of_mem _ hb, h⟩
    ·exact .inl ⟨a, List.mem_cons_self .., by rw [hf, h1]⟩
    ·refine .inr ⟨h1, fun b hb h hh => ?_⟩
     rcases List.mem_cons.1 hb with e | e
     ·rw [e, hf] at hh; cases hh; exact fun q => h3 q.symm
     ·exact h2 b e h hh
   ·rintro (⟨b, hb, h⟩ | ⟨h1, h2⟩)
    ·rcases List.mem_cons.1 hb with e | e
     ·rw [e, hf] at h; cases h
      exact .inr ⟨.inl rfl, fun c hc k hk => fun q => d1 c hc x k hf hk q.symm⟩
     ·exact .inl ⟨b, e, h⟩
    ·exact .inr ⟨.inr ⟨h1, fun q => h2 a (List.mem_cons_self ..) y hf q.symm⟩, fun b hb => h2 b (List.mem_cons_of_mem _ hb)⟩
def ZfA (v : Int) (a : OAr) : Option Hf := if a.1 = v then some a.2 else none
def fIn (v : Int) (a : OAr) : Option Hf := if a.2.1 = v then some (a.1, a.2.2) else none
def Zz (arcs : List OAr) (v : Int) : List Hf := cl (ZfA v) [] arcs
def inL (arcs : List OAr) (v : Int) : List Hf := cl (fIn v) [] arcs
def KD (arcs : List OAr) : Prop := arcs.Pairwise fun a b => ¬ (a.1 = b.1 /\ a.2.1 = b.2.1)
theorem KD.out {arcs : List OAr} (h : KD arcs) (v : Int) : Ds (ZfA v) arcs := h.imp fun {a b} q x y hx hy e => by
 unfold ZfA at hx hy
 split at hx
 ·split at hy
  ·cases hx; cases hy; exact q ⟨by omega, e⟩
  ·cases hy
 ·cases hx
theorem KD.inn {arcs : List OAr} (h : KD arcs) (v : Int) : Ds (fIn v) arcs := h.imp fun {a b} q x y hx hy e => by
 unfold fIn at hx hy
 split at hx
 ·split at hy
  ·cases hx; cases hy; exact q ⟨e, by omega⟩
  ·cases hy
 ·cases hx
theorem ZcA (arcs : List OAr) (v : Int) : Ris (Zz arcs v) := ZlH .nil
theorem Zdl (arcs : List OAr) (v : Int) : Ris (inL arcs v) := ZlH .nil
theorem Z3 {arcs : List OAr} (h : KD arcs) {v : Int} {x : Hf} : x ∈ Zz arcs v ↔ (v, x) ∈ arcs := by
 unfold Zz
 rw [Zl5 (h.out v)]
 simp only [List.not_mem_nil, false_and, or_false]
 constructor
 ·rintro ⟨a, ha, e⟩
  unfold ZfA at e
  split at e
  ·rename_i q; cases e; rw [← q]; exact ha
  ·cases e
 ·exact fun hm => ⟨_, hm, by simp [ZfA]⟩
theorem Za3 {arcs : List OAr} (h : KD arcs) {v : Int} {x : Hf} : x ∈ inL arcs v ↔ (x.1, v, x.2) ∈ arcs := by
 unfold inL
 rw [Zl5 (h.inn v)]
 simp only [List.not_mem_nil, false_and, or_false]
 constructor
 ·rintro ⟨a, ha, e⟩
  unfold fIn at e
  split at e
  ·rename_i q; cases e; rw [← q]; exact ha
  ·cases e
 ·exact fun hm => ⟨_, hm, by simp [fIn]⟩
def Zej (arcs : List OAr) (a : OAr) : List OAr := arcs.filter (fun x => decide (¬ (x.1 = a.1 /\ x.2.1 = a.2.1))) ++ [a]
def Zb4 (arcs : List OAr) (v : Int) : List OAr := arcs.filter (fun x => decide (x.1 ≠ v /\ x.2.1 ≠ v))
theorem Zfg {arcs : List OAr} {a x : OAr} : x ∈ Zej arcs a ↔ x = a ∨ (x ∈ arcs /\ ¬ (x.1 = a.1 /\ x.2.1 = a.2.1)) := by
 simp only [Zej, List.mem_append, List.mem_filter, decide_eq_true_eq, List.mem_singleton]
 exact ⟨fun h => h.elim (fun h => .inr h) .inl, fun h => h.elim .inr .inl⟩
theorem ZeC {arcs : List OAr} {v : Int} {x : OAr} : x ∈ Zb4 arcs v ↔ x ∈ arcs /\ x.1 ≠ v /\ x.2.1 ≠ v := by simp [Zb4]
theorem KD.put {arcs : List OAr} (h : KD arcs) (a : OAr) : KD (Zej arcs a) := by
 refine List.pairwise_append.2 ⟨h.filter _, List.pairwise_singleton _ _, fun x hx y hy => ?_⟩
 rw [List.mem_singleton.1 hy]
 exact of_decide_eq_true (List.mem_filter.1 hx).2
theorem KD.rem {arcs : List OAr} (h : KD arcs) (v : Int) : KD (Zb4 arcs v) := h.filter _
theorem ZmC {arcs : List OAr} (h : KD arcs) (a : OAr) (v : Int) : Zz (Zej arcs a) v = if v = a.1 then ZcP a.2 (Zz arcs v) else Zz arcs v := by
 split
 ·rename_i e
  subst e
  refine (ZcA _ _).uniq (ZcA _ _).ins fun x => ?_
  rw [Z3 (h.put a), Zf0, Z3 h, Zfg]
  constructor
  ·rintro (q | ⟨q1, q2⟩)
   ·exact .inl (by rw [← q])
   ·exact .inr ⟨q1, fun e => q2 ⟨rfl, e⟩⟩
  ·rintro (q | ⟨q1, q2⟩)
   ·exact .inl (by rw [q])
   ·exact .inr ⟨q1, fun e => q2 e.2⟩
 ·rename_i e
  refine (ZcA _ _).uniq (ZcA _ _) fun x => ?_
  rw [Z3 (h.put a), Z3 h, Zfg]
  constructor
  ·rintro (q | ⟨q1, q2⟩)
   ·exact absurd (by rw [← q]) e
   ·exact q1
  ·exact fun q => .inr ⟨q, fun k => e k.1⟩
theorem Znb {arcs : List OAr} (h : KD arcs) (a : OAr) (v : Int) : inL (Zej arcs a) v = if v = a.2.1 then ZcP (a.1, a.2.2) (inL arcs v) else inL arcs v := by
 split
 ·rename_i e
  subst e
  refine (Zdl _ _).uniq (Zdl _ _).ins fun x => ?_
  rw [Za3 (h.put a), Zf0, Za3 h, Zfg]
  constructor
  ·rintro (q | ⟨q1, q2⟩)
   ·exact .inl (by rw [← q])
   ·exact .inr ⟨q1, fun e => q2 ⟨e, rfl⟩⟩
  ·rintro (q | ⟨q1, q2⟩)
   ·exact .inl (by rw [q])
   ·exact .inr ⟨q1, fun e => q2 e.1⟩
 ·rename_i e
  refine (Zdl _ _).uniq (Zdl _ _) fun x => ?_
  rw [Za3 (h.put a), Za3 h, Zfg]
  constructor
  ·rintro (q | ⟨q1, q2⟩)
   ·exact absurd (by rw [← q]) e
   ·exact q1
  ·exact fun q => .inr ⟨q, fun k => e k.2⟩
theorem Zmr {arcs : List OAr} (h : KD arcs) (v x : Int) : Zz (Zb4 arcs v) x = if x = v then [] else Zd2 v (Zz arcs x) := by
 split
 ·rename_i e
  refine (ZcA _ _).uniq .nil fun y => ?_
  rw [Z3 (h.rem v), ZeC]
  simp [e]
 ·rename_i e
  refine (ZcA _ _).uniq (ZcA _ _).del fun y => ?_
  rw [Z3 (h.rem v), Zjj, Z3 h, ZeC]
  exact ⟨fun ⟨a, _, b⟩ => ⟨a, b⟩, fun ⟨a, b⟩ => ⟨a, e, b⟩⟩
theorem Zno {arcs : List OAr} (h : KD arcs) (v x : Int) : inL (Zb4 arcs v) x = if x = v then [] else Zd2 v (inL arcs x) := by
 split
 ·rename_i e
  refine (Zdl _ _).uniq .nil fun y => ?_
  rw [Za3 (h.rem v), ZeC]
  simp [e]
 ·rename_i e
  refine (Zdl _ _).uniq (Zdl _ _).del fun y => ?_
  rw [Za3 (h.rem v), Zjj, Za3 h, ZeC]
  exact ⟨fun ⟨a, b, _⟩ => ⟨a, b⟩, fun ⟨a, b⟩ => ⟨a, b, e⟩⟩
theorem Zlg {f : OAr -> Option Hf} {arcs : List OAr} (hd : Ds f arcs) : ∀ {l0 : List Hf}, (∀ x ∈ l0, ∀ a ∈ arcs, ∀ h, f a = some h -> h.1 ≠ x.1) -> Ris l0 -> (cl f l0 arcs).length = l0.length + (arcs.filter fun a => (f a).isSome).length := by
 induction arcs with
 | nil => intro l0 _ _; simp [cl]
 | cons a arcs ih =>
  intro l0 h hr
  obtain ⟨d1, d2⟩ := List.pairwise_cons.1 hd
  have e : cl f l0 (a :: arcs) = cl f (match f a with | some h => ZcP h l0 | none => l0) arcs := by unfold cl; rw [List.foldl_cons]
  rw [e, List.filter_cons]
  cases hf : f a with
  | none =>
   dsimp only
   rw [ih d2 (fun x hx b hb => h x hx b (List.mem_cons_of_mem _ hb)) hr]
   simp
  | some y =>
   dsimp only
   rw [ih d2 (fun x hx b hb k hk => ?_) hr.ins]
   ·have hne : ∀ x ∈ l0, x.1 ≠ y.1 := fun x hx e => h x hx a (List.mem_cons_self ..) y hf e.symm
    have hl : (ZcP y l0).length = l0.length + 1 := by
     clear ih e d1 d2 hd h hr
     unfold ZcP
     rw [List.length_append, List.length_cons]
     have : (l0.filter fun x => decide (x.1 < y.1)).length + (l0.filter fun x => decide (y.1 < x.1)).length = l0.length := by
      induction l0 with
      | nil => rfl
      | cons b l0 ih =>
       have h1 := hne b (List.mem_cons_self ..)
       have h2 := ih fun x hx => hne x (List.mem_cons_of_mem _ hx)
       rw [List.filter_cons, List.filter_cons]
       by_cases q : b.1 < y.1
       ·rw [if_pos (by simpa using q), if_neg (by simp; omega)]
        simp only [List.length_cons]; omega
       ·rw [if_neg (by simpa using q), if_pos (by simp; omega)]
        simp only [List.length_cons]; omega
     omega
    rw [hl]
    simp; omega
   ·rcases Zf0.1 hx with q | ⟨q, _⟩
    ·rw [q]; exact fun e => d1 b hb y k hf hk e.symm
    ·exact h x q b (List.mem_cons_of_mem _ hb) k hk
theorem Zjy {arcs : List OAr} (h : KD arcs) (v : Int) : (Zz arcs v).length = (arcs.filter fun a => decide (a.1 = v)).length := by
 unfold Zz
 rw [Zlg (h.out v) (fun x hx => by cases hx) .nil, List.length_nil, Nat.zero_add]
 congr 1
 apply List.filter_congr
 intro a _
 by_cases e : a.1 = v <;> simp [ZfA, e]
theorem Zkj {arcs : List OAr} (h : KD arcs) (v : Int) : (inL arcs v).length = (arcs.filter fun a => decide (a.2.1 = v)).length := by
 unfold inL
 rw [Zlg (h.inn v) (fun x hx => by cases hx) .nil, List.length_nil, Nat.zero_add]
 congr 1
 apply List.filter_congr
 intro a _
 by_cases e : a.2.1 = v <;> simp [fIn, e]
theorem Zna {arcs : List OAr} (h : KD arcs) (hn : ∀ a ∈ arcs, a.1 ≠ a.2.1) (v : Int) : arcs.length = (Zb4 arcs v).length + ((Zz arcs v).length + (inL arcs v).length) := by
 rw [Zjy h, Zkj h]
 clear h
 unfold Zb4
 induction arcs with
 | nil => rfl
 | cons a arcs ih =>
  have h1 := hn a (List.mem_cons_self ..)
  have h2 := ih fun x hx => hn x (List.mem_cons_of_mem _ hx)
  rw [List.filter_cons, List.filter_cons, List.filter_cons]
  by_cases q : a.1 = v
  ·rw [if_neg (by simp [q]), if_pos (by simpa using q), if_neg (by simp; omega)]
   simp only [List.length_cons]; omega
  ·by_cases p : a.2.1 = v
   ·rw [if_neg (by simp [p]), if_neg (by simpa using q), if_pos (by simpa using p)]
    simp only [List.length_cons]; omega
   ·rw [if_pos (by simp [q, p]), if_neg (by simpa using q), if_neg (by simpa using p)]
    simp only [List.length_cons]; omega
theorem Zkq {arcs : List OAr} (h : KD arcs) (a : OAr) : (Zej arcs a).length = if (∃ x ∈ arcs, x.1 = a.1 /\ x.2.1 = a.2.1) then arcs.length else arcs.length + 1 := by
 unfold Zej
 rw [List.length_append, List.length_singleton]
 induction arcs with
 | nil => simp
 | cons b arcs ih =>
  obtain ⟨h1, h2⟩ := List.pairwise_cons.1 h
  have ih' := ih h2
  rw [List.filter_cons]
  by_cases q : b.1 = a.1 /\ b.2.1 = a.2.1
  ·rw [if_neg (by simp [q]), if_pos ⟨b, List.mem_cons_self .., q⟩]
   have hno : ¬ ∃ x ∈ arcs, x.1 = a.1 /\ x.2.1 = a.2.1 := fun ⟨x, hx, e⟩ => h1 x hx ⟨by rw [q.1, e.1], by rw [q.2, e.2]⟩
   rw [if_neg hno] at ih'
   simp only [List.length_cons]; omega
  ·rw [if_pos (decide_eq_true q), List.length_cons]
   by_cases p : ∃ x ∈ arcs, x.1 = a.1 /\ x.2.1 = a.2.1
   ·rw [if_pos p] at ih'
    obtain ⟨x, hx, e⟩ := p
    rw [if_pos ⟨x, List.mem_cons_of_mem _ hx, e⟩]
    simp only [List.length_cons]; omega
   ·rw [if_neg p] at ih'
    rw [if_neg]
    ·simp only [List.length_cons]; omega
    ·rintro ⟨x, hx, e⟩
     rcases List.mem_cons.1 hx with k | k
     ·rw [k] at e; exact q e
     ·exact p ⟨x, k, e⟩
end Go.Vd

/-! (Nr0) -/

set_option linter.unusedVariables false
set_option linter.unusedSectionVars false
set_option linter.unusedSimpArgs false
namespace Go.Vd
def Z7 (x y : Int × Int × Int) : Prop := x.1 = y.1 /\ x.2.1 = y.2.1
instance (x y : Int × Int × Int) : Decidable (Z7 x y) := by unfold Z7; infer_instance
def ltk (x y : A3) : Prop := x.1 < y.1 ∨ (x.1 = y.1 /\ x.2.1 < y.2.1)
structure Nrm (A L : List A3) : Prop where
 inc : L.Pairwise ltk
 sub : ∀ a ∈ L, a ∈ A /\ a.1 ≠ a.2.1 /\ ∀ b ∈ A, Z7 b a -> a.2.2 ≤ b.2.2
 sup : ∀ a ∈ A, a.1 ≠ a.2.1 -> ∃ b ∈ L, Z7 b a
theorem ZlC : ∀ {L M : List A3}, L.Pairwise ltk -> M.Pairwise ltk -> (∀ x, x ∈ L ↔ x ∈ M) -> L = M := by
 intro L
 induction L with
 | nil =>
  intro M _ _ h
  cases M with
  | nil => rfl
  | cons b M => have := (h b).2 (List.mem_cons_self ..); cases this
 | cons a L ih =>
  intro M hL hM h
  cases M with
  | nil => have := (h a).1 (List.mem_cons_self ..); cases this
  | cons b M =>
   have hab : a = b := by
    rcases List.mem_cons.1 ((h a).1 (List.mem_cons_self ..)) with h1 | h1
    ·exact h1
    ·rcases List.mem_cons.1 ((h b).2 (List.mem_cons_self ..)) with h2 | h2
     ·exact h2.symm
     ·have k1 := (List.pairwise_cons.1 hM).1 a h1
      have k2 := (List.pairwise_cons.1 hL).1 b h2
      unfold ltk at k1 k2
      omega
   subst hab
   rw [ih (List.pairwise_cons.1 hL).2 (List.pairwise_cons.1 hM).2 fun x => ⟨fun hx => ?_, fun hx => ?_⟩]
   ·rcases List.mem_cons.1 ((h x).1 (List.mem_cons_of_mem _ hx)) with rfl | h1
    ·have := (List.pairwise_cons.1 hL).1 x hx
     unfold ltk at this; omega
    ·exact h1
   ·rcases List.mem_cons.1 ((h x).2 (List.mem_cons_of_mem _ hx)) with rfl | h1
    ·have := (List.pairwise_cons.1 hM).1 x hx
     unfold ltk at this; omega
    ·exact h1
theorem Znq {L : List A3} (h : L.Pairwise ltk) : ∀ x ∈ L, ∀ y ∈ L, x = y ∨ ltk x y ∨ ltk y x := by
 induction L with
 | nil => intro x hx; cases hx
 | cons a L ih =>
  intro x hx y hy
  obtain ⟨h1, h2⟩ := List.pairwise_cons.1 h
  rcases List.mem_cons.1 hx with ex | hx'
  ·rcases List.mem_cons.1 hy with ey | hy'
   ·exact .inl (ex.trans ey.symm)
   ·rw [ex]; exact .inr (.inl (h1 y hy'))
  ·rcases List.mem_cons.1 hy with ey | hy'
   ·rw [ey]; exact .inr (.inr (h1 x hx'))
   ·exact ih h2 x hx' y hy'
theorem Znp {L : List A3} (h : L.Pairwise ltk) {x y : A3} (hx : x ∈ L) (hy : y ∈ L) (k : Z7 x y) : x = y := by
 rcases Znq h x hx y hy with h | h | h
 ·exact h
 ·unfold ltk at h; unfold Z7 at k; omega
 ·unfold ltk at h; unfold Z7 at k; omega
theorem Nrm.mem {A L M : List A3} (h : Nrm A L) (k : Nrm A M) {x : A3} (hx : x ∈ L) : x ∈ M := by
 obtain ⟨h1, h2, h3⟩ := h.sub x hx
 obtain ⟨b, b1, b2⟩ := k.sup x h1 h2
 obtain ⟨k1, k2, k3⟩ := k.sub b b1
 have e1 := h3 b k1 b2
 have e2 := k3 x h1 ⟨b2.1.symm, b2.2.symm⟩
 have : x = b := eq3 b2.1.symm b2.2.symm (by omega)
 rw [this]; exact b1
theorem Nrm.uniq {A L M : List A3} (h : Nrm A L) (k : Nrm A M) : L = M :=
 ZlC h.inc k.inc fun x => ⟨h.mem k, k.mem h⟩
end Go.Vd

/-! (PrP0) -/

set_option linter.unusedVariables false
set_option linter.unusedSectionVars false
set_option linter.unusedSimpArgs false
namespace Go.Vd
variable {N : Int} {A L : List A3}
instance (x y : A3) : Decidable (ltk x y) := by unfold ltk; exact inferInstance
inductive PutA : List A3 -> A3 -> List A3 -> Prop
 | hit (p q : List A3) (b a : A3) : Z7 b a -> PutA (p ++ b :: q) a (p ++ (a.1, a.2.1, min a.2.2 b.2.2) :: q)
 | new (p q : List A3) (a : A3) : (∀ x ∈ p, ltk x a) -> (∀ x ∈ q, ltk a x) -> PutA (p ++ q) a (p ++ a :: q)
theorem Zn9 {x a : A3} : Zb9 x.1 x.2.1 x.2.2 a.1 a.2.1 a.2.2 = some (decide (ltk x a)) := by
 unfold Zb9 ltk
 by_cases h : x.1 < a.1
 ·rw [if_pos h]; simp [h]
 ·rw [if_neg h]
  by_cases h2 : x.1 = a.1
  ·rw [if_pos h2]; simp [h2]
  ·rw [if_neg h2]; simp [h, h2]
theorem Zjf {o : Int} (o0 : 0 ≤ o) (o1 : o < (L.length : Int)) : L.drop o.toNat = gt L o :: L.drop (o + 1).toNat := by
 rw [List.drop_eq_getElem_cons (i := o.toNat) (by omega), show (o + 1).toNat = o.toNat + 1 from by omega]
 congr 1
 have h : gt L ((o.toNat : Nat) : Int) = L[o.toNat] := Zfb (by omega)
 rw [← h]; congr 1; omega
theorem p_Put {a : A3} (hL : L.Pairwise ltk) (hl : L.length ≤ 300000) : T (Zcq L a.1 a.2.1 a.2.2) fun r => PutA L a r /\ r.length ≤ L.length + 1 := by
 unfold Zcq
 refine Zm (fun o => 0 ≤ o /\ o ≤ (L.length : Int) /\ (∀ j, 0 ≤ j -> j < o -> ltk (gt L j) a) /\ (o < (L.length : Int) -> ¬ ltk (gt L o) a)) ?_ ?_
 ·refine ZS (fun i => 0 ≤ i /\ i ≤ (L.length : Int) /\ ∀ j, 0 ≤ j -> j < i -> ltk (gt L j) a) (fun i => ((L.length : Int) - i).toNat) ?_ ⟨by omega, by omega, fun j _ _ => by omega⟩
  rintro i ⟨i0, i1, hi⟩
  unfold ZbC
  rw [Zn9, Option.bind_some]
  simp only [Zs, T_G, Zd, Sum.elim_inl, Sum.elim_inr, decide_eq_true_eq]
  refine ⟨fun h => ⟨i0, fun k => ⟨by omega, ⟨by omega, by omega, fun j j0 j1 => ?_⟩, by omega⟩, fun k => ⟨i0, i1, hi, fun _ => k⟩⟩, fun h => ⟨i0, i1, hi, fun k => absurd k h⟩⟩
  by_cases e : j = i
  ·rw [e]; exact k
  ·exact hi j j0 (by omega)
 ·rintro o ⟨o0, o1, h1, h2⟩
  simp only [List.drop_zero, List.take_length, List.nil_append]
  rw [T_G, T_G]
  refine ⟨⟨o0, o1⟩, by rw [List.length_take]; omega, ?_⟩
  refine Zm (fun b => b = true ↔ (o < (L.length : Int) /\ Z7 (gt L o) a)) ?_ fun b hb => ?_
  ·unfold Z7
   simp only [Zs, T_G, Zd, decide_eq_true_eq]
   exact ⟨fun h => ⟨o0, fun k => by simp [h, k], fun k => by simp [k]⟩, fun h => by simp; omega⟩
  have hp : ∀ x ∈ L.take o.toNat, ltk x a := fun x hx => by
   obtain ⟨j, j0, j1, rfl⟩ := ZdB hx
   rw [List.length_take] at j1
   have : gt (L.take o.toNat) j = gt L j := by
    unfold gt
    rw [List.getD_eq_getElem?_getD, List.getD_eq_getElem?_getD, List.getElem?_take, if_pos (by omega)]
   rw [this]
   exact h1 j j0 (by omega)
  have eL : L.take o.toNat ++ L.drop o.toNat = L := List.take_append_drop _ _
  rw [Zs]
  refine ⟨fun h => ?_, fun h => ?_⟩
  ·obtain ⟨k1, k2⟩ := hb.1 h
   simp only [T_G, Zd, List.length_append, List.length_take, List.length_drop, List.length_cons, List.length_nil]
   refine ⟨⟨o0, k1⟩, by omega, by omega, by omega, by omega, ?_, by omega⟩
   have := PutA.hit (L.take o.toNat) (L.drop (o + 1).toNat) (gt L o) a k2
   rw [← Zjf o0 k1, eL] at this
   simpa using this
  ·have hn : ¬ (o < (L.length : Int) /\ Z7 (gt L o) a) := fun k => h (hb.2 k)
   simp only [T_G, Zd, List.length_append, List.length_take, List.length_drop, List.length_cons, List.length_nil]
   refine ⟨by omega, by omega, ?_, by omega⟩
   have hq : ∀ x ∈ L.drop o.toNat, ltk a x := by
    by_cases k : o < (L.length : Int)
    ·have h3 := h2 k
     have h4 : ltk a (gt L o) := by
      have : ¬ Z7 (gt L o) a := fun q => hn ⟨k, q⟩
      unfold ltk Z7 at *; omega
     have h5 : (L.drop o.toNat).Pairwise ltk := hL.sublist (List.drop_sublist _ _)
     rw [Zjf o0 k] at h5 ⊢
     intro x hx
     rcases List.mem_cons.1 hx with rfl | hx
     ·exact h4
     ·have := (List.pairwise_cons.1 h5).1 x hx
      unfold ltk at *; omega
    ·rw [List.drop_of_length_le (by omega)]; intro x hx; cases hx
   have := PutA.new (L.take o.toNat) (L.drop o.toNat) a hp hq
   rw [eL] at this
   simpa using this
theorem Zn4 {a : A3} {m : Int} : Z7 (a.1, a.2.1, m) a := ⟨rfl, rfl⟩
theorem PutA.nrm {A L r : List A3} {a : A3} (h : PutA L a r) (k : Nrm A L) (hn : a.1 ≠ a.2.1) : Nrm (A ++ [a]) r := by
 have mA : ∀ c, c ∈ A ++ [a] ↔ (c ∈ A ∨ c = a) := fun c => by simp
 cases h with
 | hit p q b _ kb =>
  have inc := k.inc
  obtain ⟨i1, i2, i3⟩ := List.pairwise_append.1 inc
  obtain ⟨i4, i5⟩ := List.pairwise_cons.1 i2
  have kab : b.1 = a.1 /\ b.2.1 = a.2.1 := kb
  have hbL : b ∈ p ++ b :: q := by simp
  obtain ⟨b1, b2, b3⟩ := k.sub b hbL
  refine ⟨List.pairwise_append.2 ⟨i1, List.pairwise_cons.2 ⟨fun x hx => ?_, i5⟩, fun x hx y hy => ?_⟩, fun x hx => ?_, fun c hc hcn => ?_⟩
  ·have := i4 x hx; unfold ltk at *; dsimp only; omega
  ·rcases List.mem_cons.1 hy with rfl | hy
   ·have := i3 x hx b (List.mem_cons_self ..); unfold ltk at *; dsimp only; omega
   ·exact i3 x hx y (List.mem_cons_of_mem _ hy)
  ·have old : x ∈ p ∨ x ∈ q -> x ∈ A ++ [a] /\ x.1 ≠ x.2.1 /\ ∀ c ∈ A ++ [a], Z7 c x -> x.2.2 ≤ c.2.2 := fun hx => by
    have hxL : x ∈ p ++ b :: q := by rcases hx with h | h <;> simp [h]
    have hk : ¬ Z7 a x := by
     intro hk
     rcases hx with h | h
     ·have := i3 x h b (List.mem_cons_self ..); unfold ltk Z7 at *; omega
     ·have := i4 x h; unfold ltk Z7 at *; omega
    obtain ⟨x1, x2, x3⟩ := k.sub x hxL
    refine ⟨(mA x).2 (.inl x1), x2, fun c hc hk2 => ?_⟩
    rcases (mA c).1 hc with hc | rfl
    ·exact x3 c hc hk2
    ·exact absurd hk2 hk
   rcases List.mem_append.1 hx with h | h
   ·exact old (.inl h)
   ·rcases List.mem_cons.1 h with rfl | h
    ·refine ⟨(mA _).2 ?_, hn, fun c hc hk2 => ?_⟩
     ·by_cases hle : a.2.2 ≤ b.2.2
      ·right; rw [Int.min_eq_left hle]
      ·left
       rw [Int.min_eq_right (by omega)]
       have : ((a.1, a.2.1, b.2.2) : A3) = b := eq3 kab.1.symm kab.2.symm rfl
       rw [this]; exact b1
     ·rcases (mA c).1 hc with hc | rfl
      ·have := b3 c hc (by unfold Z7 at *; dsimp only at hk2; omega)
       dsimp only; omega
      ·dsimp only; omega
    ·exact old (.inr h)
  ·have new : ∃ y ∈ p ++ (a.1, a.2.1, min a.2.2 b.2.2) :: q, Z7 y a := ⟨(a.1, a.2.1, min a.2.2 b.2.2), List.mem_append.2 (.inr (List.mem_cons_self ..)), Zn4⟩
   rcases (mA c).1 hc with hc | rfl
   ·obtain ⟨y, hy, hk⟩ := k.sup c hc hcn
    rcases List.mem_append.1 hy with h | h
    ·exact ⟨y, by simp [h], hk⟩
    ·rcases List.mem_cons.1 h with rfl | h
     ·obtain ⟨z, hz, hz2⟩ := new
      exact ⟨z, hz, by unfold Z7 at *; omega⟩
     ·exact ⟨y, by simp [h], hk⟩
   ·exact new
 | new p q _ h1 h2 =>
  have inc := k.inc
  obtain ⟨i1, i2, i3⟩ := List.pairwise_append.1 inc
  refine ⟨List.pairwise_append.2 ⟨i1, List.pairwise_cons.2 ⟨h2, i2⟩, fun x hx y hy => ?_⟩, fun x hx => ?_, fun c hc hcn => ?_⟩
  ·rcases List.mem_cons.1 hy with rfl | hy
   ·exact h1 x hx
   ·exact i3 x hx y hy
  ·have old : x ∈ p ∨ x ∈ q -> x ∈ A ++ [a] /\ x.1 ≠ x.2.1 /\ ∀ c ∈ A ++ [a], Z7 c x -> x.2.2 ≤ c.2.2 := fun hx => by
    have hxL : x ∈ p ++ q := by rcases hx with h | h <;> simp [h]
    have hk : ¬ Z7 a x := by
     intro hk
     rcases hx with h | h
     ·have := h1 x h; unfold ltk Z7 at *; omega
     ·have := h2 x h; unfold ltk Z7 at *; omega
    obtain ⟨x1, x2, x3⟩ := k.sub x hxL
    refine ⟨(mA x).2 (.inl x1), x2, fun c hc hk2 => ?_⟩
    rcases (mA c).1 hc with hc | rfl
    ·exact x3 c hc hk2
    ·exact absurd hk2 hk
   rcases List.mem_append.1 hx with h | h
   ·exact old (.inl h)
   ·rcases List.mem_cons.1 h with rfl | h
    ·refine ⟨(mA _).2 (.inr rfl), hn, fun c hc hk2 => ?_⟩
     rcases (mA c).1 hc with hc | rfl
     ·exfalso
      obtain ⟨y, hy, hk⟩ := k.sup c hc (by unfold Z7 at hk2; omega)
      rcases List.mem_append.1 hy with h | h
      ·have := h1 y h; unfold ltk Z7 at *; omega
      ·have := h2 y h; unfold ltk Z7 at *; omega
     ·omega
    ·exact old (.inr h)
  ·rcases (mA c).1 hc with hc | rfl
   ·obtain ⟨y, hy, hk⟩ := k.sup c hc hcn
    rcases List.mem_append.1 hy with h | h
    ·exact ⟨y, by simp [h], hk⟩
    ·exact ⟨y, by simp [h], hk⟩
   ·exact ⟨c, by simp, rfl, rfl⟩
theorem Nrm.loop {a : A3} (k : Nrm A L) (hn : a.1 = a.2.1) : Nrm (A ++ [a]) L := by
 have mA : ∀ c, c ∈ A ++ [a] ↔ (c ∈ A ∨ c = a) := fun c => by simp
 refine ⟨k.inc, fun x hx => ?_, fun c hc hcn => ?_⟩
 ·obtain ⟨x1, x2, x3⟩ := k.sub x hx
  refine ⟨(mA x).2 (.inl x1), x2, fun c hc hk => ?_⟩
  rcases (mA c).1 hc with hc | rfl
  ·exact x3 c hc hk
  ·unfold Z7 at hk; omega
 ·rcases (mA c).1 hc with hc | rfl
  ·exact k.sup c hc hcn
  ·exact absurd hn hcn
theorem Nrm.zero : Nrm [] [] := { inc := .nil, sub := fun a h => (by cases h), sup := fun a h => (by cases h) }
end Go.Vd

/-! (PrR0) -/

set_option linter.unusedVariables false
set_option linter.unusedSectionVars false
set_option linter.unusedSimpArgs false
namespace Go.Vd
variable {N : Int} {A L : List A3}
theorem p_rOf (hl : (A.length : Int) ≤ 262144) : T (ZcG N A) fun r => r.1 = N /\ Nrm A r.2 /\ r.2.length ≤ A.length := by
 unfold ZcG
 refine Zm (fun c => Nrm A c /\ c.length ≤ A.length) ?_ fun c hc => by simp only [Zd]; exact ⟨trivial, hc⟩
 refine ZS (fun z => 0 ≤ z.1 /\ z.1 ≤ (A.length : Int) /\ Nrm (A.take z.1.toNat) z.2 /\ (z.2.length : Int) ≤ z.1) (fun z => ((A.length : Int) - z.1).toNat) ?_ ⟨by simp, by simp, by simpa using Nrm.zero, by simp⟩
 rintro ⟨i, c⟩ ⟨i0, i1, hc, hlc⟩
 dsimp only at *
 unfold ZbQ
 rw [Zs]
 refine ⟨fun hlt => ?_, fun hge => ?_⟩
 rotate_left
 ·simp only [Zd, Sum.elim_inr]
  rw [List.take_of_length_le (by omega)] at hc
  exact ⟨hc, by omega⟩
 rw [T_G, Zs]
 refine ⟨i0, fun h => ?_, fun h => ?_⟩
 ·simp only [T_G, Zd, Sum.elim_inl]
  refine ⟨by omega, ⟨by omega, by omega, ?_, by omega⟩, by omega⟩
  rw [Za7 i0 hlt]; exact hc.loop h
 ·refine Zm _ (p_Put hc.inc (by omega)) ?_
  rintro r ⟨hr, hrl⟩
  simp only [T_G, Zd, Sum.elim_inl]
  refine ⟨by omega, ⟨by omega, by omega, ?_, by omega⟩, by omega⟩
  rw [Za7 i0 hlt]; exact hr.nrm hc h
end Go.Vd

/-! (OvB) -/

set_option linter.unusedVariables false
set_option linter.unusedSimpArgs false
namespace Go.Vd
abbrev Nod := Bool × List Hf × List Hf
structure OvR (nodes : List Nod) (alive arcs : Int) (A : List Bool) (L : List OAr) : Prop where
 ln : nodes.length = A.length
 sm : A.length ≤ 65536
 kd : KD L
 en : ∀ a ∈ L, 0 ≤ a.1 /\ a.1 < (A.length : Int) /\ 0 ≤ a.2.1 /\ a.2.1 < (A.length : Int) /\ gt A a.1 = true /\ gt A a.2.1 = true /\ a.1 ≠ a.2.1 /\ 0 ≤ a.2.2.1 /\ a.2.2.1 ≤ 140737488355328 /\ -1 ≤ a.2.2.2 /\ a.2.2.2 < (A.length : Int)
 nd : ∀ v, 0 ≤ v -> v < (A.length : Int) -> gt nodes v = (!gt A v, Zz L v, inL L v)
 al : alive = ((A.filter id).length : Int)
 ar : arcs = (L.length : Int)
 lb : L.length ≤ 1000000
variable {nodes nodes' : List Nod} {alive arcs : Int} {A : List Bool} {L : List OAr} {u v w wt via : Int}
theorem ZgY (h : KD L) (v : Int) : (Zz L v).length ≤ L.length := by rw [Zjy h]; exact List.length_filter_le _ _
theorem ZhX (h : KD L) (v : Int) : (inL L v).length ≤ L.length := by rw [Zkj h]; exact List.length_filter_le _ _
theorem OvR.put (h : OvR nodes alive arcs A L) (u0 : 0 ≤ u) (u1 : u < (A.length : Int)) (w0 : 0 ≤ w) (w1 : w < (A.length : Int)) (au : gt A u = true) (aw : gt A w = true) (uw : u ≠ w) (t0 : 0 ≤ wt) (t1 : wt ≤ 140737488355328) (v0 : -1 ≤ via) (v1 : via < (A.length : Int)) (hb : L.length < 1000000)
  (hl : nodes'.length = nodes.length) (hn : ∀ x, 0 ≤ x -> x < (A.length : Int) -> gt nodes' x = ((gt nodes x).1, if x = u then ZcP (w, wt, via) (gt nodes x).2.1 else (gt nodes x).2.1, if x = w then ZcP (u, wt, via) (gt nodes x).2.2 else (gt nodes x).2.2)) :
  OvR nodes' alive (if (∃ x ∈ L, x.1 = u /\ x.2.1 = w) then arcs else arcs + 1) A (Zej L (u, w, wt, via)) := by
 have hp := Zkq h.kd (u, w, wt, via)
 refine ⟨by rw [hl, h.ln], h.sm, h.kd.put _, fun a ha => ?_, fun x x0 x1 => ?_, h.al, ?_, ?_⟩
 ·rcases Zfg.1 ha with e | ⟨e, _⟩
  ·rw [e]; exact ⟨u0, u1, w0, w1, au, aw, uw, t0, t1, v0, v1⟩
  ·exact h.en a e
 ·rw [hn x x0 x1, h.nd x x0 x1, ZmC h.kd, Znb h.kd]
 ·rw [hp]
  have := h.ar
  split
  ·exact this
  ·rw [this]; simp
 ·rw [hp]
  have := h.lb
  split <;> omega
theorem Ziq : ∀ {A : List Bool} {i : Nat} (hi : i < A.length), A[i] = true -> ((A.set i false).filter id).length + 1 = (A.filter id).length
 | a :: A, 0, _, h => by
  have : a = true := h
  subst this
  simp
 | a :: A, i + 1, hi, h => by
  have := Ziq (A := A) (i := i) (by simpa using hi) (by simpa using h)
  cases a <;> simp <;> omega
theorem ZfR {A : List Bool} {v x : Int} (v0 : 0 ≤ v) (v1 : v < (A.length : Int)) (x0 : 0 ≤ x) : gt (A.set v.toNat false) x = if x = v then false else gt A x := ZcU v0 v1 x0
theorem OvR.rem (h : OvR nodes alive arcs A L) (v0 : 0 ≤ v) (v1 : v < (A.length : Int)) (av : gt A v = true)
  (hl : nodes'.length = nodes.length) (hn : ∀ x, 0 ≤ x -> x < (A.length : Int) -> gt nodes' x = if x = v then (true, [], []) else ((gt nodes x).1, Zd2 v (gt nodes x).2.1, Zd2 v (gt nodes x).2.2)) :
  OvR nodes' (alive - 1) (arcs - (((Zz L v).length : Int) + (inL L v).length)) (A.set v.toNat false) (Zb4 L v) := by
 have hr := Zna h.kd (fun a ha => (h.en a ha).2.2.2.2.2.2.1) v
 have hs : (A.set v.toNat false).length = A.length := List.length_set
 refine ⟨by rw [hl, h.ln, hs], by rw [hs]; exact h.sm, h.kd.rem v, fun a ha => ?_, fun x x0 x1 => ?_, ?_, ?_, ?_⟩
 ·obtain ⟨e, e1, e2⟩ := ZeC.1 ha
  obtain ⟨a1, a2, a3, a4, a5, a6, a7⟩ := h.en a e
  rw [hs, ZfR v0 v1 a1, ZfR v0 v1 a3, if_neg e1, if_neg e2]
  exact ⟨a1, a2, a3, a4, a5, a6, a7⟩
 ·rw [hs] at x1
  rw [hn x x0 x1, h.nd x x0 x1, Zmr h.kd, Zno h.kd, ZfR v0 v1 x0]
  by_cases e : x = v
  ·rw [if_pos e, if_pos e, if_pos e, if_pos e]; rfl
  ·rw [if_neg e, if_neg e, if_neg e, if_neg e]
 ·have hi : v.toNat < A.length := by omega
  have hg : A[v.toNat] = true := by
   have : gt A v = A[v.toNat] := by simp [gt, List.getD_eq_getElem?_getD, List.getElem?_eq_getElem hi]
   rw [← this]; exact av
  have := Ziq hi hg
  have := h.al
  omega
 ·have := h.ar; omega
 ·have := h.lb; omega
theorem ZjA {h : Hf} {l : List Hf} (k : ∀ x ∈ l, x.1 < h.1) : ZcP h l = l ++ [h] := by
 unfold ZcP
 rw [List.filter_eq_self.2 fun x hx => by simpa using k x hx, List.filter_eq_nil_iff.2 fun x hx => by have := k x hx; simp; omega]
theorem Ziu (L : List OAr) (a : OAr) (v : Int) : Zz (L ++ [a]) v = if v = a.1 then ZcP a.2 (Zz L v) else Zz L v := by
 unfold Zz cl
 rw [List.foldl_append]
 simp only [List.foldl_cons, List.foldl_nil]
 by_cases e : v = a.1
 ·rw [if_pos e]
  have : ZfA v a = some a.2 := by simp [ZfA, e]
  rw [this]
 ·rw [if_neg e]
  have : ZfA v a = none := by simp [ZfA]; exact fun h => e h.symm
  rw [this]
theorem ZjO (L : List OAr) (a : OAr) (v : Int) : inL (L ++ [a]) v = if v = a.2.1 then ZcP (a.1, a.2.2) (inL L v) else inL L v := by
 unfold inL cl
 rw [List.foldl_append]
 simp only [List.foldl_cons, List.foldl_nil]
 by_cases e : v = a.2.1
 ·rw [if_pos e]
  have : fIn v a = some (a.1, a.2.2) := by simp [fIn, e]
  rw [this]
 ·rw [if_neg e]
  have : fIn v a = none := by simp [fIn]; exact fun h => e h.symm
  rw [this]
def up4 (a : Int × Int × Int) : OAr := (a.1, a.2.1, a.2.2, -1)
theorem KD.up {M : List (Int × Int × Int)} (h : M.Pairwise ltk) : KD (M.map up4) := by
 unfold KD
 rw [List.pairwise_map]
 refine h.imp fun {a b} q => ?_
 unfold ltk at q
 show ¬ (a.1 = b.1 /\ a.2.1 = b.2.1)
 omega
end Go.Vd

/-! (OvC) -/

set_option linter.unusedVariables false
set_option linter.unusedSimpArgs false
namespace Go.Vd
variable {l : List Hf} {v w wt via : Int} {h : Hf}
theorem Ze0 {i : Int} (h0 : 0 ≤ i) (h1 : i < (l.length : Int)) : gt l i ∈ l := by
 unfold gt
 rw [List.getD_eq_getElem?_getD, List.getElem?_eq_getElem (by omega)]
 exact List.getElem_mem _
theorem ZhB {a m b : List Hf} (ha : ∀ x ∈ a, x.1 < h.1) (hm : ∀ x ∈ m, x.1 = h.1) (hb : ∀ x ∈ b, h.1 < x.1) : ZcP h (a ++ (m ++ b)) = a ++ ([h] ++ b) := by
 unfold ZcP
 rw [List.filter_append, List.filter_append, List.filter_append, List.filter_append,
  List.filter_eq_self.2 (fun x hx => decide_eq_true (ha x hx)), List.filter_eq_nil_iff.2 (fun x hx => by have := hm x hx; simp; omega), List.filter_eq_nil_iff.2 (fun x hx => by have := hb x hx; simp; omega),
  show a.filter (fun x => decide (h.1 < x.1)) = [] from List.filter_eq_nil_iff.2 fun x hx => (by have := ha x hx; simp; omega), show m.filter (fun x => decide (h.1 < x.1)) = [] from List.filter_eq_nil_iff.2 fun x hx => (by have := hm x hx; simp; omega), show b.filter (fun x => decide (h.1 < x.1)) = b from List.filter_eq_self.2 fun x hx => decide_eq_true (hb x hx)]
 simp
theorem ZkS {a m b : List Hf} (ha : ∀ x ∈ a, x.1 < v) (hm : ∀ x ∈ m, x.1 = v) (hb : ∀ x ∈ b, v < x.1) : Zd2 v (a ++ (m ++ b)) = a ++ b := by
 unfold Zd2
 rw [List.filter_append, List.filter_append, List.filter_eq_self.2 (fun x hx => decide_eq_true (by have := ha x hx; omega)), show m.filter (fun x => decide (x.1 ≠ v)) = [] from List.filter_eq_nil_iff.2 fun x hx => (by have := hm x hx; simp; omega), show b.filter (fun x => decide (x.1 ≠ v)) = b from List.filter_eq_self.2 fun x hx => decide_eq_true (by have := hb x hx; omega)]
 simp
theorem Zgy (k : ∀ x ∈ l, x.1 ≠ v) : Zd2 v l = l := List.filter_eq_self.2 fun x hx => decide_eq_true (k x hx)
theorem Ris.gt (k : Ris l) {i j : Int} (i0 : 0 ≤ i) (ij : i < j) (j1 : j < (l.length : Int)) : (gt l i).1 < (gt l j).1 := by
 have := List.pairwise_iff_getElem.1 k i.toNat j.toNat (by omega) (by omega) (by omega)
 have e : ∀ {n : Int}, 0 ≤ n -> (h : n < (l.length : Int)) -> Go.Vd.gt l n = l[n.toNat]'(by omega) := fun {n} n0 n1 => by
  unfold Go.Vd.gt
  rw [List.getD_eq_getElem?_getD, List.getElem?_eq_getElem (by omega)]; rfl
 rw [e i0 (by omega), e (by omega) j1]; exact this
theorem Zfq {i : Int} {x : Hf} (i1 : i ≤ (l.length : Int)) (hx : x ∈ l.take i.toNat) : ∃ j, 0 ≤ j /\ j < i /\ x = gt l j := by
 obtain ⟨j, j0, j1, e⟩ := ZdB hx
 rw [List.length_take] at j1
 refine ⟨j, j0, by omega, ?_⟩
 rw [e]
 unfold gt
 rw [List.getD_eq_getElem?_getD, List.getD_eq_getElem?_getD, List.getElem?_take, if_pos (by omega)]
theorem Zfu {i : Int} {x : Hf} (i0 : 0 ≤ i) (hx : x ∈ l.drop i.toNat) : ∃ j, i ≤ j /\ j < (l.length : Int) /\ x = gt l j := by
 obtain ⟨j, j0, j1, e⟩ := ZdB hx
 rw [List.length_drop] at j1
 refine ⟨i + j, by omega, by omega, ?_⟩
 rw [e]
 unfold gt
 rw [List.getD_eq_getElem?_getD, List.getD_eq_getElem?_getD, List.getElem?_drop, show (i + j).toNat = i.toNat + j.toNat by omega]
structure FdR (l : List Hf) (v : Int) (p : Int) (b : Bool) : Prop where
 p0 : 0 ≤ p
 p1 : p ≤ (l.length : Int)
 yes : b = true -> p < (l.length : Int) /\ (gt l p).1 = v
 no : b = false -> ∀ x ∈ l, x.1 ≠ v
 lo : 0 ≤ v -> v < 65536 -> ∀ j, 0 ≤ j -> j < p -> (gt l j).1 < v
 hi : 0 ≤ v -> v < 65536 -> ∀ j, p ≤ j -> j < (l.length : Int) -> v ≤ (gt l j).1
theorem ZmT {a b c : Int} (a0 : 0 ≤ a) (a1 : a < 65536) (v0 : -9223372036854775808 ≤ v) (v1 : v ≤ 9223372036854775807) : ∃ r, ZcW a b c v = some r /\ (r = 0 ↔ a = v) /\ (0 ≤ v -> (r < 0 ↔ a < v)) := by
 refine ⟨_, rfl, ?_, fun h => ?_⟩
 ·rw [IntKind.wrap_i64]; omega
 ·rw [IntKind.wrap_i64]; omega
theorem ZjT (hr : Ris l) (hb : ∀ x ∈ l, 0 ≤ x.1 /\ x.1 < 65536) (hl : l.length ≤ 1000000) (v0 : -9223372036854775808 ≤ v) (v1 : v ≤ 9223372036854775807) : T (Zch l v) fun r => FdR l v r.1 r.2 := by
 have gtm : ∀ {i : Int}, 0 ≤ i -> i < (l.length : Int) -> gt l i ∈ l := fun {i} i0 i1 => Ze0 i0 i1
 unfold Zch
 refine Zm (fun r => FdR l v r.1 r.2) ?_ fun r h => by simp only [Zd]; exact h
 unfold ZbO
 refine Zm (fun p => 0 ≤ p /\ p ≤ (l.length : Int) /\ (0 ≤ v -> v < 65536 -> (∀ j, 0 ≤ j -> j < p -> (gt l j).1 < v) /\ ∀ j, p ≤ j -> j < (l.length : Int) -> v ≤ (gt l j).1)) ?_ ?_
 ·refine ZS (fun z => 0 ≤ z.2 /\ z.2 ≤ z.1 /\ z.1 ≤ (l.length : Int) /\ (0 ≤ v -> v < 65536 -> (∀ j, 0 ≤ j -> j < z.2 -> (gt l j).1 < v) /\ ∀ j, z.1 ≤ j -> j < (l.length : Int) -> v ≤ (gt l j).1)) (fun z => (z.1 - z.2).toNat) ?_ ⟨by simp, by simp, by simp, fun _ _ => ⟨fun j j0 j1 => by dsimp only at j1; omega, fun j j0 j1 => by dsimp only at j0; omega⟩⟩
  rintro ⟨j, i⟩ ⟨i0, ij, j1, k⟩
  dsimp only at *
  unfold Zar
  rw [Zs]
  refine ⟨fun hlt => ?_, fun hge => ?_⟩
  ·have hm := hb _ (gtm (i := (i + j) / 2) (by omega) (by omega))
   obtain ⟨r, e, r1, r2⟩ := ZmT (b := (gt l ((i + j) / 2)).2.1) (c := (gt l ((i + j) / 2)).2.2) hm.1 hm.2 v0 v1
   simp only [T_G]
   refine ⟨by omega, by omega, by omega, by omega, ?_⟩
   rw [e, Option.bind_some, Zs]
   refine ⟨fun hc => ?_, fun hc => ?_⟩
   ·simp only [T_G, Zd, Sum.elim_inl]
    refine ⟨by omega, ⟨by omega, by omega, j1, fun a b => ⟨fun q q0 q1 => ?_, (k a b).2⟩⟩, by omega⟩
    have hm := (r2 a).1 hc
    by_cases e : q = (i + j) / 2
    ·rw [e]; exact hm
    ·have := hr.gt q0 (by omega) (show (i + j) / 2 < (l.length : Int) by omega); omega
   ·simp only [Zd, Sum.elim_inl]
    refine ⟨⟨i0, by omega, by omega, fun a b => ⟨(k a b).1, fun q q0 q1 => ?_⟩⟩, by omega⟩
    have hm : ¬ (gt l ((i + j) / 2)).1 < v := fun h => hc ((r2 a).2 h)
    by_cases e : q = (i + j) / 2
    ·rw [e]; omega
    ·have := hr.gt (show 0 ≤ (i + j) / 2 by omega) (show (i + j) / 2 < q by omega) q1; omega
  ·simp only [Zd, Sum.elim_inr]
   refine ⟨i0, by omega, fun a b => ⟨(k a b).1, fun q q0 q1 => (k a b).2 q (by omega) q1⟩⟩
 ·rintro p ⟨p0, p1, k⟩
  rw [Zs]
  have out : ∀ x ∈ l, ¬ (0 ≤ v /\ v < 65536) -> x.1 ≠ v := fun x hx hn e => by have := hb x hx; omega
  refine ⟨fun hlt => ?_, fun hge => ?_⟩
  ·have hm := hb _ (gtm p0 hlt)
   obtain ⟨r, e, r1, r2⟩ := ZmT (b := (gt l p).2.1) (c := (gt l p).2.2) hm.1 hm.2 v0 v1
   simp only [T_G]
   refine ⟨p0, ?_⟩
   rw [e, Option.bind_some]
   simp only [Zd]
   refine ⟨p0, p1, fun hb => ⟨hlt, r1.1 (of_decide_eq_true hb)⟩, fun hf x hx => ?_, fun a b => (k a b).1, fun a b => (k a b).2⟩
   by_cases hv : 0 ≤ v /\ v < 65536
   ·obtain ⟨q, q0, q1, rfl⟩ := ZdB hx
    have hne : (gt l p).1 ≠ v := fun e => of_decide_eq_false hf (r1.2 e)
    by_cases hqp : q < p
    ·have := (k hv.1 hv.2).1 q q0 hqp; omega
    ·have h1 := (k hv.1 hv.2).2 p (Int.le_refl _) hlt
     by_cases e : q = p
     ·rw [e]; exact hne
     ·have := hr.gt p0 (show p < q by omega) q1; omega
   ·exact out x hx hv
  ·simp only [Zd]
   refine ⟨p0, p1, fun h => (by cases h), fun _ x hx => ?_, fun a b => (k a b).1, fun a b => (k a b).2⟩
   by_cases hv : 0 ≤ v /\ v < 65536
   ·obtain ⟨q, q0, q1, rfl⟩ := ZdB hx
    have := (k hv.1 hv.2).1 q q0 (by omega); omega
   ·exact out x hx hv
theorem FdR.split (hr : Ris l) {p : Int} {b : Bool} (f : FdR l v p b) (v0 : 0 ≤ v) (v1 : v < 65536) : ∃ m, l = l.take p.toNat ++ (m ++ l.drop (p.toNat + m.length)) /\ (∀ x ∈ l.take p.toNat, x.1 < v) /\ (∀ x ∈ m, x.1 = v) /\ (∀ x ∈ l.drop (p.toNat + m.length), v < x.1) /\ m.length = if b = true then 1 else 0 := by
 have a : ∀ x ∈ l.take p.toNat, x.1 < v := fun x hx => by
  obtain ⟨j, j0, j1, rfl⟩ := Zfq f.p1 hx
  exact f.lo v0 v1 j j0 j1
 cases b with
 | true =>
  obtain ⟨h1, h2⟩ := f.yes rfl
  refine ⟨[gt l p], ?_, a, fun x hx => by rw [List.mem_singleton.1 hx]; exact h2, fun x hx => ?_, rfl⟩
  ·have e := Za7 f.p0 h1
   rw [← List.append_assoc, ← e, show p.toNat + [gt l p].length = (p + 1).toNat by simp only [List.length_cons, List.length_nil]; have := f.p0; omega, List.take_append_drop]
  ·rw [show p.toNat + [gt l p].length = (p + 1).toNat by simp only [List.length_cons, List.length_nil]; have := f.p0; omega] at hx
   have := f.p0
   obtain ⟨j, j0, j1, rfl⟩ := Zfu (by omega) hx
   have := hr.gt f.p0 (show p < j by omega) j1
   omega
 | false =>
  refine ⟨[], by simp, a, (fun x hx => by cases hx), fun x hx => ?_, rfl⟩
  obtain ⟨j, j0, j1, rfl⟩ := Zfu f.p0 (by simpa using hx)
  have h1 := f.hi v0 v1 j j0 j1
  have h2 := f.no rfl (gt l j) (Ze0 (by have := f.p0; omega) j1)
  omega
theorem ZlO (hr : Ris l) (hb : ∀ x ∈ l, 0 ≤ x.1 /\ x.1 < 65536) (hl : l.length ≤ 1000000) (v0 : 0 ≤ v) (v1 : v < 65536) : Zbv l v wt via = some (ZcP (v, wt, via) l) := by
 refine Zd1.1 ?_
 unfold Zbv
 refine Zm _ (ZjT hr hb hl (by omega) (by omega)) ?_
 rintro ⟨p, b⟩ f
 dsimp only at *
 obtain ⟨m, e, a1, a2, a3, a4⟩ := f.split hr v0 v1
 have p0 := f.p0
 have p1 := f.p1
 have hs : ZcP (v, wt, via) l = l.take p.toNat ++ ([(v, wt, via)] ++ l.drop (p.toNat + m.length)) := by
  conv => lhs; rw [e]
  exact ZhB a1 a2 a3
 rw [hs, Zs]
 refine ⟨fun hb => ?_, fun hb => ?_⟩
 ·rw [if_pos hb] at a4
  have h1 := (f.yes hb).1
  simp only [T_G, Zd]
  refine ⟨⟨p0, h1⟩, ?_⟩
  rw [a4, List.set_eq_take_append_cons_drop, if_pos (by omega)]
  simp
 ·rw [if_neg hb] at a4
  simp only [T_G, Zd]
  refine ⟨⟨p0, p1, by omega⟩, ?_⟩
  rw [a4, Nat.add_zero]
theorem ZiD (hr : Ris l) (hb : ∀ x ∈ l, 0 ≤ x.1 /\ x.1 < 65536) (hl : l.length ≤ 1000000) (v0 : 0 ≤ v) (v1 : v < 65536) : Zb3 l v = some (Zd2 v l) := by
 refine Zd1.1 ?_
 unfold Zb3
 refine Zm _ (ZjT hr hb hl (by omega) (by omega)) ?_
 rintro ⟨p, b⟩ f
 dsimp only at *
 obtain ⟨m, e, a1, a2, a3, a4⟩ := f.split hr v0 v1
 have p0 := f.p0
 have p1 := f.p1
 have hs : Zd2 v l = l.take p.toNat ++ l.drop (p.toNat + m.length) := by
  conv => lhs; rw [e]
  exact ZkS a1 a2 a3
 rw [Zs]
 refine ⟨fun hb => ?_, fun hb => ?_⟩
 ·have hb' : b = false := by simpa using hb
  simp only [Zd]
  exact (Zgy (f.no hb')).symm
 ·have hb' : b = true := by simpa using hb
  rw [if_pos hb'] at a4
  have h1 := (f.yes hb').1
  simp only [T_G, Zd]
  refine ⟨by omega, by omega, ?_⟩
  rw [hs, a4, show (p + 1).toNat = p.toNat + 1 by omega]
end Go.Vd

/-! (So1) -/

set_option linter.unusedVariables false
set_option linter.unusedSimpArgs false
namespace Go.Vd
theorem ZlJ {x y : Int} : ZcB x y = some (if x < y then -1 else if x > y then 1 else 0) := by
 unfold ZcB Zd6
 simp only [Option.bind_some]
 simp
 by_cases h1 : x < y
 ·simp [h1]
 ·by_cases h2 : y < x <;> simp [h1, h2]
theorem p_Or3 {a b c : Int} : Zfa [a, b, c] = some (if a ≠ 0 then a else if b ≠ 0 then b else c) := by
 unfold Zfa
 have h3 : ZcR [a, b, c] 3 = some (Sum.inr (Sum.inr ())) := by unfold ZcR; rw [if_neg (by simp)]
 have step : ∀ i : Int, 0 ≤ i -> i < 3 -> ZcR [a, b, c] i = if gt [a, b, c] i = 0 then some (Sum.inl (i + 1)) else some (Sum.inr (Sum.inl (gt [a, b, c] i))) := fun i i0 i1 => by
  unfold ZcR G
  rw [if_pos (by simp; omega), if_pos i0]
  split
  ·rw [if_pos (by omega)]
  ·rfl
 have g0 : gt [a, b, c] 0 = a := rfl
 have g1 : gt [a, b, c] 1 = b := rfl
 have g2 : gt [a, b, c] 2 = c := rfl
 rw [Ze9, step 0 (by omega) (by omega), g0]
 by_cases ha : a = 0
 ·rw [if_pos ha, if_neg (by simp [ha]), Option.bind_some, Sum.elim_inl, show (0 : Int) + 1 = 1 from rfl, Ze9, step 1 (by omega) (by omega), g1]
  by_cases hb : b = 0
  ·rw [if_pos hb, if_neg (by simp [hb]), Option.bind_some, Sum.elim_inl, show (1 : Int) + 1 = 2 from rfl, Ze9, step 2 (by omega) (by omega), g2]
   by_cases hc : c = 0
   ·rw [if_pos hc, Option.bind_some, Sum.elim_inl, show (2 : Int) + 1 = 3 from rfl, Ze9, h3]
    simp [hc]
   ·rw [if_neg hc]; simp
  ·rw [if_neg hb, if_pos hb]; simp
 ·rw [if_neg ha, if_pos ha]; simp
def lt3 (x y : Int × Int × Int) : Prop := x.1 < y.1 ∨ (x.1 = y.1 /\ (x.2.1 < y.2.1 ∨ (x.2.1 = y.2.1 /\ x.2.2 < y.2.2)))
instance (x y : Int × Int × Int) : Decidable (lt3 x y) := by unfold lt3; infer_instance
noncomputable abbrev Zf2 : Int × Int × Int -> Int × Int × Int -> Option Int := fun a_ b_ => Zce a_.1 a_.2.1 a_.2.2 b_.1 b_.2.1 b_.2.2
theorem Zkv (x y : Int × Int × Int) : ∃ r, Zf2 x y = some r /\ (r < 0 ↔ lt3 x y) := by
 unfold Zf2 Zce
 simp only [ZlJ, Option.bind_some, p_Or3]
 refine ⟨_, rfl, ?_⟩
 unfold lt3
 by_cases a1 : x.1 < y.1
 ·simp [a1]
 ·by_cases a2 : x.1 > y.1
  ·have : ¬ x.1 = y.1 := by omega
   simp [a1, a2, this]
  ·have e : x.1 = y.1 := by omega
   by_cases b1 : x.2.1 < y.2.1
   ·simp [e, b1]
   ·by_cases b2 : x.2.1 > y.2.1
    ·have : ¬ x.2.1 = y.2.1 := by omega
     simp [e, b1, b2, this]
    ·have e2 : x.2.1 = y.2.1 := by omega
     by_cases c1 : x.2.2 < y.2.2
     ·simp [e, e2, c1]
     ·by_cases c2 : x.2.2 > y.2.2 <;> simp [e, e2, c1, c2]
theorem ZdT (x y : Int × Int × Int) : (Zf2 x y).getD 0 < 0 ↔ lt3 x y := by
 obtain ⟨r, h1, h2⟩ := Zkv x y
 rw [h1]; exact h2
theorem Zky : SortOk Zf2 :=
 { ans := fun x y => let ⟨r, h, _⟩ := Zkv x y; ⟨r, h⟩
   irr := fun x => by rw [ZdT]; unfold lt3; omega
   trn := fun x y z => by rw [ZdT, ZdT, ZdT]; unfold lt3; omega
   ntr := fun x y z => by rw [ZdT, ZdT, ZdT]; unfold lt3; omega
   tot := fun x y h1 h2 => by
    rw [ZdT] at h1 h2
    obtain ⟨x1, x2, x3⟩ := x
    obtain ⟨y1, y2, y3⟩ := y
    unfold lt3 at h1 h2
    dsimp only at h1 h2
    simp only [Prod.mk.injEq]
    omega }
theorem ZnS (xs : List (Int × Int × Int)) : Zfi (fun (a_ b_ : Int × Int × Int) => Zce a_.1 a_.2.1 a_.2.2 b_.1 b_.2.1 b_.2.2) xs = some (Zaq Zf2 xs) := Zmp Zky xs
theorem ZlB (xs : List (Int × Int × Int)) : (Zaq Zf2 xs).Pairwise fun x y => ¬ lt3 y x := (Zjq Zky xs).imp fun h => by rwa [ZdT] at h
theorem Zl3 {x y : Int × Int × Int} : Zc6 x.1 x.2.1 x.2.2 y.1 y.2.1 y.2.2 = some (decide (Z7 x y)) := by
 unfold Zc6 Z7
 by_cases h : x.1 = y.1 <;> simp [h]
def cpt (s : List (Int × Int × Int)) : Nat -> List (Int × Int × Int)
 | 0 => []
 | k + 1 => cpt s k ++ if k ≠ 0 /\ Z7 (gt s (k : Int)) (gt s ((k : Int) - 1)) then [] else [gt s (k : Int)]
theorem Zm9 (s : List (Int × Int × Int)) (k : Nat) : (cpt s k).length ≤ k := by
 induction k with
 | zero => simp [cpt]
 | succ k ih =>
  simp only [cpt, List.length_append]
  split <;> simp <;> omega
theorem ZfY {s : List (Int × Int × Int)} {i : Int} (i0 : 0 ≤ i) : cpt s (i + 1).toNat = cpt s i.toNat ++ if i ≠ 0 /\ Z7 (gt s i) (gt s (i - 1)) then [] else [gt s i] := by
 rw [show (i + 1).toNat = i.toNat + 1 from by omega]
 simp only [cpt]
 rw [show ((i.toNat : Nat) : Int) = i from by omega]
 have : i.toNat ≠ 0 ↔ i ≠ 0 := by omega
 simp only [ne_eq, this]
theorem Zkw {E : Type} [Inhabited E] {l : List E} {k j : Int} (k0 : 0 ≤ k) (j0 : 0 ≤ j) : gt (l.drop k.toNat) j = gt l (k + j) := by
 unfold gt
 rw [List.getD_eq_getElem?_getD, List.getD_eq_getElem?_getD, List.getElem?_drop, show k.toNat + j.toNat = (k + j).toNat from by omega]
theorem ZlI {s : List (Int × Int × Int)} (hl : s.length ≤ 1000000000000) : T (ZbY s) fun r => r.1 = cpt s s.length := by
 unfold ZbY
 rw [Zs]
 have c1 : 0 < s.length -> cpt s 1 = s.take 1 := fun h => by
  simp only [cpt]
  have := Za7 (l := s) (i := 0) (by omega) (by omega)
  simpa using this.symm
 refine ⟨fun h => ?_, fun h => ?_⟩
 ·simp only [Zd]
  by_cases h0 : s.length = 0
  ·rw [h0]; exact List.eq_nil_of_length_eq_zero h0
  ·have : s.length = 1 := by omega
   have h2 := c1 (by omega)
   rw [this, h2, List.take_of_length_le (by omega)]
 refine Zcf (fun _ => cpt s s.length = s) ?_ fun _ h => by simp only [Zd]; exact h.symm
 refine ZS (fun k => 1 ≤ k /\ k ≤ (s.length : Int) /\ cpt s k.toNat = s.take k.toNat) (fun k => ((s.length : Int) - k).toNat) ?_ ⟨by omega, by omega, c1 (by omega)⟩
 rintro k ⟨k0, k1, hk⟩
 unfold Za6
 rw [Zs]
 refine ⟨fun hlt => ?_, fun hge => ?_⟩
 rotate_left
 ·simp only [Zd, Sum.elim_inr]
  have : k = s.length := by omega
  subst this
  simpa using hk
 simp only [T_G]
 refine ⟨by omega, by omega, by omega, ?_⟩
 rw [Zl3, Option.bind_some, Zs]
 refine ⟨fun heq => ?_, fun hne => ?_⟩
 rotate_left
 ·have hne' : ¬ Z7 (gt s k) (gt s (k - 1)) := by simpa using hne
  simp only [T_G, Zd, Sum.elim_inl]
  refine ⟨by omega, ⟨by omega, by omega, ?_⟩, by omega⟩
  rw [ZfY (by omega), if_neg (fun h => hne' h.2), hk]
  exact (Za7 (by omega) hlt).symm
 have heq' : Z7 (gt s k) (gt s (k - 1)) := by simpa using heq
 simp only [T_G]
 refine ⟨by omega, ?_⟩
 refine Zm (fun r => (r.1.length : Int) = s.length /\ 0 ≤ r.2 /\ r.2 ≤ (s.length : Int) /\ cpt s s.length = r.1.take r.2.toNat) ?_ ?_
 ·refine ZS (fun z => 1 ≤ z.2.2 /\ z.2.2 ≤ (s.length : Int) - k /\ k ≤ z.2.1 /\ z.2.1 ≤ k + z.2.2 - 1 /\ (z.1.length : Int) = s.length /\ cpt s (k + z.2.2).toNat = z.1.take z.2.1.toNat /\ ∀ j, k + z.2.2 - 1 ≤ j -> gt z.1 j = gt s j) (fun z => ((s.length : Int) - k - z.2.2).toNat) ?_ ⟨by simp, by dsimp only; omega, by simp, by dsimp only; omega, rfl, ?_, fun _ _ => rfl⟩
  rotate_left
  ·dsimp only
   rw [ZfY (by omega), if_pos ⟨by omega, heq'⟩, hk, List.append_nil]
  rintro ⟨s0, k1', k2⟩ ⟨a0, a1, a2, a3, a4, a5, a6⟩
  dsimp only at *
  have hdl : ((s0.drop k.toNat).length : Int) = s.length - k := by rw [List.length_drop]; omega
  unfold Za5
  rw [hdl, Zs]
  refine ⟨fun hlt2 => ?_, fun hge2 => ?_⟩
  rotate_left
  ·simp only [Zd, Sum.elim_inr]
   have : k + k2 = s.length := by omega
   rw [this] at a5
   exact ⟨a4, by omega, by omega, by simpa using a5⟩
  have e1 : gt (s0.drop k.toNat) k2 = gt s (k + k2) := by rw [Zkw (by omega) (by omega)]; exact a6 _ (by omega)
  have e2 : gt (s0.drop k.toNat) (k2 - 1) = gt s (k + k2 - 1) := by rw [Zkw (by omega) (by omega), show k + (k2 - 1) = k + k2 - 1 from by omega]; exact a6 _ (by omega)
  simp only [T_G]
  refine ⟨by omega, by omega, by omega, ?_⟩
  rw [Zl3, e1, e2, Option.bind_some, Zs]
  have nx : (k + (k2 + 1)).toNat = (k + k2 + 1).toNat := by omega
  refine ⟨fun hn => ?_, fun hy => ?_⟩
  ·have hn' : ¬ Z7 (gt s (k + k2)) (gt s (k + k2 - 1)) := by simpa using hn
   simp only [T_G, Zd, Sum.elim_inl]
   refine ⟨by omega, by omega, by omega, ⟨by omega, by omega, by omega, by omega, by simpa using a4, ?_, fun j hj => ?_⟩, by omega⟩
   ·rw [nx, ZfY (by omega), if_neg (fun h => hn' h.2), a5]
    have h1 := Za7 (l := s0.set k1'.toNat (gt s (k + k2))) (i := k1') (by omega) (by simp; omega)
    rw [h1, ZcU (by omega) (by omega) (by omega), if_pos rfl, List.take_set_of_le (Nat.le_refl _)]
   ·rw [ZcU (by omega) (by omega) (by omega), if_neg (by omega)]; exact a6 j (by omega)
  ·have hy' : Z7 (gt s (k + k2)) (gt s (k + k2 - 1)) := by simpa using hy
   simp only [T_G, Zd, Sum.elim_inl]
   refine ⟨by omega, ⟨by omega, by omega, by omega, by omega, a4, ?_, fun j hj => a6 j (by omega)⟩, by omega⟩
   rw [nx, ZfY (by omega), if_pos ⟨by omega, hy'⟩, a5, List.append_nil]
 ·rintro ⟨r, q⟩ ⟨b1, b2, b3, b4⟩
  dsimp only at *
  have hlen : ((r.take q.toNat ++ List.replicate (r.length - q.toNat) ((0, 0, 0) : Int × Int × Int)).length : Int) = r.length := by simp; omega
  simp only [T_G, Zd9, Zd, Sum.elim_inr, Sum.elim_inl]
  refine ⟨by omega, by omega, by omega, ?_⟩
  rw [List.take_left' (by rw [List.length_take]; omega)]
  exact b4.symm
end Go.Vd

/-! (So2) -/

set_option linter.unusedVariables false
set_option linter.unusedSectionVars false
set_option linter.unusedSimpArgs false
namespace Go.Vd
section
variable {s : List A3} (hs : ∀ i j : Int, 0 ≤ i -> i < j -> j < (s.length : Int) -> ¬ lt3 (gt s j) (gt s i))
include hs
theorem ZkQ {i j : Int} (i0 : 0 ≤ i) (ij : i < j) (j1 : j < (s.length : Int)) : ltk (gt s i) (gt s j) ∨ (Z7 (gt s i) (gt s j) /\ (gt s i).2.2 ≤ (gt s j).2.2) := by
 have := hs i j i0 ij j1
 unfold lt3 at this; unfold ltk Z7
 omega
theorem Zkx {k : Nat} (hk : k ≤ s.length) : ∀ x ∈ cpt s k, ∃ i : Int, 0 ≤ i /\ i < k /\ x = gt s i := by
 induction k with
 | zero => intro x hx; cases hx
 | succ k ih =>
  intro x hx
  simp only [cpt] at hx
  rcases List.mem_append.1 hx with hx | hx
  ·obtain ⟨i, i0, i1, e⟩ := ih (by omega) x hx
   exact ⟨i, i0, by omega, e⟩
  ·split at hx
   ·cases hx
   ·exact ⟨k, by omega, by omega, List.mem_singleton.1 hx⟩
theorem Znt {k : Nat} (hk : k ≤ s.length) : (cpt s k).Pairwise ltk := by
 induction k with
 | zero => exact .nil
 | succ k ih =>
  simp only [cpt]
  split
  ·rw [List.append_nil]; exact ih (by omega)
  ·rename_i hn
   rw [List.pairwise_append]
   refine ⟨ih (by omega), List.pairwise_singleton _ _, fun x hx y hy => ?_⟩
   obtain rfl := List.mem_singleton.1 hy
   obtain ⟨i, i0, i1, rfl⟩ := Zkx hs (by omega) x hx
   have hk0 : k ≠ 0 := by omega
   have hn' : ¬ Z7 (gt s (k : Int)) (gt s ((k : Int) - 1)) := fun q => hn ⟨hk0, q⟩
   have h1 := ZkQ hs (i := (k : Int) - 1) (j := k) (by omega) (by omega) (by omega)
   by_cases e : i = (k : Int) - 1
   ·subst e
    unfold ltk Z7 at *; omega
   ·have h2 := ZkQ hs (i := i) (j := (k : Int) - 1) i0 (by omega) (by omega)
    unfold ltk Z7 at *; omega
theorem Zkn {k : Nat} (hk : k ≤ s.length) : ∀ i : Int, 0 ≤ i -> i < k -> ∃ x ∈ cpt s k, Z7 x (gt s i) /\ x.2.2 ≤ (gt s i).2.2 := by
 induction k with
 | zero => intro i i0 i1; simp at i1; omega
 | succ k ih =>
  intro i i0 i1
  by_cases e : i = (k : Int)
  ·subst e
   by_cases hn : k ≠ 0 /\ Z7 (gt s (k : Int)) (gt s ((k : Int) - 1))
   ·obtain ⟨x, h1, h2, h3⟩ := ih (by omega) ((k : Int) - 1) (by omega) (by omega)
    refine ⟨x, by simp only [cpt]; exact List.mem_append_left _ h1, ?_, ?_⟩
    ·have := hn.2; unfold Z7 at *; omega
    ·have h4 := ZkQ hs (i := (k : Int) - 1) (j := k) (by omega) (by omega) (by omega)
     have := hn.2; unfold ltk Z7 at *; omega
   ·refine ⟨gt s (k : Int), ?_, ⟨rfl, rfl⟩, Int.le_refl _⟩
    simp only [cpt]
    rw [if_neg hn]
    exact List.mem_append_right _ (List.mem_singleton.2 rfl)
  ·obtain ⟨x, h1, h2⟩ := ih (by omega) i i0 (by omega)
   exact ⟨x, by simp only [cpt]; exact List.mem_append_left _ h1, h2⟩
end
def ZeN (a : A3) : Bool := !decide (a.1 = a.2.1)
theorem Zn0 {A F s : List A3} (hF : F = A.filter ZeN) (hp : s.Perm F) (hs : s.Pairwise fun x y => ¬ lt3 y x) : Nrm A (cpt s s.length) := by
 have hs' : ∀ i j : Int, 0 ≤ i -> i < j -> j < (s.length : Int) -> ¬ lt3 (gt s j) (gt s i) := fun i j i0 ij j1 => by
  obtain ⟨i, rfl⟩ := Int.eq_ofNat_of_zero_le i0
  obtain ⟨j, rfl⟩ := Int.eq_ofNat_of_zero_le (show 0 ≤ j by omega)
  rw [Zfb (show i < s.length by omega), Zfb (show j < s.length by omega)]
  exact List.pairwise_iff_getElem.1 hs i j (by omega) (by omega) (by omega)
 have mem : ∀ x, x ∈ s ↔ (x ∈ A /\ x.1 ≠ x.2.1) := fun x => by
  rw [hp.mem_iff, hF, List.mem_filter]; simp [ZeN]
 have inc := Znt hs' (Nat.le_refl _)
 refine ⟨inc, fun a ha => ?_, fun a ha hn => ?_⟩
 ·obtain ⟨i, i0, i1, e⟩ := Zkx hs' (Nat.le_refl _) a ha
  have hm := (mem a).1 (by rw [e]; exact ZlS i0 i1)
  refine ⟨hm.1, hm.2, fun b hb hk => ?_⟩
  have hbn : b.1 ≠ b.2.1 := by have := hm.2; unfold Z7 at hk; omega
  obtain ⟨j, j0, j1, rfl⟩ := ZdB ((mem b).2 ⟨hb, hbn⟩)
  obtain ⟨x, x1, x2, x3⟩ := Zkn hs' (Nat.le_refl _) j j0 j1
  have : x = a := Znp inc x1 ha (by unfold Z7 at *; omega)
  rw [← this]; exact x3
 ·obtain ⟨j, j0, j1, rfl⟩ := ZdB ((mem a).2 ⟨ha, hn⟩)
  obtain ⟨x, x1, x2, _⟩ := Zkn hs' (Nat.le_refl _) j j0 j1
  exact ⟨x, x1, x2⟩
end Go.Vd

/-! (Gc0) -/

set_option linter.unusedVariables false
set_option linter.unusedSimpArgs false
namespace Go.Vd
variable {N : Int} {A L : List A3}
def Zdw (N : Int) (a : A3) : Int := if a.1 < 0 ∨ a.1 ≥ N ∨ a.2.1 < 0 ∨ a.2.1 ≥ N then 7 else if a.2.2 < 0 ∨ a.2.2 > 2147483647 then 8 else 0
def Ze7 (N : Int) (A : List A3) : Prop := N < 0 ∨ N > 65536 ∨ (A.length : Int) > 262144
inductive GChk (N : Int) (A : List A3) : Er -> Prop
 | limit : Ze7 N A -> GChk N A (.no 9)
 | arc (i : Int) : ¬ Ze7 N A -> 0 ≤ i -> i < (A.length : Int) -> Zdw N (gt A i) ≠ 0 -> (∀ j, 0 ≤ j -> j < i -> Zdw N (gt A j) = 0) -> GChk N A (.at 4 i (.no (Zdw N (gt A i))))
 | ok : ¬ Ze7 N A -> (∀ j, 0 ≤ j -> j < (A.length : Int) -> Zdw N (gt A j) = 0) -> GChk N A .nil
theorem Zl6 {a : A3} (h : a.1 < 0 ∨ a.1 ≥ N ∨ a.2.1 < 0 ∨ a.2.1 ≥ N) : Zdw N a = 7 := by unfold Zdw; rw [if_pos h]
theorem ZjE {a : A3} (h : ¬ (a.1 < 0 ∨ a.1 ≥ N ∨ a.2.1 < 0 ∨ a.2.1 ≥ N)) (k : a.2.2 < 0 ∨ a.2.2 > 2147483647) : Zdw N a = 8 := by unfold Zdw; rw [if_neg h, if_pos k]
theorem ZjP {a : A3} (h : ¬ (a.1 < 0 ∨ a.1 ≥ N ∨ a.2.1 < 0 ∨ a.2.1 ≥ N)) (k : ¬ (a.2.2 < 0 ∨ a.2.2 > 2147483647)) : Zdw N a = 0 := by unfold Zdw; rw [if_neg h, if_neg k]
theorem ZnE {a : A3} (h : Zdw N a = 0) : 0 ≤ a.1 /\ a.1 < N /\ 0 ≤ a.2.1 /\ a.2.1 < N /\ 0 ≤ a.2.2 /\ a.2.2 ≤ 2147483647 := by
 unfold Zdw at h
 split at h
 ·cases h
 ·split at h
  ·cases h
  ·omega
theorem GChk.uniq {er er' : Er} (h : GChk N A er) (k : GChk N A er') : er = er' := by
 cases h with
 | limit h1 =>
  cases k with
  | limit _ => rfl
  | arc _ k1 => exact absurd h1 k1
  | ok k1 _ => exact absurd h1 k1
 | arc i h1 h2 h3 h4 h5 =>
  cases k with
  | limit k1 => exact absurd k1 h1
  | arc j _ k2 k3 k4 k5 =>
   have : i = j := by
    rcases Int.lt_trichotomy i j with q | q | q
    ·exact absurd (k5 i h2 q) h4
    ·exact q
    ·exact absurd (h5 j k2 q) k4
   rw [this]
  | ok _ k2 => exact absurd (k2 i h2 h3) h4
 | ok h1 h2 =>
  cases k with
  | limit k1 => exact absurd k1 h1
  | arc j _ k2 k3 k4 _ => exact absurd (h2 j k2 k3) k4
  | ok _ _ => rfl
theorem GChk.bad {er : Er} (h : GChk N A er) : (er.code ≠ 0 ∨ er.pls ≠ []) ↔ er ≠ .nil := by
 cases h with
 | limit _ => simp [Er.code]
 | arc i _ _ _ h4 _ => simp [Er.pls]
 | ok _ _ => simp [Er.code, Er.pls]
theorem GChk.small (h : GChk N A .nil) : 0 ≤ N /\ N ≤ 65536 /\ (A.length : Int) ≤ 262144 := by
 cases h with
 | ok h1 _ => unfold Ze7 at h1; omega
theorem GChk.arcs (h : GChk N A .nil) : ∀ a ∈ A, 0 ≤ a.1 /\ a.1 < N /\ 0 ≤ a.2.1 /\ a.2.1 < N /\ 0 ≤ a.2.2 /\ a.2.2 ≤ 2147483647 := by
 cases h with
 | ok h1 h2 =>
  intro a ha
  obtain ⟨i, i0, i1, rfl⟩ := ZdB ha
  exact ZnE (h2 i i0 i1)
theorem GChk.of_arcs (n0 : 0 ≤ N) (n1 : N ≤ 65536) (n2 : (A.length : Int) ≤ 262144) (h : ∀ a ∈ A, 0 ≤ a.1 /\ a.1 < N /\ 0 ≤ a.2.1 /\ a.2.1 < N /\ 0 ≤ a.2.2 /\ a.2.2 ≤ 2147483647) : GChk N A .nil :=
 .ok (by unfold Ze7; omega) fun j j0 j1 => by have := h _ (ZlS j0 j1); exact ZjP (by omega) (by omega)
def swp3 (a : A3) : A3 := (a.2.1, a.1, a.2.2)
end Go.Vd

/-! (Gc) -/

set_option linter.unusedVariables false
set_option linter.unusedSimpArgs false
namespace Go.Vd
variable {N : Int} {A L : List A3}
theorem ZnY {a : A3} : Zd8 a.1 a.2.1 a.2.2 N = some (if Zdw N a = 0 then .nil else .no (Zdw N a)) := by
 refine Zd1.1 ?_
 unfold Zd8
 refine Zm (fun o => o = decide (a.1 < 0 ∨ a.1 ≥ N ∨ a.2.1 < 0 ∨ a.2.1 ≥ N)) ?_ ?_
 ·unfold Zdf
  simp only [ZgE, Zs, Zd]
  refine ⟨fun h1 => ⟨fun h2 => ⟨fun h3 => ?_, fun h3 => ?_⟩, fun h2 => ?_⟩, fun h1 => ⟨fun h2 => ?_, fun h2 => ?_⟩⟩
  ·have h2' : a.1 < N := by simpa using h2
   by_cases h4 : a.2.1 < N
   ·simp [h4]; omega
   ·simp [h4]; omega
  ·simp; omega
  ·have h2' : ¬ a.1 < N := by simpa using h2
   simp; omega
  ·simp at h2
  ·simp; omega
 ·rintro _ rfl
  by_cases h : a.1 < 0 ∨ a.1 ≥ N ∨ a.2.1 < 0 ∨ a.2.1 ≥ N
  ·rw [Zl6 h]; simp [h]
  ·rw [decide_eq_false h, if_neg (by decide)]
   by_cases k1 : a.2.2 < 0
   ·rw [if_pos k1, ZjE h (.inl k1)]; simp
   ·rw [if_neg k1]
    by_cases k2 : a.2.2 > 2147483647
    ·rw [if_pos k2, ZjE h (.inr k2)]; simp
    ·rw [if_neg k2, ZjP h (by omega)]; simp
theorem Zoc {k i : Int} {e : Er} (h : e ≠ .nil) : Zdt k i e = some (.at k i e) := by
 unfold Zdt; rw [if_neg h]
theorem ZmN : T (if N < 0 then (some true) else (if N > 65536 then (some true) else (some (decide ((A.length : Int) > 262144)))) : Option Bool) fun o => o = true ↔ Ze7 N A := by
 unfold Ze7
 simp only [Zs, Zd]
 exact ⟨fun h => by simp [h], fun h => ⟨fun h2 => by simp [h2], fun h2 => by simp; omega⟩⟩
theorem Zmy : T (Zdx N A) (GChk N A) := by
 unfold Zdx
 refine Zm _ ZmN fun o ho => ?_
 rw [Zs]
 refine ⟨fun h => by simp only [Zd]; exact .limit (ho.1 h), fun h => ?_⟩
 have hb : ¬ Ze7 N A := fun k => h (ho.2 k)
 have hl : (A.length : Int) ≤ 262144 := by unfold Ze7 at hb; omega
 refine Zcf (fun _ => ∀ j, 0 ≤ j -> j < (A.length : Int) -> Zdw N (gt A j) = 0) ?_ fun _ h => by simp only [Zd]; exact .ok hb h
 refine ZS (fun i => 0 ≤ i /\ i ≤ (A.length : Int) /\ ∀ j, 0 ≤ j -> j < i -> Zdw N (gt A j) = 0) (fun i => ((A.length : Int) - i).toNat) ?_ ⟨by simp, by simp, fun j j0 j1 => by omega⟩
 rintro i ⟨i0, i1, hi⟩
 unfold Zc0
 rw [Zs]
 refine ⟨fun hlt => ?_, fun hge => by simp only [Zd, Sum.elim_inr]; exact fun j j0 j1 => hi j j0 (by omega)⟩
 rw [T_G, ZnY, Option.bind_some]
 refine ⟨i0, ?_⟩
 by_cases h0 : Zdw N (gt A i) = 0
 ·rw [if_pos h0, if_pos rfl]
  simp only [T_G, Zd, Sum.elim_inl]
  refine ⟨by omega, ⟨by omega, by omega, fun j j0 j1 => ?_⟩, by omega⟩
  by_cases e : j = i
  ·rw [e]; exact h0
  ·exact hi j j0 (by omega)
 ·rw [if_neg h0, if_neg (by simp), Zoc (by simp), Option.bind_some]
  simp only [Zd9, Zd, Sum.elim_inr, Sum.elim_inl]
  exact .arc i hb i0 hlt h0 hi
inductive RevA (N : Int) (A : List A3) : Int -> List A3 -> Er -> Prop
 | bad (er : Er) : GChk N A er -> er ≠ .nil -> RevA N A 0 [] er
 | ok : GChk N A .nil -> RevA N A N (A.map swp3) .nil
end Go.Vd

/-! (PrGd) -/

set_option linter.unusedVariables false
set_option linter.unusedSimpArgs false
namespace Go.Vd
variable {N : Int} {A L : List A3}
theorem Zhb : T (ZaA N A) fun r => ∃ er, GChk N A er /\ r = (er.code, er.pls) := by
 unfold ZaA
 refine Zm _ ZmN fun o ho => ?_
 rw [Zs]
 refine ⟨fun h => by rw [p_E, Option.bind_some]; simp only [Zd]; exact ⟨.no 9, .limit (ho.1 h), rfl⟩, fun h => ?_⟩
 have hb : ¬ Ze7 N A := fun k => h (ho.2 k)
 have hl : (A.length : Int) ≤ 262144 := by unfold Ze7 at hb; omega
 refine Zcf (fun _ => ∀ j, 0 ≤ j -> j < (A.length : Int) -> Zdw N (gt A j) = 0) ?_ fun _ h => by simp only [Zd]; exact ⟨.nil, .ok hb h, rfl⟩
 refine ZS (fun i => 0 ≤ i /\ i ≤ (A.length : Int) /\ ∀ j, 0 ≤ j -> j < i -> Zdw N (gt A j) = 0) (fun i => ((A.length : Int) - i).toNat) ?_ ⟨by simp, by simp, fun j j0 j1 => by omega⟩
 rintro i ⟨i0, i1, hi⟩
 unfold ZaD
 rw [Zs]
 refine ⟨fun hlt => ?_, fun hge => by simp only [Zd, Sum.elim_inr]; exact fun j j0 j1 => hi j j0 (by omega)⟩
 rw [T_G]
 refine ⟨i0, Zm (fun o => o = true ↔ ((gt A i).1 < 0 ∨ (gt A i).1 ≥ N ∨ (gt A i).2.1 < 0 ∨ (gt A i).2.1 ≥ N)) ?_ fun o ho => ?_⟩
 ·simp only [Zs, Zd]
  refine ⟨fun h => by simp [h], fun h1 => ⟨fun h => by simp; omega, fun h2 => ⟨fun h => by simp [h], fun h3 => by simp; omega⟩⟩⟩
 rw [Zs]
 refine ⟨fun h => ?_, fun h => ?_⟩
 ·have h7 := Zl6 (ho.1 h)
  rw [p_E, Option.bind_some, p_At (by simp), Option.bind_some]
  simp only [Zd9, Zd, Sum.elim_inr, Sum.elim_inl]
  refine ⟨_, .arc i hb i0 hlt (by rw [h7]; decide) hi, ?_⟩
  rw [h7]; rfl
 ·have hn : ¬ ((gt A i).1 < 0 ∨ (gt A i).1 ≥ N ∨ (gt A i).2.1 < 0 ∨ (gt A i).2.1 ≥ N) := fun k => h (ho.2 k)
  refine Zm (fun o => o = true ↔ ((gt A i).2.2 < 0 ∨ (gt A i).2.2 > 2147483647)) ?_ fun o ho => ?_
  ·simp only [Zs, Zd]
   exact ⟨fun h => by simp [h], fun h => by simp; omega⟩
  rw [Zs]
  refine ⟨fun h => ?_, fun h => ?_⟩
  ·have h8 := ZjE hn (ho.1 h)
   rw [p_E, Option.bind_some, p_At (by simp), Option.bind_some]
   simp only [Zd9, Zd, Sum.elim_inr, Sum.elim_inl]
   refine ⟨_, .arc i hb i0 hlt (by rw [h8]; decide) hi, ?_⟩
   rw [h8]; rfl
  ·have h0 := ZjP hn fun k => h (ho.2 k)
   simp only [T_G, Zd, Sum.elim_inl]
   refine ⟨by omega, ⟨by omega, by omega, fun j j0 j1 => ?_⟩, by omega⟩
   by_cases e : j = i
   ·rw [e]; exact h0
   ·exact hi j j0 (by omega)
end Go.Vd

/-! (PrGf) -/

set_option linter.unusedVariables false
set_option linter.unusedSimpArgs false
namespace Go.Vd
variable {N : Int} {A L : List A3}
theorem p_Few {most : Int} : T (Zcn N A most) fun b => b = true ↔ (GChk N A .nil /\ N ≤ most /\ (A.length : Int) ≤ 2000) := by
 unfold Zcn
 refine Zm _ Zhb ?_
 rintro _ ⟨er, hc, rfl⟩
 dsimp only
 rw [ZiZ, Option.bind_some, Zs]
 refine ⟨fun h => ?_, fun h => ?_⟩
 ·have hne := hc.bad.1 (by simpa using h)
  simp only [Zd]
  simp; exact fun k => absurd (hc.uniq k) hne
 ·have he : er = .nil := Classical.not_not.1 fun k => h (by simpa using hc.bad.2 k)
  subst he
  rw [Zs]
  simp only [Zd]
  exact ⟨fun h => by simp [hc, h], fun h => by simp; intro _ k; omega⟩
end Go.Vd

/-! (So3) -/

set_option linter.unusedVariables false
set_option linter.unusedSimpArgs false
namespace Go.Vd
variable {N : Int} {A L : List A3}
inductive OfA (N : Int) (A : List A3) : Int -> List A3 -> Er -> Prop
 | bad (er : Er) : GChk N A er -> er ≠ .nil -> OfA N A 0 [] er
 | ok (L : List A3) : GChk N A .nil -> Nrm A L -> L.length ≤ A.length -> OfA N A N L .nil
theorem p_Of : T (Zd7 N A) fun r => OfA N A r.1 r.2.1 r.2.2 := by
 unfold Zd7
 refine Zm _ Zmy fun er hc => ?_
 rw [Zs]
 refine ⟨fun he => ?_, fun he => by simp only [Zd]; exact .bad er hc he⟩
 subst he
 obtain ⟨n0, n1, n2⟩ := hc.small
 refine Zm (fun c => c = A.filter ZeN) ?_ ?_
 ·refine ZS (fun z => 0 ≤ z.1 /\ z.1 ≤ (A.length : Int) /\ z.2 = (A.take z.1.toNat).filter ZeN) (fun z => ((A.length : Int) - z.1).toNat) ?_ ⟨by simp, by simp, by simp⟩
  rintro ⟨i, c⟩ ⟨i0, i1, e⟩
  dsimp only at *
  subst e
  unfold Zdh
  rw [Zs]
  refine ⟨fun hlt => ?_, fun hge => ?_⟩
  rotate_left
  ·simp only [Zd, Sum.elim_inr]
   rw [List.take_of_length_le (by omega)]
  have hll := List.length_filter_le ZeN (A.take i.toNat)
  have hlt2 : (A.take i.toNat).length ≤ A.length := by rw [List.length_take]; omega
  have next : (A.take (i + 1).toNat).filter ZeN = (A.take i.toNat).filter ZeN ++ if (gt A i).1 = (gt A i).2.1 then [] else [gt A i] := by
   rw [Za7 i0 hlt, List.filter_append]
   congr 1
   by_cases h : (gt A i).1 = (gt A i).2.1 <;> simp [List.filter, ZeN, h]
  simp only [T_G, Zs, Zd, Sum.elim_inl]
  refine ⟨i0, fun h => ⟨by omega, ⟨by omega, by omega, ?_⟩, by omega⟩, fun h => ⟨by omega, by omega, ⟨by omega, by omega, ?_⟩, by omega⟩⟩
  ·rw [next, if_pos h, List.append_nil]
  ·rw [next, if_neg h]
 ·rintro _ rfl
  have hll := List.length_filter_le ZeN A
  rw [T_G, ZnS, Option.bind_some]
  refine ⟨by omega, ?_⟩
  have hp := ZhO Zf2 (A.filter ZeN)
  have hlen := hp.length_eq
  refine Zm _ (ZlI (by omega)) fun r hr => ?_
  simp only [Zd]
  rw [hr]
  refine .ok _ hc (Zn0 rfl hp (ZlB _)) ?_
  have := Zm9 (Zaq Zf2 (A.filter ZeN)) (Zaq Zf2 (A.filter ZeN)).length
  omega
end Go.Vd

/-! (PrPu) -/


/-! (PrGo) -/

set_option linter.unusedVariables false
set_option linter.unusedSectionVars false
set_option linter.unusedSimpArgs false
namespace Go.Vd
variable {N : Int} {A L : List A3}
theorem ZmD : T (ZbU N A) fun r => ∃ er, OfA N A r.1 r.2.1 er /\ r.2.2.1 = er.code /\ r.2.2.2 = er.pls := by
 unfold ZbU
 refine Zm _ Zhb ?_
 rintro _ ⟨er, hc, rfl⟩
 dsimp only
 rw [ZiZ, Option.bind_some, Zs]
 refine ⟨fun h => ?_, fun h => ?_⟩
 ·simp only [Zd]
  exact ⟨er, .bad er hc (hc.bad.1 (by simpa using h)), rfl, rfl⟩
 ·have he : er = .nil := Classical.byContradiction fun k => h (by simpa using hc.bad.2 k)
  subst he
  refine Zm _ (p_rOf hc.small.2.2) ?_
  rintro ⟨n, c⟩ ⟨e, h1, h2⟩
  dsimp only at *
  subst e
  simp only [Zd]
  exact ⟨.nil, .ok c hc h1 h2, rfl, rfl⟩
end Go.Vd

/-! (OvD) -/

set_option linter.unusedVariables false
set_option linter.unusedSimpArgs false
namespace Go.Vd
variable {nodes nodes' : List Nod} {alive arcs : Int} {A : List Bool} {L : List OAr} {u v w wt via : Int}
def ZJ (A : List Bool) (v : Int) : Prop := 0 ≤ v /\ v < (A.length : Int) /\ gt A v = true
instance : Decidable (ZJ A v) := by unfold ZJ; infer_instance
theorem KD.uniq (h : KD L) {a b : OAr} (ha : a ∈ L) (hb : b ∈ L) (e1 : a.1 = b.1) (e2 : a.2.1 = b.2.1) : a = b := by
 obtain ⟨i, hi, rfl⟩ := List.mem_iff_getElem.1 ha
 obtain ⟨j, hj, rfl⟩ := List.mem_iff_getElem.1 hb
 rcases Nat.lt_trichotomy i j with q | q | q
 ·exact absurd ⟨e1, e2⟩ (List.pairwise_iff_getElem.1 h i j hi hj q)
 ·subst q; rfl
 ·exact absurd ⟨e1.symm, e2.symm⟩ (List.pairwise_iff_getElem.1 h j i hj hi q)
theorem OvR.outB (h : OvR nodes alive arcs A L) (v : Int) : ∀ x ∈ Zz L v, 0 ≤ x.1 /\ x.1 < 65536 := fun x hx => by
 have := h.en _ ((Z3 h.kd).1 hx)
 have hs := h.sm
 dsimp only at this
 omega
theorem OvR.inB (h : OvR nodes alive arcs A L) (v : Int) : ∀ x ∈ inL L v, 0 ≤ x.1 /\ x.1 < 65536 := fun x hx => by
 have := h.en _ ((Za3 h.kd).1 hx)
 have hs := h.sm
 dsimp only at this
 omega
theorem OvR.outLen (h : OvR nodes alive arcs A L) (v : Int) : (Zz L v).length ≤ 1000000 := Nat.le_trans (ZgY h.kd v) h.lb
theorem OvR.inLen (h : OvR nodes alive arcs A L) (v : Int) : (inL L v).length ≤ 1000000 := Nat.le_trans (ZhX h.kd v) h.lb
theorem OvR.out0 (h : OvR nodes alive arcs A L) (hv : ¬ ZJ A v) : Zz L v = [] := by
 refine List.eq_nil_iff_forall_not_mem.2 fun x hx => hv ?_
 obtain ⟨a1, a2, a3, a4, a5, _⟩ := h.en _ ((Z3 h.kd).1 hx)
 exact ⟨a1, a2, a5⟩
theorem OvR.in0 (h : OvR nodes alive arcs A L) (hv : ¬ ZJ A v) : inL L v = [] := by
 refine List.eq_nil_iff_forall_not_mem.2 fun x hx => hv ?_
 obtain ⟨a1, a2, a3, a4, a5, a6, _⟩ := h.en _ ((Za3 h.kd).1 hx)
 exact ⟨a3, a4, a6⟩
theorem ZdD (h : OvR nodes alive arcs A L) {a b v : Int} : ZF nodes a b v = some (decide (ZJ A v)) := by
 unfold ZF ZJ
 have hl := h.ln
 by_cases h0 : v ≥ 0
 ·rw [if_pos h0]
  by_cases h1 : v < (nodes.length : Int)
  ·rw [if_pos h1]
   unfold G
   rw [if_pos h0, h.nd v h0 (by omega)]
   have : v < (A.length : Int) := by omega
   show some (!(!gt A v)) = _
   rw [Bool.not_not]
   congr 1
   have h0' : 0 ≤ v := h0
   rw [Bool.eq_iff_iff]; simp [h0', this]
  ·rw [if_neg h1]
   have : ¬ v < (A.length : Int) := by omega
   simp [this]
 ·rw [if_neg h0]
  have : ¬ 0 ≤ v := h0
  simp [this]
def Wt (L : List OAr) (u w x : Int) (b : Bool) : Prop := (b = true /\ ∃ a ∈ L, a.1 = u /\ a.2.1 = w /\ a.2.2.1 = x) ∨ (b = false /\ x = 0 /\ ∀ a ∈ L, ¬ (a.1 = u /\ a.2.1 = w))
theorem Wt.uniq (h : KD L) {x y : Int} {b c : Bool} (k : Wt L u w x b) (k' : Wt L u w y c) : x = y /\ b = c := by
 rcases k with ⟨rfl, a, a1, a2, a3, a4⟩ | ⟨rfl, rfl, n⟩ <;> rcases k' with ⟨rfl, a', b1, b2, b3, b4⟩ | ⟨rfl, rfl, n'⟩
 ·have := h.uniq a1 b1 (a2.trans b2.symm) (a3.trans b3.symm)
  subst this
  exact ⟨a4.symm.trans b4, rfl⟩
 ·exact absurd ⟨a2, a3⟩ (n' a a1)
 ·exact absurd ⟨b2, b3⟩ (n a' b1)
 ·exact ⟨rfl, rfl⟩
theorem ZjM (h : OvR nodes alive arcs A L) {a b : Int} (w0 : -9223372036854775808 ≤ w) (w1 : w ≤ 9223372036854775807) : T (Zav nodes a b u w) fun r => Wt L u w r.1 r.2 := by
 unfold Zav
 rw [ZdD h, Option.bind_some]
 by_cases hu : ZJ A u
 ·rw [decide_eq_true hu, if_neg (by decide)]
  have hl := h.ln
  simp only [T_G]
  refine ⟨⟨hu.1, by have := hu.2.1; omega⟩, ?_⟩
  have hn := h.nd u hu.1 hu.2.1
  rw [hn]
  dsimp only
  refine Zm _ (ZjT (ZcA L u) (h.outB u) (h.outLen u) w0 w1) ?_
  rintro ⟨p, f⟩ hf
  dsimp only at *
  rw [Zs]
  refine ⟨fun hb => ?_, fun hb => ?_⟩
  ·have hb' : f = false := by simpa using hb
   simp only [Zd]
   refine .inr ⟨rfl, rfl, fun x hx hk => ?_⟩
   have : x.2 ∈ Zz L u := (Z3 h.kd).2 (by rw [← hk.1]; exact hx)
   exact hf.no hb' _ this hk.2
  ·have hb' : f = true := by simpa using hb
   obtain ⟨q1, q2⟩ := hf.yes hb'
   simp only [T_G, Zd]
   refine ⟨⟨hf.p0, q1⟩, .inl ⟨rfl, _, (Z3 h.kd).1 (Ze0 hf.p0 q1), rfl, q2, rfl⟩⟩
 ·rw [decide_eq_false hu, if_pos (by decide)]
  simp only [Zd]
  refine .inr ⟨rfl, rfl, fun x hx hk => hu ?_⟩
  obtain ⟨a1, a2, a3, a4, a5, _⟩ := h.en x hx
  rw [hk.1] at a1 a2 a5
  exact ⟨a1, a2, a5⟩
theorem ZjU {l : List Hf} (hl : l.length ≤ 1000000) : ZcV l = some l := by
 unfold ZcV G
 rw [if_pos (by simp; omega)]; simp
theorem Zi1 (h : OvR nodes alive arcs A L) {a b : Int} : Zag nodes a b v = some (Zz L v) := by
 unfold Zag
 rw [ZdD h, Option.bind_some]
 by_cases hu : ZJ A v
 ·have hl := h.ln
  have hn := h.nd v hu.1 hu.2.1
  rw [decide_eq_true hu, if_neg (by decide), hn]
  unfold G
  dsimp only
  rw [if_pos ⟨hu.1, by have := hu.2.1; omega⟩, ZjU (h.outLen v)]; rfl
 ·rw [decide_eq_false hu, if_pos (by decide), h.out0 hu]
def ZdF (A : List Bool) (u w wt via : Int) : Int :=
 if ¬ (ZJ A u /\ ZJ A w) then 7 else if u = w then 1 else if wt > 140737488355328 then 8 else if via < -1 ∨ (A.length : Int) ≤ via ∨ (0 ≤ via /\ ZJ A via) then 1 else 0
inductive PutR (nodes : List Nod) (alive arcs : Int) (A : List Bool) (L : List OAr) (u w wt via : Int) : Bool × Er × List Nod × Int -> Prop
 | bad : ZdF A u w wt via ≠ 0 -> PutR nodes alive arcs A L u w wt via (false, .no (ZdF A u w wt via), nodes, arcs)
 | less (a : OAr) : ZdF A u w wt via = 0 -> a ∈ L -> a.1 = u -> a.2.1 = w -> a.2.2.1 ≤ wt -> PutR nodes alive arcs A L u w wt via (false, .nil, nodes, arcs)
 | put (nodes' : List Nod) (arcs' : Int) : ZdF A u w wt via = 0 -> (∀ a ∈ L, a.1 = u -> a.2.1 = w -> wt < a.2.2.1) -> OvR nodes' alive arcs' A (Zej L (u, w, wt, via)) -> PutR nodes alive arcs A L u w wt via (true, .nil, nodes', arcs')
theorem Zl2 (h : OvR nodes alive arcs A L) (hb : L.length < 1000000) (w0 : -9223372036854775808 ≤ w) (w1 : w ≤ 9223372036854775807) (t0 : 0 ≤ wt) : T (ZaO nodes alive arcs u w wt via) (PutR nodes alive arcs A L u w wt via) := by
 unfold ZaO
 rw [ZdD h, Option.bind_some]
 have e1 : ((if decide (ZJ A u) = true then ((ZF nodes alive arcs w).bind fun y32 => some (!y32)) else (some true)) : Option Bool) = some (decide (¬ (ZJ A u /\ ZJ A w))) := by
  by_cases hu : ZJ A u
  ·rw [decide_eq_true hu, if_pos rfl, ZdD h, Option.bind_some]
   by_cases hw : ZJ A w <;> simp [hu, hw]
  ·rw [decide_eq_false hu, if_neg (by decide)]; simp [hu]
 rw [e1, Option.bind_some]
 by_cases hl : ¬ (ZJ A u /\ ZJ A w)
 ·rw [if_pos (decide_eq_true hl)]
  simp only [Zd]
  have : ZdF A u w wt via = 7 := if_pos hl
  exact this ▸ .bad (by rw [this]; decide)
 rw [if_neg (by simpa using hl)]
 have hl' : ZJ A u /\ ZJ A w := Classical.not_not.1 hl
 obtain ⟨hu, hw⟩ := hl'
 by_cases huw : u = w
 ·rw [if_pos huw]
  simp only [Zd]
  have : ZdF A u w wt via = 1 := (if_neg hl).trans (if_pos huw)
  exact this ▸ .bad (by rw [this]; decide)
 rw [if_neg huw]
 by_cases hwt : wt > 140737488355328
 ·rw [if_pos hwt]
  simp only [Zd]
  have : ZdF A u w wt via = 8 := (if_neg hl).trans ((if_neg huw).trans (if_pos hwt))
  exact this ▸ .bad (by rw [this]; decide)
 rw [if_neg hwt]
 have hln := h.ln
 have e2 : ((if via < (-1) then (some true) else (if via ≥ (nodes.length : Int) then (some true) else (if via ≥ 0 then (G (0 ≤ via /\ via < (nodes.length : Int)) (some (!(gt nodes via).1))) else (some false))) : Option Bool)) = some (decide (via < -1 ∨ (A.length : Int) ≤ via ∨ (0 ≤ via /\ ZJ A via))) := by
  by_cases q1 : via < -1
  ·rw [if_pos q1]; simp [q1]
  rw [if_neg q1]
  by_cases q2 : via ≥ (nodes.length : Int)
  ·rw [if_pos q2]
   have q2' : (A.length : Int) ≤ via := by omega
   simp [q2']
  rw [if_neg q2]
  by_cases q3 : via ≥ 0
  ·rw [if_pos q3]
   unfold G
   have q2' : via < (A.length : Int) := by omega
   have q3' : 0 ≤ via := q3
   rw [if_pos ⟨q3, by omega⟩, h.nd via q3 q2']
   show some (!(!gt A via)) = _
   have q4 : ¬ (A.length : Int) ≤ via := by omega
   rw [Bool.not_not]
   congr 1
   rw [Bool.eq_iff_iff]; simp [ZJ, q1, q4, q3', q2']
  ·rw [if_neg q3]
   have q3' : ¬ 0 ≤ via := q3
   have q4 : ¬ (A.length : Int) ≤ via := by omega
   simp [q1, q4, q3']
 rw [e2, Option.bind_some]
 by_cases hv : via < -1 ∨ (A.length : Int) ≤ via ∨ (0 ≤ via /\ ZJ A via)
 ·rw [if_pos (decide_eq_true hv)]
  simp only [Zd]
  have : ZdF A u w wt via = 1 := (if_neg hl).trans ((if_neg huw).trans ((if_neg hwt).trans (if_pos hv)))
  exact this ▸ .bad (by rw [this]; decide)
 rw [if_neg (by simpa using hv)]
 have hc : ZdF A u w wt via = 0 := (if_neg hl).trans ((if_neg huw).trans ((if_neg hwt).trans (if_neg hv)))
 refine Zm _ (ZjM h w0 w1) ?_
 rintro ⟨x, b⟩ hW
 dsimp only at *
 -- the two lists
 have hu1 := hu.2.1
 have hw1 := hw.2.1
 have hsm := h.sm
 have nu := h.nd u hu.1 hu1
 have nw := h.nd w hw.1 hw1
 have l1 := ZlO (l := (gt nodes u).2.1) (v := w) (wt := wt) (via := via) (by rw [nu]; exact ZcA L u) (by rw [nu]; exact h.outB u) (by rw [nu]; exact h.outLen u) hw.1 (by omega)
 have l2 := ZlO (l := (gt nodes w).2.2) (v := u) (wt := wt) (via := via) (by rw [nw]; exact Zdl L w) (by rw [nw]; exact h.inB w) (by rw [nw]; exact h.inLen w) hu.1 (by omega)
 have fin : ∀ ar' : Int, (ar' = if (∃ x ∈ L, x.1 = u /\ x.2.1 = w) then arcs else arcs + 1) -> (∀ a ∈ L, a.1 = u -> a.2.1 = w -> wt < a.2.2.1) ->
   T (G (0 ≤ u /\ u < (nodes.length : Int)) (((Zbv ((gt nodes u).2.1) w wt via).bind fun y148 => G (0 ≤ w /\ w < ((nodes.set u.toNat ((gt nodes u).1, y148, (gt nodes u).2.2)).length : Int)) (((Zbv ((gt (nodes.set u.toNat ((gt nodes u).1, y148, (gt nodes u).2.2)) w).2.2) u wt via).bind fun y192 => some (true, Er.nil, ((nodes.set u.toNat ((gt nodes u).1, y148, (gt nodes u).2.2)).set w.toNat ((gt (nodes.set u.toNat ((gt nodes u).1, y148, (gt nodes u).2.2)) w).1, (gt (nodes.set u.toNat ((gt nodes u).1, y148, (gt nodes u).2.2)) w).2.1, y192)), ar')))))) (PutR nodes alive arcs A L u w wt via) := by
  intro ar' har hless
  rw [l1, Option.bind_some]
  simp only [T_G, List.length_set]
  refine ⟨⟨hu.1, by omega⟩, ⟨hw.1, by omega⟩, ?_⟩
  rw [ZcU hu.1 (by omega) hw.1, if_neg (Ne.symm huw), l2, Option.bind_some]
  simp only [Zd]
  refine .put _ _ hc hless ?_
  rw [har]
  refine h.put hu.1 hu1 hw.1 hw1 hu.2.2 hw.2.2 huw t0 (by omega) (by omega) (by omega) hb (by simp) fun x x0 x1 => ?_
  rw [ZcU hw.1 (by rw [List.length_set]; omega) x0, ZcU hu.1 (by omega) x0]
  by_cases q : x = w
  ·rw [if_pos q, if_pos q, if_neg (by omega), q]
  ·rw [if_neg q, if_neg q]
   by_cases q2 : x = u
   ·rw [if_pos q2, if_pos q2, q2]
   ·rw [if_neg q2, if_neg q2]
 rcases hW with ⟨rfl, a, a1, a2, a3, a4⟩ | ⟨rfl, rfl, hn⟩
 ·rw [if_pos rfl, Option.bind_some]
  by_cases hle : x ≤ wt
  ·rw [if_pos (decide_eq_true hle)]
   simp only [Zd]
   exact .less a hc a1 a2 a3 (by rw [a4]; exact hle)
  ·rw [if_neg (by simpa using hle)]
   dsimp only
   rw [if_neg (by decide), Option.bind_some]
   refine fin arcs (by rw [if_pos ⟨a, a1, a2, a3⟩]) fun b hb e1 e2 => ?_
   have := h.kd.uniq hb a1 (e1.trans a2.symm) (e2.trans a3.symm)
   rw [this, a4]; omega
 ·rw [if_neg (by decide), Option.bind_some, if_neg (by decide)]
  dsimp only
  rw [if_pos (by decide)]
  have hlb := h.lb
  have har := h.ar
  unfold G
  rw [if_pos (by omega), Option.bind_some]
  exact fin (arcs + 1) (by rw [if_neg (by rintro ⟨a, a1, a2, a3⟩; exact hn a a1 ⟨a2, a3⟩)]) fun b hb e1 e2 => absurd ⟨e1, e2⟩ (hn b hb)
end Go.Vd

/-! (WtC) -/

set_option linter.unusedVariables false
set_option linter.unusedSimpArgs false
set_option maxHeartbeats 1000000
namespace Go.Vd
variable {nodes : List Nod} {alive arcs : Int} {A : List Bool} {M : List OAr} {u v skip hops most settles c N : Int} {q : List (Int × Int)} {L : Lab} {ss : List Int}
def Zc5 (M : List OAr) (skip v : Int) : List (Int × Int) := ((Zz M v).filter fun h => decide (h.1 ≠ skip)).map fun h => (h.1, h.2.1)
theorem OvR.rowOk (h : OvR nodes alive arcs A M) : Zk7 (Zc5 M skip) A.length := fun v x hx => by
 unfold Zc5 at hx
 obtain ⟨y, hy, rfl⟩ := List.mem_map.1 hx
 have hm := (List.mem_filter.1 hy).1
 have := h.en _ ((Z3 h.kd).1 hm)
 dsimp only at *
 omega
theorem OvR.rowLen (h : OvR nodes alive arcs A M) (v : Int) : (Zc5 M skip v).length ≤ 1000000 := by
 unfold Zc5
 rw [List.length_map]
 exact Nat.le_trans (List.length_filter_le _ _) (h.outLen v)
structure QI (L : Lab) (q : List (Int × Int)) (k : Int -> Prop) : Prop where
 ord : Hq q
 inn : ∀ v y, L v = some y -> y.2.2 = 0 -> ¬ k v -> (y.1, v) ∈ q
 out : ∀ e ∈ q, ∃ y, L e.2 = some y /\ y.1 ≤ e.1
theorem Znm {q : List (Int × Int)} {p : Int} (p0 : 0 ≤ p) (p1 : p < (q.length : Int)) : gt q p ∈ q := by
 unfold gt
 rw [List.getD_eq_getElem?_getD, List.getElem?_eq_getElem (by omega)]
 exact List.getElem_mem _
theorem Znx {q : List (Int × Int)} {x : Int × Int} (h : x ∈ q) : ∃ p, 0 ≤ p /\ p < (q.length : Int) /\ gt q p = x := by
 obtain ⟨i, hi, e⟩ := List.getElem_of_mem h
 refine ⟨i, by omega, by omega, ?_⟩
 unfold gt
 rw [List.getD_eq_getElem?_getD, Int.toNat_natCast, List.getElem?_eq_getElem hi]; exact e
inductive NxR (L : Lab) (q : List (Int × Int)) : Int × Int × Int × Int × Bool × List (Int × Int) -> Prop
 | no : WNo L -> NxR L q (0, 0, 0, 0, false, [])
 | ok (v : Int) (y : Int × Int × Int) (q' : List (Int × Int)) : WPick L v y -> QI L q' (fun x => x = v) -> q'.length < q.length -> NxR L q (v, y.1, y.2.1, y.2.2, true, q')
theorem Zof {a : List Nd3} {b1 b2 b3 b4 : Int} (hq : QI L q fun _ => False) (hl : q.length ≤ 100000000000) : T (Zcc a b1 b2 b3 b4 q L) (NxR L q) := by
 unfold Zcc
 refine Zcf (fun r => r = [] /\ WNo L) ?_ ?_
 ·refine ZS (fun z => QI L z (fun _ => False) /\ z.length ≤ q.length) (fun z => z.length) ?_ ⟨hq, Nat.le_refl _⟩
  rintro s ⟨Q, hs⟩
  unfold Zbh
  rw [Zs]
  refine ⟨fun h0 => ?_, fun h0 => ?_⟩
  ·refine Zm _ (ZnV Q.ord (by omega) h0) ?_
   rintro ⟨d, v, _, q'⟩ ⟨e, hp, ho⟩
   dsimp only at *
   have hlen := hp.length_eq
   rw [List.length_cons] at hlen
   have hm : (d, v) ∈ s := by rw [e]; exact Znm (by omega) h0
   obtain ⟨y, hy, hle⟩ := Q.out _ hm
   dsimp only at hy hle
   rw [hy]
   dsimp only [Option.getD_some]
   have out' : ∀ x ∈ q', ∃ y, L x.2 = some y /\ y.1 ≤ x.1 := fun x hx => Q.out x (hp.mem_iff.1 (List.mem_cons_of_mem _ hx))
   have least : ∀ x ∈ s, ¬ Less x (d, v) := fun x hx => by
    obtain ⟨p, p0, p1, rfl⟩ := Znx hx
    rw [e]
    exact Ord2.top Q.ord p p0 p1
   have stale : ¬ (y.2.2 = 0 /\ y.1 = d) -> QI L q' fun _ => False := fun hn => ⟨ho, fun w z hz z0 _ => by
    have := Q.inn w z hz z0 (fun h => h)
    rw [← hp.mem_iff] at this
    rcases List.mem_cons.1 this with h | h
    ·rw [← e] at h
     cases h
     rw [hy] at hz; cases hz
     exact absurd ⟨z0, rfl⟩ hn
    ·exact h, out'⟩
   rw [Zs]
   refine ⟨fun h1 => ?_, fun h1 => ?_⟩
   ·rw [Zs]
    refine ⟨fun h2 => ?_, fun h2 => ?_⟩
    ·simp only [Zd9, Zd, Sum.elim_inr, Sum.elim_inl]
     have hpick : WPick L v y := by
      refine ⟨hy, h1, fun w z hz z0 => ?_⟩
      have := least _ (Q.inn w z hz z0 (fun h => h))
      unfold Less at this
      dsimp only at this
      omega
     exact .ok v y q' hpick ⟨ho, fun w z hz z0 hw => by
      have := Q.inn w z hz z0 (fun h => h)
      rw [← hp.mem_iff] at this
      rcases List.mem_cons.1 this with h | h
      ·rw [← e] at h; cases h; exact absurd rfl hw
      ·exact h, out'⟩ (by omega)
    ·simp only [Zd, Sum.elim_inl]
     exact ⟨⟨stale fun k => h2 k.2, by omega⟩, by omega⟩
   ·simp only [Zd, Sum.elim_inl]
    exact ⟨⟨stale fun k => h1 k.1, by omega⟩, by omega⟩
  ·simp only [Zd, Sum.elim_inr]
   have : s = [] := List.eq_nil_of_length_eq_zero (by omega)
   subst this
   exact ⟨rfl, fun x z hz z0 => by have := Q.inn x z hz z0 (fun h => h); cases this⟩
 ·rintro _ ⟨rfl, hn⟩
  simp only [Zd]
  exact .no hn
theorem ZmU {a : List Nd3} {b1 b2 b3 b4 d hp : Int} {k : Int -> Prop} (hq : QI L q k) (hl : q.length ≤ 100000000000) (hopn : opn L v d) : T (ZbL a b1 b2 b3 b4 q L v d hp 0) fun r => r.1 = lup L v (d, hp, 0) /\ QI r.1 r.2 k /\ r.2.length = q.length + 1 := by
 unfold ZbL
 refine Zm _ (Znj hq.ord hl) ?_
 rintro r ⟨h1, h2⟩
 simp only [Zd]
 refine ⟨rfl, ⟨h2, fun w z hz z0 hw => ?_, fun e he => ?_⟩, by rw [h1.length_eq, List.length_cons]⟩
 ·rw [h1.mem_iff]
  by_cases e : w = v
  ·subst e
   rw [if_pos rfl] at hz; cases hz
   simp
  ·rw [if_neg e] at hz
   exact List.mem_cons_of_mem _ (hq.inn w z hz z0 hw)
 ·rw [h1.mem_iff] at he
  rcases List.mem_cons.1 he with rfl | he
  ·exact ⟨(d, hp, 0), if_pos rfl, Int.le_refl _⟩
  ·obtain ⟨y, hy, hle⟩ := hq.out e he
   by_cases ev : e.2 = v
   ·refine ⟨(d, hp, 0), if_pos ev, ?_⟩
    unfold opn at hopn
    rw [← ev, hy] at hopn
    dsimp only at hopn ⊢
    omega
   ·exact ⟨y, by rw [if_neg ev]; exact hy, hle⟩
theorem Zli (h : OvR nodes alive arcs A M) {y : Int × Int × Int} (hW : WI A.length c L ss) (c0 : 0 ≤ c) (c1 : c < 65536) (hp : WPick L v y) (hq : QI L q fun x => x = v) (hl : q.length ≤ 10000000000 + 1000000 * c.toNat) :
  T (Zbr nodes alive arcs skip hops q L v y.1 y.2.1 y.2.2) fun r => r.1 = Ze1 (Zc5 M skip) hops L v y /\ QI r.1 r.2 (fun _ => False) /\ r.2.length ≤ 10000000000 + 1000000 * (c.toNat + 1) := by
 unfold Zbr
 have hv := hW.val v y hp.1
 have hW1 := hW.settle hp.1 hp.2.1
 have e1 : (fun x => if x = v then some (y.1, y.2.1, (1 : Int)) else L x) = lup L v (y.1, y.2.1, 1) := rfl
 rw [e1]
 have Q1 : QI (lup L v (y.1, y.2.1, 1)) q fun _ => False := by
  refine ⟨hq.ord, fun w z hz z0 _ => ?_, fun e he => ?_⟩
  ·unfold lup at hz
   by_cases ew : w = v
   ·rw [if_pos ew] at hz; cases hz; cases z0
   ·rw [if_neg ew] at hz; exact hq.inn w z hz z0 ew
  ·obtain ⟨z, hz, hle⟩ := hq.out e he
   unfold lup
   by_cases ew : e.2 = v
   ·rw [if_pos ew]
    rw [ew, hp.1] at hz; cases hz
    exact ⟨_, rfl, hle⟩
   ·rw [if_neg ew]; exact ⟨z, hz, hle⟩
 rw [Zs]
 refine ⟨fun hh => ?_, fun hh => ?_⟩
 ·simp only [Zd]
  refine ⟨by unfold Ze1; rw [if_pos hh], Q1, by omega⟩
 rw [Zi1 h, Option.bind_some]
 have hmul : c * 140737488355328 ≤ 65535 * 140737488355328 := Int.mul_le_mul_of_nonneg_right (by omega) (by omega)
 have hol := h.outLen v
 refine Zm (fun r => r.1 = (Zc5 M skip v).foldl (ZdM y.1 y.2.1) (lup L v (y.1, y.2.1, 1)) /\ QI r.1 r.2 (fun _ => False) /\ r.2.length ≤ 10000000000 + 1000000 * (c.toNat + 1)) ?_ ?_
 rotate_left
 ·rintro ⟨r1, r2⟩ ⟨e, k1, k2⟩
  simp only [Zd]
  exact ⟨by unfold Ze1; rw [if_neg hh]; exact e, k1, k2⟩
 refine ZS (fun z => 0 ≤ z.2.2 /\ z.2.2 ≤ ((Zz M v).length : Int) /\ z.2.1 = ((((Zz M v).take z.2.2.toNat).filter fun h => decide (h.1 ≠ skip)).map fun h => (h.1, h.2.1)).foldl (ZdM y.1 y.2.1) (lup L v (y.1, y.2.1, 1)) /\ QI z.2.1 z.1 (fun _ => False) /\ (z.1.length : Int) ≤ 10000000000 + 1000000 * c + z.2.2) (fun z => (((Zz M v).length : Int) - z.2.2).toNat) ?_ ⟨by simp, by simp, rfl, Q1, by simp; omega⟩
 rintro ⟨s, l, i⟩ ⟨i0, i1, e, Q, hs⟩
 dsimp only at *
 unfold ZaS
 rw [Zs]
 refine ⟨fun hi => ?_, fun hi => ?_⟩
 rotate_left
 ·simp only [Zd, Sum.elim_inr]
  rw [List.take_of_length_le (by omega)] at e
  exact ⟨e, Q, by omega⟩
 have hm : gt (Zz M v) i ∈ Zz M v := by
  unfold gt
  rw [List.getD_eq_getElem?_getD, List.getElem?_eq_getElem (by omega)]
  exact List.getElem_mem _
 have hen := h.en _ ((Z3 h.kd).1 hm)
 have htk := Za7 i0 hi
 generalize gt (Zz M v) i = a at *
 obtain ⟨x, w, via⟩ := a
 dsimp only at *
 simp only [T_G]
 refine ⟨i0, by omega, by omega, ?_⟩
 have hnext : ∀ l', l' = (if x = skip then l else ZdM y.1 y.2.1 l (x, w)) -> l' = ((((Zz M v).take (i + 1).toNat).filter fun h => decide (h.1 ≠ skip)).map fun h => (h.1, h.2.1)).foldl (ZdM y.1 y.2.1) (lup L v (y.1, y.2.1, 1)) := by
  rintro _ rfl
  rw [htk, List.filter_append, List.map_append, List.foldl_append, ← e]
  by_cases es : x = skip
  ·rw [if_pos es, List.filter_cons, if_neg (by simp [es])]; rfl
  ·rw [if_neg es, List.filter_cons, if_pos (by simp [es])]; rfl
 refine Zm (fun o => o = decide (x = skip ∨ ¬ opn l x (y.1 + w))) ?_ ?_
 ·by_cases es : x = skip
  ·rw [if_pos es]; simp [es]
  rw [if_neg es]
  have hval : ∀ z, l x = some z -> z.2.2 = 0 ∨ z.2.2 = 1 := fun z hz => by
   have hI : WI A.length (c + 1) l (v :: ss) := by
    rw [e]
    refine WI.fold (by omega) (by omega) (by omega) (by omega) (hW1.mono (by omega)) fun a ha => ?_
    obtain ⟨b, hb, rfl⟩ := List.mem_map.1 ha
    have hb' := List.mem_of_mem_take (List.mem_filter.1 hb).1
    have := h.en _ ((Z3 h.kd).1 hb')
    dsimp only at *
    omega
   exact (hI.val x z hz).2.2.2.2
  cases hz : l x with
  | none =>
   have ho : opn l x (y.1 + w) := by unfold opn; rw [hz]; trivial
   simp [es, ho]
  | some z =>
   have := hval z hz
   have ho : opn l x (y.1 + w) ↔ z.2.2 = 0 /\ y.1 + w < z.1 := by unfold opn; rw [hz]
   dsimp only [Option.getD_some]
   by_cases z0 : z.2.2 > 0
   ·rw [if_pos z0]
    have h1 : ¬ opn l x (y.1 + w) := fun k => by have := (ho.1 k).1; omega
    simp [h1]
   ·rw [if_neg z0, if_pos (show (some z).isSome = true from rfl)]
    have h0 : z.2.2 = 0 := by omega
    by_cases hd : z.1 ≤ y.1 + w
    ·have h1 : ¬ opn l x (y.1 + w) := fun k => by have := (ho.1 k).2; omega
     simp [h1, hd]
    ·have h1 : opn l x (y.1 + w) := ho.2 ⟨h0, by omega⟩
     simp [h1, hd, es]
 rintro _ rfl
 rw [Zs]
 refine ⟨fun hk => ?_, fun hk => ?_⟩
 ·have hk' := of_decide_eq_true hk
  simp only [T_G, Zd, Sum.elim_inl]
  refine ⟨by omega, ⟨by omega, by omega, hnext _ ?_, Q, by omega⟩, by omega⟩
  rcases hk' with hk' | hk'
  ·rw [if_pos hk']
  ·unfold ZdM; rw [if_neg hk']; split <;> rfl
 ·have hk' : ¬ x = skip /\ opn l x (y.1 + w) := by
   have : ¬ (x = skip ∨ ¬ opn l x (y.1 + w)) := fun k => hk (decide_eq_true k)
   exact ⟨fun k => this (.inl k), Classical.not_not.1 fun k => this (.inr k)⟩
  refine Zm _ (ZmU (hp := y.2.1 + 1) Q (by omega) hk'.2) ?_
  rintro ⟨r1, r2⟩ ⟨k1, k2, k3⟩
  dsimp only at *
  simp only [T_G, Zd, Sum.elim_inl]
  refine ⟨by omega, ⟨by omega, by omega, hnext _ ?_, k2, by omega⟩, by omega⟩
  rw [if_neg hk'.1, k1]
  unfold ZdM; rw [if_pos hk'.2]
theorem ZmV (h : OvR nodes alive arcs A M) (u0 : 0 ≤ u) (u1 : u < (A.length : Int)) (hset : settles ≤ 9223372036854775807) :
  T (Zcp nodes alive arcs skip hops [] (fun _ => none) u most settles) fun r => WR (Zc5 M skip) hops settles most 0 (ZdE u) r.1 := by
 have hsm := h.sm
 unfold Zcp
 refine Zm _ (ZmU (k := fun _ => False) (hp := 0) (d := 0) (v := u) (L := fun _ => none) (q := []) ⟨fun p p0 p1 => by simp at p1; omega, fun w z hz => (by cases hz), fun e he => (by cases he)⟩ (by simp) (by unfold opn; trivial)) ?_
 rintro ⟨l0, q0⟩ ⟨e0, Q0, hl0⟩
 dsimp only at *
 subst e0
 refine Zcf (fun r => WR (Zc5 M skip) hops settles most 0 (ZdE u) r.1) ?_ fun r hr => by simpa using hr
 refine ZS (fun z => 0 ≤ z.2.2 /\ QI z.2.1 z.1 (fun _ => False) /\ (∃ ss, WI A.length z.2.2 z.2.1 ss /\ (ss.length : Int) = z.2.2) /\ z.1.length ≤ 10000000000 + 1000000 * z.2.2.toNat /\ ∀ Lf, WR (Zc5 M skip) hops settles most z.2.2 z.2.1 Lf -> WR (Zc5 M skip) hops settles most 0 (ZdE u) Lf) (fun z => ((A.length : Int) - z.2.2).toNat) ?_ ⟨by simp, Q0, ⟨[], WI.zero u0 u1, rfl⟩, by rw [hl0]; simp, fun _ k => k⟩
 rintro ⟨q, L, c⟩ ⟨c0, Q, ⟨ss, hW, hss⟩, hl, K⟩
 dsimp only at *
 have hcn := hW.len (by omega)
 unfold ZbG
 rw [Zs]
 refine ⟨fun hlt => ?_, fun hge => ?_⟩
 rotate_left
 ·simp only [Zd, Sum.elim_inr]
  exact K _ (.full _ _ (by omega))
 have hlt' : c < settles := by omega
 refine Zm _ (Zof Q (by omega)) ?_
 intro r hr
 cases hr with
 | no hn =>
  dsimp only
  rw [if_pos (by decide), Option.bind_some, if_pos rfl]
  simp only [Zd9, Zd, Sum.elim_inr, Sum.elim_inl]
  exact K _ (.none _ _ hlt' hn)
 | ok v y q' hp Q' hq' =>
  dsimp only
  rw [if_neg (by decide), Option.bind_some]
  by_cases hm : y.1 > most
  ·rw [decide_eq_true hm, if_pos rfl]
   simp only [Zd9, Zd, Sum.elim_inr, Sum.elim_inl]
   exact K _ (.far _ _ v y hlt' hp hm)
  ·rw [decide_eq_false hm, if_neg (by decide)]
   have hWn := hW.set (hops := hops) (h.rowOk (skip := skip)) hp
   have hcn2 := hWn.len (by omega)
   rw [List.length_cons] at hcn2
   refine Zm _ (Zli (skip := skip) (hops := hops) h hW c0 (by omega) hp Q' (by omega)) ?_
   rintro ⟨r1, r2⟩ ⟨k1, k2, k3⟩
   dsimp only at *
   subst k1
   simp only [T_G, Zd, Sum.elim_inl]
   exact ⟨by omega, ⟨by omega, k2, ⟨_, hWn, by simp; omega⟩, by omega, fun Lf hL => K _ (.go _ _ v y _ hlt' hp hm hL)⟩, by omega⟩
end Go.Vd

/-! (WtD) -/

set_option linter.unusedVariables false
set_option linter.unusedSimpArgs false
set_option maxHeartbeats 1000000
namespace Go.Vd
variable {nodes : List Nod} {alive arcs : Int} {A : List Bool} {M : List OAr} {u v skip hops most settles c N : Int} {goals : List Int}
def far (L : Lab) (w : Int) : Int := if (L w).isSome = true then ((L w).getD (0, 0, 0)).1 else 18446744073709551615
inductive FdW (A : List Bool) (M : List OAr) (u skip : Int) (goals : List Int) (most hops settles : Int) : List Int × Er -> Prop
 | bad : ¬ ZJ A u -> FdW A M u skip goals most hops settles ([], .no 7)
 | goal (i : Int) : ZJ A u -> 0 ≤ i -> i < (goals.length : Int) -> ¬ ZJ A (gt goals i) -> (∀ j, 0 ≤ j -> j < i -> ZJ A (gt goals j)) -> FdW A M u skip goals most hops settles ([], .at 3 i (.no 7))
 | ok (Lf : Lab) : ZJ A u -> (∀ j, 0 ≤ j -> j < (goals.length : Int) -> ZJ A (gt goals j)) -> WR (Zc5 M skip) hops settles most 0 (ZdE u) Lf -> FdW A M u skip goals most hops settles (goals.map (far Lf), .nil)
theorem ZcC {E : Type} [Inhabited E] {l : List E} {i : Int} (i0 : 0 ≤ i) (i1 : i < (l.length : Int)) : l.take (i + 1).toNat = l.take i.toNat ++ [gt l i] := by
 rw [show (i + 1).toNat = i.toNat + 1 from by omega, List.take_add_one]
 have : l[i.toNat]?.toList = [gt l i] := by
  unfold gt
  rw [List.getD_eq_getElem?_getD, List.getElem?_eq_getElem (by omega)]; rfl
 rw [this]
theorem ZnU (h : OvR nodes alive arcs A M) (hg : goals.length ≤ 10000000000000) (hset : settles ≤ 9223372036854775807) : T (Zdg nodes alive arcs u skip goals most hops settles) (FdW A M u skip goals most hops settles) := by
 unfold Zdg
 rw [ZdD h, Option.bind_some]
 by_cases hu : ZJ A u
 rotate_left
 ·rw [decide_eq_false hu, if_pos (by decide)]
  simp only [Zd]
  exact .bad hu
 rw [decide_eq_true hu, if_neg (by decide)]
 refine Zcf (fun _ => ∀ j, 0 ≤ j -> j < (goals.length : Int) -> ZJ A (gt goals j)) ?_ ?_
 ·refine ZS (fun i => 0 ≤ i /\ i ≤ (goals.length : Int) /\ ∀ j, 0 ≤ j -> j < i -> ZJ A (gt goals j)) (fun i => ((goals.length : Int) - i).toNat) ?_ ⟨by simp, by simp, fun j j0 j1 => by omega⟩
  rintro i ⟨i0, i1, hi⟩
  unfold ZcI
  rw [Zs]
  refine ⟨fun hlt => ?_, fun hge => ?_⟩
  ·rw [T_G]
   refine ⟨i0, ?_⟩
   rw [ZdD h, Option.bind_some]
   by_cases hw : ZJ A (gt goals i)
   ·rw [decide_eq_true hw, if_neg (by decide)]
    simp only [T_G, Zd, Sum.elim_inl]
    refine ⟨by omega, ⟨by omega, by omega, fun j j0 j1 => ?_⟩, by omega⟩
    by_cases e : j = i
    ·rw [e]; exact hw
    ·exact hi j j0 (by omega)
   ·rw [decide_eq_false hw, if_pos (by decide)]
    unfold Zdt
    rw [if_neg (by decide)]
    simp only [ZgE, Zd9, Zd, Option.bind_some, Sum.elim_inr, Sum.elim_inl]
    exact .goal i hu i0 hlt hw hi
  ·simp only [Zd, Sum.elim_inr]
   exact fun j j0 j1 => hi j j0 (by omega)
 intro _ hgl
 refine Zm _ (ZmV (skip := skip) (hops := hops) (most := most) (settles := settles) h hu.1 hu.2.1 hset) ?_
 rintro ⟨Lf, q⟩ hR
 dsimp only at hR
 refine Zm (fun l => l = goals.map (far Lf)) ?_ fun l e => by simp only [Zd]; rw [e]; exact .ok Lf hu hgl hR
 refine ZS (fun z => 0 ≤ z.2 /\ z.2 ≤ (goals.length : Int) /\ z.1 = (goals.take z.2.toNat).map (far Lf)) (fun z => ((goals.length : Int) - z.2).toNat) ?_ ⟨by simp, by simp, by simp⟩
 rintro ⟨l, i⟩ ⟨i0, i1, e⟩
 dsimp only at *
 have hl : l.length ≤ goals.length := by rw [e, List.length_map, List.length_take]; omega
 unfold ZcH
 rw [Zs]
 refine ⟨fun hlt => ?_, fun hge => ?_⟩
 ·have hs := ZcC i0 hlt
  rw [T_G]
  refine ⟨i0, ?_⟩
  by_cases hx : (Lf (gt goals i)).isSome = true
  ·rw [if_pos hx]
   simp only [T_G, Zd, Sum.elim_inl, List.length_cons, List.length_nil]
   refine ⟨by omega, by omega, ⟨by omega, by omega, ?_⟩, by omega⟩
   rw [hs, List.map_append, e]
   unfold far
   simp [hx]
  ·rw [if_neg hx]
   simp only [T_G, Zd, Sum.elim_inl]
   refine ⟨by omega, by omega, ⟨by omega, by omega, ?_⟩, by omega⟩
   rw [hs, List.map_append, e]
   unfold far
   simp [hx]
 ·simp only [Zd, Sum.elim_inr]
  rw [e, List.take_of_length_le (by omega)]
end Go.Vd

/-! (PrSh13) -/

set_option linter.unusedVariables false
set_option linter.unusedSimpArgs false
namespace Go.Vd
theorem ZlT {l : List (Int × Int × Int)} (h : l.length ≤ 1000000000000) : Zb1 l = some l := by
 refine Zd1.1 ?_
 unfold Zb1
 refine Zm (fun r => r = l) ?_ fun r e => by simpa using e
 refine ZS (fun s => 0 ≤ s.2 /\ s.2 ≤ (l.length : Int) /\ s.1 = l.take s.2.toNat) (fun s => ((l.length : Int) - s.2).toNat) ?_ (by simp)
 rintro ⟨m, i⟩ ⟨h0, h1, h2⟩
 dsimp only at h0 h1 h2 ⊢
 subst h2
 simp only [ZbX, Zs, T_G, Zd, Sum.elim_inl, Sum.elim_inr, List.length_take]
 refine ⟨fun hi => ⟨h0, by omega, by omega, ⟨by omega, by omega, (ZcC h0 hi).symm⟩, by omega⟩, fun hi => List.take_of_length_le (by omega)⟩
theorem ZjF {l : List (Int × Int × Int)} (h : l.length ≤ 1000000000000) : Zba l l = some true := by
 refine Zd1.1 ?_
 unfold Zba
 rw [if_pos rfl]
 refine Zcf (fun _ => True) ?_ fun _ _ => by simp
 refine ZS (fun i => 0 ≤ i /\ i ≤ (l.length : Int)) (fun i => ((l.length : Int) - i).toNat) ?_ ⟨by simp, by simp⟩
 rintro i ⟨i0, i1⟩
 unfold Zbd
 simp only [T_G, Zs, Zd9, Zd, Sum.elim_inl, Sum.elim_inr]
 exact ⟨fun hi => ⟨i0, hi, fun _ => ⟨by omega, ⟨by omega, by omega⟩, by omega⟩, fun k => absurd (And.intro trivial (And.intro trivial trivial)) k⟩, fun _ => trivial⟩
end Go.Vd

/-! (OvI) -/

set_option linter.unusedVariables false
set_option linter.unusedSimpArgs false
set_option maxHeartbeats 1000000
namespace Go.Vd
variable {nodes nodes' : List Nod} {alive arcs : Int} {A : List Bool} {L : List OAr} {u v w wt via : Int}
theorem p_In (h : OvR nodes alive arcs A L) {a b : Int} : Za2 nodes a b v = some (inL L v) := by
 unfold Za2
 rw [ZdD h, Option.bind_some]
 by_cases hu : ZJ A v
 ·have hl := h.ln
  have hn := h.nd v hu.1 hu.2.1
  rw [decide_eq_true hu, if_neg (by decide), hn]
  unfold G
  dsimp only
  rw [if_pos ⟨hu.1, by have := hu.2.1; omega⟩, ZjU (h.inLen v)]; rfl
 ·rw [decide_eq_false hu, if_pos (by decide), h.in0 hu]
end Go.Vd

/-! (ShA) -/

set_option linter.unusedVariables false
set_option linter.unusedSimpArgs false
set_option maxHeartbeats 1000000
namespace Go.Vd
variable {nodes : List Nod} {alive arcs : Int} {A : List Bool} {M : List OAr} {u v skip hops settles c N : Int} {a : Hf}
open Classical in
noncomputable def Zh4 (M : List OAr) (skip hops settles most u : Int) : Lab := if h : ∃ Lf, WR (Zc5 M skip) hops settles most 0 (ZdE u) Lf then Classical.choose h else fun _ => none
theorem WR.fin {most : Int} {Lf : Lab} (h : WR (Zc5 M skip) hops settles most 0 (ZdE u) Lf) : Lf = Zh4 M skip hops settles most u := by
 have hx : ∃ Lf, WR (Zc5 M skip) hops settles most 0 (ZdE u) Lf := ⟨Lf, h⟩
 unfold Zh4
 rw [dif_pos hx]
 exact h.uniq (Classical.choose_spec hx)
def Z6 (a : Hf) (l : List Hf) : List (Int × Int × Int) := (l.filter fun b => decide (b.1 ≠ a.1)).map fun b => (a.1, b.1, a.2.1 + b.2.1)
def ZdW (l : List (Int × Int × Int)) : Int := l.foldl (fun m s => max m s.2.2) 0
open Classical in
noncomputable def Zde (M : List OAr) (L : Lab) (s : Int × Int × Int) : Bool := decide (s.2.2 ≤ 140737488355328 /\ far L s.2.1 > s.2.2 /\ ¬ ∃ x ∈ M, x.1 = s.1 /\ x.2.1 = s.2.1 /\ x.2.2.1 ≤ s.2.2)
noncomputable def Zan (M : List OAr) (v hops settles : Int) (a : Hf) : List (Int × Int × Int) :=
 (Z6 a (Zz M v)).filter (Zde M (Zh4 M v hops settles (ZdW (Z6 a (Zz M v))) a.1))
noncomputable def Zb5 (M : List OAr) (v hops settles : Int) : List (Int × Int × Int) := (inL M v).flatMap (Zan M v hops settles)
theorem ZhD {l : List Hf} {b : Hf} : Z6 a (l ++ [b]) = Z6 a l ++ (if b.1 = a.1 then [] else [(a.1, b.1, a.2.1 + b.2.1)]) := by
 unfold Z6
 rw [List.filter_append, List.map_append]
 by_cases e : b.1 = a.1
 ·rw [if_pos e, List.filter_cons, if_neg (by simp [e])]; rfl
 ·rw [if_neg e, List.filter_cons, if_pos (by simp [e])]; rfl
theorem ZhQ {l : List (Int × Int × Int)} {s : Int × Int × Int} : ZdW (l ++ [s]) = max (ZdW l) s.2.2 := by
 unfold ZdW; rw [List.foldl_append]; rfl
theorem Zc8 {l : List Hf} : (Z6 a l).length ≤ l.length := by
 unfold Z6; rw [List.length_map]; exact List.length_filter_le _ _
theorem Zku {L : Lab} {s : Int × Int × Int} {x : Int} {b : Bool} (hM : KD M) (hW : Wt M s.1 s.2.1 x b) : Zde M L s = true ↔ (s.2.2 ≤ 140737488355328 /\ far L s.2.1 > s.2.2 /\ ¬ (b = true /\ x ≤ s.2.2)) := by
 unfold Zde
 rw [decide_eq_true_iff]
 have : (∃ x ∈ M, x.1 = s.1 /\ x.2.1 = s.2.1 /\ x.2.2.1 ≤ s.2.2) ↔ (b = true /\ x ≤ s.2.2) := by
  constructor
  ·rintro ⟨y, y1, y2, y3, y4⟩
   have hy : Wt M s.1 s.2.1 y.2.2.1 true := .inl ⟨rfl, y, y1, y2, y3, rfl⟩
   obtain ⟨rfl, rfl⟩ := hW.uniq hM hy
   exact ⟨rfl, y4⟩
  ·rintro ⟨rfl, h2⟩
   rcases hW with ⟨_, y, y1, y2, y3, y4⟩ | ⟨h, _⟩
   ·exact ⟨y, y1, y2, y3, by omega⟩
   ·cases h
 rw [this]
theorem Zex {E : Type} [Inhabited E] {l : List E} {i : Int} (h0 : 0 ≤ i) (h1 : i < (l.length : Int)) : gt l i ∈ l := by
 unfold gt
 rw [List.getD_eq_getElem?_getD, List.getElem?_eq_getElem (by omega)]
 exact List.getElem_mem _
theorem Zm6 (h : OvR nodes alive arcs A M) (ha : a ∈ inL M v) :
  T (ZN (fun zz_ => Zcg a.1 a.2.1 (Zz M v) zz_.1 zz_.2.1 zz_.2.2.1 zz_.2.2.2) ([], [], 0, 0)) fun r => r = (Z6 a (Zz M v), (Z6 a (Zz M v)).map (fun s => s.2.1), ZdW (Z6 a (Zz M v))) := by
 have hol := h.outLen v
 have hae := h.en _ ((Za3 h.kd).1 ha)
 dsimp only at hae
 refine ZS (fun z => 0 ≤ z.2.2.2 /\ z.2.2.2 ≤ ((Zz M v).length : Int) /\ z.1 = Z6 a ((Zz M v).take z.2.2.2.toNat) /\ z.2.1 = z.1.map (fun s => s.2.1) /\ z.2.2.1 = ZdW z.1) (fun z => (((Zz M v).length : Int) - z.2.2.2).toNat) ?_ ⟨by simp, by simp, by simp [Z6], by simp, by simp [ZdW]⟩
 rintro ⟨op, gl, mo, i⟩ ⟨i0, i1, e1, e2, e3⟩
 dsimp only at *
 have hopl : op.length ≤ (Zz M v).length := by rw [e1]; exact Nat.le_trans Zc8 (by rw [List.length_take]; omega)
 unfold Zcg
 rw [Zs]
 refine ⟨fun hlt => ?_, fun hge => ?_⟩
 rotate_left
 ·simp only [Zd, Sum.elim_inr]
  rw [List.take_of_length_le (by omega)] at e1
  rw [e3, e2, e1]
 have hm : gt (Zz M v) i ∈ Zz M v := by
  unfold gt
  rw [List.getD_eq_getElem?_getD, List.getElem?_eq_getElem (by omega)]
  exact List.getElem_mem _
 have hen := h.en _ ((Z3 h.kd).1 hm)
 have hs := ZcC i0 hlt
 generalize gt (Zz M v) i = b at *
 dsimp only at hen
 have hsn := ZhD (a := a) (l := (Zz M v).take i.toNat) (b := b)
 rw [← hs, ← e1] at hsn
 rw [T_G]
 refine ⟨i0, ?_⟩
 have hgl : gl.length = op.length := by rw [e2, List.length_map]
 rw [Zs]
 refine ⟨fun he => ?_, fun he => ?_⟩
 ·rw [if_pos he, List.append_nil] at hsn
  simp only [T_G, Zd, Sum.elim_inl]
  exact ⟨by omega, ⟨by omega, by omega, hsn.symm, e2, e3⟩, by omega⟩
 ·rw [if_neg he] at hsn
  simp only [T_G, Zd, Sum.elim_inl]
  refine ⟨by omega, by omega, by omega, by omega, by omega, ⟨by omega, by omega, hsn.symm, ?_, ?_⟩, by omega⟩
  ·rw [e2]; simp
  ·rw [ZhQ, e3]
theorem Znu {O : List (Int × Int × Int)} {gl : List Int} {mo : Int} {L : Lab} (h : OvR nodes alive arcs A M) (hO : O.length ≤ 1000000) (hg : ∀ s ∈ O, 0 ≤ s.2.1 /\ s.2.1 < (A.length : Int)) :
  T (ZN (fun zz_ => Zcd nodes alive arcs (O, gl, mo) ((O.map (fun s => s.2.1)).map (far L), Er.nil) zz_.1 zz_.2) ([], 0)) fun r => r = O.filter (Zde M L) := by
 have hsm := h.sm
 refine ZS (fun z => 0 ≤ z.2 /\ z.2 ≤ (O.length : Int) /\ z.1 = (O.take z.2.toNat).filter (Zde M L)) (fun z => ((O.length : Int) - z.2).toNat) ?_ ⟨by simp, by simp, by simp⟩
 rintro ⟨l, i⟩ ⟨i0, i1, e⟩
 dsimp only at *
 have hll : l.length ≤ O.length := by rw [e]; exact Nat.le_trans (List.length_filter_le _ _) (by rw [List.length_take]; omega)
 unfold Zcd
 dsimp only
 rw [Zs]
 refine ⟨fun hlt => ?_, fun hge => ?_⟩
 rotate_left
 ·simp only [Zd, Sum.elim_inr]
  rw [List.take_of_length_le (by omega)] at e
  exact e
 have hm : gt O i ∈ O := Zex i0 hlt
 have hfar : gt ((O.map (fun s => s.2.1)).map (far L)) i = far L (gt O i).2.1 := by
  unfold gt
  rw [List.getD_eq_getElem?_getD, List.getD_eq_getElem?_getD, List.getElem?_map, List.getElem?_map, List.getElem?_eq_getElem (by omega)]; rfl
 have hs := ZcC i0 hlt
 rw [hfar]
 have hlm : ((O.map (fun s => s.2.1)).map (far L)).length = O.length := by rw [List.length_map, List.length_map]
 rw [hlm]
 obtain ⟨q0, q1⟩ := hg _ hm
 generalize gt O i = s at *
 rw [T_G]
 refine ⟨i0, ?_⟩
 refine Zm _ (ZjM (u := s.1) (w := s.2.1) h (by omega) (by omega)) ?_
 rintro ⟨x, b⟩ hW
 have hk := Zku (L := L) h.kd hW
 dsimp only
 have yes : Zde M L s = true -> (O.take (i + 1).toNat).filter (Zde M L) = l ++ [(s.1, s.2.1, s.2.2)] := fun hy => by
  rw [hs, List.filter_append, List.filter_cons, if_pos hy, ← e]; rfl
 have no : ¬ Zde M L s = true -> (O.take (i + 1).toNat).filter (Zde M L) = l := fun hn => by
  rw [hs, List.filter_append, List.filter_cons, if_neg hn, ← e]; simp
 rw [Zs]
 refine ⟨fun c1 => ?_, fun c1 => ?_⟩
 rotate_left
 ·simp only [T_G, Zd, Sum.elim_inl]
  exact ⟨by omega, ⟨by omega, by omega, (no fun k => c1 (hk.1 k).1).symm⟩, by omega⟩
 rw [T_G]
 refine ⟨by omega, ?_⟩
 rw [Zs]
 refine ⟨fun c2 => ?_, fun c2 => ?_⟩
 rotate_left
 ·simp only [T_G, Zd, Sum.elim_inl]
  exact ⟨by omega, ⟨by omega, by omega, (no fun k => c2 (hk.1 k).2.1).symm⟩, by omega⟩
 rw [Zs]
 refine ⟨fun c3 => ?_, fun c3 => ?_⟩
 rotate_left
 ·simp only [T_G, Zd, Sum.elim_inl]
  exact ⟨by omega, by omega, ⟨by omega, by omega, (yes (hk.2 ⟨c1, c2, fun k => c3 k.1⟩)).symm⟩, by omega⟩
 rw [Zs]
 refine ⟨fun c4 => ?_, fun c4 => ?_⟩
 ·simp only [T_G, Zd, Sum.elim_inl]
  exact ⟨by omega, ⟨by omega, by omega, (no fun k => (hk.1 k).2.2 ⟨c3, c4⟩).symm⟩, by omega⟩
 ·simp only [T_G, Zd, Sum.elim_inl]
  exact ⟨by omega, by omega, ⟨by omega, by omega, (yes (hk.2 ⟨c1, c2, fun k => c4 k.2⟩)).symm⟩, by omega⟩
theorem Zhs (h : OvR nodes alive arcs A M) {s : Int × Int × Int} (hs : s ∈ Z6 a (Zz M v)) : ZJ A s.2.1 /\ s.1 = a.1 := by
 unfold Z6 at hs
 obtain ⟨b, hb, rfl⟩ := List.mem_map.1 hs
 have hb' := h.en _ ((Z3 h.kd).1 (List.mem_filter.1 hb).1)
 dsimp only at hb' ⊢
 exact ⟨⟨by omega, by omega, hb'.2.2.2.2.2.1⟩, rfl⟩
theorem Zoa (h : OvR nodes alive arcs A M) (ha : a ∈ inL M v) (hset : settles ≤ 9223372036854775807) : Zdz nodes alive arcs a.1 a.2.1 a.2.2 v (Zz M v) hops settles = some (Zan M v hops settles a) := by
 refine Zd1.1 ?_
 have hol := h.outLen v
 have hae := h.en _ ((Za3 h.kd).1 ha)
 have hopl : (Z6 a (Zz M v)).length ≤ (Zz M v).length := Zc8
 have hok := fun s => Zhs (a := a) (v := v) h (s := s)
 have hsh : Zan M v hops settles a = (Z6 a (Zz M v)).filter (Zde M (Zh4 M v hops settles (ZdW (Z6 a (Zz M v))) a.1)) := rfl
 unfold Zdz
 refine Zm _ (Zm6 h ha) ?_
 rintro _ rfl
 dsimp only
 generalize Z6 a (Zz M v) = O at *
 rw [Zs]
 refine ⟨fun he => ?_, fun he => ?_⟩
 ·simp only [Zd]
  have : O = [] := List.eq_nil_of_length_eq_zero (by rw [List.length_map] at he; omega)
  rw [hsh, this]; rfl
 have hua : ZJ A a.1 := ⟨hae.1, hae.2.1, hae.2.2.2.2.1⟩
 refine Zm _ (ZnU (u := a.1) (skip := v) (hops := hops) (settles := settles) (goals := O.map (fun s => s.2.1)) (most := ZdW O) h (by rw [List.length_map]; omega) hset) ?_
 intro r hr
 cases hr with
 | bad hn => exact absurd hua hn
 | goal k _ k0 k1 hk _ =>
  refine absurd ?_ hk
  obtain ⟨s, hs, e⟩ := List.mem_map.1 (Zex k0 k1)
  rw [← e]; exact (hok s hs).1
 | ok Lf _ _ hR =>
  have hfin := hR.fin
  dsimp only
  rw [if_pos rfl]
  rw [hsh, ← hfin]
  refine Zm _ (Znu (L := Lf) h (by omega) fun s hs => ⟨(hok s hs).1.1, (hok s hs).1.2.1⟩) ?_
  rintro _ rfl
  simp only [Zd]
def bnd (n : Int) : Int := min (max n 0) 1048576
theorem Zly {n : Int} : bnd n ≤ 9223372036854775807 := by unfold bnd; omega
theorem Zga (h : OvR nodes alive arcs A M) {x1 x2 x3 : Int} : T (ZbW nodes alive arcs v hops settles x1 x2 x3) fun r => (¬ ZJ A v /\ r = ([], .no 7)) ∨ (ZJ A v /\ r = (Zb5 M v (bnd hops) (bnd settles), Er.nil)) := by
 have hil := h.inLen v
 unfold ZbW ZdY
 rw [ZdD h, Option.bind_some]
 by_cases hv : ZJ A v
 rotate_left
 ·rw [decide_eq_false hv, if_pos (by decide), Option.bind_some, if_neg (by decide)]
  simp only [Zd]
  exact .inl ⟨hv, trivial⟩
 rw [decide_eq_true hv, if_neg (by decide), Option.bind_some, if_pos rfl]
 unfold Zdo Zcs
 simp only [Option.bind_some]
 rw [Zi1 h, Option.bind_some, p_In h, Option.bind_some]
 refine Zm (fun l => l = Zb5 M v (bnd hops) (bnd settles)) ?_ fun l e => by simp only [Zd]; rw [e]; exact .inr ⟨hv, rfl⟩
 have hfl : ∀ k, k ≤ (inL M v).length -> (((inL M v).take k).flatMap (Zan M v (bnd hops) (bnd settles))).length ≤ k * 1000000 := fun k hk => by
  rw [List.length_flatMap]
  have : ∀ l : List Hf, ((l.map fun a => (Zan M v (bnd hops) (bnd settles) a).length).sum) ≤ l.length * 1000000 := fun l => by
   induction l with
   | nil => simp
   | cons x l ih =>
    have : (Zan M v (bnd hops) (bnd settles) x).length ≤ 1000000 := by
     unfold Zan
     exact Nat.le_trans (List.length_filter_le _ _) (Nat.le_trans Zc8 (h.outLen v))
    simp only [List.map_cons, List.sum_cons, List.length_cons]
    omega
  refine Nat.le_trans (this _) ?_
  rw [List.length_take]
  exact Nat.mul_le_mul_right _ (by omega)
 refine ZS (fun z => 0 ≤ z.2 /\ z.2 ≤ ((inL M v).length : Int) /\ z.1 = ((inL M v).take z.2.toNat).flatMap (Zan M v (bnd hops) (bnd settles))) (fun z => (((inL M v).length : Int) - z.2).toNat) ?_ ⟨by simp, by simp, by simp⟩
 rintro ⟨l, i⟩ ⟨i0, i1, e⟩
 dsimp only at *
 unfold Zcr
 dsimp only
 rw [Zs]
 refine ⟨fun hlt => ?_, fun hge => ?_⟩
 rotate_left
 ·simp only [Zd, Sum.elim_inr]
  rw [List.take_of_length_le (by omega)] at e
  exact e
 have hm : gt (inL M v) i ∈ inL M v := by
  unfold gt
  rw [List.getD_eq_getElem?_getD, List.getElem?_eq_getElem (by omega)]
  exact List.getElem_mem _
 have hs := ZcC i0 hlt
 have hl1 := hfl i.toNat (by omega)
 have hl2 := hfl (i + 1).toNat (by omega)
 rw [← e] at hl1
 have e2 : ((inL M v).take (i + 1).toNat).flatMap (Zan M v (bnd hops) (bnd settles)) = l ++ Zan M v (bnd hops) (bnd settles) (gt (inL M v) i) := by
  rw [hs, List.flatMap_append, ← e]; simp
 rw [e2, List.length_append] at hl2
 rw [T_G]
 refine ⟨i0, ?_⟩
 have hf := Zoa (hops := bnd hops) (settles := bnd settles) h hm Zly
 unfold bnd at hf
 rw [hf, Option.bind_some]
 simp only [T_G, Zd, Sum.elim_inl]
 unfold bnd at hl2 e2
 exact ⟨by omega, by omega, ⟨by omega, by omega, e2.symm⟩, by omega⟩
end Go.Vd

/-! (ShB) -/

set_option linter.unusedVariables false
set_option linter.unusedSimpArgs false
set_option maxHeartbeats 1000000
namespace Go.Vd
variable {nodes : List Nod} {alive arcs : Int} {A : List Bool} {M : List OAr} {u v w skip hops settles c N : Int} {a : Hf}
open Classical in
noncomputable def Zd0 (v : Int) (M : List OAr) (s : Int × Int × Int) : List OAr := if ∃ a ∈ M, a.1 = s.1 /\ a.2.1 = s.2.1 /\ a.2.2.1 ≤ s.2.2 then M else Zej M (s.1, s.2.1, s.2.2, v)
noncomputable def ZkK (M : List OAr) (v hops settles : Int) : List OAr := (Zb5 M v hops settles).foldl (Zd0 v) (Zb4 M v)
theorem OvR.few (h : OvR nodes alive arcs A M) : M.length ≤ A.length * A.length := by
 have hnd : (M.map fun a => a.1 * (A.length : Int) + a.2.1).Nodup := by
  rw [List.nodup_iff_pairwise_ne, List.pairwise_map]
  refine (List.pairwise_iff_forall_sublist.2 fun {x y} hs => ?_)
  have hk := List.pairwise_iff_forall_sublist.1 h.kd hs
  have hx := h.en x (hs.subset (by simp))
  have hy := h.en y (hs.subset (by simp))
  intro e
  apply hk
  have hN : (0 : Int) < A.length := by omega
  have e1 : x.1 = y.1 := by
   rcases Int.lt_trichotomy x.1 y.1 with q | q | q
   ·have : (x.1 + 1) * (A.length : Int) ≤ y.1 * (A.length : Int) := Int.mul_le_mul_of_nonneg_right (by omega) (by omega)
    rw [Int.add_mul, Int.one_mul] at this
    omega
   ·exact q
   ·have : (y.1 + 1) * (A.length : Int) ≤ x.1 * (A.length : Int) := Int.mul_le_mul_of_nonneg_right (by omega) (by omega)
    rw [Int.add_mul, Int.one_mul] at this
    omega
  rw [e1] at e
  exact ⟨e1, by omega⟩
 have := ZiA (N := A.length * A.length) hnd fun z hz => by
  obtain ⟨x, hx, rfl⟩ := List.mem_map.1 hz
  have hx' := h.en x hx
  have h1 : (x.1 + 1) * (A.length : Int) ≤ (A.length : Int) * (A.length : Int) := Int.mul_le_mul_of_nonneg_right (by omega) (by omega)
  have h2 : 0 ≤ x.1 * (A.length : Int) := Int.mul_nonneg hx'.1 (by omega)
  rw [Int.add_mul, Int.one_mul] at h1
  push_cast
  omega
 rwa [List.length_map] at this
theorem Znf (h : OvR nodes alive arcs A M) {s : Int × Int × Int} (hs : s ∈ Zb5 M v hops settles) : ∃ a ∈ inL M v, ∃ b ∈ Zz M v, b.1 ≠ a.1 /\ s = (a.1, b.1, a.2.1 + b.2.1) /\ s.2.2 ≤ 140737488355328 := by
 unfold Zb5 at hs
 obtain ⟨a, ha, hs⟩ := List.mem_flatMap.1 hs
 unfold Zan at hs
 obtain ⟨h1, h2⟩ := List.mem_filter.1 hs
 unfold Z6 at h1
 obtain ⟨b, hb, rfl⟩ := List.mem_map.1 h1
 obtain ⟨hb1, hb2⟩ := List.mem_filter.1 hb
 unfold Zde at h2
 exact ⟨a, ha, b, hb1, of_decide_eq_true hb2, rfl, (of_decide_eq_true h2).1⟩
end Go.Vd

/-! (OvE) -/

set_option linter.unusedVariables false
set_option linter.unusedSimpArgs false
set_option maxHeartbeats 1000000
namespace Go.Vd
variable {nodes nodes' : List Nod} {alive arcs : Int} {A : List Bool} {L : List OAr} {u v w wt via : Int}
inductive RemR (nodes : List Nod) (alive arcs : Int) (A : List Bool) (L : List OAr) (v : Int) : Er × List Nod × Int × Int -> Prop
 | bad : ¬ ZJ A v -> RemR nodes alive arcs A L v (.no 7, nodes, alive, arcs)
 | ok (nodes' : List Nod) : ZJ A v -> OvR nodes' (alive - 1) (arcs - (((Zz L v).length : Int) + (inL L v).length)) (A.set v.toNat false) (Zb4 L v) ->
   RemR nodes alive arcs A L v (.nil, nodes', alive - 1, arcs - (((Zz L v).length : Int) + (inL L v).length))
theorem Zog (h : OvR nodes alive arcs A L) (hv : ZJ A v) : T (ZN (fun zz_ => Zah nodes v zz_.1 zz_.2) (nodes, 0)) fun o =>
  o.length = nodes.length /\ ∀ x, 0 ≤ x -> x < (nodes.length : Int) -> gt o x = ((gt nodes x).1, (gt nodes x).2.1, Zd2 v (gt nodes x).2.2) ∨ (x = v /\ gt o x = gt nodes x) := by
 have hln := h.ln
 have hsm := h.sm
 have hv1 := hv.2.1
 have nv := h.nd v hv.1 hv.2.1
 have eo : (gt nodes v).2.1 = Zz L v := by rw [nv]
 have hol := h.outLen v
 refine ZS (fun z => z.1.length = nodes.length /\ 0 ≤ z.2 /\ z.2 ≤ ((Zz L v).length : Int) /\ ∀ x, 0 ≤ x -> x < (nodes.length : Int) -> (gt z.1 x).1 = (gt nodes x).1 /\ (gt z.1 x).2.1 = (gt nodes x).2.1 /\
   ((∃ k, 0 ≤ k /\ k < z.2 /\ (gt (Zz L v) k).1 = x) -> (gt z.1 x).2.2 = Zd2 v (gt nodes x).2.2) /\ ((∀ k, 0 ≤ k -> k < z.2 -> (gt (Zz L v) k).1 ≠ x) -> (gt z.1 x).2.2 = (gt nodes x).2.2)) (fun z => (((Zz L v).length : Int) - z.2).toNat) ?_
  ⟨rfl, by simp, by simp, fun x _ _ => ⟨rfl, rfl, fun ⟨k, k0, k1, _⟩ => by dsimp only at k1; omega, fun _ => rfl⟩⟩
 rintro ⟨o, i⟩ ⟨ol, i0, i1, ho⟩
 dsimp only at *
 unfold Zah
 rw [eo, Zs]
 refine ⟨fun hlt => ?_, fun hge => ?_⟩
 ·have hm := Ze0 i0 hlt
  obtain ⟨a1, a2, a3, a4, a5, a6, a7, _⟩ := h.en _ ((Z3 h.kd).1 hm)
  dsimp only at *
  obtain ⟨q1, q2, q3, q4⟩ := ho _ a3 (by omega)
  have nx := h.nd _ a3 a4
  have hnv : ∀ k, 0 ≤ k -> k < i -> (gt (Zz L v) k).1 ≠ (gt (Zz L v) i).1 := fun k k0 k1 => by have := (ZcA L v).gt k0 k1 hlt; omega
  have e2 := q4 hnv
  have hwo := ZiD (l := (gt o (gt (Zz L v) i).1).2.2) (v := v) (by rw [e2, nx]; exact Zdl L _) (by rw [e2, nx]; exact h.inB _) (by rw [e2, nx]; exact h.inLen _) hv.1 (by omega)
  simp only [T_G]
  refine ⟨i0, ⟨a3, by omega⟩, fun e => a7 e.symm, ?_⟩
  rw [hwo, Option.bind_some]
  simp only [T_G, Zd, Sum.elim_inl]
  refine ⟨by omega, ⟨by simpa using ol, by omega, by omega, fun x x0 x1 => ?_⟩, by omega⟩
  rw [ZcU a3 (by omega) x0]
  by_cases e : x = (gt (Zz L v) i).1
  ·rw [if_pos e, e]
   refine ⟨q1, q2, fun _ => by rw [e2], fun hn => absurd rfl (hn i i0 (by omega))⟩
  ·rw [if_neg e]
   obtain ⟨r1, r2, r3, r4⟩ := ho x x0 x1
   refine ⟨r1, r2, fun ⟨k, k0, k1, ke⟩ => r3 ⟨k, k0, ?_, ke⟩, fun hn => r4 fun k k0 k1 => hn k k0 (by omega)⟩
   by_cases q : k = i
   ·rw [q] at ke; exact absurd ke.symm e
   ·omega
 ·simp only [Zd, Sum.elim_inr]
  refine ⟨ol, fun x x0 x1 => ?_⟩
  obtain ⟨r1, r2, r3, r4⟩ := ho x x0 x1
  by_cases hk : ∃ k, 0 ≤ k /\ k < i /\ (gt (Zz L v) k).1 = x
  ·exact .inl (Prod.ext r1 (Prod.ext r2 (r3 hk)))
  ·have e := r4 fun k k0 k1 ke => hk ⟨k, k0, k1, ke⟩
   refine .inl (Prod.ext r1 (Prod.ext r2 (e.trans ?_)))
   rw [h.nd x x0 (by omega)]
   refine (Zgy fun y hy hyv => hk ?_).symm
   have hm := (Za3 h.kd).1 hy
   rw [hyv] at hm
   obtain ⟨k, k0, k1, ke⟩ := ZdB ((Z3 h.kd).2 hm)
   exact ⟨k, k0, by omega, by rw [← ke]⟩
theorem ZnM (h : OvR nodes alive arcs A L) (hv : ZJ A v) {o1 : List Nod} (l1 : o1.length = nodes.length) (h1 : ∀ x, 0 ≤ x -> x < (nodes.length : Int) -> (gt o1 x).2.1 = (gt nodes x).2.1) : T (ZN (fun zz_ => Zaf nodes v zz_.1 zz_.2) (o1, 0)) fun o =>
  o.length = nodes.length /\ ∀ x, 0 ≤ x -> x < (nodes.length : Int) -> gt o x = ((gt o1 x).1, Zd2 v (gt nodes x).2.1, (gt o1 x).2.2) := by
 have hln := h.ln
 have hsm := h.sm
 have hv1 := hv.2.1
 have nv := h.nd v hv.1 hv.2.1
 have eo : (gt nodes v).2.2 = inL L v := by rw [nv]
 have hol := h.inLen v
 refine ZS (fun z => z.1.length = nodes.length /\ 0 ≤ z.2 /\ z.2 ≤ ((inL L v).length : Int) /\ ∀ x, 0 ≤ x -> x < (nodes.length : Int) -> (gt z.1 x).1 = (gt o1 x).1 /\ (gt z.1 x).2.2 = (gt o1 x).2.2 /\
   ((∃ k, 0 ≤ k /\ k < z.2 /\ (gt (inL L v) k).1 = x) -> (gt z.1 x).2.1 = Zd2 v (gt nodes x).2.1) /\ ((∀ k, 0 ≤ k -> k < z.2 -> (gt (inL L v) k).1 ≠ x) -> (gt z.1 x).2.1 = (gt nodes x).2.1)) (fun z => (((inL L v).length : Int) - z.2).toNat) ?_
  ⟨l1, by simp, by simp, fun x x0 x1 => ⟨rfl, rfl, fun ⟨k, k0, k1, _⟩ => by dsimp only at k1; omega, fun _ => h1 x x0 x1⟩⟩
 rintro ⟨o, i⟩ ⟨ol, i0, i1, ho⟩
 dsimp only at *
 unfold Zaf
 rw [eo, Zs]
 refine ⟨fun hlt => ?_, fun hge => ?_⟩
 ·have hm := Ze0 i0 hlt
  obtain ⟨a1, a2, a3, a4, a5, a6, a7, _⟩ := h.en _ ((Za3 h.kd).1 hm)
  dsimp only at *
  obtain ⟨q1, q2, q3, q4⟩ := ho _ a1 (by omega)
  have nx := h.nd _ a1 a2
  have hnv : ∀ k, 0 ≤ k -> k < i -> (gt (inL L v) k).1 ≠ (gt (inL L v) i).1 := fun k k0 k1 => by have := (Zdl L v).gt k0 k1 hlt; omega
  have e2 := q4 hnv
  have hwo := ZiD (l := (gt o (gt (inL L v) i).1).2.1) (v := v) (by rw [e2, nx]; exact ZcA L _) (by rw [e2, nx]; exact h.outB _) (by rw [e2, nx]; exact h.outLen _) hv.1 (by omega)
  simp only [T_G]
  refine ⟨i0, ⟨a1, by omega⟩, a7, ?_⟩
  rw [hwo, Option.bind_some]
  simp only [T_G, Zd, Sum.elim_inl]
  refine ⟨by omega, ⟨by simpa using ol, by omega, by omega, fun x x0 x1 => ?_⟩, by omega⟩
  rw [ZcU a1 (by omega) x0]
  by_cases e : x = (gt (inL L v) i).1
  ·rw [if_pos e, e]
   refine ⟨q1, q2, fun _ => by rw [e2], fun hn => absurd rfl (hn i i0 (by omega))⟩
  ·rw [if_neg e]
   obtain ⟨r1, r2, r3, r4⟩ := ho x x0 x1
   refine ⟨r1, r2, fun ⟨k, k0, k1, ke⟩ => r3 ⟨k, k0, ?_, ke⟩, fun hn => r4 fun k k0 k1 => hn k k0 (by omega)⟩
   by_cases q : k = i
   ·rw [q] at ke; exact absurd ke.symm e
   ·omega
 ·simp only [Zd, Sum.elim_inr]
  refine ⟨ol, fun x x0 x1 => ?_⟩
  obtain ⟨r1, r2, r3, r4⟩ := ho x x0 x1
  by_cases hk : ∃ k, 0 ≤ k /\ k < i /\ (gt (inL L v) k).1 = x
  ·exact Prod.ext r1 (Prod.ext (r3 hk) r2)
  ·have e := r4 fun k k0 k1 ke => hk ⟨k, k0, k1, ke⟩
   refine Prod.ext r1 (Prod.ext (e.trans ?_) r2)
   rw [h.nd x x0 (by omega)]
   refine (Zgy fun y hy hyv => hk ?_).symm
   have hm := (Z3 h.kd).1 hy
   have hm' : (x, v, y.2) ∈ L := by rw [← hyv]; exact hm
   obtain ⟨k, k0, k1, ke⟩ := ZdB ((Za3 (x := (x, y.2)) h.kd).2 hm')
   exact ⟨k, k0, by omega, by rw [← ke]⟩
theorem Zi6 (h : OvR nodes alive arcs A L) : T (Zaw nodes alive arcs v) (RemR nodes alive arcs A L v) := by
 unfold Zaw
 rw [ZdD h, Option.bind_some]
 by_cases hv : ZJ A v
 ·rw [decide_eq_true hv, if_neg (by decide)]
  have hln := h.ln
  have hv1 := hv.2.1
  have nv := h.nd v hv.1 hv1
  have hsm := h.sm
  have har := h.ar
  have hal := h.al
  have hlb := h.lb
  have ho := h.outLen v
  have hi := h.inLen v
  have hfl : (A.filter id).length ≤ A.length := List.length_filter_le _ _
  simp only [T_G]
  refine ⟨⟨hv.1, by omega⟩, ?_⟩
  refine Zm _ (Zog h hv) ?_
  rintro o1 ⟨l1, e1⟩
  refine Zm _ (ZnM h hv l1 fun x x0 x1 => ?_) ?_
  ·rcases e1 x x0 x1 with e | ⟨_, e⟩ <;> rw [e]
  rintro o2 ⟨l2, e2⟩
  have x1 : (gt nodes v).2.1 = Zz L v := by rw [nv]
  have x2 : (gt nodes v).2.2 = inL L v := by rw [nv]
  rw [x1, x2]
  simp only [T_G, Zd]
  refine ⟨by omega, by omega, by omega, by omega, .ok _ hv (h.rem hv.1 hv1 hv.2.2 (by rw [List.length_set, l2]) fun x x0 x1 => ?_)⟩
  rw [ZcU hv.1 (by omega) x0]
  by_cases q : x = v
  ·rw [if_pos q, if_pos q]
  ·rw [if_neg q, if_neg q, e2 x x0 (by omega)]
   rcases e1 x x0 (by omega) with e | ⟨e, _⟩
   ·rw [e]
   ·exact absurd e q
 ·rw [decide_eq_false hv, if_pos (by decide)]
  simp only [Zd]
  exact .bad hv
inductive NewR (N : Int) (Arcs : List A3) : Er ⊕ (List Nod × Int × Int) -> Prop
 | bad (er : Er) : GChk N Arcs er -> er ≠ .nil -> NewR N Arcs (.inl er)
 | ok (M : List A3) (nodes : List Nod) : GChk N Arcs .nil -> Nrm Arcs M -> M.length ≤ Arcs.length -> OvR nodes N (M.length : Int) (List.replicate N.toNat true) (M.map up4) -> NewR N Arcs (.inr (nodes, N, (M.length : Int)))
theorem ZfH {n : Nat} {x : Int} (x0 : 0 ≤ x) (x1 : x < (n : Int)) {E : Type} [Inhabited E] {e : E} : gt (List.replicate n e) x = e := by
 unfold gt
 rw [List.getD_eq_getElem?_getD, List.getElem?_replicate, if_pos (by omega)]; rfl
theorem ZmM {N : Int} {Arcs : List A3} : T (Zc7 N Arcs) (NewR N Arcs) := by
 unfold Zc7
 refine Zm _ p_Of ?_
 rintro ⟨n, M, er⟩ hO
 dsimp only at *
 cases hO with
 | bad _ hc hne => rw [if_neg hne]; simp only [Zd]; exact .bad er hc hne
 | ok _ hc hM hMl =>
  rw [if_pos rfl]
  obtain ⟨n0, n1, n2⟩ := hc.small
  have hb : ∀ a ∈ M, 0 ≤ a.1 /\ a.1 < N /\ 0 ≤ a.2.1 /\ a.2.1 < N /\ 0 ≤ a.2.2 /\ a.2.2 ≤ 2147483647 /\ a.1 ≠ a.2.1 := fun a ha => by
   obtain ⟨s1, s2, _⟩ := hM.sub a ha
   have := hc.arcs a s1
   omega
  simp only [T_G]
  refine ⟨by omega, ?_⟩
  have hinc : ∀ i j : Int, 0 ≤ i -> i < j -> j < (M.length : Int) -> ltk (gt M i) (gt M j) := fun i j i0 ij j1 => by
   have := List.pairwise_iff_getElem.1 hM.inc i.toNat j.toNat (by omega) (by omega) (by omega)
   have e : ∀ {n : Int}, 0 ≤ n -> (h : n < (M.length : Int)) -> gt M n = M[n.toNat]'(by omega) := fun {n} q0 q1 => by
    unfold gt
    rw [List.getD_eq_getElem?_getD, List.getElem?_eq_getElem (by omega)]; rfl
   rw [e i0 (by omega), e (by omega) j1]; exact this
  refine Zm (fun o => o.length = N.toNat /\ ∀ x, 0 ≤ x -> x < N -> gt o x = (false, Zz (M.map up4) x, inL (M.map up4) x)) ?_ ?_
  ·refine ZS (fun z => 0 ≤ z.1 /\ z.1 ≤ (M.length : Int) /\ z.2.length = N.toNat /\ ∀ x, 0 ≤ x -> x < N -> gt z.2 x = (false, Zz ((M.take z.1.toNat).map up4) x, inL ((M.take z.1.toNat).map up4) x)) (fun z => ((M.length : Int) - z.1).toNat) ?_
    ⟨by simp, by simp, by simp, fun x x0 x1 => by rw [ZfH x0 (by omega)]; rfl⟩
   rintro ⟨i, o⟩ ⟨i0, i1, ol, ho⟩
   dsimp only at *
   unfold ZcY
   dsimp only
   rw [Zs]
   refine ⟨fun hlt => ?_, fun hge => ?_⟩
   ·have hm : gt M i ∈ M := by
     unfold gt
     rw [List.getD_eq_getElem?_getD, List.getElem?_eq_getElem (by omega)]
     exact List.getElem_mem _
    obtain ⟨b1, b2, b3, b4, b5, b6, b7⟩ := hb _ hm
    have hkd : KD ((M.take i.toNat).map up4) := KD.up (hM.inc.sublist (List.take_sublist _ _))
    have lt1 : (Zz ((M.take i.toNat).map up4) (gt M i).1).length ≤ 262144 := by
     have := ZgY hkd (gt M i).1
     rw [List.length_map, List.length_take] at this; omega
    have lt2 : (inL ((M.take i.toNat).map up4) (gt M i).2.1).length ≤ 262144 := by
     have := ZhX hkd (gt M i).2.1
     rw [List.length_map, List.length_take] at this; omega
    have hprev : ∀ a ∈ (M.take i.toNat).map up4, a.1 < (gt M i).1 ∨ (a.1 = (gt M i).1 /\ a.2.1 < (gt M i).2.1) := fun a ha => by
     obtain ⟨b, hb, rfl⟩ := List.mem_map.1 ha
     obtain ⟨j, j0, j1, rfl⟩ := Zfq (l := M) i1 hb
     exact hinc j i j0 j1 hlt
    have eu := ho (gt M i).1 b1 b2
    have ew := ho (gt M i).2.1 b3 b4
    have hs : ∀ (z : Nod), gt (o.set ((gt M i).1).toNat z) (gt M i).2.1 = gt o (gt M i).2.1 := fun z => by rw [ZcU b1 (by omega) b3, if_neg (fun e => b7 e.symm)]
    simp only [T_G, Zd, Sum.elim_inl, List.length_set, hs, eu, ew]
    refine ⟨i0, ⟨b1, by omega⟩, ⟨b5, by omega⟩, by omega, ⟨b3, by omega⟩, by omega, by omega, by omega, ⟨by omega, by omega, by simpa using ol, fun x x0 x1 => ?_⟩, by omega⟩
    have hnext : (M.take (i + 1).toNat).map up4 = (M.take i.toNat).map up4 ++ [up4 (gt M i)] := by rw [Za7 i0 hlt, List.map_append]; rfl
    rw [hnext, Ziu, ZjO, ZcU b3 (by rw [List.length_set]; omega) x0, ZcU b1 (by omega) x0, ho x x0 x1]
    show _ = (false, (if x = (gt M i).1 then ZcP ((gt M i).2.1, (gt M i).2.2, -1) _ else _), (if x = (gt M i).2.1 then ZcP ((gt M i).1, (gt M i).2.2, -1) _ else _))
    by_cases q : x = (gt M i).2.1
    ·have q2 : ¬ x = (gt M i).1 := fun e => b7 (e.symm.trans q)
     rw [if_pos q, if_neg q2, if_pos q, ← q]
     rw [ZjA fun y hy => ?_]
     have := hprev _ ((Za3 hkd).1 hy)
     dsimp only at this ⊢
     omega
    ·rw [if_neg q, if_neg q]
     by_cases q2 : x = (gt M i).1
     ·rw [if_pos q2, if_pos q2, ← q2]
      rw [ZjA fun y hy => ?_]
      have := hprev _ ((Z3 hkd).1 hy)
      dsimp only at this ⊢
      omega
     ·rw [if_neg q2, if_neg q2]
   ·simp only [Zd, Sum.elim_inr]
    refine ⟨ol, fun x x0 x1 => ?_⟩
    rw [ho x x0 x1, List.take_of_length_le (by omega)]
  ·rintro o ⟨ol, ho⟩
   simp only [Zd]
   refine .ok M o hc hM hMl ⟨by rw [ol, List.length_replicate], by rw [List.length_replicate]; omega, KD.up hM.inc, fun a ha => ?_, fun x x0 x1 => ?_, ?_, by rw [List.length_map], by rw [List.length_map]; omega⟩
   ·obtain ⟨b, hb', rfl⟩ := List.mem_map.1 ha
    obtain ⟨b1, b2, b3, b4, b5, b6, b7⟩ := hb b hb'
    have hl : ((List.replicate N.toNat true).length : Int) = N := by rw [List.length_replicate]; omega
    rw [hl]
    show 0 ≤ b.1 /\ b.1 < N /\ 0 ≤ b.2.1 /\ b.2.1 < N /\ gt _ b.1 = true /\ gt _ b.2.1 = true /\ b.1 ≠ b.2.1 /\ 0 ≤ b.2.2 /\ b.2.2 ≤ _ /\ -1 ≤ (-1 : Int) /\ (-1 : Int) < N
    exact ⟨b1, b2, b3, b4, ZfH b1 (by omega), ZfH b3 (by omega), b7, b5, by omega, by omega, by omega⟩
   ·rw [List.length_replicate] at x1
    rw [ho x x0 (by omega), ZfH x0 (by omega)]; rfl
   ·rw [List.filter_eq_self.2 fun x hx => by rw [(List.mem_replicate.1 hx).2]; rfl, List.length_replicate]; omega
end Go.Vd

/-! (ShC) -/

set_option linter.unusedVariables false
set_option linter.unusedSimpArgs false
set_option maxHeartbeats 1000000
namespace Go.Vd
variable {nodes : List Nod} {alive arcs : Int} {A : List Bool} {M : List OAr} {u v w skip hops settles c N : Int} {a : Hf}
theorem ZnK {nd : List Nod} {al ar : Int} {B : List Bool} {M1 : List OAr} (h : OvR nd al ar B M1) {s : Int × Int × Int} (hc : ZdF B s.1 s.2.1 s.2.2 v = 0) {r : Bool × Er × List Nod × Int} (hr : PutR nd al ar B M1 s.1 s.2.1 s.2.2 v r) : r.2.1 = .nil /\ OvR r.2.2.1 al r.2.2.2 B (Zd0 v M1 s) := by
 cases hr with
 | bad hn => exact absurd hc hn
 | less x _ hx e1 e2 e3 =>
  refine ⟨rfl, ?_⟩
  unfold Zd0
  rw [if_pos ⟨x, hx, e1, e2, e3⟩]; exact h
 | put nd' ar' _ hn h' =>
  refine ⟨rfl, ?_⟩
  unfold Zd0
  rw [if_neg]
  ·exact h'
  ·rintro ⟨x, hx, e1, e2, e3⟩
   have := hn x hx e1 e2
   omega
inductive CtrR (nodes : List Nod) (alive arcs : Int) (A : List Bool) (M : List OAr) (v hops settles : Int) : List (Int × Int × Int) × Er × List Nod × Int × Int -> Prop
 | bad : ¬ ZJ A v -> CtrR nodes alive arcs A M v hops settles ([], .no 7, nodes, alive, arcs)
 | ok (nd : List Nod) (al ar : Int) : ZJ A v -> OvR nd al ar (A.set v.toNat false) (ZkK M v (bnd hops) (bnd settles)) -> CtrR nodes alive arcs A M v hops settles (Zb5 M v (bnd hops) (bnd settles), .nil, nd, al, ar)
theorem Zk4 (h : OvR nodes alive arcs A M) (hN : A.length ≤ 900) {x1 x2 x3 : Int} : T (ZcJ nodes alive arcs v hops settles x1 x2 x3) (CtrR nodes alive arcs A M v hops settles) := by
 unfold ZcJ
 refine Zm _ (Zga h) ?_
 rintro r (⟨hv, rfl⟩ | ⟨hv, rfl⟩)
 ·dsimp only
  rw [if_neg (by decide)]
  simp only [Zd]
  exact .bad hv
 dsimp only
 rw [if_pos rfl]
 refine Zm _ (Zi6 (v := v) h) ?_
 intro r hr
 cases hr with
 | bad hn => exact absurd hv hn
 | ok o' hv' h' =>
  dsimp only
  rw [if_pos rfl]
  generalize hl : Zb5 M v (bnd hops) (bnd settles) = l
  have hok : ∀ s ∈ l, ZdF (A.set v.toNat false) s.1 s.2.1 s.2.2 v = 0 /\ 0 ≤ s.2.2 /\ -9223372036854775808 ≤ s.2.1 /\ s.2.1 ≤ 9223372036854775807 := fun s hs => by
   rw [← hl] at hs
   obtain ⟨a, ha, b, hb, hne, rfl, hle⟩ := Znf h hs
   have ha' := h.en _ ((Za3 h.kd).1 ha)
   have hb' := h.en _ ((Z3 h.kd).1 hb)
   dsimp only at ha' hb' hle ⊢
   have hsm := h.sm
   have lv : ∀ x, 0 ≤ x -> x < (A.length : Int) -> gt A x = true -> x ≠ v -> ZJ (A.set v.toNat false) x := fun x x0 x1 hx hxv => ⟨x0, by simpa using x1, by rw [ZfR hv.1 hv.2.1 x0, if_neg hxv]; exact hx⟩
   have l1 := lv a.1 ha'.1 ha'.2.1 ha'.2.2.2.2.1 ha'.2.2.2.2.2.2.1
   have l2 := lv b.1 hb'.2.2.1 hb'.2.2.2.1 hb'.2.2.2.2.2.1 (fun e => hb'.2.2.2.2.2.2.1 e.symm)
   refine ⟨?_, by omega, by omega, by omega⟩
   unfold ZdF
   rw [if_neg (fun k => k ⟨l1, l2⟩), if_neg (fun e => hne e.symm), if_neg (by omega), if_neg]
   rintro (q | q | ⟨q, q2⟩)
   ·have := hv.1; omega
   ·rw [List.length_set] at q; have := hv.2.1; omega
   ·have := q2.2.2
    rw [ZfR hv.1 hv.2.1 hv.1, if_pos rfl] at this
    cases this
  have hll : l.length ≤ 1000000000000 := by
   rw [← hl]; unfold Zb5
   rw [List.length_flatMap]
   have : ∀ l : List Hf, ((l.map fun a => (Zan M v (bnd hops) (bnd settles) a).length).sum) ≤ l.length * 1000000 := fun l => by
    induction l with
    | nil => simp
    | cons x l ih =>
     have : (Zan M v (bnd hops) (bnd settles) x).length ≤ 1000000 := by
      unfold Zan
      exact Nat.le_trans (List.length_filter_le _ _) (Nat.le_trans Zc8 (h.outLen v))
     simp only [List.map_cons, List.sum_cons, List.length_cons]
     omega
   have := this (inL M v)
   have h2 := h.inLen v
   omega
  refine Zcf (fun r => OvR r.1 (alive - 1) r.2 (A.set v.toNat false) (l.foldl (Zd0 v) (Zb4 M v))) ?_ ?_
  ·refine ZS (fun z => 0 ≤ z.2.2 /\ z.2.2 ≤ (l.length : Int) /\ OvR z.1 (alive - 1) z.2.1 (A.set v.toNat false) ((l.take z.2.2.toNat).foldl (Zd0 v) (Zb4 M v))) (fun z => ((l.length : Int) - z.2.2).toNat) ?_ ⟨by simp, by simp, h'⟩
   rintro ⟨o, ar, i⟩ ⟨i0, i1, ho⟩
   dsimp only at *
   unfold ZbV
   dsimp only
   rw [Zs]
   refine ⟨fun hlt => ?_, fun hge => ?_⟩
   rotate_left
   ·simp only [Zd, Sum.elim_inr]
    rw [List.take_of_length_le (by omega)] at ho
    exact ho
   have hm : gt l i ∈ l := Zex i0 hlt
   have hs := ZcC i0 hlt
   obtain ⟨k1, k2, k3, k4⟩ := hok _ hm
   generalize gt l i = s at *
   have hfew := ho.few
   have hsq : (A.set v.toNat false).length * (A.set v.toNat false).length ≤ 900 * 900 := by
    rw [List.length_set]; exact Nat.mul_le_mul hN hN
   rw [T_G]
   refine ⟨i0, ?_⟩
   refine Zm _ (Zl2 (u := s.1) (w := s.2.1) (wt := s.2.2) (via := v) ho (by omega) k3 k4 k2) ?_
   rintro ⟨b, er, o2, ar2⟩ hr
   obtain ⟨e1, e2⟩ := ZnK ho k1 hr
   dsimp only at e1 e2 ⊢
   rw [if_pos e1]
   simp only [T_G, Zd, Sum.elim_inl]
   refine ⟨by omega, ⟨by omega, by omega, ?_⟩, by omega⟩
   rw [hs, List.foldl_append]; exact e2
  ·rintro ⟨o2, ar2⟩ h2
   simp only [Zd]
   have := CtrR.ok (nodes := nodes) (alive := alive) (arcs := arcs) (M := M) (hops := hops) (settles := settles) o2 (alive - 1) ar2 hv (by unfold ZkK; rw [hl]; exact h2)
   rw [hl] at this; exact this
end Go.Vd

/-! (WtR) -/

set_option linter.unusedVariables false
set_option linter.unusedSimpArgs false
namespace Go.Vd
abbrev BSw := List Int × List Int × List Bool
def ZkO (n : Int) (S : List Bool) (st : BSw) (v : Int) : Prop :=
 0 ≤ v /\ v < n /\ gt st.2.2 v = true /\ ¬ gt S v = true /\ ∀ x, 0 ≤ x -> x < n -> gt st.2.2 x = true -> ¬ gt S x = true -> gt st.1 v < gt st.1 x ∨ (gt st.1 v = gt st.1 x /\ v ≤ x)
def Zh7 (n : Int) (S : List Bool) (st : BSw) : Prop := ∀ x, 0 ≤ x -> x < n -> gt st.2.2 x = true -> gt S x = true
theorem Zkt {E : Type} [Inhabited E] {n : Nat} {x : Int} : gt (List.replicate n (default : E)) x = default := by
 unfold gt
 rw [List.getD_eq_getElem?_getD, List.getElem?_replicate]
 split <;> rfl
variable {L L' : Lab} {row : Int -> List (Int × Int)} {hops settles most c n v s : Int} {y : Int × Int × Int} {ss : List Int} {S : List Bool} {st : BSw}
def Zay (n : Int) (st : BSw) (S : List Bool) : Lab := fun x => if 0 ≤ x /\ x < n /\ gt st.2.2 x = true then some (gt st.1 x, gt st.2.1 x, if gt S x = true then 1 else 0) else none
theorem ZkP (h : ZkO n S st v) : WPick (Zay n st S) v (gt st.1 v, gt st.2.1 v, 0) := by
 obtain ⟨v0, v1, h1, h2, h3⟩ := h
 refine ⟨by unfold Zay; rw [if_pos ⟨v0, v1, h1⟩, if_neg h2], rfl, fun x z hz h0 => ?_⟩
 unfold Zay at hz
 split at hz
 ·rename_i hx
  cases hz
  dsimp only at h0 ⊢
  exact h3 x hx.1 hx.2.1 hx.2.2 fun hs => by rw [if_pos hs] at h0; cases h0
 ·cases hz
theorem Zmz (h : Zh7 n S st) : WNo (Zay n st S) := fun x z hz h0 => by
 unfold Zay at hz
 split at hz
 ·rename_i hx
  cases hz
  dsimp only at h0
  rw [if_pos (h x hx.1 hx.2.1 hx.2.2)] at h0
  cases h0
 ·cases hz
structure BL (n : Int) (st : BSw) (S : List Bool) : Prop where
 lD : (st.1.length : Int) = n
 lH : (st.2.1.length : Int) = n
 lA : (st.2.2.length : Int) = n
 lS : (S.length : Int) = n
 sd : ∀ x, 0 ≤ x -> x < n -> gt S x = true -> gt st.2.2 x = true
theorem Zm8 {Ds Hs : List Int} {Has St : List Bool} (lD : (Ds.length : Int) = n) (lA : (Has.length : Int) = n) (lS : (St.length : Int) = n) (hn : n ≤ 1000000) :
  T (ZaE Ds Hs Has St) fun v => (v = -1 /\ Zh7 n St (Ds, Hs, Has)) ∨ ZkO n St (Ds, Hs, Has) v := by
 unfold ZaE
 rw [ZgE]
 refine ZnL (Q := fun v => (v = -1 /\ Zh7 n St (Ds, Hs, Has)) ∨ ZkO n St (Ds, Hs, Has) v) ?_ fun v h => by simpa using h
 refine ZS (fun z => 0 ≤ z.2 /\ z.2 ≤ n /\ ((z.1 = -1 /\ ∀ x, 0 ≤ x -> x < z.2 -> gt Has x = true -> gt St x = true) ∨ (0 ≤ z.1 /\ z.1 < z.2 /\ gt Has z.1 = true /\ ¬ gt St z.1 = true /\ ∀ x, 0 ≤ x -> x < z.2 -> gt Has x = true -> ¬ gt St x = true -> gt Ds z.1 < gt Ds x ∨ (gt Ds z.1 = gt Ds x /\ z.1 ≤ x)))) (fun z => (n - z.2).toNat) ?_ ⟨by simp, by simp; omega, .inl ⟨rfl, fun x x0 x1 => by dsimp only at x1; omega⟩⟩
 rintro ⟨at_, i⟩ ⟨i0, i1, h⟩
 dsimp only at *
 unfold Zao
 rw [Zs]
 refine ⟨fun hi => ?_, fun hi => ?_⟩
 ·have next1 : (¬ (gt Has i = true /\ ¬ gt St i = true)) -> ((at_ = -1 /\ ∀ x, 0 ≤ x -> x < i + 1 -> gt Has x = true -> gt St x = true) ∨ (0 ≤ at_ /\ at_ < i + 1 /\ gt Has at_ = true /\ ¬ gt St at_ = true /\ ∀ x, 0 ≤ x -> x < i + 1 -> gt Has x = true -> ¬ gt St x = true -> gt Ds at_ < gt Ds x ∨ (gt Ds at_ = gt Ds x /\ at_ ≤ x))) := fun hn => by
   rcases h with ⟨h1, h2⟩ | ⟨h1, h2, h3, h4, h5⟩
   ·refine .inl ⟨h1, fun x x0 x1 hx => ?_⟩
    by_cases e : x = i
    ·subst e; exact Classical.not_not.1 fun k => hn ⟨hx, k⟩
    ·exact h2 x x0 (by omega) hx
   ·refine .inr ⟨h1, by omega, h3, h4, fun x x0 x1 hx hs => ?_⟩
    by_cases e : x = i
    ·subst e; exact absurd ⟨hx, hs⟩ hn
    ·exact h5 x x0 (by omega) hx hs
  simp only [Zs, T_G, Zd, Sum.elim_inl]
  refine ⟨i0, fun hA => ⟨by omega, fun hS => ⟨fun ha => ?_, fun ha => ?_⟩, fun hS => ?_⟩, fun hA => ?_⟩
  ·rcases h with ⟨h1, h2⟩ | ⟨h1, _⟩
   ·refine ⟨by omega, ⟨by omega, by omega, .inr ⟨i0, by omega, hA, by simpa using hS, fun x x0 x1 hx hs => ?_⟩⟩, by omega⟩
    by_cases e : x = i
    ·subst e; exact .inr ⟨rfl, Int.le_refl _⟩
    ·exact absurd (h2 x x0 (by omega) hx) hs
   ·omega
  ·rcases h with ⟨h1, h2⟩ | ⟨h1, h2, h3, h4, h5⟩
   ·omega
   refine ⟨by omega, by omega, fun hlt => ⟨by omega, ⟨by omega, by omega, .inr ⟨i0, by omega, hA, by simpa using hS, fun x x0 x1 hx hs => ?_⟩⟩, by omega⟩, fun hge => ⟨by omega, ⟨by omega, by omega, .inr ⟨h1, by omega, h3, h4, fun x x0 x1 hx hs => ?_⟩⟩, by omega⟩⟩
   ·by_cases e : x = i
    ·subst e; exact .inr ⟨rfl, Int.le_refl _⟩
    ·have := h5 x x0 (by omega) hx hs; omega
   ·by_cases e : x = i
    ·subst e; omega
    ·exact h5 x x0 (by omega) hx hs
  ·exact ⟨by omega, ⟨by omega, by omega, next1 fun k => k.2 (by simpa using hS)⟩, by omega⟩
  ·exact ⟨by omega, ⟨by omega, by omega, next1 fun k => hA k.1⟩, by omega⟩
 ·simp only [Zd, Sum.elim_inr]
  have e : i = n := by omega
  subst e
  rcases h with ⟨h1, h2⟩ | ⟨h1, h2, h3, h4, h5⟩
  ·exact .inl ⟨h1, h2⟩
  ·exact .inr ⟨h1, h2, h3, h4, h5⟩
theorem Znh {E : Type} [Inhabited E] {l : List E} {i : Int} (h0 : 0 ≤ i) (h1 : i < (l.length : Int)) : gt l i ∈ l := by
 unfold gt
 rw [List.getD_eq_getElem?_getD, List.getElem?_eq_getElem (by omega)]
 exact List.getElem_mem _
theorem ZlF (h : BL n st S) {a : Int × Int} (a0 : 0 ≤ a.1) (a1 : a.1 < n) (d hp : Int) :
  ZdM d hp (Zay n st S) a = if ¬ gt S a.1 = true /\ (¬ gt st.2.2 a.1 = true ∨ d + a.2 < gt st.1 a.1) then Zay n (st.1.set a.1.toNat (d + a.2), st.2.1.set a.1.toNat (hp + 1), st.2.2.set a.1.toNat true) S else Zay n st S := by
 obtain ⟨lD, lH, lA, lS, sd⟩ := h
 have hs := sd a.1 a0 a1
 have eo : opn (Zay n st S) a.1 (d + a.2) ↔ (¬ gt S a.1 = true /\ (¬ gt st.2.2 a.1 = true ∨ d + a.2 < gt st.1 a.1)) := by
  unfold opn Zay
  by_cases hA : gt st.2.2 a.1 = true
  ·rw [if_pos ⟨a0, a1, hA⟩]
   dsimp only
   by_cases hS : gt S a.1 = true
   ·rw [if_pos hS]; simp [hS]
   ·rw [if_neg hS]; simp [hA, hS]
  ·rw [if_neg fun k => hA k.2.2]
   have : ¬ gt S a.1 = true := fun k => hA (hs k)
   simp [hA, this]
 unfold ZdM
 by_cases ho : opn (Zay n st S) a.1 (d + a.2)
 ·have ho' := eo.1 ho
  rw [if_pos ho, if_pos ho']
  funext x
  have g1 : 0 ≤ x -> gt (st.1.set a.1.toNat (d + a.2)) x = if x = a.1 then d + a.2 else gt st.1 x := fun x0 => Zdm a0 (by omega) x0
  have g2 : 0 ≤ x -> gt (st.2.1.set a.1.toNat (hp + 1)) x = if x = a.1 then hp + 1 else gt st.2.1 x := fun x0 => Zdm a0 (by omega) x0
  have g3 : 0 ≤ x -> gt (st.2.2.set a.1.toNat true) x = if x = a.1 then true else gt st.2.2 x := fun x0 => Zdm a0 (by omega) x0
  unfold lup Zay
  dsimp only
  by_cases hx : x = a.1
  ·subst hx
   rw [if_pos rfl, g1 a0, g2 a0, g3 a0, if_pos rfl, if_pos rfl, if_pos rfl, if_pos ⟨a0, a1, rfl⟩, if_neg ho'.1]
  ·rw [if_neg hx]
   by_cases hr : 0 ≤ x /\ x < n
   ·rw [g1 hr.1, g2 hr.1, g3 hr.1, if_neg hx, if_neg hx, if_neg hx]
   ·rw [if_neg fun k => hr ⟨k.1, k.2.1⟩, if_neg fun k => hr ⟨k.1, k.2.1⟩]
 ·have ho' := fun k => ho (eo.2 k)
  rw [if_neg ho, if_neg ho']
theorem BL.rel (h : BL n st S) {a : Int × Int} (a0 : 0 ≤ a.1) (a1 : a.1 < n) (d hp : Int) : BL n (st.1.set a.1.toNat d, st.2.1.set a.1.toNat hp, st.2.2.set a.1.toNat true) S := by
 obtain ⟨lD, lH, lA, lS, sd⟩ := h
 refine ⟨by simpa using lD, by simpa using lH, by simpa using lA, lS, fun x x0 x1 hx => ?_⟩
 dsimp only
 rw [Zdm a0 (by omega) x0]
 split
 ·rfl
 ·exact sd x x0 x1 hx
theorem ZjI (h : BL n st S) (v0 : 0 ≤ v) (v1 : v < n) (hv : gt st.2.2 v = true) : Zay n st (S.set v.toNat true) = lup (Zay n st S) v (gt st.1 v, gt st.2.1 v, 1) := by
 obtain ⟨lD, lH, lA, lS, sd⟩ := h
 funext x
 have g3 : 0 ≤ x -> gt (S.set v.toNat true) x = if x = v then true else gt S x := fun x0 => Zdm v0 (by omega) x0
 unfold lup Zay
 by_cases hx : x = v
 ·subst hx
  rw [if_pos rfl, if_pos ⟨v0, v1, hv⟩, g3 v0, if_pos rfl, if_pos rfl]
 ·rw [if_neg hx]
  by_cases hr : 0 ≤ x /\ x < n
  ·rw [g3 hr.1, if_neg hx]
  ·rw [if_neg fun k => hr ⟨k.1, k.2.1⟩, if_neg fun k => hr ⟨k.1, k.2.1⟩]
theorem BL.settle (h : BL n st S) (v0 : 0 ≤ v) (v1 : v < n) (hv : gt st.2.2 v = true) : BL n st (S.set v.toNat true) := by
 obtain ⟨lD, lH, lA, lS, sd⟩ := h
 refine ⟨lD, lH, lA, by simpa using lS, fun x x0 x1 hx => ?_⟩
 rw [Zdm v0 (by omega) x0] at hx
 by_cases e : x = v
 ·rw [e]; exact hv
 ·rw [if_neg e] at hx; exact sd x x0 x1 hx
theorem Zk2 {l : List (Int × Int)} {f : Lab -> Int × Int -> Lab} {A : Lab} {i : Int} (i0 : 0 ≤ i) (i1 : i < (l.length : Int)) : (l.take (i + 1).toNat).foldl f A = f ((l.take i.toNat).foldl f A) (gt l i) := by
 rw [show (i + 1).toNat = i.toNat + 1 from by omega, List.take_add_one, List.foldl_append]
 have : l[i.toNat]?.toList = [gt l i] := by
  unfold gt
  rw [List.getD_eq_getElem?_getD, List.getElem?_eq_getElem (by omega)]; rfl
 rw [this]; rfl
theorem Zlt {rows : List (List (Int × Int))} {S7 : List Bool} {l : List (Int × Int)} (hl : gt rows v = l) (rl : v < (rows.length : Int)) (ll : l.length ≤ 1000000) (n1 : n ≤ 65536) (c0 : 0 ≤ c) (c1 : c ≤ 65536) (v0 : 0 ≤ v) (v1 : v < n) (B : BL n st (S7.set v.toNat true)) (sv : gt (S7.set v.toNat true) v = true)
  (hr : ∀ a ∈ l, (0 ≤ a.1 /\ a.1 < n) /\ 0 ≤ a.2 /\ a.2 ≤ 140737488355328) (d0 : 0 ≤ gt st.1 v) (d1 : gt st.1 v ≤ c * 140737488355328) (h0 : 0 ≤ gt st.2.1 v) (h1 : gt st.2.1 v ≤ c) :
  T (ZN (fun zz_ => ZaN rows S7 v zz_.1 zz_.2.1 zz_.2.2.1 zz_.2.2.2) (st.1, st.2.1, st.2.2, 0)) fun r => Zay n r (S7.set v.toNat true) = l.foldl (ZdM (gt st.1 v) (gt st.2.1 v)) (Zay n st (S7.set v.toNat true)) /\ BL n r (S7.set v.toNat true) := by
 have hmul : c * 140737488355328 ≤ 65536 * 140737488355328 := Int.mul_le_mul_of_nonneg_right c1 (by omega)
 refine ZS (fun z => 0 ≤ z.2.2.2 /\ z.2.2.2 ≤ (l.length : Int) /\ Zay n (z.1, z.2.1, z.2.2.1) (S7.set v.toNat true) = (l.take z.2.2.2.toNat).foldl (ZdM (gt st.1 v) (gt st.2.1 v)) (Zay n st (S7.set v.toNat true)) /\ BL n (z.1, z.2.1, z.2.2.1) (S7.set v.toNat true) /\ gt z.1 v = gt st.1 v /\ gt z.2.1 v = gt st.2.1 v) (fun z => ((l.length : Int) - z.2.2.2).toNat) ?_ ⟨by simp, by simp, rfl, B, rfl, rfl⟩
 rintro ⟨b0, b1, b2, i⟩ ⟨i0, i1, e, M, m1, m2⟩
 dsimp only at *
 unfold ZaN
 rw [hl, Zs]
 refine ⟨fun hi => ?_, fun hi => ?_⟩
 rotate_left
 ·simp only [Zd, Sum.elim_inr]
  have : i = (l.length : Int) := by omega
  rw [this, Int.toNat_natCast, List.take_length] at e
  exact ⟨e, M⟩
 have ha := hr _ (Znh i0 hi)
 have hft := Zk2 (f := ZdM (gt st.1 v) (gt st.2.1 v)) (A := Zay n st (S7.set v.toNat true)) i0 hi
 rw [← e] at hft
 generalize gt l i = a at *
 obtain ⟨x, w⟩ := a
 dsimp only at *
 obtain ⟨⟨x0, x1⟩, w0, w1⟩ := ha
 have lD := M.lD; have lH := M.lH; have lA := M.lA; have lS := M.lS
 dsimp only at lD lH lA lS
 have hrl := ZlF M (a := (x, w)) x0 x1 (gt st.1 v) (gt st.2.1 v)
 dsimp only at hrl
 simp only [T_G]
 refine ⟨i0, by omega, by omega, ?_⟩
 refine Zm (fun o => o = true ↔ (¬ gt (S7.set v.toNat true) x = true /\ (¬ gt b2 x = true ∨ gt b0 v + w < gt b0 x))) ?_ fun o ho => ?_
 ·simp only [T_G, Zs, Zd]
  refine ⟨by omega, fun h1 => ⟨by omega, fun h2 => ?_, fun h2 => ⟨by omega, ?_⟩⟩, fun h1 => ?_⟩
  ·simp at h1 h2; simp [h1, h2]
  ·simp at h1 h2; simp [h1, h2]
  ·simp at h1; simp [h1]
 rw [m1] at ho
 rw [Zs]
 refine ⟨fun ht => ?_, fun hf => ?_⟩
 ·have ho' := ho.1 ht
  rw [if_pos ho'] at hrl
  have hxv : v ≠ x := fun e => ho'.1 (by rw [← e]; exact sv)
  simp only [T_G, Zd, Sum.elim_inl]
  rw [m1, m2]
  refine ⟨by omega, by omega, by omega, by omega, by omega, by omega, ⟨by omega, by omega, ?_, M.rel (a := (x, w)) x0 x1 _ _, ?_, ?_⟩, by omega⟩
  ·rw [hft, hrl]
  ·rw [Zdm x0 (by omega) v0, if_neg hxv]; exact m1
  ·rw [Zdm x0 (by omega) v0, if_neg hxv]; exact m2
 ·rw [if_neg fun k => hf (ho.2 k)] at hrl
  simp only [T_G, Zd, Sum.elim_inl]
  exact ⟨by omega, ⟨by omega, by omega, by rw [hft, hrl], M, m1, m2⟩, by omega⟩
theorem Zom {rows : List (List (Int × Int))} (lr : (rows.length : Int) = n) (n1 : n ≤ 65536) (hrow : ∀ v, 0 ≤ v -> v < n -> gt rows v = row v /\ (row v).length ≤ 1000000) (hr : Zk7 row n) (s0 : 0 ≤ s) (s1 : s < n) (hset : settles ≤ 9223372036854775807) :
  T (Zck rows s hops settles most) fun r => ∃ Lf, WR row hops settles most 0 (ZdE s) Lf /\ Zay n (r.1, r.2.1, r.2.2.1) r.2.2.2 = Lf /\ BL n (r.1, r.2.1, r.2.2.1) r.2.2.2 := by
 have hlr : rows.length = n.toNat := by omega
 unfold Zck
 simp only [T_G]
 refine ⟨by omega, by omega, by simp; omega, ?_⟩
 rw [hlr]
 have hr0 : ∀ x, gt (List.replicate n.toNat (0 : Int)) x = 0 := fun x => Zkt (E := Int)
 have hrf : ∀ x, gt (List.replicate n.toNat false) x = false := fun x => Zkt (E := Bool)
 have B0 : BL n (List.replicate n.toNat 0, List.replicate n.toNat 0, (List.replicate n.toNat false).set s.toNat true) (List.replicate n.toNat false) :=
  ⟨by simp; omega, by simp; omega, by simp; omega, by simp; omega, fun x _ _ hx => by rw [hrf] at hx; cases hx⟩
 have L0 : Zay n (List.replicate n.toNat 0, List.replicate n.toNat 0, (List.replicate n.toNat false).set s.toNat true) (List.replicate n.toNat false) = ZdE s := by
  funext x
  unfold Zay ZdE lup
  dsimp only
  by_cases hx : x = s
  ·subst hx
   rw [if_pos rfl, hr0, hrf, if_pos ⟨s0, s1, by rw [Zdm s0 (by simp; omega) s0, if_pos rfl]⟩]; rfl
  ·rw [if_neg hx, if_neg]
   rintro ⟨x0, x1, h⟩
   rw [Zdm s0 (by simp; omega) x0, if_neg hx, hrf] at h
   cases h
 refine Zm (fun r => ∃ Lf, WR row hops settles most 0 (ZdE s) Lf /\ Zay n (r.1, r.2.1, r.2.2.1) r.2.2.2 = Lf /\ BL n (r.1, r.2.1, r.2.2.1) r.2.2.2) ?_ fun r h => by simpa using h
 refine ZS (fun z => 0 ≤ z.2.2.2.2 /\ BL n (z.1, z.2.1, z.2.2.1) z.2.2.2.1 /\ (∃ ss, WI n z.2.2.2.2 (Zay n (z.1, z.2.1, z.2.2.1) z.2.2.2.1) ss /\ (ss.length : Int) = z.2.2.2.2) /\ ∀ Lf, WR row hops settles most z.2.2.2.2 (Zay n (z.1, z.2.1, z.2.2.1) z.2.2.2.1) Lf -> WR row hops settles most 0 (ZdE s) Lf) (fun z => (n - z.2.2.2.2).toNat) ?_ ⟨by simp, B0, ⟨[], by rw [L0]; exact WI.zero s0 s1, rfl⟩, fun _ h => by rw [L0] at h; exact h⟩
 rintro ⟨Ds, Hs, Has, St, c⟩ ⟨c0, D, ⟨ss, hW, hss⟩, K⟩
 dsimp only at *
 have lD := D.lD; have lH := D.lH; have lA := D.lA; have lS := D.lS
 dsimp only at lD lH lA lS
 have hcn := hW.len (by omega)
 unfold Zbx
 rw [Zs]
 refine ⟨fun hlt => ?_, fun hge => ?_⟩
 rotate_left
 ·simp only [Zd, Sum.elim_inr]
  exact ⟨_, K _ (.full _ _ (by omega)), rfl, D⟩
 refine Zm _ (Zm8 (Hs := Hs) lD lA lS (by omega)) fun v hv => ?_
 rcases hv with ⟨rfl, hno⟩ | hp
 ·refine Zm (fun o => o = true) (by simp) ?_
  rintro _ rfl
  rw [if_pos rfl]
  simp only [Zd, Sum.elim_inr]
  exact ⟨_, K _ (.none _ _ hlt (Zmz hno)), rfl, D⟩
 obtain ⟨v0, v1, vA, vS, _⟩ := id hp
 have hpw := ZkP hp
 dsimp only at vA hpw
 refine Zm (fun o => o = decide (gt Ds v > most)) ?_ ?_
 ·rw [Zs]
  simp only [T_G, Zd]
  exact ⟨fun h => by omega, fun _ => ⟨by omega, trivial⟩⟩
 rintro _ rfl
 rw [Zs]
 refine ⟨fun h => ?_, fun h => ?_⟩
 ·simp only [Zd, Sum.elim_inr]
  exact ⟨_, K _ (.far _ _ v _ hlt hpw (by simpa using h)), rfl, D⟩
 have hmost : ¬ gt Ds v > most := by simpa using h
 have hset' := ZjI D v0 v1 vA
 have hB' := D.settle v0 v1 vA
 dsimp only at hset'
 have hWn := hW.set (hops := hops) hr hpw
 have hval := hW.val v _ hpw.1
 dsimp only at hval
 have hcn2 := hWn.len (by omega)
 rw [List.length_cons] at hcn2
 have sv : gt (St.set v.toNat true) v = true := by rw [Zdm v0 (by omega) v0, if_pos rfl]
 simp only [T_G]
 refine ⟨by omega, by omega, ?_⟩
 rw [Zs]
 refine ⟨fun hh => ?_, fun hh => ?_⟩
 ·have e : Ze1 row hops (Zay n (Ds, Hs, Has) St) v (gt Ds v, gt Hs v, 0) = Zay n (Ds, Hs, Has) (St.set v.toNat true) := by
   unfold Ze1; rw [if_pos hh, hset']
  rw [e] at hWn
  simp only [T_G, Zd, Sum.elim_inl]
  refine ⟨by omega, ⟨by omega, hB', ⟨_, hWn, by simp; omega⟩, fun Lf hL => K _ (.go _ _ v _ _ hlt hpw hmost (by rw [e]; exact hL))⟩, by omega⟩
 ·obtain ⟨r1, r2⟩ := hrow v v0 v1
  simp only [T_G]
  refine ⟨by omega, Zm _ (Zlt (l := row v) (c := c) r1 (by omega) r2 n1 c0 (by omega) v0 v1 hB' sv (hr v) hval.1 hval.2.1 hval.2.2.1 hval.2.2.2.1) ?_⟩
  rintro ⟨b0, b1, b2⟩ ⟨e, M⟩
  dsimp only at *
  have e2 : Ze1 row hops (Zay n (Ds, Hs, Has) St) v (gt Ds v, gt Hs v, 0) = Zay n (b0, b1, b2) (St.set v.toNat true) := by
   unfold Ze1; rw [if_neg hh, e, hset']
  rw [e2] at hWn
  simp only [T_G, Zd, Sum.elim_inl]
  refine ⟨by omega, ⟨by omega, M, ⟨_, hWn, by simp; omega⟩, fun Lf hL => K _ (.go _ _ v _ _ hlt hpw hmost (by rw [e2]; exact hL))⟩, by omega⟩
end Go.Vd

/-! (OvO) -/

set_option linter.unusedVariables false
set_option linter.unusedSimpArgs false
set_option maxHeartbeats 1000000
namespace Go.Vd
variable {l : List Hf} {L : List OAr} {B : List Bool} {v wt via N : Int} {A M : List A3}
theorem Zl0 (hr : Ris l) (hn : ∀ x ∈ l, x.1 ≠ v) (hl : l.length ≤ 1000000) : ZbJ l v wt via = some (ZcP (v, wt, via) l) := by
 refine Zd1.1 ?_
 unfold ZbJ
 refine Zm (fun p => 0 ≤ p /\ p ≤ (l.length : Int) /\ (∀ j, 0 ≤ j -> j < p -> (gt l j).1 < v) /\ (p < (l.length : Int) -> ¬ (gt l p).1 < v)) ?_ ?_
 ·refine ZS (fun i => 0 ≤ i /\ i ≤ (l.length : Int) /\ ∀ j, 0 ≤ j -> j < i -> (gt l j).1 < v) (fun i => ((l.length : Int) - i).toNat) ?_ ⟨by simp, by simp, fun j j0 j1 => by omega⟩
  rintro i ⟨i0, i1, h⟩
  unfold Zbt
  simp only [Zs, T_G, Zd, Sum.elim_inl, Sum.elim_inr]
  refine ⟨fun hlt => ⟨i0, fun hc => ⟨by omega, ⟨by omega, by omega, fun j j0 j1 => ?_⟩, by omega⟩, fun hc => ⟨i0, i1, h, fun _ => hc⟩⟩, fun hge => ⟨i0, i1, h, fun h => absurd h hge⟩⟩
  by_cases q : j = i
  ·rw [q]; exact hc
  ·exact h j j0 (by omega)
 ·rintro p ⟨p0, p1, h1, h2⟩
  have e : ZcP (v, wt, via) l = l.take p.toNat ++ ([(v, wt, via)] ++ l.drop p.toNat) := by
   conv => lhs; rw [show l = l.take p.toNat ++ ([] ++ l.drop p.toNat) by simp]
   refine ZhB (fun x hx => ?_) (fun x hx => by cases hx) (fun x hx => ?_)
   ·obtain ⟨j, j0, j1, rfl⟩ := Zfq p1 hx
    exact h1 j j0 j1
   ·obtain ⟨j, j0, j1, rfl⟩ := Zfu p0 hx
    have a := h2 (by omega)
    have b := hn _ (Ze0 (i := j) (by omega) j1)
    show v < (gt l j).1
    by_cases q : j = p
    ·rw [q] at b ⊢; omega
    ·have := hr.gt p0 (show p < j by omega) j1; omega
  rw [e]
  have t1 : (l.take p.toNat).length ≤ l.length := by rw [List.length_take]; omega
  have t2 : (l.drop p.toNat).length ≤ l.length := by rw [List.length_drop]; omega
  simp only [T_G, Zd, List.nil_append, List.drop_zero, List.take_length, List.length_append, List.length_cons, List.length_nil]
  refine ⟨⟨p0, p1⟩, by omega, by omega, by omega, by simp⟩
theorem Zje (h : KD L) (hl : L.length ≤ 1000000) : ZaX B L v = some (Zz L v) := by
 refine Zd1.1 ?_
 unfold ZaX
 refine Zm (fun o => o = Zz L v) ?_ fun o e => by simp only [Zd]; exact e
 refine ZS (fun z => 0 ≤ z.1 /\ z.1 ≤ (L.length : Int) /\ z.2 = Zz (L.take z.1.toNat) v) (fun z => ((L.length : Int) - z.1).toNat) ?_ ⟨by simp, by simp, rfl⟩
 rintro ⟨i, o⟩ ⟨i0, i1, e⟩
 dsimp only at *
 subst e
 unfold ZbH
 rw [Zs]
 refine ⟨fun hlt => ?_, fun hge => by simp only [Zd, Sum.elim_inr]; rw [List.take_of_length_le (by omega)]⟩
 have hs := Za7 i0 hlt
 have hk1 : KD (L.take i.toNat) := List.Pairwise.sublist (List.take_sublist _ _) h
 have hk2 : KD (L.take (i + 1).toNat) := List.Pairwise.sublist (List.take_sublist _ _) h
 have hlen := ZgY hk1 v
 have hlen2 : (L.take i.toNat).length ≤ L.length := by rw [List.length_take]; omega
 rw [hs] at hk2
 have hsn := Ziu (L.take i.toNat) (gt L i) v
 rw [← hs] at hsn
 have hno := (List.pairwise_append.1 hk2).2.2
 rw [T_G, Zs]
 refine ⟨i0, fun hv => ?_, fun hv => ?_⟩
 ·rw [Zl0 (ZcA _ _) (fun x hx hxe => hno _ ((Z3 hk1).1 hx) _ (List.mem_singleton.2 rfl) ⟨hv.symm, hxe⟩) (by omega), Option.bind_some]
  simp only [T_G, Zd, Sum.elim_inl]
  exact ⟨by omega, ⟨by omega, by omega, by rw [hsn, if_pos hv.symm]⟩, by omega⟩
 ·simp only [T_G, Zd, Sum.elim_inl]
  exact ⟨by omega, ⟨by omega, by omega, by rw [hsn, if_neg (fun e => hv e.symm)]⟩, by omega⟩
end Go.Vd
