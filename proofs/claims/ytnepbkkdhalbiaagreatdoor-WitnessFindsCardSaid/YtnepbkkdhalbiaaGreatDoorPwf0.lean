/- Indexes that are set; items in order. Plain Lean: no program here. -/
import Derived.Test.YtnepbkkdhalbiaaGreatDoorPwfVpB
import Derived.Test.YtnepbkkdhalbiaaGreatDoorPwfIWf
import Derived.Test.YtnepbkkdhalbiaaGreatDoorPwfVeN
import Derived.Test.YtnepbkkdhalbiaaGreatDoorPwfVeK
import Derived.Test.YtnepbkkdhalbiaaGreatDoorPwfVeC
import Derived.Test.YtnepbkkdhalbiaaGreatDoorPwfVeL
import Derived.Test.YtnepbkkdhalbiaaGreatDoorPwfVeB
import Derived.Test.YtnepbkkdhalbiaaGreatDoorPwfSo0
import Derived.Test.YtnepbkkdhalbiaaGreatDoorPwfVdQ
set_option linter.unusedVariables false
set_option linter.unusedSimpArgs false
set_option linter.unusedSectionVars false
/-! (Hp0) -/

set_option linter.unusedVariables false
set_option linter.unusedSimpArgs false
namespace Go.Vd
theorem gt_set {E : Type} [Inhabited E] {l : List E} {i j : Int} {v : E} (i0 : 0 ≤ i) (i1 : i < (l.length : Int)) (j0 : 0 ≤ j) : gt (l.set i.toNat v) j = if j = i then v else gt l j := by
 unfold gt
 rw [List.getD_eq_getElem?_getD, List.getD_eq_getElem?_getD, List.getElem?_set]
 by_cases h : j = i
 ·subst h; rw [if_pos rfl, if_pos (by omega), if_pos rfl]; rfl
 ·rw [if_neg (by omega), if_neg h]
def Less (a b : Int × Int) : Prop := a.1 < b.1 ∨ (a.1 = b.1 /\ a.2 < b.2)
instance (a b : Int × Int) : Decidable (Less a b) := by unfold Less; exact inferInstance
theorem Less.irr {a b : Int × Int} (h : Less a b) : ¬ Less b a := by unfold Less at *; omega
theorem nl_trans {a b c : Int × Int} (h : ¬ Less a b) (k : ¬ Less b c) : ¬ Less a c := by unfold Less at *; omega
theorem nl_mid {a b c : Int × Int} (h : ¬ Less a b) (k : Less c b) : ¬ Less a c := by unfold Less at *; omega
end Go.Vd

/-! (Hb) -/

set_option linter.unusedVariables false
set_option linter.unusedSimpArgs false
namespace Go.Vd
variable {L : Int} {h h' : Int -> Int × Int}
def par2 (p : Int) : Int := (p - 1) / 2
theorem tdiv2 {p : Int} (h : 0 < p) : Int.tdiv (p - 1) 2 = par2 p := by
 unfold par2; rw [Int.tdiv_eq_ediv_of_nonneg (by omega)]
def Ord2 (L : Int) (h : Int -> Int × Int) : Prop := ∀ p, 1 ≤ p -> p < L -> ¬ Less (h p) (h (par2 p))
def Up2 (L : Int) (h : Int -> Int × Int) (i : Int) : Prop :=
 (∀ p, 1 ≤ p -> p < L -> p ≠ i -> ¬ Less (h p) (h (par2 p))) /\ (1 ≤ i -> ∀ c, 1 ≤ c -> c < L -> par2 c = i -> ¬ Less (h c) (h (par2 i)))
def Down2 (L : Int) (h : Int -> Int × Int) (i : Int) : Prop :=
 (∀ p, 1 ≤ p -> p < L -> par2 p ≠ i -> ¬ Less (h p) (h (par2 p))) /\ (1 ≤ i -> ∀ c, 1 ≤ c -> c < L -> par2 c = i -> ¬ Less (h c) (h (par2 i)))
theorem Up2.done {i : Int} (U : Up2 L h i) (k : i = 0 ∨ ¬ Less (h i) (h (par2 i))) : Ord2 L h := by
 intro p p0 p1
 by_cases e : p = i
 ·subst e; rcases k with k | k
  ·omega
  ·exact k
 ·exact U.1 p p0 p1 e
theorem Up2.step {i : Int} (U : Up2 L h i) (i0 : 1 ≤ i) (i1 : i < L) (k : Less (h i) (h (par2 i)))
  (eh : ∀ p, 0 ≤ p -> p < L -> h' p = if p = par2 i then h i else if p = i then h (par2 i) else h p) : Up2 L h' (par2 i) := by
 have hq : par2 i < i /\ 0 ≤ par2 i := by unfold par2; omega
 have e1 : h' (par2 i) = h i := by rw [eh _ hq.2 (by omega), if_pos rfl]
 have e2 : h' i = h (par2 i) := by rw [eh _ (by omega) i1, if_neg (by omega), if_pos rfl]
 have e3 : ∀ p, 0 ≤ p -> p < L -> p ≠ par2 i -> p ≠ i -> h' p = h p := fun p p0 p1 h1 h2 => by rw [eh p p0 p1, if_neg h1, if_neg h2]
 have pl : ∀ p, 1 ≤ p -> par2 p < p /\ 0 ≤ par2 p := fun p hp => by unfold par2; omega
 refine ⟨fun p p0 p1 hp => ?_, fun q0 c c0 c1 hc => ?_⟩
 ·have := pl p p0
  by_cases hpi : p = i
  ·subst hpi; rw [e2, e1]; exact k.irr
  ·rw [e3 p (by omega) p1 hp hpi]
   by_cases h1 : par2 p = i
   ·rw [h1, e2]; exact U.2 i0 p p0 p1 h1
   ·by_cases h2 : par2 p = par2 i
    ·rw [h2, e1]
     have := U.1 p p0 p1 hpi
     rw [h2] at this
     exact nl_mid this k
    ·rw [e3 _ (by omega) (by omega) h2 h1]; exact U.1 p p0 p1 hpi
 ·have := pl (par2 i) q0
  have hc' := pl c c0
  have e4 : h' (par2 (par2 i)) = h (par2 (par2 i)) := e3 _ (by omega) (by omega) (by omega) (by omega)
  have hq2 := U.1 (par2 i) q0 (by omega) (by omega)
  rw [e4]
  by_cases hci : c = i
  ·subst hci; rw [e2]; exact hq2
  ·rw [e3 c (by omega) c1 (by omega) hci]
   have := U.1 c c0 c1 hci
   rw [hc] at this
   exact nl_trans this hq2
theorem Down2.done {i : Int} (D : Down2 L h i) (k : ∀ c, 1 ≤ c -> c < L -> par2 c = i -> ¬ Less (h c) (h i)) : Ord2 L h := by
 intro p p0 p1
 by_cases e : par2 p = i
 ·rw [e]; exact k p p0 p1 e
 ·exact D.1 p p0 p1 e
theorem Down2.step {i b : Int} (D : Down2 L h i) (i0 : 0 ≤ i) (b0 : 1 ≤ b) (b1 : b < L) (hb : par2 b = i) (hm : ∀ c, 1 ≤ c -> c < L -> par2 c = i -> ¬ Less (h c) (h b)) (k : Less (h b) (h i))
  (eh : ∀ p, 0 ≤ p -> p < L -> h' p = if p = b then h i else if p = i then h b else h p) : Down2 L h' b := by
 have pl : ∀ p, 1 ≤ p -> par2 p < p /\ 0 ≤ par2 p := fun p hp => by unfold par2; omega
 have hbi := pl b b0
 have e1 : h' b = h i := by rw [eh _ (by omega) b1, if_pos rfl]
 have e2 : h' i = h b := by rw [eh _ i0 (by omega), if_neg (by omega), if_pos rfl]
 have e3 : ∀ p, 0 ≤ p -> p < L -> p ≠ b -> p ≠ i -> h' p = h p := fun p p0 p1 h1 h2 => by rw [eh p p0 p1, if_neg h1, if_neg h2]
 refine ⟨fun p p0 p1 hp => ?_, fun q0 c c0 c1 hc => ?_⟩
 ·have := pl p p0
  by_cases hpb : p = b
  ·subst hpb; rw [e1, hb, e2]; exact k.irr
  ·by_cases h1 : par2 p = i
   ·rw [h1, e2, e3 p (by omega) p1 hpb (by omega)]; exact hm p p0 p1 h1
   ·by_cases hpi : p = i
    ·subst hpi
     rw [e2, e3 (par2 p) (by omega) (by omega) (by omega) (by omega)]
     exact D.2 p0 b b0 b1 hb
    ·rw [e3 p (by omega) p1 hpb hpi, e3 _ (by omega) (by omega) hp h1]; exact D.1 p p0 p1 h1
 ·have := pl c c0
  rw [hb, e2, e3 c (by omega) c1 (by omega) (by omega)]
  have := D.1 c c0 c1 (by omega)
  rwa [hc] at this
theorem Ord2.top (O : Ord2 L h) : ∀ p, 0 ≤ p -> p < L -> ¬ Less (h p) (h 0) := by
 intro p p0 p1
 generalize hk : p.toNat = k
 induction k using Nat.strongRecOn generalizing p with
 | _ k ih =>
  by_cases e : p = 0
  ·subst e; unfold Less; omega
  ·have hp : par2 p < p /\ 0 ≤ par2 p := by unfold par2; omega
   exact nl_trans (O p (by omega) p1) (ih (par2 p).toNat (by omega) (par2 p) hp.2 (by omega) rfl)
def swp (l : List (Int × Int)) (i j : Int) : List (Int × Int) := (l.set i.toNat (gt l j)).set j.toNat (gt l i)
theorem swp_len {l : List (Int × Int)} {i j : Int} : (swp l i j).length = l.length := by simp [swp]
theorem gt_swp {l : List (Int × Int)} {i j : Int} (i0 : 0 ≤ i) (i1 : i < (l.length : Int)) (j0 : 0 ≤ j) (j1 : j < (l.length : Int)) {p : Int} (p0 : 0 ≤ p) : gt (swp l i j) p = if p = j then gt l i else if p = i then gt l j else gt l p := by
 unfold swp
 rw [gt_set j0 (by simpa using j1) p0, gt_set i0 i1 p0]
theorem swp_perm {l : List (Int × Int)} {i j : Int} (i0 : 0 ≤ i) (i1 : i < (l.length : Int)) (j0 : 0 ≤ j) (j1 : j < (l.length : Int)) : (swp l i j).Perm l := by
 unfold swp
 have e : ∀ {k : Int}, 0 ≤ k -> ∀ hk : k.toNat < l.length, gt l k = l[k.toNat] := fun {k} k0 hk => by
  unfold gt; rw [List.getD_eq_getElem?_getD, List.getElem?_eq_getElem hk]; rfl
 rw [e i0 (by omega), e j0 (by omega)]
 exact List.set_set_perm (by omega) (by omega)
def Hq (q : List (Int × Int)) : Prop := Ord2 q.length (gt q)
theorem Ord2.congr {L : Int} {h h' : Int -> Int × Int} (O : Ord2 L h) (eh : ∀ p, 0 ≤ p -> p < L -> h' p = h p) : Ord2 L h' := fun p p0 p1 => by
 have hp : par2 p < p /\ 0 ≤ par2 p := by unfold par2; omega
 rw [eh p (by omega) p1, eh _ hp.2 (by omega)]; exact O p p0 p1
end Go.Vd

/-! (LwSimple) -/

namespace Go.Vd
end Go.Vd

/-! (LwSimple2) -/

set_option linter.unusedVariables false
namespace Go.Vd
variable {fi to wt : List Int}
end Go.Vd

/-! (PrEa) -/

set_option linter.unusedVariables false
set_option linter.unusedSimpArgs false
namespace Go.Vd
variable {F T' W l : List Int}
theorem p_E (n : Int) : z_viaductref01_E n = some n := rfl
theorem p_Bad {c : Int} {ps : List (Int × Int)} : z_viaductref01_Err_Bad c ps = some (decide (c ≠ 0 ∨ ps ≠ [])) := by
 unfold z_viaductref01_Err_Bad
 by_cases h : c = 0
 ·rw [if_pos h]; subst h
  by_cases hp : 0 < (ps.length : Int)
  ·rw [bad_t (.inr hp), decide_eq_true (by omega)]
  ·rw [bad_f ⟨rfl, hp⟩, decide_eq_false (by omega)]
 ·rw [if_neg h, bad_t (.inl h)]
end Go.Vd

/-! (PrEb) -/

set_option linter.unusedVariables false
set_option linter.unusedSimpArgs false
namespace Go.Vd
variable {F T' W l : List Int}
theorem p_At {k i c : Int} {ps : List (Int × Int)} (h : ps.length ≤ 8796093021951) : z_viaductref01_At k i c ps = some (c, (k, i) :: ps) := by
 unfold z_viaductref01_At G
 rw [if_pos (by simp; omega)]; rfl
end Go.Vd

/-! (PrSg) -/

set_option linter.unusedVariables false
set_option linter.unusedSimpArgs false
namespace Go.Vd
def Er.good : Er -> Prop
 | .nil => True
 | .no n => n ≠ 0
 | .at _ _ e => e ≠ .nil /\ e.good
theorem Er.good.num {e : Er} (h : e.good) (hn : e ≠ .nil) : e.num = some e.code /\ e.code ≠ 0 := by
 induction e with
 | nil => exact absurd rfl hn
 | no n => exact ⟨rfl, h⟩
 | «at» k i e ih => exact ih h.2 h.1
theorem p_Bad' {c : Int} {ps : List (Int × Int)} : z_viaductref01_Err_Bad c ps = some (decide (c ≠ 0 ∨ ps ≠ [])) := by
 unfold z_viaductref01_Err_Bad
 by_cases h : c = 0
 ·rw [if_pos h]; subst h
  by_cases hp : 0 < (ps.length : Int)
  ·rw [bad_t (.inr hp), decide_eq_true (by omega)]
  ·rw [bad_f ⟨rfl, hp⟩, decide_eq_false (by omega)]
 ·rw [if_neg h, bad_t (.inl h)]
end Go.Vd

/-! (PrSame) -/

namespace Go.Vd
theorem p_SameT {er : Er} (hg : er.good) (hl : er.pls.length ≤ 17592186044160) : z_viaductseen_Same er er.code er.pls = some true := by
 refine T_eq.1 ?_
 unfold z_viaductseen_Same
 rw [p_Bad', Option.bind_some]
 by_cases hn : er = .nil
 ·subst hn; simp [Er.code, Er.pls]
 obtain ⟨h1, h2⟩ := hg.num hn
 rw [decide_eq_true (Or.inl h2), if_neg (by decide), if_neg hn]
 refine T_binds (fun e => e ≠ .nil /\ e.pls = []) ?_ fun e ⟨e0, e1⟩ => ?_
 ·refine T_loop (fun s => 0 ≤ s.1 /\ s.1 ≤ (er.pls.length : Int) /\ s.2.good /\ s.2 ≠ .nil /\ s.2.pls = er.pls.drop s.1.toNat) (fun s => ((er.pls.length : Int) - s.1).toNat) ?_ ⟨by simp, by simp, hg, hn, by simp⟩
  rintro ⟨i, e⟩ ⟨i0, i1, g, gn, hp⟩
  dsimp only at *
  unfold z_viaductseen_Same_l0
  rw [T_ite]
  refine ⟨fun hi => ?_, fun hi => ?_⟩
  ·rw [List.drop_eq_getElem_cons (i := i.toNat) (by omega)] at hp
   cases e with
   | nil => exact absurd rfl gn
   | no n => simp [Er.pls] at hp; omega
   | «at» k j e =>
    simp only [Er.pls, List.cons.injEq] at hp
    obtain ⟨q1, q2⟩ := hp
    have hgt : gt er.pls i = (k, j) := by
     have hq : gt er.pls ((i.toNat : Nat) : Int) = er.pls[i.toNat] := gt_nat (by omega)
     rw [q1, ← hq]; congr 1; omega
    rw [T_G, if_pos (show (Er.at k j e).isAt = true from rfl), hgt, if_pos (show (Er.at k j e).fk = (k, j).1 /\ (Er.at k j e).fi = (k, j).2 from ⟨rfl, rfl⟩), T_G, T_some, Sum.elim_inl]
    refine ⟨i0, by omega, ⟨by dsimp only; omega, by dsimp only; omega, g.2, g.1, ?_⟩, by dsimp only; omega⟩
    dsimp only [Er.fe]
    rw [show (i + 1).toNat = i.toNat + 1 from by omega]; exact q2
  ·simp only [T_some, Sum.elim_inr]
   exact ⟨gn, by rw [hp, List.drop_of_length_le (by omega)]⟩
 ·have hat : ¬ e.isAt = true := by
   cases e with
   | nil => exact absurd rfl e0
   | no n => simp [Er.isAt]
   | «at» k i e => simp [Er.pls] at e1
  rw [if_neg hat, h1]
  simp only [Option.isSome_some, if_true, Option.getD_some, decide_true, Bool.not_true, Option.bind_some, Bool.false_eq_true, if_false]
  refine T_binds (fun _ => True) ?_ fun _ _ => by simp
  refine T_loop (fun i => 1 ≤ i /\ i ≤ 21) (fun i => (21 - i).toNat) ?_ ⟨by omega, by omega⟩
  rintro i ⟨i0, i1⟩
  unfold z_viaductseen_Same_l1
  have hq : (decide (er.num = some i)) = (decide (i = er.code)) := by
   rw [h1]; congr 1; simp [eq_comm]
  simp only [T_ite, T_G, T_some, T_map, Sum.elim_inl, Sum.elim_inr]
  exact ⟨fun h => ⟨fun _ => ⟨by omega, ⟨by omega, by omega⟩, by omega⟩, fun h => absurd hq h⟩, fun _ => trivial⟩
end Go.Vd

/-! (VeM) -/

set_option linter.unusedVariables false
set_option linter.unusedSimpArgs false
namespace Go.Vd
set_option linter.unusedSectionVars false
variable [Pins]
section
variable {P : Program} {H H' : AH} {E : Type} {C : CR E} {s : Value} {xs zs : List E} {W fp g : Fp}
structure News (C : CR E) (H : AH) (zs : List E) (css : List (List Value)) (g : Fp) : Prop where
 len : css.length = zs.length
 lt : Lt H g
 is : ∃ G : Nat -> Fp, ∀ (i : Nat) (x : E) (cs : List Value), zs[i]? = some x -> css[i]? = some cs -> C.rel H x cs (G i) /\ (∀ t ∈ G i, t ∈ g) /\ ∀ j, j < zs.length -> j ≠ i -> Dj (G i) (G j)
end
end Go.Vd

/-! (VeG) -/

set_option linter.unusedVariables false
set_option linter.unusedSimpArgs false
namespace Go.Vd
set_option linter.unusedSectionVars false
variable [Pins]
section
variable {P : Program} {H H' : AH} {F : Type} {enc : F -> List Value} {sz : Nat} {s : Value} {W fp g : Fp} {xs : List (Bool × List F × List F)} {hol : List (Nat × Bool)}
def sdG (k : Bool) (x : Bool × List F × List F) : List F := match k with | false => x.2.1 | true => x.2.2
def sdP (k : Bool) (x : Bool × List F × List F) (y : List F) : Bool × List F × List F := match k with | false => (x.1, y, x.2.2) | true => (x.1, x.2.1, y)
def sdO (k : Bool) : Nat := match k with | false => 1 | true => 2
def sdH (k : Bool) (h1 h2 : Value) : Value := match k with | false => h1 | true => h2
structure Nd {F : Type} (enc : F -> List Value) (sz : Nat) (H : AH) (s : Value) (xs : List (Bool × List F × List F)) (fp : Fp) (hol : List (Nat × Bool)) : Prop where
 lt : Lt H fp
 is : ∃ (css : List (List Value)) (f0 : Fp) (G : Nat -> Bool -> Fp), Ow id 3 H s css f0 /\ (∀ t ∈ f0, t ∈ fp) /\ css.length = xs.length /\
  (∀ (i : Nat) (x : Bool × List F × List F) (cs : List Value), xs[i]? = some x -> css[i]? = some cs -> ∃ h1 h2, cs = [.bool x.1, h1, h2] /\ h1.oneCell' = true /\ h2.oneCell' = true /\
   ∀ k, (i, k) ∉ hol -> Ow enc sz H (sdH k h1 h2) (sdG k x) (G i k)) /\
  (∀ i k, i < xs.length -> (i, k) ∉ hol -> (∀ t ∈ G i k, t ∈ fp) /\ Dj f0 (G i k) /\ ∀ j l, j < xs.length -> (j, l) ∉ hol -> (j, l) ≠ (i, k) -> Dj (G i k) (G j l))
theorem Nd.fr (h : Nd enc sz H s xs fp hol) (k : FrS W H H') (hd : Dj W fp) : Nd enc sz H' s xs fp hol := by
 obtain ⟨hl, css, f0, G, a, b, c, d, e⟩ := h
 refine ⟨hl.fr k, css, f0, G, a.fr k (hd.sub b), b, c, fun i x cs h1 h2 => ?_, e⟩
 obtain ⟨u1, u2, e1, e2, e3, e4⟩ := d i x cs h1 h2
 exact ⟨u1, u2, e1, e2, e3, fun q hq => (e4 q hq).fr k (hd.sub (e i q (List.getElem?_eq_some_iff.1 h1).1 hq).1)⟩
theorem Nd.ext (h : Nd enc sz H s xs fp hol) (k : Ext H H') : Nd enc sz H' s xs fp hol := h.fr (k.frS []) Dj.nil_l
theorem Nd.form (h : Nd enc sz H s xs fp hol) : ∃ a n c, s = .slice a n c := by obtain ⟨_, css, f0, G, a, _⟩ := h; exact a.form
theorem Nd.one1 (h : Nd enc sz H s xs fp hol) : s.oneCell' = true := by obtain ⟨_, css, f0, G, a, _⟩ := h; exact a.one1
theorem Nd.lenb {t : TypeId} (h : Nd enc sz H s xs fp hol) (hu : isSl P t = true) : aLen P t s H = some (.int .i64 xs.length) := by
 obtain ⟨_, css, f0, G, a, _, b, _⟩ := h
 rw [← b]; exact a.sq.lenb hu
theorem Nd.idxb {t : TypeId} {k : IntKind} {i : Int} (h : Nd enc sz H s xs fp hol) (ht : slOne P t = some 3) (h0 : 0 ≤ i) (h1 : i < (xs.length : Int)) : aIndexAddr P t s (.int k i) = some (elp s 3 i.toNat 0) := by
 obtain ⟨_, css, f0, G, a, _, b, _⟩ := h
 rw [← b] at h1
 exact a.sq.idxb ht h0 h1
theorem Nd.fldq {t : TypeId} {i : Int} {off f d : Nat} (h : Nd enc sz H s xs fp hol) (h0 : 0 ≤ i) (h1 : i < (xs.length : Int)) (hf : fldOf P t f = some d) : aFieldAddr P t (elp s 3 i.toNat off) f = some (elp s 3 i.toNat (off + d)) := by
 obtain ⟨_, css, f0, G, a, _, b, _⟩ := h
 rw [← b] at h1
 exact a.sq.fldq h0 h1 hf
theorem Nd.at (h : Nd enc sz H s xs fp hol) {i : Int} (h0 : 0 ≤ i) (h1 : i < (xs.length : Int)) :
  ∃ h1 h2, (∀ (P : Program) (t : TypeId) (off : Nat) (v : Value), ldOf P t [.bool (gt xs i).1, h1, h2] off = some v -> aLoad P t (elp s 3 i.toNat off) H = some v) /\
   (∀ k, (i.toNat, k) ∉ hol -> KdS enc sz H (sdH k h1 h2) (sdG k (gt xs i)) fp s 3 i.toNat (sdO k)) := by
 obtain ⟨hl, css, f0, G, a, b, c, d, e⟩ := h
 have hi : i.toNat < xs.length := by omega
 have hlt : i.toNat < css.length := by omega
 have hc : css[i.toNat]? = some css[i.toNat] := List.getElem?_eq_getElem hlt
 obtain ⟨u1, u2, e1, e2, e3, e4⟩ := d i.toNat _ _ (gt_get h0 h1) hc
 refine ⟨u1, u2, fun P t off v hv => ?_, fun k hk => ⟨(e4 k hk).sq.up (e i.toNat k hi hk).1 hl, ?_⟩⟩
 ·have h1' : i < (css.length : Int) := by omega
  refine a.sq.ld h0 h1' ?_
  have : gt css i = css[i.toNat] := Option.some.inj ((gt_get h0 h1').symm.trans hc)
  rw [this, e1]; exact hv
 ·have hv : css[i.toNat][sdO k]? = some (sdH k u1 u2) := by rw [e1]; cases k <;> rfl
  obtain ⟨bb, o, n, cc, kd, row, z1, z2, z3, z4⟩ := a.kid hc hv (by cases k <;> decide)
  exact ⟨bb, o, n, cc, kd, row, z1, z2, b _ z3, z4⟩
theorem Nd.borrow (k : Bool) {i : Int} {hd : Value} {ys : List F} (h : Nd enc sz H s xs fp hol) (h0 : 0 ≤ i) (h1 : i < (xs.length : Int)) (hn : (i.toNat, k) ∉ hol) (hk : KdS enc sz H hd ys fp s 3 i.toNat (sdO k)) (hys : ys = sdG k (gt xs i)) :
  ∃ fr g, Nd enc sz H s xs fr ((i.toNat, k) :: hol) /\ Ow enc sz H hd ys g /\ Dj fr g /\ (∀ t ∈ fr, t ∈ fp) /\ (∀ t ∈ g, t ∈ fp) := by
 obtain ⟨hl, css, f0, G, a, b, c, d, e⟩ := h
 have hi : i.toNat < xs.length := by omega
 have hlt : i.toNat < css.length := by omega
 have hc : css[i.toNat]? = some css[i.toNat] := List.getElem?_eq_getElem hlt
 obtain ⟨u1, u2, e1, e2, e3, e4⟩ := d i.toNat _ _ (gt_get h0 h1) hc
 obtain ⟨q1, q2, q3⟩ := e i.toNat k hi hn
 have hh : hd = sdH k u1 u2 := by
  have := Kid.same a hc (by cases k <;> decide) hk.kid
  rw [e1] at this
  cases k <;> exact (Option.some.inj this).symm
 have ho := e4 k hn
 rw [← hh, ← hys] at ho
 refine ⟨fp.filter fun t => t ∉ G i.toNat k, G i.toNat k, ⟨hl.sub fun t ht => (List.mem_filter.1 ht).1, css, f0, G, a, ?_, c, fun j x cs hj hcs => ?_, fun j l hj hjl => ?_⟩, ho, ?_, fun t ht => (List.mem_filter.1 ht).1, q1⟩
 ·exact fun t ht => List.mem_filter.2 ⟨b t ht, by simpa using fun hm => q2 t ht hm⟩
 ·obtain ⟨v1, v2, f1, f2, f3, f4⟩ := d j x cs hj hcs
  exact ⟨v1, v2, f1, f2, f3, fun l hl => f4 l fun hm => hl (List.mem_cons_of_mem _ hm)⟩
 ·have hne : (j, l) ≠ (i.toNat, k) := fun e => hjl (by rw [e]; exact List.mem_cons_self ..)
  have hjl' : (j, l) ∉ hol := fun hm => hjl (List.mem_cons_of_mem _ hm)
  obtain ⟨p1, p2, p3⟩ := e j l hj hjl'
  have hd2 := p3 i.toNat k hi hn (Ne.symm hne)
  refine ⟨fun t ht => List.mem_filter.2 ⟨p1 t ht, by simpa using fun hm => hd2 t ht hm⟩, p2, fun j' l' hj' hl' hne' => p3 j' l' hj' (fun hm => hl' (List.mem_cons_of_mem _ hm)) hne'⟩
 ·exact fun t ht hm => by have := (List.mem_filter.1 ht).2; simp at this; exact this hm
theorem Nd.close {t : TypeId} (k : Bool) {i : Int} {hd : Value} {y : List F} (hw : WF H) (h : Nd enc sz H s xs fp ((i.toNat, k) :: hol)) (ho : Ow enc sz H hd y g) (hdj : Dj fp g) (h0 : 0 ≤ i) (h1 : i < (xs.length : Int)) (hx : hd.cells.toList = [hd]) (hs : (P.info? t).map (·.size) = some 1) (ho1 : allOne [hd] = true) :
  ∃ H' fp', aStore P t (elp s 3 i.toNat (sdO k)) hd H = some H' /\ FrS fp H H' /\ Nd enc sz H' s (xs.set i.toNat (sdP k (gt xs i) y)) fp' hol /\ Inn (fp ++ g) H fp' := by
 obtain ⟨hl, css, f0, G, a, b, c, d, e⟩ := h
 have hi : i.toNat < xs.length := by omega
 have hic : i.toNat < css.length := by omega
 have hc : css[i.toNat]? = some css[i.toNat] := List.getElem?_eq_getElem hic
 have h1c : i < (css.length : Int) := by omega
 have hgc : gt css i = css[i.toNat] := Option.some.inj ((gt_get h0 h1c).symm.trans hc)
 have hgx := gt_get h0 h1
 obtain ⟨u1, u2, e1, e2, e3, e4⟩ := d i.toNat _ _ hgx hc
 obtain ⟨H', p1, p2, p3⟩ := a.store (P := P) (t := t) (off := sdO k) hw h0 h1c hd [hd] hx hs ho1 (splice css[i.toNat] (sdO k) [hd]) (by cases k <;> simp [sdO]) (by rw [hgc]; rfl)
 have hf0g : Dj f0 g := hdj.subl b
 have hone : hd.oneCell' = true := by unfold allOne at ho1; simpa using ho1
 have hout : ∀ j l, (j, l) ≠ (i.toNat, k) -> (j, l) ∉ hol -> (j, l) ∉ (i.toNat, k) :: hol := fun j l h1 h2 h3 => (List.mem_cons.1 h3).elim h1 h2
 refine ⟨H', fp ++ g, p1, p2.mono b, ⟨(hl.fr p2).app (ho.lt.fr p2), css.set i.toNat (splice css[i.toNat] (sdO k) [hd]), f0, fun j l => if (j, l) = (i.toNat, k) then g else G j l, p3, fun t ht => List.mem_append_left _ (b t ht), by simp [c], ?_, ?_⟩, Inn.self⟩
 ·intro j x cs hj hcs
  by_cases hji : j = i.toNat
  ·subst hji
   rw [List.getElem?_set_self hi] at hj
   rw [List.getElem?_set_self hic] at hcs
   cases hj; cases hcs
   refine ⟨sdH k hd u1, sdH k u2 hd, ?_, by cases k <;> assumption, by cases k <;> assumption, fun l hlh => ?_⟩
   ·rw [e1]; cases k <;> rfl
   ·by_cases hlk : l = k
    ·subst hlk
     try dsimp only
     rw [if_pos rfl]
     have := ho.fr p2 hf0g
     cases l <;> exact this
    ·have hne : ((i.toNat, l) : Nat × Bool) ≠ (i.toNat, k) := fun e => hlk (Prod.mk.inj e).2
     try dsimp only
     rw [if_neg hne]
     have hq := e4 l (hout _ _ hne hlh)
     have hq2 := hq.fr p2 (e i.toNat l hi (hout _ _ hne hlh)).2.1
     cases k <;> cases l <;> first | exact absurd rfl hlk | exact hq2
  ·rw [List.getElem?_set_ne (fun e => hji e.symm)] at hj hcs
   obtain ⟨v1, v2, f1, f2, f3, f4⟩ := d j x cs hj hcs
   refine ⟨v1, v2, f1, f2, f3, fun l hlh => ?_⟩
   have hne : ((j, l) : Nat × Bool) ≠ (i.toNat, k) := fun e => hji (Prod.mk.inj e).1
   try dsimp only
   rw [if_neg hne]
   exact (f4 l (hout _ _ hne hlh)).fr p2 (e j l (List.getElem?_eq_some_iff.1 hj).1 (hout _ _ hne hlh)).2.1
 ·intro j l hj hjl
  rw [List.length_set] at hj
  by_cases hji : ((j, l) : Nat × Bool) = (i.toNat, k)
  ·try dsimp only
   rw [if_pos hji]
   refine ⟨fun t ht => List.mem_append_right _ ht, hf0g, fun j' l' hj' hl' hne => ?_⟩
   rw [List.length_set] at hj'
   have hne' : ((j', l') : Nat × Bool) ≠ (i.toNat, k) := fun e => hne (e.trans hji.symm)
   try dsimp only
   rw [if_neg hne']
   exact (hdj.symm).sub (e j' l' hj' (hout _ _ hne' hl')).1
  ·try dsimp only
   rw [if_neg hji]
   obtain ⟨q1, q2, q3⟩ := e j l hj (hout _ _ hji hjl)
   refine ⟨fun t ht => List.mem_append_left _ (q1 t ht), q2, fun j' l' hj' hl' hne => ?_⟩
   rw [List.length_set] at hj'
   by_cases hne' : ((j', l') : Nat × Bool) = (i.toNat, k)
   ·try dsimp only
    rw [if_pos hne']; exact hdj.subl q1
   ·try dsimp only
    rw [if_neg hne']; exact q3 j' l' hj' (hout _ _ hne' hl') hne
theorem Nd.clearAt {t : TypeId} {i : Int} {v : Value} {b0 : Bool} {hol' : List (Nat × Bool)} (hw : WF H) (h : Nd enc sz H s xs fp hol) (hp : 0 < sz) (h0 : 0 ≤ i) (h1 : i < (xs.length : Int)) (hx : v.cells.toList = [.bool b0, .slice none 0 0, .slice none 0 0]) (hs : (P.info? t).map (·.size) = some 3)
  (hh : ∀ p ∈ hol, p.1 = i.toNat ∨ p ∈ hol') :
  ∃ H', aStore P t (elp s 3 i.toNat 0) v H = some H' /\ FrS fp H H' /\ Nd enc sz H' s (xs.set i.toNat (b0, [], [])) fp hol' := by
 obtain ⟨hl, css, f0, G, a, b, c, d, e⟩ := h
 have hi : i.toNat < xs.length := by omega
 have hic : i.toNat < css.length := by omega
 have hc : css[i.toNat]? = some css[i.toNat] := List.getElem?_eq_getElem hic
 have h1c : i < (css.length : Int) := by omega
 have hgc : gt css i = css[i.toNat] := Option.some.inj ((gt_get h0 h1c).symm.trans hc)
 obtain ⟨u1, u2, e1, e2, e3, e4⟩ := d i.toNat _ _ (gt_get h0 h1) hc
 obtain ⟨H', p1, p2, p3⟩ := a.store (P := P) (t := t) (off := 0) hw h0 h1c v [.bool b0, .slice none 0 0, .slice none 0 0] hx hs rfl [.bool b0, .slice none 0 0, .slice none 0 0] (by simp) (by rw [hgc, e1]; rfl)
 have hout : ∀ j l, j ≠ i.toNat -> (j, l) ∉ hol' -> (j, l) ∉ hol := fun j l h1 h2 h3 => (hh _ h3).elim h1 h2
 refine ⟨H', p1, p2.mono b, ⟨hl.fr p2, css.set i.toNat [.bool b0, .slice none 0 0, .slice none 0 0], f0, fun j l => if j = i.toNat then [] else G j l, p3, b, by simp [c], ?_, ?_⟩⟩
 ·intro j x cs hj hcs
  by_cases hji : j = i.toNat
  ·subst hji
   rw [List.getElem?_set_self hi] at hj
   rw [List.getElem?_set_self hic] at hcs
   cases hj; cases hcs
   refine ⟨_, _, rfl, rfl, rfl, fun l _ => ?_⟩
   try dsimp only
   rw [if_pos rfl]
   cases l <;> exact .nil hp
  ·rw [List.getElem?_set_ne (fun e => hji e.symm)] at hj hcs
   obtain ⟨v1, v2, f1, f2, f3, f4⟩ := d j x cs hj hcs
   refine ⟨v1, v2, f1, f2, f3, fun l hlh => ?_⟩
   try dsimp only
   rw [if_neg hji]
   exact (f4 l (hout j l hji hlh)).fr p2 (e j l (List.getElem?_eq_some_iff.1 hj).1 (hout j l hji hlh)).2.1
 ·intro j l hj hjl
  rw [List.length_set] at hj
  by_cases hji : j = i.toNat
  ·try dsimp only
   rw [if_pos hji]
   exact ⟨fun t ht => (by cases ht), Dj.nil_r, fun _ _ _ _ _ => Dj.nil_l⟩
  ·try dsimp only
   rw [if_neg hji]
   obtain ⟨q1, q2, q3⟩ := e j l hj (hout j l hji hjl)
   refine ⟨q1, q2, fun j' l' hj' hl' hne => ?_⟩
   rw [List.length_set] at hj'
   by_cases hne' : j' = i.toNat
   ·try dsimp only
    rw [if_pos hne']; exact Dj.nil_r
   ·try dsimp only
    rw [if_neg hne']; exact q3 j' l' hj' (hout j' l' hne' hl') hne
theorem Nd.open2 {i : Int} (h : Nd enc sz H s xs fp []) (h0 : 0 ≤ i) (h1 : i < (xs.length : Int)) :
  ∃ u1 u2 fr g1 g2, (∀ (P : Program) (t : TypeId) (v : Value), ldOf P t [.bool (gt xs i).1, u1, u2] 0 = some v -> aLoad P t (elp s 3 i.toNat 0) H = some v) /\
   Nd enc sz H s xs fr [(i.toNat, true), (i.toNat, false)] /\ Ow enc sz H u1 (gt xs i).2.1 g1 /\ Ow enc sz H u2 (gt xs i).2.2 g2 /\ Dj fr g1 /\ Dj fr g2 /\ Dj g1 g2 /\ (∀ t ∈ fr, t ∈ fp) /\ (∀ t ∈ g1, t ∈ fp) /\ (∀ t ∈ g2, t ∈ fp) := by
 obtain ⟨u1, u2, a1, a2⟩ := h.at h0 h1
 obtain ⟨fr, g, b1, b2, b3, b4, b5⟩ := h.borrow false h0 h1 (by simp) (a2 false (by simp)) rfl
 obtain ⟨v1, v2, c1, c2⟩ := b1.at h0 h1
 have hv : v2 = u2 := by
  have k1 := (a2 true (by simp)).kid
  have k2 := (c2 true (by simp)).kid
  obtain ⟨x1, x2, x3, x4, x5, x6, x7, x8, x9, y1, y2⟩ := k1
  obtain ⟨z1, z2, z3, z4, z5, z6, z7, z8, z9, w1, w2⟩ := k2
  rw [x7] at z7
  cases z7
  rw [y1] at w1
  cases w1
  rw [y2] at w2
  exact (Option.some.inj w2).symm
 obtain ⟨fr2, g2, d1, d2, d3, d4, d5⟩ := b1.borrow true h0 h1 (by simp) (c2 true (by simp)) rfl
 have d2' : Ow enc sz H u2 (gt xs i).2.2 g2 := by rw [← hv]; exact d2
 exact ⟨u1, u2, fr2, g, g2, fun P t v hh => a1 P t 0 v hh, d1, b2, d2', b3.subl d4, d3, fun t h1 h2 => b3 t (d5 t h2) h1, fun t ht => b4 t (d4 t ht), b5, fun t ht => b4 t (d5 t ht)⟩
theorem Nd.zeros {n : Nat} (hp : 0 < sz) (h : Ow id 3 H s (List.replicate n [.bool false, .slice none 0 0, .slice none 0 0]) fp) : Nd enc sz H s (List.replicate n (false, [], [])) fp [] := by
 refine ⟨h.lt, _, fp, fun _ _ => [], h, fun _ h => h, by simp, fun i x cs hx hc => ?_, fun i k _ _ => ⟨fun t h => (by cases h), Dj.nil_r, fun _ _ _ _ _ => Dj.nil_l⟩⟩
 have e1 := List.eq_of_mem_replicate (List.mem_of_getElem? hx)
 have e2 := List.eq_of_mem_replicate (List.mem_of_getElem? hc)
 subst e1; subst e2
 exact ⟨_, _, rfl, rfl, rfl, fun k _ => by cases k <;> exact .nil hp⟩
end
end Go.Vd

namespace Go.Vd
/-! Steps under short names: what is reckoned is reckoned by itself. -/
section
set_option linter.unusedSectionVars false
variable [Pins] {P : Program} {ops : Array Oper} {K : AAct -> AH -> Prop} {α : AAct} {H : AH} {o : Oper} {rest : List Oper} {tbl : List (List Nat)} {i : Nat} {rs : List Nat} {fl : List (Nat × AAct × Value)}
theorem q_ (v : Value) (k : wpSeq P ops K rest (α.put o.dst v) H) (h : stepQ P ops o α H = some v := by kernel_rfl) : wpSeq P ops K (o :: rest) α H := s_qk v h k
theorem l_' (v : Value) (x : Option Value) (h : x = some v) (k : wpSeq P ops K rest (α.put o.dst v) H) (h1 : stepQ P ops o α H = x := by kernel_rfl) : wpSeq P ops K (o :: rest) α H := s_ql v h1 h k
theorem e_' (v : Value) (k : wpOrd P ops tbl K rs fl (α.put (dstOf ops i) v) H) (h : stepD P ops tbl i rs α H = some v := by kernel_rfl) : wpOrd P ops tbl K (i :: rs) fl α H := d_qk v h k
theorem m_' (v : Value) (x : Option Value) (h : x = some v) (k : wpOrd P ops tbl K rs fl (α.put (dstOf ops i) v) H) (h1 : stepD P ops tbl i rs α H = x := by kernel_rfl) : wpOrd P ops tbl K (i :: rs) fl α H := d_ql v h1 h k
theorem has_of : ∀ {l : List (Nat × Value)}, (l.map fun p => α p.1) = l.map (·.2) -> Has α l
  | [], _ => trivial
  | (_, _) :: _, h => ⟨(List.cons.inj h).1, has_of (List.cons.inj h).2⟩
theorem ha_ {l : List (Nat × Value)} (h : (l.map fun p => α p.1) = l.map (·.2) := by kernel_rfl) : Has α l := has_of h
theorem n_' (k : wpSeq P ops K rest (α.put o.dst undef) H) (hg : Region.wanted o (aYield ops α) = false := by kernel_rfl) : wpSeq P ops K (o :: rest) α H := s_no hg k
theorem j_' (k : wpOrd P ops tbl K rs fl (α.put (dstOf ops i) undef) H) (h : idle ops i α = true := by kernel_rfl) : wpOrd P ops tbl K (i :: rs) fl α H := d_idle h k
theorem g_' {N id : Nat} {l : List Oper} {Q : Exit -> AAct -> AH -> Prop} (h : wpSeq P l.toArray (Q .normal) l α H) (hok : opsOk N l = true := by kernel_rfl) : aWp P N (.region id l.toArray false) Q α H := w_reg hok h
theorem w_' (x : Int) (hw : IntKind.i64.wrap x = x) (kk : wpSeq P ops K rest (α.put o.dst (.int .i64 x)) H) (h : stepQ P ops o α H = some (.int .i64 (IntKind.i64.wrap x)) := by kernel_rfl) : wpSeq P ops K (o :: rest) α H := s_w x h hw kk
end
abbrev i_ (n : Int) : Value := .int .i64 n
abbrev pt_ (b o : Nat) : Value := .pointer (some ⟨b, o, none⟩)
end Go.Vd
namespace Go.Vd
section
variable [Pins] {P : Program} {α : AAct} {H H' : AH} {W : Fp} {b o : Nat} {cs : List Value} {t : TypeId} {v : Value}
theorem Ext.n (h : Ext H H') : H.next ≤ H'.next := h.next
theorem FrS.n (h : FrS W H H') : H.next ≤ H'.next := h.next
theorem t_ {a b c : Nat} (h : a ≤ b) (k : b ≤ c) : a ≤ c := Nat.le_trans h k
theorem Row.l_ (h : Row H b cs) (hv : ldOf P t cs o = some v := by kernel_rfl) : aLoad P t (.pointer (some ⟨b, o, none⟩)) H = some v := h.ld hv
theorem rt_ {t : Nat} {v : Value} {l : List ResultVar} {vs : List Value} (hr : aRes P α H l = some vs) (h : α t = v := by kernel_rfl) : aRes P α H (.tmp t :: l) = some (v :: vs) := aRes_tmp h hr
theorem oi_ {E : Type} {a b : E} (h : some a = some b) : a = b := Option.some.inj h
theorem f0_ (wf : WF H) : FrS [] H H := .refl wf
noncomputable abbrev aL_ (t : TypeId) (v : Value) (H : AH) : Option Value := aLoad Go.Proofs.Tryz.prog t v H
end
end Go.Vd
namespace Go.Vd
section
set_option linter.unusedSectionVars false
variable [Pins] {N : Nat} {Q : Exit -> AAct -> AH -> Prop} {ops : Array Oper} {K : AAct -> AH -> Prop} {α : AAct} {H H' : AH} {o : Oper} {rest : List Oper} {tbl : List (List Nat)} {i : Nat} {rs : List Nat} {fl : List (Nat × AAct × Value)}
variable {b : Nat} {cs : List Value} {E : Type} {enc : E -> List Value} {sz : Nat} {s : Value} {xs : List E} {fp : Fp} {j : Int}
theorem lr_ (t : TypeId) (p : Nat) (v : Value) (u : Row H b cs) (k : wpSeq Go.Proofs.Tryz.prog ops K rest (α.put o.dst v) H) (hv : ldOf Go.Proofs.Tryz.prog t cs p = some v := by kernel_rfl) (h1 : stepQ Go.Proofs.Tryz.prog ops o α H = aLoad Go.Proofs.Tryz.prog t (.pointer (some ⟨b, p, none⟩)) H := by kernel_rfl) : wpSeq Go.Proofs.Tryz.prog ops K (o :: rest) α H := s_ql v h1 (u.ld hv) k
theorem mr_ (t : TypeId) (p : Nat) (v : Value) (u : Row H b cs) (k : wpOrd Go.Proofs.Tryz.prog ops tbl K rs fl (α.put (dstOf ops i) v) H) (hv : ldOf Go.Proofs.Tryz.prog t cs p = some v := by kernel_rfl) (h1 : stepD Go.Proofs.Tryz.prog ops tbl i rs α H = aLoad Go.Proofs.Tryz.prog t (.pointer (some ⟨b, p, none⟩)) H := by kernel_rfl) : wpOrd Go.Proofs.Tryz.prog ops tbl K (i :: rs) fl α H := d_ql v h1 (u.ld hv) k
theorem le_ [Inhabited E] (t : TypeId) (f : Nat) (v : Value) (u : Sq enc sz H s xs fp) (h0 : 0 ≤ j) (h2 : j < (xs.length : Int)) (k : wpSeq Go.Proofs.Tryz.prog ops K rest (α.put o.dst v) H) (hv : ldOf Go.Proofs.Tryz.prog t (enc (gt xs j)) f = some v := by kernel_rfl) (h1 : stepQ Go.Proofs.Tryz.prog ops o α H = aLoad Go.Proofs.Tryz.prog t (elp s sz j.toNat f) H := by kernel_rfl) : wpSeq Go.Proofs.Tryz.prog ops K (o :: rest) α H := s_ql v h1 (u.ld h0 h2 hv) k
theorem me_ [Inhabited E] (t : TypeId) (f : Nat) (v : Value) (u : Sq enc sz H s xs fp) (h0 : 0 ≤ j) (h2 : j < (xs.length : Int)) (k : wpOrd Go.Proofs.Tryz.prog ops tbl K rs fl (α.put (dstOf ops i) v) H) (hv : ldOf Go.Proofs.Tryz.prog t (enc (gt xs j)) f = some v := by kernel_rfl) (h1 : stepD Go.Proofs.Tryz.prog ops tbl i rs α H = aLoad Go.Proofs.Tryz.prog t (elp s sz j.toNat f) H := by kernel_rfl) : wpOrd Go.Proofs.Tryz.prog ops tbl K (i :: rs) fl α H := d_ql v h1 (u.ld h0 h2 hv) k
theorem Sq.ix_ (u : Sq enc sz H s xs fp) (t : TypeId) (h0 : 0 ≤ j) (h2 : j < (xs.length : Int)) (k : wpSeq Go.Proofs.Tryz.prog ops K rest (α.put o.dst (elp s sz j.toNat 0)) H) (ht : slOne Go.Proofs.Tryz.prog t = some sz := by kernel_rfl) (h1 : stepQ Go.Proofs.Tryz.prog ops o α H = aIndexAddr Go.Proofs.Tryz.prog t s (.int .i64 j) := by kernel_rfl) : wpSeq Go.Proofs.Tryz.prog ops K (o :: rest) α H := s_ql _ h1 (u.idxb ht h0 h2) k
theorem Sq.mx_ (u : Sq enc sz H s xs fp) (t : TypeId) (h0 : 0 ≤ j) (h2 : j < (xs.length : Int)) (k : wpOrd Go.Proofs.Tryz.prog ops tbl K rs fl (α.put (dstOf ops i) (elp s sz j.toNat 0)) H) (ht : slOne Go.Proofs.Tryz.prog t = some sz := by kernel_rfl) (h1 : stepD Go.Proofs.Tryz.prog ops tbl i rs α H = aIndexAddr Go.Proofs.Tryz.prog t s (.int .i64 j) := by kernel_rfl) : wpOrd Go.Proofs.Tryz.prog ops tbl K (i :: rs) fl α H := d_ql _ h1 (u.idxb ht h0 h2) k
theorem Sq.ln_ (u : Sq enc sz H s xs fp) (t : TypeId) (k : wpSeq Go.Proofs.Tryz.prog ops K rest (α.put o.dst (.int .i64 xs.length)) H) (ht : isSl Go.Proofs.Tryz.prog t = true := by kernel_rfl) (h1 : stepQ Go.Proofs.Tryz.prog ops o α H = aLen Go.Proofs.Tryz.prog t s H := by kernel_rfl) : wpSeq Go.Proofs.Tryz.prog ops K (o :: rest) α H := s_ql _ h1 (u.lenb ht) k
theorem Sq.mn_ (u : Sq enc sz H s xs fp) (t : TypeId) (k : wpOrd Go.Proofs.Tryz.prog ops tbl K rs fl (α.put (dstOf ops i) (.int .i64 xs.length)) H) (ht : isSl Go.Proofs.Tryz.prog t = true := by kernel_rfl) (h1 : stepD Go.Proofs.Tryz.prog ops tbl i rs α H = aLen Go.Proofs.Tryz.prog t s H := by kernel_rfl) : wpOrd Go.Proofs.Tryz.prog ops tbl K (i :: rs) fl α H := d_ql _ h1 (u.lenb ht) k
theorem Nst.ix_ {C : CR E} (u : Nst C H s xs fp) (t : TypeId) (h0 : 0 ≤ j) (h2 : j < (xs.length : Int)) (k : wpSeq Go.Proofs.Tryz.prog ops K rest (α.put o.dst (elp s C.sz j.toNat 0)) H) (ht : slOne Go.Proofs.Tryz.prog t = some C.sz := by kernel_rfl) (h1 : stepQ Go.Proofs.Tryz.prog ops o α H = aIndexAddr Go.Proofs.Tryz.prog t s (.int .i64 j) := by kernel_rfl) : wpSeq Go.Proofs.Tryz.prog ops K (o :: rest) α H := s_ql _ h1 (u.idxb ht h0 h2) k
theorem Nst.mx_ {C : CR E} (u : Nst C H s xs fp) (t : TypeId) (h0 : 0 ≤ j) (h2 : j < (xs.length : Int)) (k : wpOrd Go.Proofs.Tryz.prog ops tbl K rs fl (α.put (dstOf ops i) (elp s C.sz j.toNat 0)) H) (ht : slOne Go.Proofs.Tryz.prog t = some C.sz := by kernel_rfl) (h1 : stepD Go.Proofs.Tryz.prog ops tbl i rs α H = aIndexAddr Go.Proofs.Tryz.prog t s (.int .i64 j) := by kernel_rfl) : wpOrd Go.Proofs.Tryz.prog ops tbl K (i :: rs) fl α H := d_ql _ h1 (u.idxb ht h0 h2) k
theorem Nst.ln_ {C : CR E} (u : Nst C H s xs fp) (t : TypeId) (k : wpSeq Go.Proofs.Tryz.prog ops K rest (α.put o.dst (.int .i64 xs.length)) H) (ht : isSl Go.Proofs.Tryz.prog t = true := by kernel_rfl) (h1 : stepQ Go.Proofs.Tryz.prog ops o α H = aLen Go.Proofs.Tryz.prog t s H := by kernel_rfl) : wpSeq Go.Proofs.Tryz.prog ops K (o :: rest) α H := s_ql _ h1 (u.lenb ht) k
theorem Nst.mn_ {C : CR E} (u : Nst C H s xs fp) (t : TypeId) (k : wpOrd Go.Proofs.Tryz.prog ops tbl K rs fl (α.put (dstOf ops i) (.int .i64 xs.length)) H) (ht : isSl Go.Proofs.Tryz.prog t = true := by kernel_rfl) (h1 : stepD Go.Proofs.Tryz.prog ops tbl i rs α H = aLen Go.Proofs.Tryz.prog t s H := by kernel_rfl) : wpOrd Go.Proofs.Tryz.prog ops tbl K (i :: rs) fl α H := d_ql _ h1 (u.lenb ht) k
theorem Hol.ix_ {E' : Type} {C : CR E} {enc' : E' -> List Value} {sz' off q : Nat} {upd : List E' -> E} (u : Hol C enc' sz' H s xs q off upd fp) (t : TypeId) (h0 : 0 ≤ j) (h2 : j < (xs.length : Int)) (k : wpSeq Go.Proofs.Tryz.prog ops K rest (α.put o.dst (elp s C.sz j.toNat 0)) H) (ht : slOne Go.Proofs.Tryz.prog t = some C.sz := by kernel_rfl) (h1 : stepQ Go.Proofs.Tryz.prog ops o α H = aIndexAddr Go.Proofs.Tryz.prog t s (.int .i64 j) := by kernel_rfl) : wpSeq Go.Proofs.Tryz.prog ops K (o :: rest) α H := s_ql _ h1 (u.idxb ht h0 h2) k
theorem Hol.mx_ {E' : Type} {C : CR E} {enc' : E' -> List Value} {sz' off q : Nat} {upd : List E' -> E} (u : Hol C enc' sz' H s xs q off upd fp) (t : TypeId) (h0 : 0 ≤ j) (h2 : j < (xs.length : Int)) (k : wpOrd Go.Proofs.Tryz.prog ops tbl K rs fl (α.put (dstOf ops i) (elp s C.sz j.toNat 0)) H) (ht : slOne Go.Proofs.Tryz.prog t = some C.sz := by kernel_rfl) (h1 : stepD Go.Proofs.Tryz.prog ops tbl i rs α H = aIndexAddr Go.Proofs.Tryz.prog t s (.int .i64 j) := by kernel_rfl) : wpOrd Go.Proofs.Tryz.prog ops tbl K (i :: rs) fl α H := d_ql _ h1 (u.idxb ht h0 h2) k
theorem Nd.ix_ {xs : List (Bool × List E × List E)} {hol : List (Nat × Bool)} (u : Nd enc sz H s xs fp hol) (t : TypeId) (h0 : 0 ≤ j) (h2 : j < (xs.length : Int)) (k : wpSeq Go.Proofs.Tryz.prog ops K rest (α.put o.dst (elp s 3 j.toNat 0)) H) (ht : slOne Go.Proofs.Tryz.prog t = some 3 := by kernel_rfl) (h1 : stepQ Go.Proofs.Tryz.prog ops o α H = aIndexAddr Go.Proofs.Tryz.prog t s (.int .i64 j) := by kernel_rfl) : wpSeq Go.Proofs.Tryz.prog ops K (o :: rest) α H := s_ql _ h1 (u.idxb ht h0 h2) k
theorem Nd.mx_ {xs : List (Bool × List E × List E)} {hol : List (Nat × Bool)} (u : Nd enc sz H s xs fp hol) (t : TypeId) (h0 : 0 ≤ j) (h2 : j < (xs.length : Int)) (k : wpOrd Go.Proofs.Tryz.prog ops tbl K rs fl (α.put (dstOf ops i) (elp s 3 j.toNat 0)) H) (ht : slOne Go.Proofs.Tryz.prog t = some 3 := by kernel_rfl) (h1 : stepD Go.Proofs.Tryz.prog ops tbl i rs α H = aIndexAddr Go.Proofs.Tryz.prog t s (.int .i64 j) := by kernel_rfl) : wpOrd Go.Proofs.Tryz.prog ops tbl K (i :: rs) fl α H := d_ql _ h1 (u.idxb ht h0 h2) k
theorem Nd.ln_ {xs : List (Bool × List E × List E)} {hol : List (Nat × Bool)} (u : Nd enc sz H s xs fp hol) (t : TypeId) (k : wpSeq Go.Proofs.Tryz.prog ops K rest (α.put o.dst (.int .i64 xs.length)) H) (ht : isSl Go.Proofs.Tryz.prog t = true := by kernel_rfl) (h1 : stepQ Go.Proofs.Tryz.prog ops o α H = aLen Go.Proofs.Tryz.prog t s H := by kernel_rfl) : wpSeq Go.Proofs.Tryz.prog ops K (o :: rest) α H := s_ql _ h1 (u.lenb ht) k
theorem Nd.mn_ {xs : List (Bool × List E × List E)} {hol : List (Nat × Bool)} (u : Nd enc sz H s xs fp hol) (t : TypeId) (k : wpOrd Go.Proofs.Tryz.prog ops tbl K rs fl (α.put (dstOf ops i) (.int .i64 xs.length)) H) (ht : isSl Go.Proofs.Tryz.prog t = true := by kernel_rfl) (h1 : stepD Go.Proofs.Tryz.prog ops tbl i rs α H = aLen Go.Proofs.Tryz.prog t s H := by kernel_rfl) : wpOrd Go.Proofs.Tryz.prog ops tbl K (i :: rs) fl α H := d_ql _ h1 (u.lenb ht) k
theorem ck_ {f : FuncId} {args : Array Value} {K' : Value -> AH -> Prop} (hf : ACalls Go.Proofs.Tryz.prog f args H K') (k : ∀ v H', K' v H' -> wpSeq Go.Proofs.Tryz.prog ops K rest (α.put o.dst v) H') (h : callQ Go.Proofs.Tryz.prog ops o α = some (f, args) := by kernel_rfl) : wpSeq Go.Proofs.Tryz.prog ops K (o :: rest) α H := s_ck f args h hf k
theorem dk_ {f : FuncId} {args : Array Value} {K' : Value -> AH -> Prop} (hf : ACalls Go.Proofs.Tryz.prog f args H K') (k : ∀ v H', K' v H' -> Stable Go.Proofs.Tryz.prog ops tbl i H' fl /\ wpOrd Go.Proofs.Tryz.prog ops tbl K rs fl (α.put (dstOf ops i) v) H') (h : atOp ops i (fun o => callQ Go.Proofs.Tryz.prog ops o α) = some (f, args) := by kernel_rfl) : wpOrd Go.Proofs.Tryz.prog ops tbl K (i :: rs) fl α H := d_ck f args h hf k
theorem ek_ {x : Option AH} (h : x = some H') (k : wpSeq Go.Proofs.Tryz.prog ops K rest (α.put o.dst undef) H') (h1 : effQ Go.Proofs.Tryz.prog ops o α H = x.map fun H' => (undef, H') := by kernel_rfl) : wpSeq Go.Proofs.Tryz.prog ops K (o :: rest) α H := s_ek undef h1 (map_ok h) k
theorem fk_ {x : Option AH} (h : x = some H') (st : Stable Go.Proofs.Tryz.prog ops tbl i H' fl) (k : wpOrd Go.Proofs.Tryz.prog ops tbl K rs fl (α.put (dstOf ops i) undef) H') (h1 : atOp ops i (fun o => effQ Go.Proofs.Tryz.prog ops o α H) = x.map fun H' => (undef, H') := by kernel_rfl) : wpOrd Go.Proofs.Tryz.prog ops tbl K (i :: rs) fl α H := d_ek undef h1 (map_ok h) st k
theorem wc_ {c : Operand} {x y : Code} (p : Prop) [Decidable p] (ht : p -> aWp Go.Proofs.Tryz.prog N x Q α H) (hf : ¬ p -> aWp Go.Proofs.Tryz.prog N y Q α H) (hb : aEval α c = .bool (decide p) := by kernel_rfl) (hok : opndOk c = true := by rfl) : aWp Go.Proofs.Tryz.prog N (.cond c x y) Q α H := w_condp p hb hok ht hf
theorem wb_ {c : Operand} {x y : Code} (b : Bool) (ht : b = true -> aWp Go.Proofs.Tryz.prog N x Q α H) (hf : b = false -> aWp Go.Proofs.Tryz.prog N y Q α H) (hb : aEval α c = .bool b := by kernel_rfl) (hok : opndOk c = true := by rfl) : aWp Go.Proofs.Tryz.prog N (.cond c x y) Q α H := w_cond b hb hok ht hf
theorem sb_ (p : Prop) [Decidable p] (ht : p -> wpSeq Go.Proofs.Tryz.prog ops K rest (α.put o.dst (.bool true)) H) (hf : ¬p -> wpSeq Go.Proofs.Tryz.prog ops K rest (α.put o.dst (.bool false)) H) (h : stepQ Go.Proofs.Tryz.prog ops o α H = some (.bool (decide p)) := by kernel_rfl) : wpSeq Go.Proofs.Tryz.prog ops K (o :: rest) α H := s_b p h ht hf
theorem db_ (p : Prop) [Decidable p] (ht : p -> wpOrd Go.Proofs.Tryz.prog ops tbl K rs fl (α.put (dstOf ops i) (.bool true)) H) (hf : ¬p -> wpOrd Go.Proofs.Tryz.prog ops tbl K rs fl (α.put (dstOf ops i) (.bool false)) H) (h : stepD Go.Proofs.Tryz.prog ops tbl i rs α H = some (.bool (decide p)) := by kernel_rfl) : wpOrd Go.Proofs.Tryz.prog ops tbl K (i :: rs) fl α H := d_b p h ht hf
theorem rk_ (hw : WF H) (cs : List Value) (k : ∀ b H', Ext H H' -> Inn [] H [b] -> Row H' b cs -> wpSeq Go.Proofs.Tryz.prog ops K rest (α.put o.dst (.pointer (some ⟨b, 0, none⟩))) H') (h : newQ Go.Proofs.Tryz.prog ops o α = some (.row .own cs, ptrTo) := by kernel_rfl) : wpSeq Go.Proofs.Tryz.prog ops K (o :: rest) α H := s_rwk hw cs h k
theorem rl_ (hw : WF H) (cs : List Value) (k : ∀ b H', Ext H H' -> Inn [] H [b] -> Row H' b cs -> wpSeq Go.Proofs.Tryz.prog ops K rest (α.put o.dst (.pointer (some ⟨b, 0, none⟩))) H') (h1 : allOne cs = true := by kernel_rfl) (h : newQ Go.Proofs.Tryz.prog ops o α = if allOne cs = true then some (.row .own cs, ptrTo) else none := by kernel_rfl) : wpSeq Go.Proofs.Tryz.prog ops K (o :: rest) α H := s_rwl hw cs h1 h k
theorem sq_ {x y : Code} (h : ∀ {K : AAct -> AH -> Prop}, (∀ α H, aWp Go.Proofs.Tryz.prog N y Q α H -> K α H) -> aWp Go.Proofs.Tryz.prog N x (thenA K Q) α H) : aWp Go.Proofs.Tryz.prog N (.seq x y) Q α H := w_seqk fun _ k => h k
theorem ab_ {f : FuncId} {fn : Func} {c : Code} {args : Array Value} {K : Value -> AH -> Prop} (hf : Go.Proofs.Tryz.prog.funcs[f]? = some fn) (h : aWp Go.Proofs.Tryz.prog fn.ntmps c (bodyA Go.Proofs.Tryz.prog fn K) (initA args) H) (hb : fn.body = some c := by rfl) (hn : Nat.ble args.size fn.ntmps = true := by rfl) : ACalls Go.Proofs.Tryz.prog f args H K := acalls_of_body mixed hf hb (Nat.le_of_ble_eq_true hn) h
theorem br_ {fn : Func} {K : Value -> AH -> Prop} (vs : List Value) (k : K (pack vs) H) (h : aRes Go.Proofs.Tryz.prog α H fn.results.toList = some vs := by kernel_rfl) : bodyA Go.Proofs.Tryz.prog fn K .ret α H := b_ret h k
theorem nr_ {fn : Func} {K : Value -> AH -> Prop} (vs : List Value) (k : K (pack vs) H) (h : aRes Go.Proofs.Tryz.prog α H fn.results.toList = some vs := by kernel_rfl) : bodyA Go.Proofs.Tryz.prog fn K .normal α H := b_nrm h k
theorem ra_ (t p : Nat) (hw : WF H) (h : Row H b cs) (vs cs' : List Value) (hx : (Value.agg vs.toArray).cells.toList = vs := by kernel_rfl) (hs : (Go.Proofs.Tryz.prog.info? t).map (·.size) = some vs.length := by kernel_rfl) (h1 : allOne vs = true := by kernel_rfl) (hl : Nat.ble (p + vs.length) cs.length = true := by kernel_rfl) (hcs : splice cs p vs = cs' := by kernel_rfl) : ∃ H', aStore Go.Proofs.Tryz.prog t (.pointer (some ⟨b, p, none⟩)) (.agg vs.toArray) H = some H' /\ FrS [b] H H' /\ Row H' b cs' := Row.store hw h _ vs hx hs h1 (Nat.le_of_ble_eq_true hl) cs' hcs
theorem rb_ (t p : Nat) (hw : WF H) (h : Row H b cs) (v : Value) (cs' : List Value) (hx : v.cells.toList = [v] := by kernel_rfl) (hs : (Go.Proofs.Tryz.prog.info? t).map (·.size) = some [v].length := by kernel_rfl) (h1 : allOne [v] = true := by kernel_rfl) (hl : Nat.ble (p + [v].length) cs.length = true := by kernel_rfl) (hcs : splice cs p [v] = cs' := by kernel_rfl) : ∃ H', aStore Go.Proofs.Tryz.prog t (.pointer (some ⟨b, p, none⟩)) v H = some H' /\ FrS [b] H H' /\ Row H' b cs' := Row.store hw h _ [v] hx hs h1 (Nat.le_of_ble_eq_true hl) cs' hcs
end
section
variable {H H1 H2 : AH} {W S : Fp}
theorem fr_ (h : WF H) : FrS W H H := .refl h
theorem fs_ (hw : WF H) (h : FrS W H H1) (k : FrS S H1 H2) (hi : Inn W H S) : FrS W H H2 := .step hw h k hi
theorem bs_ {α β : Type} {x : Option α} {f : α -> Option β} {r : β} (h : x.bind f = some r) : ∃ y, x = some y /\ f y = some r := bind_some h
theorem lt_ {n : Nat} : n < n + 1 := Nat.lt_succ_self n
theorem dn_ {a : Fp} : Dj [] a := Dj.nil_l
theorem in_ : Inn W H [] := Inn.nil
theorem ir_ : Inn W H W := Inn.refl'
end
end Go.Vd

/-! (InA) -/

set_option maxRecDepth 100000
set_option maxHeartbeats 4000000
set_option linter.unusedVariables false
set_option linter.unusedSimpArgs false
namespace Go.Vd
section
variable {α : Type}
theorem ins_grow {a r u : List α} {i m : Nat} {y : α} (ha : a.length = i) (hr : r.length = m + 1) (hu : u.length = m) :
  ((a ++ r).take i ++ [y] ++ (a ++ r).drop (i + 1)).take (i + 1) ++ u ++ ((a ++ r).take i ++ [y] ++ (a ++ r).drop (i + 1)).drop (i + 1 + m) = a ++ ([y] ++ u) := by
 subst ha; subst hu
 have h1 : (a ++ r).take a.length = a := List.take_left
 have h2 : (a ++ r).drop (a.length + 1) = r.drop 1 := by rw [List.drop_append]; simp
 rw [h1, h2]
 have h3 : (a ++ [y] ++ r.drop 1).take (a.length + 1) = a ++ [y] := by
  have : (a ++ [y]).length = a.length + 1 := by simp
  rw [← this]; exact List.take_left
 have h4 : (a ++ [y] ++ r.drop 1).drop (a.length + 1 + u.length) = [] := List.drop_eq_nil_of_le (by simp; omega)
 rw [h3, h4]; simp
theorem ins_here {a J u : List α} {i m : Nat} {y : α} (ha : a.length = i) (hJ : 1 ≤ J.length) (hu : u.length = m) :
  ((a ++ u ++ J).take (i + 1) ++ u ++ (a ++ u ++ J).drop (i + 1 + m)).take i ++ [y] ++ ((a ++ u ++ J).take (i + 1) ++ u ++ (a ++ u ++ J).drop (i + 1 + m)).drop (i + 1) = a ++ ([y] ++ u) ++ J.drop 1 := by
 subst ha; subst hu
 have h1 : ((a ++ u ++ J).take (a.length + 1)).length = a.length + 1 := by rw [List.length_take]; simp; omega
 have h2 : (a ++ u ++ J).drop (a.length + 1 + u.length) = J.drop 1 := by
  have : a.length + 1 + u.length = (a ++ u).length + 1 := by simp; omega
  rw [this, List.drop_append]; simp
 rw [h2]
 have h3 : ((a ++ u ++ J).take (a.length + 1) ++ u ++ J.drop 1).take a.length = a := by
  rw [List.append_assoc, List.take_append_of_le_length (by omega), List.take_take, Nat.min_eq_left (by omega), List.append_assoc]; exact List.take_left
 have h4 : ((a ++ u ++ J).take (a.length + 1) ++ u ++ J.drop 1).drop (a.length + 1) = u ++ J.drop 1 := by
  have : ((a ++ u ++ J).take (a.length + 1) ++ (u ++ J.drop 1)).drop ((a ++ u ++ J).take (a.length + 1)).length = u ++ J.drop 1 := List.drop_left
  rw [h1] at this
  rw [List.append_assoc]; exact this
 rw [h3, h4]; simp
end
section
variable [Pins]
variable {H : AH} {E : Type} {enc : E -> List Value} {s t : Value} {xs : List E} {y : E} {fp ft : Fp} {i j : Int}
structure InS (enc : E -> List Value) (H : AH) (s : Value) (xs : List E) (fs : Fp) : Prop where
 ow : Ow enc 3 H s xs fs
 is : ((s = .slice none 0 0 ∨ s = voidS) /\ xs = []) ∨ ∃ b c J, s = .slice (some ⟨b, 0, none⟩) xs.length c /\ fs = [b] /\ Rw H b .own 3 (xs.map enc ++ J) /\ xs.length + J.length = c
theorem a_spread {f : FuncId} {rest : List Value} {P : Program} {R : List E} (wf : WF H) (h : Ow enc 3 H s xs fp)
  (k : ∀ s' H' fs, WF H' -> FrS fp H H' -> InS enc H' s' xs fs -> Inn fp H fs -> ACalls P f (s' :: rest).toArray H' fun v H2 => ∃ fp', FrS fs H' H2 /\ Ow enc 3 H2 v R fp' /\ Inn fs H' fp') :
  ACalls P f (s :: rest).toArray H fun v H2 => ∃ fp', FrS fp H H2 /\ Ow enc 3 H2 v R fp' /\ Inn fp H fp' := by
 have fin : ∀ {s'} {H'} {fs : Fp}, FrS fp H H' -> Inn fp H fs -> ACalls P f (s' :: rest).toArray H' (fun v H2 => ∃ fp', FrS fs H' H2 /\ Ow enc 3 H2 v R fp' /\ Inn fs H' fp') ->
   ACalls P f (s' :: rest).toArray H' fun v H2 => ∃ fp', FrS fp H H2 /\ Ow enc 3 H2 v R fp' /\ Inn fp H fp' := fun hf hi hk =>
  hk.mono fun v H2 ⟨f', a, b, c⟩ => ⟨f', hf.step wf a hi, b, hi.trans hf.next c⟩
 refine ACalls.spread wf h (fun hx hs => ?_) (fun hx => ?_) (fun H2 b c R' hf hb hn hg hl ho hc hcell => ?_)
 ·subst hx; subst hs
  exact fin (.refl wf) Inn.nil (k _ H [] wf (.refl wf) ⟨.nil (by decide), .inl ⟨.inl rfl, rfl⟩⟩ Inn.nil)
 ·subst hx
  exact fin (.refl wf) Inn.nil (k _ H [] wf (.refl wf) ⟨.void (by decide), .inl ⟨.inr rfl, rfl⟩⟩ Inn.nil)
 ·have hlo : (∀ x ∈ xs, (enc x).length = 3) /\ ∀ x ∈ xs, allOne (enc x) = true := by
   rcases h.is with ⟨_, rfl⟩ | ⟨φ, _, o⟩
   ·exact ⟨fun x hx => (by cases hx), fun x hx => (by cases hx)⟩
   ·exact ⟨o.len, o.one⟩
  have hlt : b < H2.next := by omega
  obtain ⟨J, hr, hJ⟩ := Rw.of (enc := enc) (xs := xs) hlt (by decide) hg hl hc hlo.1 hcell
  have hin : Inn fp H [b] := fun t ht => .inr (by rw [List.mem_singleton.1 ht]; omega)
  exact fin hf hin (k _ H2 [b] hf.wf hf ⟨hr.ow (.inl ⟨rfl, rfl⟩) rfl hlo.2 hlt rfl (by simpa using hJ), .inr ⟨b, c, J, rfl, rfl, hr, hJ⟩⟩ hin)
end
end Go.Vd

/-! (InB) -/

set_option maxRecDepth 100000
set_option maxHeartbeats 4000000
set_option linter.unusedVariables false
set_option linter.unusedSimpArgs false
namespace Go.Vd
section
variable [Pins]
variable {H : AH} {E : Type} {enc : E -> List Value} {s t : Value} {xs : List E} {y : E} {fs ft : Fp} {i : Int}
attribute [local irreducible] wpSeq wpOrd aWp
theorem a_insert0 (wf : WF H) (hs : InS enc H s xs fs) (ht : Ow enc 3 H t [y] ft) (dj : Dj fs ft) (g : 0 ≤ i /\ i ≤ (xs.length : Int) /\ (xs.length : Int) ≤ 1000000000) :
  ACalls Go.Proofs.Tryz.prog 86 #[s, .int .i64 i, t] H fun v H' => ∃ fp', FrS fs H H' /\ Ow enc 3 H' v (xs.take i.toNat ++ ([y] ++ xs.drop i.toNat)) fp' /\ Inn fs H fp' := by
 obtain ⟨g0, g1, g2⟩ := g
 obtain ⟨tb, tc, kt, ct, rfl, tlt, tg, tk, tlen, tcell, ty, ty1⟩ : ∃ tb tc kt ct, t = .slice (some ⟨tb, 0, none⟩) 1 tc /\ tb < H.next /\ H.get tb = some (.row kt ct) /\ (kt ≠ .ro /\ tokOf H tb ∈ ft) /\ 3 ≤ ct.length /\ H.cells tb 0 (1 * 3) = some ([enc y].flatMap id) /\ (enc y).length = 3 /\ allOne (enc y) = true := by
  rcases ht.is with ⟨_, h⟩ | ⟨φ, hφ, o⟩
  ·cases h
  rcases o.is with ⟨_, h⟩ | ⟨b, c, k, cs, e1, e2, e3, e4, e5, e6, e7⟩
  ·cases h
  have hl := o.len y (List.mem_singleton.2 rfl)
  have e5' : 1 ≤ c := e5
  refine ⟨b, c, k, cs, e1, e2, e3, ⟨?_, ?_⟩, by omega, ?_, hl, o.one y (List.mem_singleton.2 rfl)⟩
  ·rcases e4 with ⟨rfl, _⟩ | rfl <;> simp
  ·rcases e4 with ⟨rfl, rfl⟩ | rfl
   ·rw [show tokOf H φ = φ by simp [tokOf, e3]]; exact hφ
   ·rw [show tokOf H b = φ by simp [tokOf, e3]]; exact hφ
  ·rcases ht.sq.src with ⟨h, _⟩ | h
   ·rw [e1] at h; simp [voidS] at h
   ·rw [e1] at h
    have := h.cells.2
    simpa using this
 refine acalls_of_body mixed Go.Proofs.Tryz.func86 rfl (Nat.le_of_ble_eq_true rfl) ?_
 refine sq_ fun k1 => g_' (q_ (.slice none 0 0) (s_nil (k1 _ _ (sq_ fun k2 => g_' (q_ s (q_ (.int .i64 i) ?_))))))
 obtain ⟨v1, hv1⟩ : ∃ v, aSlice Go.Proofs.Tryz.prog 75 s (some (.int .i64 i)) none none H = some v := by
  rcases hs.is with ⟨hs0, rfl⟩ | ⟨b, c, J, rfl, _, hr, hJ⟩
  ·obtain rfl : i = 0 := by simp at g1; omega
   obtain ⟨m, z, hT⟩ := slOne_spec (P := Go.Proofs.Tryz.prog) (t := 75) (n := 3) (by kernel_rfl)
   obtain ⟨e, inf, hu, hi, _⟩ := slT_spec hT
   rcases hs0 with rfl | rfl
   ·exact ⟨_, by unfold aSlice; simp only [hu, hi]; simp [aBound]; rfl⟩
   ·exact ⟨_, by unfold aSlice voidS; simp only [hu, hi]; simp [aBound]; rfl⟩
  ·exact hr.slo0 (by simp) (by kernel_rfl) g0 (by omega) (by omega)
 refine s_ql v1 (x := aSlice Go.Proofs.Tryz.prog 75 s (some (.int .i64 i)) none none H) (by kernel_rfl) hv1 ?_
 refine s_nil (k2 _ _ (sq_ fun k3 => g_' (q_ (.slice (some ⟨tb, 0, none⟩) 1 tc) ?_)))
 refine s_ql (.int .i64 1) (x := aLen Go.Proofs.Tryz.prog 75 (.slice (some ⟨tb, 0, none⟩) 1 tc) H) (by kernel_rfl) (ht.sq.lenb (by kernel_rfl)) ?_
 refine q_ (.int .i64 1) (s_nil (k3 _ _ (sq_ fun k5 => sq_ fun k4 => g_' (q_ (.int .i64 1) (q_ (.bool false) (s_nil (k4 _ _ ?_)))))))
 refine w_cond false (by kernel_rfl) rfl (fun h => by cases h) (fun _ => ?_)
 refine w_skip (k5 _ _ (sq_ fun k6 => g_' (q_ s ?_)))
 refine s_ql (.int .i64 xs.length) (x := aLen Go.Proofs.Tryz.prog 75 s H) (by kernel_rfl) (hs.ow.sq.lenb (by kernel_rfl)) ?_
 refine q_ (.int .i64 xs.length) (s_nil (k6 _ _ (sq_ fun k8 => sq_ fun k7 => g_' (q_ (.int .i64 i) (q_ (.int .i64 xs.length) (q_ (.bool (decide (i = (xs.length : Int)))) (s_nil (k7 _ _ ?_))))))))
 refine w_condp (i = (xs.length : Int)) (by kernel_rfl) rfl (fun h => ?_) (fun hi => ?_)
 ·refine sq_ fun k9 => g_' (q_ s (q_ (.slice (some ⟨tb, 0, none⟩) 1 tc) ?_))
  obtain ⟨s2, H2, f2, ha, hf, ho2, hi2⟩ := Ow.append (P := Go.Proofs.Tryz.prog) 24 wf hs.ow ht.sq (fun x hx => by rw [List.mem_singleton.1 hx]; exact ty1) (at_ := #[75, 75]) rfl rfl (by kernel_rfl) (by kernel_rfl) (by decide) (by simp only [List.length_cons, List.length_nil]; omega)
  refine s_ek s2 (x := aAppend Go.Proofs.Tryz.prog #[75, 75] s (.slice (some ⟨tb, 0, none⟩) 1 tc) H) (by kernel_rfl) ha ?_
  refine q_ s2 (s_nil (k9 _ _ ?_))
  refine w_ret ?_
  dsimp only [thenA]
  refine b_ret (vs := [s2]) (aRes_tmp (by kernel_rfl) (rfl)) ?_
  refine ⟨f2, hf, ?_, hi2⟩
  rw [h, Int.toNat_natCast, List.take_length, List.drop_length, List.append_nil]
  exact ho2
 rcases hs.is with ⟨_, rfl⟩ | ⟨b, c, J, rfl, rfl, hr, hJ⟩
 ·simp at hi g1; omega
 have hmap : (xs.map enc).length = xs.length := List.length_map ..
 have hcl : (xs.map enc ++ J).length = c := by rw [List.length_append, hmap]; exact hJ
 have hone : ∀ x ∈ xs, allOne (enc x) = true := by
  rcases hs.ow.is with ⟨_, rfl⟩ | ⟨φ, _, o⟩
  ·intro x hx; cases hx
  ·exact o.one
 have hlen3 : ∀ x ∈ xs, (enc x).length = 3 := fun x hx => hr.len _ (List.mem_append_left _ (List.mem_map_of_mem hx))
 have htok : tokOf H b = b := by simp [tokOf, hr.get]
 have htb : tb ≠ b := fun e => dj b (List.mem_singleton.2 rfl) (by rw [← htok]; rw [← e]; exact tk.2)
 have hdl : ((xs.drop i.toNat).map enc).length = xs.length - i.toNat := by simp
 have hd3 : ∀ x ∈ (xs.drop i.toNat).map enc, x.length = 3 := fun x hx => by
  obtain ⟨u, hu, rfl⟩ := List.mem_map.1 hx
  exact hlen3 u (List.mem_of_mem_drop hu)
 have hyl : ∀ x ∈ [enc y], x.length = 3 := fun x hx => by rw [List.mem_singleton.1 hx]; exact ty
 have hal : ((xs.take i.toNat).map enc).length = i.toNat := by simp; omega
 have hsplit : xs.map enc = (xs.take i.toNat).map enc ++ (xs.drop i.toNat).map enc := by rw [← List.map_append, List.take_append_drop]
 have hus : ((xs.map enc ++ J).drop i.toNat).take (xs.length - i.toNat) = (xs.drop i.toNat).map enc := by
  have e1 : ((xs.take i.toNat).map enc ++ ((xs.drop i.toNat).map enc ++ J)).drop ((xs.take i.toNat).map enc).length = (xs.drop i.toNat).map enc ++ J := List.drop_left
  have e2 : ((xs.drop i.toNat).map enc ++ J).take ((xs.drop i.toNat).map enc).length = (xs.drop i.toNat).map enc := List.take_left
  rw [hal] at e1
  rw [hdl] at e2
  rw [hsplit, List.append_assoc, e1, e2]
 have hone' : ∀ x ∈ xs.take i.toNat ++ ([y] ++ xs.drop i.toNat), allOne (enc x) = true := fun x hx => by
  rcases List.mem_append.1 hx with hx | hx
  ·exact hone x (List.mem_of_mem_take hx)
  ·rcases List.mem_append.1 hx with hx | hx
   ·rw [List.mem_singleton.1 hx]; exact ty1
   ·exact hone x (List.mem_of_mem_drop hx)
 have hnl : (xs.take i.toNat ++ ([y] ++ xs.drop i.toNat)).length = xs.length + 1 := by simp; omega
 have hnmap : (xs.take i.toNat ++ ([y] ++ xs.drop i.toNat)).map enc = (xs.take i.toNat).map enc ++ ([enc y] ++ (xs.drop i.toNat).map enc) := by simp
 refine w_skip (k8 _ _ (sq_ fun k11 => sq_ fun k10 => g_' (q_ (.int .i64 xs.length) (q_ (.int .i64 1) (w_' ((xs.length : Int) + 1) (wrap64 ⟨by omega, by omega⟩) (q_ (.slice (some ⟨b, 0, none⟩) xs.length c) ?_))))))
 refine s_ql (.int .i64 c) (x := aCap Go.Proofs.Tryz.prog 75 (.slice (some ⟨b, 0, none⟩) xs.length c) H) (by kernel_rfl) (hr.cap (by kernel_rfl)) ?_
 refine q_ (.bool (decide ((xs.length : Int) + 1 > (c : Int)))) (s_nil (k10 _ _ ?_))
 refine w_condp ((xs.length : Int) + 1 > (c : Int)) (by kernel_rfl) rfl (fun hc => ?_) (fun hc => ?_)
 ·-- a new row
  refine sq_ fun k12 => g_' (q_ (.slice (some ⟨b, 0, none⟩) xs.length c) (q_ (.int .i64 i) ?_))
  refine s_ql (.slice (some ⟨b, 0, none⟩) i.toNat c) (x := aSlice Go.Proofs.Tryz.prog 75 (.slice (some ⟨b, 0, none⟩) xs.length c) none (some (.int .i64 i)) none H) (by kernel_rfl) (hr.shi (by kernel_rfl) g0 (by omega)) ?_
  refine q_ (.int .i64 xs.length) (q_ (.int .i64 1) (w_' ((xs.length : Int) + 1) (wrap64 ⟨by omega, by omega⟩) (q_ (.int .i64 i) (w_' ((xs.length : Int) + 1 - i) (wrap64 ⟨by omega, by omega⟩) ?_))))
  obtain ⟨H2, zs, ha, he2, hn2, hr2⟩ := hr.grow (P := Go.Proofs.Tryz.prog) (at_ := #[75, 3]) (t0 := 75) (t1 := 3) (m := 24) (n := i.toNat) (c := c) (kk := .i64) (ki := .i64) (z := (xs.length : Int) + 1 - i) wf rfl rfl (by kernel_rfl) (by kernel_rfl) (by omega) (by omega) (by omega) (by decide) (by omega)
  rw [show i.toNat + ((xs.length : Int) + 1 - i).toNat = xs.length + 1 by omega] at ha
  have hJ0 : J = [] := List.eq_nil_of_length_eq_zero (by omega)
  subst hJ0
  rw [List.append_nil] at hr hus hr2
  rw [show (xs.map enc).take i.toNat = (xs.take i.toNat).map enc from (List.map_take ..).symm] at hr2
  generalize hz : List.replicate ((xs.length : Int) + 1 - i).toNat zs = Z at hr2
  have hzl : Z.length = xs.length - i.toNat + 1 := by rw [← hz, List.length_replicate]; omega
  refine s_ek (.slice (some ⟨H.next, 0, none⟩) (xs.length + 1) (xs.length + 1)) (x := aAppend Go.Proofs.Tryz.prog #[75, 3] (.slice (some ⟨b, 0, none⟩) i.toNat c) (.int .i64 ((xs.length : Int) + 1 - i)) H) (by kernel_rfl) ha ?_
  refine q_ (.slice (some ⟨H.next, 0, none⟩) (xs.length + 1) (xs.length + 1)) (s_nil (k12 _ _ (sq_ fun k13 => g_' (q_ (.slice (some ⟨H.next, 0, none⟩) (xs.length + 1) (xs.length + 1)) (q_ (.int .i64 i) ?_)))))
  refine s_ql (.slice (some ⟨H.next, i.toNat * 3, none⟩) (xs.length + 1 - i.toNat) (xs.length + 1 - i.toNat)) (x := aSlice Go.Proofs.Tryz.prog 75 (.slice (some ⟨H.next, 0, none⟩) (xs.length + 1) (xs.length + 1)) (some (.int .i64 i)) none none H2) (by kernel_rfl) (hr2.slo (by kernel_rfl) g0 (by omega) (by omega) (by omega)) ?_
  refine q_ (.slice (some ⟨tb, 0, none⟩) 1 tc) ?_
  have tcell2 : H2.cells tb 0 ([enc y].length * 3) = some ([enc y].flatMap id) := by
   rw [← tcell]; unfold AH.cells; rw [he2.same tb tlt]; rfl
  obtain ⟨H3, hc3, f3, n3, r3⟩ := hr2.copy (P := Go.Proofs.Tryz.prog) (at_ := #[75, 75]) (t0 := 75) (m := 24) (o := i.toNat) (n1 := xs.length + 1 - i.toNat) (c1 := xs.length + 1 - i.toNat) (b2 := tb) (o2 := 0) (n2 := 1) (c2 := tc) (us := [enc y]) (φ := H.next) he2.wf (.inr rfl) rfl (by kernel_rfl) tcell2 (by simp only [List.length_cons, List.length_nil]; omega) hyl (by rw [List.length_append, hal, hzl]; simp only [List.length_cons, List.length_nil]; omega)
  refine s_ek _ (x := aCopy Go.Proofs.Tryz.prog #[75, 75] (.slice (some ⟨H.next, i.toNat * 3, none⟩) (xs.length + 1 - i.toNat) (xs.length + 1 - i.toNat)) (.slice (some ⟨tb, 0, none⟩) 1 tc) H2) (by kernel_rfl) hc3 ?_
  refine s_nil (k13 _ _ ?_)
  have hbn : b < H2.next := by have := hr.lt; omega
  have hrb : Rw H3 b .own 3 (xs.map enc) := (hr.fr (he2.frS []) (fun h => by cases h)).fr (f3.frS (W := [H.next]) (List.mem_singleton.2 rfl)) (by
   have : tokOf H2 b = b := by simp [tokOf, he2.same b hr.lt, hr.get]
   rw [this]; intro h; have := List.mem_singleton.1 h; have := hr.lt; omega)
  refine sq_ fun k14 => ?_
  refine w_draw [0, 1, 2, 3, 4, 5, 6, 7, 8] (by kernel_rfl) ?_
  refine d_qk (.slice (some ⟨H.next, 0, none⟩) (xs.length + 1) (xs.length + 1)) (by kernel_rfl) ?_
  refine d_qk (.int .i64 i) (by kernel_rfl) ?_
  refine d_qk (.int .i64 1) (by kernel_rfl) ?_
  refine d_w (i + 1) (k := .i64) (x := i + 1) (by kernel_rfl) (wrap64 ⟨by omega, by omega⟩) ?_
  refine d_ql (.slice (some ⟨H.next, (i + 1).toNat * 3, none⟩) (xs.length + 1 - (i + 1).toNat) (xs.length + 1 - (i + 1).toNat)) (x := aSlice Go.Proofs.Tryz.prog 75 (.slice (some ⟨H.next, 0, none⟩) (xs.length + 1) (xs.length + 1)) (some (.int .i64 (i + 1))) none none H3) (by kernel_rfl) (r3.slo (by kernel_rfl) (by omega) (by omega) (by omega) (by omega)) ?_
  refine d_qk (.slice (some ⟨b, 0, none⟩) xs.length c) (by kernel_rfl) ?_
  refine d_qk (.int .i64 i) (by kernel_rfl) ?_
  refine d_ql (.slice (some ⟨b, i.toNat * 3, none⟩) (xs.length - i.toNat) (c - i.toNat)) (x := aSlice Go.Proofs.Tryz.prog 75 (.slice (some ⟨b, 0, none⟩) xs.length c) (some (.int .i64 i)) none none H3) (by kernel_rfl) (hrb.slo (by kernel_rfl) (by omega) (by omega) (by omega) (by omega)) ?_
  have ccell : H3.cells b (i.toNat * 3) (((xs.drop i.toNat).map enc).length * 3) = some (((xs.drop i.toNat).map enc).flatMap id) := by
   rw [hdl]
   have := hrb.cells (o := i.toNat) (n := xs.length - i.toNat) (by rw [hmap]; omega)
   rw [hus] at this; exact this
  obtain ⟨H4, hc4, f4, n4, r4⟩ := r3.copy (P := Go.Proofs.Tryz.prog) (at_ := #[75, 75]) (t0 := 75) (m := 24) (o := (i + 1).toNat) (n1 := xs.length + 1 - (i + 1).toNat) (c1 := xs.length + 1 - (i + 1).toNat) (b2 := b) (o2 := i.toNat * 3) (n2 := xs.length - i.toNat) (c2 := c - i.toNat) (us := (xs.drop i.toNat).map enc) (φ := H.next) f3.wf (.inr rfl) rfl (by kernel_rfl) ccell (by rw [hdl]; omega) hd3
   (by rw [hdl]; simp only [List.length_append, List.length_take, List.length_drop, hal, hzl, List.length_cons, List.length_nil]; omega)
  refine d_ek _ (x := aCopy Go.Proofs.Tryz.prog #[75, 75] (.slice (some ⟨H.next, (i + 1).toNat * 3, none⟩) (xs.length + 1 - (i + 1).toNat) (xs.length + 1 - (i + 1).toNat)) (.slice (some ⟨b, i.toNat * 3, none⟩) (xs.length - i.toNat) (c - i.toNat)) H3) (by kernel_rfl) hc4 trivial ?_
  refine d_nil ?_
  refine k14 _ _ (sq_ fun k15 => g_' (q_ (.slice (some ⟨H.next, 0, none⟩) (xs.length + 1) (xs.length + 1)) (q_ (.slice (some ⟨H.next, 0, none⟩) (xs.length + 1) (xs.length + 1)) (s_nil (k15 _ _ ?_)))))
  refine w_ret ?_
  dsimp only [thenA]
  refine b_ret (vs := [.slice (some ⟨H.next, 0, none⟩) (xs.length + 1) (xs.length + 1)]) (aRes_tmp (by kernel_rfl) (rfl)) ?_
  have hfin := ins_grow (y := enc y) hal hzl hdl
  rw [hdl, show (i + 1).toNat = i.toNat + 1 by omega] at r4
  rw [show ([enc y] : List (List Value)).length = 1 from rfl, hfin] at r4
  have hlt4 : H.next < H4.next := by omega
  refine ⟨[H.next], ?_, r4.ow (.inr rfl) (J := []) (by rw [hnmap, List.append_nil]) hone' hlt4 hnl ?_, fun u hu => .inr (by rw [List.mem_singleton.1 hu]; exact Nat.le_refl _)⟩
  ·have a1 : FrS [b] H H2 := he2.frS [b]
   have hin : Inn [b] H [H.next] := fun u hu => .inr (by rw [List.mem_singleton.1 hu]; exact Nat.le_refl _)
   have a2 := a1.step wf (f3.frS (W := [H.next]) (List.mem_singleton.2 rfl)) hin
   exact a2.step wf (f4.frS (W := [H.next]) (List.mem_singleton.2 rfl)) hin
  ·simp only [List.length_append, hal, hdl, List.length_cons, List.length_nil]; omega
 -- in place
 refine w_skip (k11 _ _ ?_)
 have hJ1 : 1 ≤ J.length := by omega
 have hn1 : ((xs.length : Int) + 1).toNat = xs.length + 1 := by omega
 refine sq_ fun k21 => g_' (q_ (.slice (some ⟨b, 0, none⟩) xs.length c) (q_ (.int .i64 xs.length) (q_ (.int .i64 1) (w_' ((xs.length : Int) + 1) (wrap64 ⟨by omega, by omega⟩) ?_))))
 refine s_ql (.slice (some ⟨b, 0, none⟩) (xs.length + 1) c) (x := aSlice Go.Proofs.Tryz.prog 75 (.slice (some ⟨b, 0, none⟩) xs.length c) none (some (.int .i64 ((xs.length : Int) + 1))) none H) (by kernel_rfl) (by have := hr.shi (P := Go.Proofs.Tryz.prog) (t := 75) (kk := .i64) (i := (xs.length : Int) + 1) (n := xs.length) (c := c) (by kernel_rfl) (by omega) (by omega); rw [hn1] at this; exact this) ?_
 refine q_ (.slice (some ⟨b, 0, none⟩) (xs.length + 1) c) (s_nil (k21 _ _ (sq_ fun k23 => sq_ fun k22 => g_' (q_ (.slice (some ⟨tb, 0, none⟩) 1 tc) (q_ (.slice (some ⟨b, 0, none⟩) (xs.length + 1) c) (q_ (.int .i64 i) (q_ (.int .i64 1) (w_' (i + 1) (wrap64 ⟨by omega, by omega⟩) ?_))))))))
 have hsl2 : aSlice Go.Proofs.Tryz.prog 75 (.slice (some ⟨b, 0, none⟩) (xs.length + 1) c) (some (.int .i64 (i + 1))) none none H = some (.slice (some ⟨b, (i + 1).toNat * 3, none⟩) (xs.length + 1 - (i + 1).toNat) (c - (i + 1).toNat)) := hr.slo (by kernel_rfl) (by omega) (by omega) (by omega) (by omega)
 have hsl1 : aSlice Go.Proofs.Tryz.prog 75 (.slice (some ⟨b, 0, none⟩) (xs.length + 1) c) (some (.int .i64 i)) none none H = some (.slice (some ⟨b, i.toNat * 3, none⟩) (xs.length + 1 - i.toNat) (c - i.toNat)) := hr.slo (by kernel_rfl) (by omega) (by omega) (by omega) (by omega)
 refine s_ql (.slice (some ⟨b, (i + 1).toNat * 3, none⟩) (xs.length + 1 - (i + 1).toNat) (c - (i + 1).toNat)) (x := aSlice Go.Proofs.Tryz.prog 75 (.slice (some ⟨b, 0, none⟩) (xs.length + 1) c) (some (.int .i64 (i + 1))) none none H) (by kernel_rfl) hsl2 ?_
 refine s_ov (g := 102) (fn := Go.Proofs.Tryz.f102) (tS := 75) (tR := 4) (tb := tb) (tc := tc) (b := b) (off := (i + 1).toNat * 3) (n := xs.length + 1 - (i + 1).toNat) (c := c - (i + 1).toNat) (sz := 3) (kt := kt) (ct := ct) rfl (by kernel_rfl) (by kernel_rfl) Go.Proofs.Tryz.func102 (by kernel_rfl) (by kernel_rfl) (by kernel_rfl) (by kernel_rfl) (by kernel_rfl) (by kernel_rfl) (by kernel_rfl) (by omega) tg tk.1 hr.get ?_ htb ?_
 ·rw [flat_len (enc := id) hr.len]; omega
 refine q_ (.bool true) (s_nil (k22 _ _ ?_))
 refine w_cond true (by kernel_rfl) rfl (fun _ => ?_) (fun h => by cases h)
 refine sq_ fun k24 => ?_
 refine w_draw [0, 1, 2, 3, 4, 5, 6, 7, 8] (by kernel_rfl) ?_
 refine d_qk (.slice (some ⟨b, 0, none⟩) (xs.length + 1) c) (by kernel_rfl) ?_
 refine d_qk (.int .i64 i) (by kernel_rfl) ?_
 refine d_qk (.int .i64 1) (by kernel_rfl) ?_
 refine d_w (i + 1) (k := .i64) (x := i + 1) (by kernel_rfl) (wrap64 ⟨by omega, by omega⟩) ?_
 refine d_ql (.slice (some ⟨b, (i + 1).toNat * 3, none⟩) (xs.length + 1 - (i + 1).toNat) (c - (i + 1).toNat)) (x := aSlice Go.Proofs.Tryz.prog 75 (.slice (some ⟨b, 0, none⟩) (xs.length + 1) c) (some (.int .i64 (i + 1))) none none H) (by kernel_rfl) hsl2 ?_
 refine d_qk (.slice (some ⟨b, 0, none⟩) (xs.length + 1) c) (by kernel_rfl) ?_
 refine d_qk (.int .i64 i) (by kernel_rfl) ?_
 refine d_ql (.slice (some ⟨b, i.toNat * 3, none⟩) (xs.length + 1 - i.toNat) (c - i.toNat)) (x := aSlice Go.Proofs.Tryz.prog 75 (.slice (some ⟨b, 0, none⟩) (xs.length + 1) c) (some (.int .i64 i)) none none H) (by kernel_rfl) hsl1 ?_
 have ccell : H.cells b (i.toNat * 3) (((xs.drop i.toNat).map enc).length * 3) = some (((xs.drop i.toNat).map enc).flatMap id) := by
  rw [hdl]
  have := hr.cells (o := i.toNat) (n := xs.length - i.toNat) (by rw [List.length_append, hmap]; omega)
  rw [hus] at this; exact this
 obtain ⟨H2, hc2, f2, n2, r2⟩ := hr.copy (P := Go.Proofs.Tryz.prog) (at_ := #[75, 75]) (t0 := 75) (m := 24) (o := (i + 1).toNat) (n1 := xs.length + 1 - (i + 1).toNat) (c1 := c - (i + 1).toNat) (b2 := b) (o2 := i.toNat * 3) (n2 := xs.length + 1 - i.toNat) (c2 := c - i.toNat) (us := (xs.drop i.toNat).map enc) (φ := b) wf (.inl ⟨rfl, rfl⟩) rfl (by kernel_rfl) ccell (by rw [hdl]; omega) hd3
  (by rw [hdl, List.length_append, hmap]; omega)
 refine d_ek _ (x := aCopy Go.Proofs.Tryz.prog #[75, 75] (.slice (some ⟨b, (i + 1).toNat * 3, none⟩) (xs.length + 1 - (i + 1).toNat) (c - (i + 1).toNat)) (.slice (some ⟨b, i.toNat * 3, none⟩) (xs.length + 1 - i.toNat) (c - i.toNat)) H) (by kernel_rfl) hc2 trivial ?_
 refine d_nil ?_
 refine k24 _ _ (sq_ fun k25 => g_' (q_ (.slice (some ⟨b, 0, none⟩) (xs.length + 1) c) (q_ (.int .i64 i) ?_)))
 refine s_ql (.slice (some ⟨b, i.toNat * 3, none⟩) (xs.length + 1 - i.toNat) (c - i.toNat)) (x := aSlice Go.Proofs.Tryz.prog 75 (.slice (some ⟨b, 0, none⟩) (xs.length + 1) c) (some (.int .i64 i)) none none H2) (by kernel_rfl) (r2.slo (by kernel_rfl) g0 (by omega) (by omega) (by omega)) ?_
 refine q_ (.slice (some ⟨tb, 0, none⟩) 1 tc) ?_
 have tcell2 : H2.cells tb 0 ([enc y].length * 3) = some ([enc y].flatMap id) := by
  rw [← tcell]; unfold AH.cells
  rw [f2.same tb tlt (fun e => dj b (List.mem_singleton.2 rfl) (by rw [← e]; exact tk.2))]; rfl
 obtain ⟨H3, hc3, f3, n3, r3⟩ := r2.copy (P := Go.Proofs.Tryz.prog) (at_ := #[75, 75]) (t0 := 75) (m := 24) (o := i.toNat) (n1 := xs.length + 1 - i.toNat) (c1 := c - i.toNat) (b2 := tb) (o2 := 0) (n2 := 1) (c2 := tc) (us := [enc y]) (φ := b) f2.wf (.inl ⟨rfl, rfl⟩) rfl (by kernel_rfl) tcell2 (by simp only [List.length_cons, List.length_nil]; omega) hyl
  (by simp only [List.length_append, List.length_take, List.length_drop, hdl, hmap, List.length_cons, List.length_nil]; omega)
 refine s_ek _ (x := aCopy Go.Proofs.Tryz.prog #[75, 75] (.slice (some ⟨b, i.toNat * 3, none⟩) (xs.length + 1 - i.toNat) (c - i.toNat)) (.slice (some ⟨tb, 0, none⟩) 1 tc) H2) (by kernel_rfl) hc3 ?_
 refine s_nil (k25 _ _ (sq_ fun k26 => g_' (q_ (.slice (some ⟨b, 0, none⟩) (xs.length + 1) c) (q_ (.slice (some ⟨b, 0, none⟩) (xs.length + 1) c) (s_nil (k26 _ _ ?_))))))
 refine w_ret ?_
 dsimp only [thenA]
 refine b_ret (vs := [.slice (some ⟨b, 0, none⟩) (xs.length + 1) c]) (aRes_tmp (by kernel_rfl) (rfl)) ?_
 have hfin := ins_here (y := enc y) hal hJ1 hdl
 rw [hdl, show (i + 1).toNat = i.toNat + 1 by omega, hsplit] at r3
 rw [show ([enc y] : List (List Value)).length = 1 from rfl, hfin] at r3
 have hlt3 : b < H3.next := r3.lt
 refine ⟨[b], ?_, r3.ow (.inl ⟨rfl, rfl⟩) (J := J.drop 1) (by rw [hnmap]) hone' hlt3 hnl ?_, Inn.self⟩
 ·exact (f2.frS (W := [b]) (List.mem_singleton.2 rfl)).step wf (f3.frS (W := [b]) (List.mem_singleton.2 rfl)) Inn.self
 ·simp only [List.length_append, hal, hdl, List.length_drop, List.length_cons, List.length_nil]; omega
end
end Go.Vd

/-! (InC) -/

set_option maxRecDepth 100000
set_option maxHeartbeats 4000000
set_option linter.unusedVariables false
set_option linter.unusedSimpArgs false
namespace Go.Vd
section
variable {α : Type}
theorem del_here {a d u J z : List α} {i j m : Nat} (ha : a.length = i) (hd : d.length = j) (hu : u.length = m) (hz : z.length = j) :
  ((a ++ (d ++ u) ++ J).take i ++ u ++ (a ++ (d ++ u) ++ J).drop (i + m)).take (i + m) ++ z ++ ((a ++ (d ++ u) ++ J).take i ++ u ++ (a ++ (d ++ u) ++ J).drop (i + m)).drop (i + m + j) = a ++ u ++ (z ++ J) := by
 subst ha; subst hd; subst hu
 have h1 : (a ++ (d ++ u) ++ J).take a.length = a := by rw [List.append_assoc]; exact List.take_left
 have hl : (a ++ u).length = a.length + u.length := List.length_append
 have h2 : ∀ W : List α, (a ++ u ++ W).take (a.length + u.length) = a ++ u := fun W => by rw [← hl]; exact List.take_left
 have h3 : ∀ W : List α, (a ++ u ++ W).drop (a.length + u.length + d.length) = W.drop d.length := fun W => by
  rw [← hl, ← List.drop_drop, List.drop_left]
 rw [h1, h2, h3, List.drop_drop]
 have h4 : (a ++ (d ++ u) ++ J).drop (a.length + u.length + d.length) = J := by
  have : a.length + u.length + d.length = (a ++ (d ++ u)).length := by simp; omega
  rw [this]; exact List.drop_left
 rw [h4]; simp
end
section
variable [Pins]
variable {H : AH} {E : Type} {enc : E -> List Value} {s t : Value} {xs : List E} {y : E} {fp fs ft : Fp} {i j : Int}
theorem a_Insert (wf : WF H) (h : Ow enc 3 H s xs fp) (ht : Ow enc 3 H t [y] ft) (dj : Dj fp ft) (g : 0 ≤ i /\ i ≤ (xs.length : Int) /\ (xs.length : Int) ≤ 1000000000) :
  ACalls Go.Proofs.Tryz.prog 86 #[s, .int .i64 i, t] H fun v H' => ∃ fp', FrS fp H H' /\ Ow enc 3 H' v (xs.take i.toNat ++ ([y] ++ xs.drop i.toNat)) fp' /\ Inn fp H fp' :=
 a_spread (rest := [.int .i64 i, t]) wf h fun s' H' fs wf' hf hs hi => a_insert0 wf' hs (ht.fr hf dj) (hi.dj dj ht.lt) g
theorem Rw.app {P : Program} {b b2 o2 n2 c2 n c m : Nat} {css us : List (List Value)} {at_ : Array TypeId} {t0 t1 : TypeId} (hw : WF H) (h : Rw H b .own 3 css) (a0 : at_[0]? = some t0) (a1 : at_[1]? = some t1) (hT' : slSz P t0 = some (3, m)) (hT1' : isSl P t1 = true)
  (hc : H.cells b2 o2 (us.length * 3) = some (us.flatMap id)) (hn2 : us.length = n2) (h1 : ∀ x ∈ us, allOne x = true) (hl : ∀ x ∈ us, x.length = 3) (hroom : n + us.length ≤ c) (hcc : css.length = c) :
  ∃ H', aAppend P at_ (.slice (some ⟨b, 0, none⟩) n c) (.slice (some ⟨b2, o2, none⟩) n2 c2) H = some (.slice (some ⟨b, 0, none⟩) (n + us.length) c, H') /\ Fr b H H' /\ H'.next = H.next /\ Rw H' b .own 3 (css.take n ++ us ++ css.drop (n + us.length)) := by
 subst hn2
 obtain ⟨z, hT⟩ := slSz_spec hT'
 obtain ⟨e1, hT1⟩ := isSl_spec hT1'
 obtain ⟨e, i, hu1, hi, hel, hs, hb⟩ := slT_spec hT
 have hone : allOne (us.flatMap id) = true := allOne_flat (enc := id) h1
 have key : aAppend P at_ (.slice (some ⟨b, 0, none⟩) n c) (.slice (some ⟨b2, o2, none⟩) us.length c2) H = AH.append H 3 m (.slice (some ⟨b, 0, none⟩) n c) us.length (us.flatMap id) := by
  unfold aAppend
  rw [a0, a1]
  simp only [Option.bind_some, hel, hT1, hs, hb, hc, hone, if_true]
 have hlen := flat_len (enc := id) (sz := 3) hl
 rw [key]
 unfold AH.append
 rw [if_neg (by omega)]
 dsimp only
 rw [if_pos hroom]
 by_cases h0 : us.length = 0
 ·obtain rfl := List.eq_nil_of_length_eq_zero h0
  exact ⟨H, by simp, (Ext.refl hw).toFr b, rfl, by simpa using h⟩
 ·obtain ⟨H', p1, p2, p3, p4⟩ := h.put hw (.inl ⟨rfl, rfl⟩) (o := n) (us := us) hl (by omega)
  refine ⟨H', ?_, p2, p3, p4⟩
  rw [if_neg h0, Nat.zero_add, p1]; rfl
theorem Rw.clear {P : Program} {b o n c m : Nat} {css : List (List Value)} {at_ : Array TypeId} {t0 : TypeId} (hw : WF H) (h : Rw H b .own 3 css) (a0 : at_[0]? = some t0) (hT' : slSz P t0 = some (3, m)) (hroom : o + n ≤ css.length) :
  ∃ H' Z, Z.length = n /\ aClear P at_ (.slice (some ⟨b, o * 3, none⟩) n c) H = some H' /\ Fr b H H' /\ H'.next = H.next /\ Rw H' b .own 3 (css.take o ++ Z ++ css.drop (o + n)) := by
 obtain ⟨z, hT⟩ := slSz_spec hT'
 obtain ⟨e, i, hu1, hi, hel, hs, hb⟩ := slT_spec hT
 have hzl : z.cells.toList.length = 3 := by
  unfold elemInfo at hel
  rw [hu1] at hel
  dsimp only at hel
  rw [hi] at hel
  dsimp only at hel
  split at hel
  ·split at hel
   ·rename_i hh; cases hel; rw [← hs]; simpa using hh.1
   ·cases hel
  ·cases hel
 have hel0 : at_[0]?.bind (elemInfo P) = some (e, i, z) := by rw [a0]; exact hel
 have hZ : zerosOf z n = (List.replicate n z.cells.toList).flatMap id := by unfold zerosOf; rw [List.flatMap_id]
 have hZl : (List.replicate n z.cells.toList).length = n := List.length_replicate
 obtain ⟨H', p1, p2, p3, p4⟩ := h.put hw (.inl ⟨rfl, rfl⟩) (o := o) (us := List.replicate n z.cells.toList) (fun x hx => by rw [(List.mem_replicate.1 hx).2]; exact hzl) (by rw [hZl]; exact hroom)
 by_cases h0 : n = 0
 ·subst h0
  refine ⟨H, [], rfl, ?_, (Ext.refl hw).toFr b, rfl, by simpa using h⟩
  unfold aClear
  rw [hel0]
  simp
 ·refine ⟨H', List.replicate n z.cells.toList, hZl, ?_, p2, p3, by rw [hZl] at p4; exact p4⟩
  unfold aClear
  rw [hel0]
  dsimp only
  rw [if_neg h0, hZ, p1]
attribute [local irreducible] wpSeq wpOrd aWp
theorem a_delete0 (wf : WF H) (hs : InS enc H s xs fs) (g : 0 ≤ i /\ i ≤ j /\ j ≤ (xs.length : Int) /\ (xs.length : Int) ≤ 1000000000) :
  ACalls Go.Proofs.Tryz.prog 87 #[s, .int .i64 i, .int .i64 j] H fun v H' => ∃ fp', FrS fs H H' /\ Ow enc 3 H' v (xs.take i.toNat ++ xs.drop j.toNat) fp' /\ Inn fs H fp' := by
 obtain ⟨g0, g1, g2, g3⟩ := g
 refine acalls_of_body mixed Go.Proofs.Tryz.func87 rfl (Nat.le_of_ble_eq_true rfl) ?_
 refine sq_ fun k1 => g_' (q_ (.slice none 0 0) (s_nil (k1 _ _ (sq_ fun k2 => g_' (q_ s (q_ (.int .i64 i) (q_ (.int .i64 j) (q_ s ?_))))))))
 refine s_ql (.int .i64 xs.length) (x := aLen Go.Proofs.Tryz.prog 75 s H) (by kernel_rfl) (hs.ow.sq.lenb (by kernel_rfl)) ?_
 obtain ⟨b0, n0, c0, cb0, hs3, hc0⟩ : ∃ b0 n0 c0 cb0, (((s = .slice none 0 0 ∨ s = voidS) /\ c0 = 0) ∨ (s = .slice (some ⟨b0, 0, none⟩) n0 c0 /\ H.get b0 = some (.row .own cb0))) /\ xs.length ≤ c0 := by
  rcases hs.is with ⟨h, rfl⟩ | ⟨b, c, J, h, _, hr, hJ⟩
  ·exact ⟨0, 0, 0, [], .inl ⟨h, rfl⟩, Nat.le_refl _⟩
  ·exact ⟨b, xs.length, c, _, .inr ⟨h, hr.get⟩, by omega⟩
 refine s_s3 (b := b0) (n := n0) (c := c0) (cb := cb0) (sz := 3) (s := s) (k1 := .i64) (k2 := .i64) (k3 := .i64) (i := i) (j := j) (m := xs.length) rfl (by kernel_rfl) (by kernel_rfl) (by kernel_rfl) hs3 (by kernel_rfl) (by kernel_rfl) (by kernel_rfl) g0 g1 g2 (by omega) fun v3 => ?_
 refine s_nil (k2 _ _ (sq_ fun k4 => sq_ fun k3 => g_' (q_ (.int .i64 i) (q_ (.int .i64 j) (q_ (.bool (decide (i = j))) (s_nil (k3 _ _ ?_)))))))
 refine w_condp (i = j) (by kernel_rfl) rfl (fun h => ?_) (fun hi => ?_)
 ·refine sq_ fun k9 => g_' (q_ s (q_ s (s_nil (k9 _ _ ?_))))
  refine w_ret ?_
  dsimp only [thenA]
  refine b_ret (vs := [s]) (aRes_tmp (by kernel_rfl) (rfl)) ?_
  refine ⟨fs, .refl wf, ?_, Inn.self⟩
  rw [h, List.take_append_drop]
  exact hs.ow
 rcases hs.is with ⟨_, rfl⟩ | ⟨b, c, J, rfl, rfl, hr, hJ⟩
 ·simp at g2; omega
 have hmap : (xs.map enc).length = xs.length := List.length_map ..
 have hcl : (xs.map enc ++ J).length = c := by rw [List.length_append, hmap]; exact hJ
 have hone : ∀ x ∈ xs, allOne (enc x) = true := by
  rcases hs.ow.is with ⟨_, rfl⟩ | ⟨φ, _, o⟩
  ·intro x hx; cases hx
  ·exact o.one
 have hlen3 : ∀ x ∈ xs, (enc x).length = 3 := fun x hx => hr.len _ (List.mem_append_left _ (List.mem_map_of_mem hx))
 have hul : ((xs.drop j.toNat).map enc).length = xs.length - j.toNat := by simp
 have hu3 : ∀ x ∈ (xs.drop j.toNat).map enc, x.length = 3 := fun x hx => by
  obtain ⟨u, hu, rfl⟩ := List.mem_map.1 hx
  exact hlen3 u (List.mem_of_mem_drop hu)
 have hu1 : ∀ x ∈ (xs.drop j.toNat).map enc, allOne x = true := fun x hx => by
  obtain ⟨u, hu, rfl⟩ := List.mem_map.1 hx
  exact hone u (List.mem_of_mem_drop hu)
 have hal : ((xs.take i.toNat).map enc).length = i.toNat := by simp; omega
 have hdl : (((xs.drop i.toNat).take (j.toNat - i.toNat)).map enc).length = j.toNat - i.toNat := by simp; omega
 have hsplit : xs.map enc = (xs.take i.toNat).map enc ++ (((xs.drop i.toNat).take (j.toNat - i.toNat)).map enc ++ (xs.drop j.toNat).map enc) := by
  have e1 : xs.drop j.toNat = (xs.drop i.toNat).drop (j.toNat - i.toNat) := by rw [List.drop_drop]; congr 1; omega
  rw [e1, ← List.map_append, ← List.map_append, List.take_append_drop, List.take_append_drop]
 have hus : ((xs.map enc ++ J).drop j.toNat).take (xs.length - j.toNat) = (xs.drop j.toNat).map enc := by
  rw [List.drop_append_of_le_length (by omega), ← List.map_drop, List.take_append_of_le_length (by omega), ← hul, List.take_length]
 have hone' : ∀ x ∈ xs.take i.toNat ++ xs.drop j.toNat, allOne (enc x) = true := fun x hx => by
  rcases List.mem_append.1 hx with hx | hx
  ·exact hone x (List.mem_of_mem_take hx)
  ·exact hone x (List.mem_of_mem_drop hx)
 have hnl : (xs.take i.toNat ++ xs.drop j.toNat).length = i.toNat + (xs.length - j.toNat) := by simp; omega
 refine w_skip (k4 _ _ (sq_ fun k5 => g_' (q_ (.slice (some ⟨b, 0, none⟩) xs.length c) ?_)))
 refine s_ql (.int .i64 xs.length) (x := aLen Go.Proofs.Tryz.prog 75 (.slice (some ⟨b, 0, none⟩) xs.length c) H) (by kernel_rfl) (hs.ow.sq.lenb (by kernel_rfl)) ?_
 refine q_ (.int .i64 xs.length) (s_nil (k5 _ _ ?_))
 -- what stays is put behind the beginning
 obtain ⟨o2, c2, hsl, hcell⟩ : ∃ o2 c2, aSlice Go.Proofs.Tryz.prog 75 (.slice (some ⟨b, 0, none⟩) xs.length c) (some (.int .i64 j)) none none H = some (.slice (some ⟨b, o2, none⟩) (xs.length - j.toNat) c2) /\ H.cells b o2 (((xs.drop j.toNat).map enc).length * 3) = some (((xs.drop j.toNat).map enc).flatMap id) := by
  by_cases hjc : j < (c : Int)
  ·refine ⟨_, _, hr.slo (by kernel_rfl) (by omega) g2 (by omega) hjc, ?_⟩
   rw [hul]
   have := hr.cells (o := j.toNat) (n := xs.length - j.toNat) (by rw [hcl]; omega)
   rw [hus] at this; exact this
  ·obtain ⟨m, z, hT⟩ := slOne_spec (P := Go.Proofs.Tryz.prog) (t := 75) (n := 3) (by kernel_rfl)
   obtain ⟨e, inf, hu, hi', _⟩ := slT_spec hT
   refine ⟨0, c - j.toNat, ?_, ?_⟩
   ·unfold aSlice
    simp only [hu, hi', aBound, show 0 ≤ j by omega, if_true, hr.get]
    rw [if_pos (by omega), if_neg (by simp [AObj.isLoose]; omega)]
   ·rw [show (xs.drop j.toNat).map enc = [] from List.eq_nil_of_length_eq_zero (by omega)]
    have := hr.cells (o := 0) (n := 0) (by omega)
    simpa using this
 refine sq_ fun k6 => ?_
 refine w_draw [0, 1, 2, 3, 4, 5, 6, 7] (by kernel_rfl) ?_
 refine d_qk (.slice (some ⟨b, 0, none⟩) xs.length c) (by kernel_rfl) ?_
 refine d_qk (.int .i64 i) (by kernel_rfl) ?_
 refine d_ql (.slice (some ⟨b, 0, none⟩) i.toNat c) (x := aSlice Go.Proofs.Tryz.prog 75 (.slice (some ⟨b, 0, none⟩) xs.length c) none (some (.int .i64 i)) none H) (by kernel_rfl) (hr.shi (by kernel_rfl) g0 (by omega)) ?_
 refine d_qk (.slice (some ⟨b, 0, none⟩) xs.length c) (by kernel_rfl) ?_
 refine d_qk (.int .i64 j) (by kernel_rfl) ?_
 refine d_ql (.slice (some ⟨b, o2, none⟩) (xs.length - j.toNat) c2) (x := aSlice Go.Proofs.Tryz.prog 75 (.slice (some ⟨b, 0, none⟩) xs.length c) (some (.int .i64 j)) none none H) (by kernel_rfl) hsl ?_
 obtain ⟨H2, ha2, f2, n2, r2⟩ := hr.app (P := Go.Proofs.Tryz.prog) (at_ := #[75, 75]) (t0 := 75) (t1 := 75) (m := 24) (n := i.toNat) (c := c) (b2 := b) (o2 := o2) (n2 := xs.length - j.toNat) (c2 := c2) (us := (xs.drop j.toNat).map enc) wf rfl rfl (by kernel_rfl) (by kernel_rfl) hcell hul hu1 hu3 (by rw [hul]; omega) hcl
 refine d_ek _ (x := aAppend Go.Proofs.Tryz.prog #[75, 75] (.slice (some ⟨b, 0, none⟩) i.toNat c) (.slice (some ⟨b, o2, none⟩) (xs.length - j.toNat) c2) H) (by kernel_rfl) ha2 trivial ?_
 generalize hnn : i.toNat + ((xs.drop j.toNat).map enc).length = nn at r2
 refine d_qk (.slice (some ⟨b, 0, none⟩) nn c) (by kernel_rfl) ?_
 refine d_nil ?_
 refine k6 _ _ ?_
 have hnn' : nn = i.toNat + (xs.length - j.toNat) := by rw [← hnn, hul]
 refine sq_ fun k7 => g_' (q_ (.slice (some ⟨b, 0, none⟩) nn c) (q_ (.slice (some ⟨b, 0, none⟩) nn c) ?_))
 refine s_ql (.int .i64 nn) (x := aLen Go.Proofs.Tryz.prog 75 (.slice (some ⟨b, 0, none⟩) nn c) H2) (by kernel_rfl) (by
  obtain ⟨e, hu⟩ := isSl_spec (P := Go.Proofs.Tryz.prog) (t := 75) (by kernel_rfl)
  unfold aLen; simp only [hu]) ?_
 refine q_ (.int .i64 xs.length) ?_
 refine s_ql (.slice (some ⟨b, nn * 3, none⟩) (xs.length - nn) (c - nn)) (x := aSlice Go.Proofs.Tryz.prog 75 (.slice (some ⟨b, 0, none⟩) nn c) (some (.int .i64 nn)) (some (.int .i64 xs.length)) none H2) (by kernel_rfl) (by
  have := r2.sboth (P := Go.Proofs.Tryz.prog) (t := 75) (k1 := .i64) (k2 := .i64) (i := nn) (j := xs.length) (n := nn) (c := c) (by kernel_rfl) (by omega) (by omega) (by omega) (by omega)
  simpa using this) ?_
 have hr2l : ((xs.map enc ++ J).take i.toNat ++ (xs.drop j.toNat).map enc ++ (xs.map enc ++ J).drop nn).length = c := by
  simp only [List.length_append, List.length_take, List.length_drop, hul, hmap]; omega
 obtain ⟨H3, Z, hZ, ha3, f3, n3, r3⟩ := r2.clear (P := Go.Proofs.Tryz.prog) (at_ := #[75]) (t0 := 75) (m := 24) (o := nn) (n := xs.length - nn) (c := c - nn) f2.wf rfl (by kernel_rfl) (by rw [hr2l]; omega)
 refine s_ek (.tuple #[]) (x := (aClear Go.Proofs.Tryz.prog #[75] (.slice (some ⟨b, nn * 3, none⟩) (xs.length - nn) (c - nn)) H2).map fun H' => (.tuple #[], H')) (by kernel_rfl) (by rw [ha3]; rfl) ?_
 refine s_nil (k7 _ _ (sq_ fun k8 => g_' (q_ (.slice (some ⟨b, 0, none⟩) nn c) (q_ (.slice (some ⟨b, 0, none⟩) nn c) (s_nil (k8 _ _ ?_))))))
 refine w_ret ?_
 dsimp only [thenA]
 refine b_ret (vs := [.slice (some ⟨b, 0, none⟩) nn c]) (aRes_tmp (by kernel_rfl) (rfl)) ?_
 have hfin := del_here (z := Z) (J := J) hal hdl hul (by omega)
 rw [hnn', show i.toNat + (xs.length - j.toNat) + (xs.length - (i.toNat + (xs.length - j.toNat))) = i.toNat + (xs.length - j.toNat) + (j.toNat - i.toNat) by omega, hsplit, hfin] at r3
 refine ⟨[b], ?_, r3.ow (.inl ⟨rfl, rfl⟩) (J := Z ++ J) (by rw [List.map_append]) hone' r3.lt (by rw [hnl, hnn']) ?_, Inn.self⟩
 ·exact (f2.frS (W := [b]) (List.mem_singleton.2 rfl)).step wf (f3.frS (W := [b]) (List.mem_singleton.2 rfl)) Inn.self
 ·simp only [List.length_append, hal, hul, hZ]; omega
theorem a_Delete (wf : WF H) (h : Ow enc 3 H s xs fp) (g : 0 ≤ i /\ i ≤ j /\ j ≤ (xs.length : Int) /\ (xs.length : Int) ≤ 1000000000) :
  ACalls Go.Proofs.Tryz.prog 87 #[s, .int .i64 i, .int .i64 j] H fun v H' => ∃ fp', FrS fp H H' /\ Ow enc 3 H' v (xs.take i.toNat ++ xs.drop j.toNat) fp' /\ Inn fp H fp' :=
 a_spread (rest := [.int .i64 i, .int .i64 j]) wf h fun s' H' fs wf' hf hs hi => a_delete0 wf' hs g
end
end Go.Vd

/-! (VeP) -/

namespace Go.Vd
set_option linter.unusedSectionVars false
set_option linter.unusedVariables false
variable [Pins]
variable {P : Program} {H H' : AH} {E : Type}
def encS (enc : E -> List Value) (k : IntKind) (p : Int × E) : Value × Value := (.int k p.1, .agg (enc p.2).toArray)
def lkS : List (Int × E) -> Int -> Option E
 | [], _ => none
 | p :: l, k => if k = p.1 then some p.2 else lkS l k
structure Ms (ki : IntKind) (enc : E -> List Value) (H : AH) (b : Nat) (f : Int -> Option E) : Prop where
 lt : b < H.next
 is : ∃ m clock, H.get b = some (.map (m.map (encS enc ki)) clock) /\ (m.map (·.1)).Nodup /\ ∀ k, lkS m k = f k
variable {ki : IntKind} {enc : E -> List Value} {b : Nat} {f : Int -> Option E} {z : E} {W : Fp}
theorem Ms.ext (h : Ms ki enc H b f) (k : Ext H H') : Ms ki enc H' b f := by
 obtain ⟨m, c, h1, h2⟩ := h.is
 exact ⟨Nat.lt_of_lt_of_le h.lt k.next, m, c, (k.same b h.lt).trans h1, h2⟩
theorem Ms.frS (h : Ms ki enc H b f) (k : FrS W H H') (hd : Dj W [b]) : Ms ki enc H' b f := by
 obtain ⟨h1, m, clock, h2, h3⟩ := h
 exact ⟨Nat.lt_of_lt_of_le h1 k.next, m, clock, (k.same b h1 (by unfold tokOf; rw [h2]; exact fun hm => hd _ hm (List.mem_singleton.2 rfl))).trans h2, h3⟩
theorem Ms.ltF (h : Ms ki enc H b f) : Lt H [b] := fun t ht => by rw [List.mem_singleton.1 ht]; exact h.lt
def mapT (P : Program) (t : TypeId) : Option (TypeDesc × Value) :=
 match P.underlying t with
 | some (.map kt et) => match P.underlying kt, (P.info? et).bind (·.zero) with
  | some d, some y => some (d, y)
  | _, _ => none
 | _ => none
theorem mapT_spec {t : TypeId} {zv : Value} (h : mapT P t = some (.int ki, zv)) : ∃ kt et, P.underlying t = some (.map kt et) /\ P.underlying kt = some (.int ki) /\ (P.info? et).bind (·.zero) = some zv := by
 unfold mapT at h
 split at h
 ·rename_i kt et hu
  split at h
  ·rename_i d y hd hy
   cases h
   exact ⟨kt, et, hu, hd, hy⟩
  ·cases h
 ·cases h
theorem aFind_encS (m : List (Int × E)) (k : Int) (i : Nat) : ∃ r, aFind (.int ki) (.int ki k) (m.map (encS enc ki)) i = some r /\ (match r with
  | none => lkS m k = none
  | some (j, v) => ∃ n x, j = i + n /\ m[n]? = some (k, x) /\ v = .agg (enc x).toArray /\ lkS m k = some x) := by
 induction m generalizing i with
 | nil => exact ⟨none, rfl, rfl⟩
 | cons p l ih =>
  simp only [List.map_cons, aFind, encS, Instr.sameNow, if_true]
  by_cases hk : k = p.1
  ·refine ⟨some (i, .agg (enc p.2).toArray), ?_, 0, p.2, rfl, ?_, rfl, ?_⟩
   ·rw [show (k == p.1) = true from by simp [hk]]
   ·simp [hk]
   ·simp [lkS, hk]
  ·rw [show (k == p.1) = false from by simp [hk]]
   dsimp only
   obtain ⟨r, h1, h2⟩ := ih (i + 1)
   refine ⟨r, h1, ?_⟩
   cases r with
   | none => simp only [lkS, if_neg hk]; exact h2
   | some q =>
    obtain ⟨j, v⟩ := q
    obtain ⟨n, x, g1, g2, g3, g4⟩ := h2
    exact ⟨n + 1, x, by omega, by simpa using g2, g3, by simp only [lkS, if_neg hk]; exact g4⟩
theorem Ms.look (h : Ms ki enc H b f) (z : E) {t : TypeId} {zv v : Value} (hz : zv = .agg (enc z).toArray) (hp : plain zv = true) (ht : mapT P t = some (.int ki, zv)) (k : Int) (hv : v = .agg (enc ((f k).getD z)).toArray) : aLookup P t (.map (some b)) (.int ki k) false H = some v := by
 subst hz hv
 obtain ⟨kt, et, h1, h2, h3⟩ := mapT_spec ht
 obtain ⟨m, c, g1, g2, g3⟩ := h.is
 obtain ⟨r, r1, r2⟩ := aFind_encS (ki := ki) (enc := enc) m k 0
 unfold aLookup
 rw [h1]
 simp only [h2, h3, keyT_int h2, g1, hp]
 rw [if_pos (by rfl)]
 simp only [r1]
 rw [← g3]
 cases r with
 | none => rw [r2]; rfl
 | some q =>
  obtain ⟨j, v⟩ := q
  obtain ⟨n, x, _, _, e3, e4⟩ := r2
  rw [e4, e3]; rfl
theorem Ms.look2 (h : Ms ki enc H b f) (z : E) {t : TypeId} {zv v : Value} (hz : zv = .agg (enc z).toArray) (hp : plain zv = true) (ht : mapT P t = some (.int ki, zv)) (k : Int) (hv : v = .tuple #[.agg (enc ((f k).getD z)).toArray, .bool (f k).isSome]) : aLookup P t (.map (some b)) (.int ki k) true H = some v := by
 subst hz hv
 obtain ⟨kt, et, h1, h2, h3⟩ := mapT_spec ht
 obtain ⟨m, c, g1, g2, g3⟩ := h.is
 obtain ⟨r, r1, r2⟩ := aFind_encS (ki := ki) (enc := enc) m k 0
 unfold aLookup
 rw [h1]
 simp only [h2, h3, keyT_int h2, g1, hp]
 rw [if_pos (by rfl)]
 simp only [r1]
 rw [← g3]
 cases r with
 | none => rw [r2]; rfl
 | some q =>
  obtain ⟨j, v⟩ := q
  obtain ⟨n, x, _, _, e3, e4⟩ := r2
  rw [e4, e3]; rfl
theorem lkS_set {m : List (Int × E)} {n : Nat} {k : Int} {x v : E} (hn : m[n]? = some (k, x)) (hd : (m.map (·.1)).Nodup) (y : Int) : lkS (m.set n (k, v)) y = if y = k then some v else lkS m y := by
 induction m generalizing n with
 | nil => simp at hn
 | cons p l ih =>
  cases n with
  | zero =>
   simp at hn; subst hn
   simp only [List.set_cons_zero, lkS]
   by_cases hy : y = k <;> simp [hy]
  | succ n =>
   simp only [List.map_cons, List.nodup_cons] at hd
   simp only [List.getElem?_cons_succ] at hn
   simp only [List.set_cons_succ, lkS]
   have hmem : k ∈ l.map (·.1) := List.mem_map.2 ⟨(k, x), List.mem_of_getElem? hn, rfl⟩
   by_cases hy : y = p.1
   ·rw [if_pos hy, if_neg (fun e => hd.1 (by rw [← hy, e]; exact hmem)), if_pos hy]
   ·rw [if_neg hy, if_neg hy]; exact ih hn hd.2
theorem lkS_app {m : List (Int × E)} {k : Int} {v : E} (hk : lkS m k = none) (y : Int) : lkS (m ++ [(k, v)]) y = if y = k then some v else lkS m y := by
 induction m with
 | nil => simp [lkS]
 | cons p l ih =>
  simp only [lkS] at hk
  split at hk
  ·cases hk
  ·rename_i hkp
   simp only [List.cons_append, lkS, ih hk]
   by_cases hy : y = p.1
   ·rw [if_pos hy, if_neg (fun e => hkp (by rw [← e, hy])), if_pos hy]
   ·rw [if_neg hy, if_neg hy]
theorem lkS_none {m : List (Int × E)} {k : Int} : lkS m k = none ↔ k ∉ m.map (·.1) := by
 induction m with
 | nil => simp [lkS]
 | cons p l ih =>
  simp only [lkS, List.map_cons, List.mem_cons, not_or]
  by_cases hk : k = p.1
  ·simp [hk]
  ·simp [hk, ih]
theorem Ms.put (hw : WF H) (h : Ms ki enc H b f) {t : TypeId} {zv val : Value} (ht : mapT P t = some (.int ki, zv)) (k : Int) (v : E) (hv : val = .agg (enc v).toArray) :
  ∃ H', aUpdate P t (.map (some b)) (.int ki k) val H = some H' /\ Fr b H H' /\ Ms ki enc H' b (fun x => if x = k then some v else f x) := by
 subst hv
 obtain ⟨kt, et, h1, h2, h3⟩ := mapT_spec ht
 obtain ⟨m, c, g1, g2, g3⟩ := h.is
 obtain ⟨r, r1, r2⟩ := aFind_encS (ki := ki) (enc := enc) m k 0
 have hred : ∀ X, (match aFind (.int ki) (.int ki k) (m.map (encS enc ki)) 0 with
    | some (some (i, _)) => some (H.upd b (.map ((m.map (encS enc ki)).set i (.int ki k, .agg (enc v).toArray)) c))
    | some none => some (H.upd b (.map (m.map (encS enc ki) ++ [(.int ki k, .agg (enc v).toArray)]) (c + 1)))
    | none => none) = some X -> aUpdate P t (.map (some b)) (.int ki k) (.agg (enc v).toArray) H = some X := by
  intro X hX
  unfold aUpdate
  rw [h1]
  simp only [h2, g1, keyT_int h2]
  rw [if_pos (by rfl)]
  exact hX
 rw [r1] at hred
 cases r with
 | none =>
  refine ⟨_, hred _ rfl, upd_map hw h.lt g1, h.lt, m ++ [(k, v)], c + 1, by simp [AH.upd, encS], ?_, fun y => by rw [lkS_app r2, g3]⟩
  rw [List.map_append, List.nodup_append]
  refine ⟨g2, by simp, fun x hx y hy => ?_⟩
  simp at hy; subst hy
  rintro rfl
  exact lkS_none.1 r2 hx
 | some q =>
  obtain ⟨j, u⟩ := q
  obtain ⟨n, x, e1, e2, e3, e4⟩ := r2
  have : j = n := by omega
  subst this
  refine ⟨_, hred _ rfl, upd_map hw h.lt g1, h.lt, m.set j (k, v), c, by simp [AH.upd, encS, List.map_set], ?_, fun y => by rw [lkS_set e2 g2, g3]⟩
  rw [List.map_set]
  have : (m.map (·.1)).set j k = m.map (·.1) := by
   apply List.ext_getElem?
   intro i
   rw [List.getElem?_set]
   split
   ·rename_i hij; subst hij; simp [e2]; have := (List.getElem?_eq_some_iff.1 e2).1; omega
   ·rfl
  show (List.set (m.map (·.1)) j k).Nodup
  rw [this]; exact g2
theorem push_mapS (hw : WF H) : Ext H (H.push (.map [] 0)) /\ Ms ki enc (H.push (.map [] 0)) H.next (fun _ => none) :=
 ⟨push_ext hw _ (fun _ _ _ e => by cases e), Nat.lt_succ_self _, [], 0, AH.push_get _ _, by simp, fun _ => rfl⟩
section seq
variable {ops : Array Oper} {K : AAct -> AH -> Prop} {α : AAct} {o : Oper} {rest : List Oper}
theorem s_ms (ki : IntKind) (enc : E -> List Value) (hw : WF H) (h : newQ P ops o α = some (.map [] 0, fun b => .map (some b)))
  (k : ∀ b H', Ext H H' -> Inn [] H [b] -> Ms ki enc H' b (fun _ => none) -> wpSeq P ops K rest (α.put o.dst (.map (some b))) H') : wpSeq P ops K (o :: rest) α H :=
 s_n _ _ (newQ_spec h).1 (newQ_spec h).2.1 (newQ_spec h).2.2 (k H.next _ (push_mapS (ki := ki) (enc := enc) hw).1 (.one (.inr rfl)) (push_mapS hw).2)
end seq
def recvO (P : Program) (ρ : Operand -> Value) : Op -> Option (FuncId × TypeId × Addr × Array Value)
 | .call { callee := .invoke r name, args, argTypes := _ } => match ρ r with
  | .iface t (.pointer (some a)) => match aMethodL P t name with
   | some (g, e) => if canEnter P g then some (g, e, a, args.map ρ) else none
   | none => none
  | _ => none
 | _ => none
def recvQ (P : Program) (ops : Array Oper) (o : Oper) (α : AAct) : Option (FuncId × TypeId × Addr × Array Value) :=
 if Region.wanted o (aYield ops α) = true then match cls o.op with
  | .call => match aCallee P (aEval α) o.op with
   | none => recvO P (aEval α) o.op
   | some _ => none
  | _ => none
 else none
theorem recvO_L {ρ : Operand -> Value} {op : Op} {g : FuncId} {e : TypeId} {a : Addr} {as_ : Array Value} {v : Value} (h : recvO P ρ op = some (g, e, a, as_)) (hl : aLoad P e (.pointer (some a)) H = some v) : aCalleeL P ρ H op = some (g, #[v] ++ as_) := by
 unfold recvO at h
 split at h
 ·split at h
  ·split at h
   ·split at h
    ·cases h
     rename_i hm hc
     unfold aCalleeL
     simp only [*, if_true]
    ·cases h
   ·cases h
  ·cases h
 ·cases h
theorem recvQ_spec {ops : Array Oper} {o : Oper} {α : AAct} {x : FuncId × TypeId × Addr × Array Value} (h : recvQ P ops o α = some x) : Region.wanted o (aYield ops α) = true /\ cls o.op = .call /\ aCallee P (aEval α) o.op = none /\ recvO P (aEval α) o.op = some x := by
 unfold recvQ at h
 split at h
 ·rename_i hg
  split at h
  ·rename_i hc
   split at h
   ·rename_i hn; exact ⟨hg, hc, hn, h⟩
   ·cases h
  ·cases h
 ·cases h
section seq
variable {ops : Array Oper} {K : AAct -> AH -> Prop} {α : AAct} {o : Oper} {rest : List Oper}
theorem s_cl (f : FuncId) (e : TypeId) (a : Addr) (as_ : Array Value) (v : Value) (args : Array Value) (hargs : #[v] ++ as_ = args) {K' : Value -> AH -> Prop} (h : recvQ P ops o α = some (f, e, a, as_)) (hl : aLoad P e (.pointer (some a)) H = some v) (hf : ACalls P f args H K')
  (k : ∀ v H', K' v H' -> wpSeq P ops K rest (α.put o.dst v) H') : wpSeq P ops K (o :: rest) α H := by
 subst hargs
 obtain ⟨h1, h2, h3, h4⟩ := recvQ_spec h
 simp only [wpSeq, h1, if_true]
 exact .inl (by simp only [wpOne, h2, h3, recvO_L h4 hl]; exact hf.mono k)
end seq
section draw
variable {ops : Array Oper} {K : AAct -> AH -> Prop} {α : AAct} {tbl : List (List Nat)} {i : Nat} {rest : List Nat} {fl : List (Nat × AAct × Value)}
end draw
end Go.Vd

/-! (Mo0) -/

namespace Go.Vd
theorem take_gtE {E : Type} [Inhabited E] {l : List E} {i : Int} (h0 : 0 ≤ i) (h1 : i < (l.length : Int)) : l.take (i + 1).toNat = l.take i.toNat ++ [gt l i] := by
 have hi : i.toNat < l.length := by omega
 rw [show (i + 1).toNat = i.toNat + 1 from by omega, List.take_add_one, List.getElem?_eq_getElem hi]
 have : gt l i = l[i.toNat] := by simp [gt, List.getD_eq_getElem?_getD, hi]
 rw [this]; rfl
theorem gt_setE {E : Type} [Inhabited E] {l : List E} {i j : Int} {v : E} (i0 : 0 ≤ i) (i1 : i < (l.length : Int)) (j0 : 0 ≤ j) : gt (l.set i.toNat v) j = if j = i then v else gt l j := by
 unfold gt
 rw [List.getD_eq_getElem?_getD, List.getD_eq_getElem?_getD, List.getElem?_set]
 by_cases h : j = i
 ·subst h; rw [if_pos rfl, if_pos rfl, if_pos (by omega)]; rfl
 ·rw [if_neg h, if_neg (by omega)]
theorem list_gtE {E : Type} [Inhabited E] {l m : List E} (hl : l.length = m.length) (h : ∀ j : Int, 0 ≤ j -> j < (l.length : Int) -> gt l j = gt m j) : l = m := by
 refine List.ext_getElem hl fun j h1 h2 => ?_
 have := h (j : Int) (by omega) (by omega)
 rwa [gt_nat h1, gt_nat h2] at this
end Go.Vd

/-! (Gb) -/

set_option linter.unusedVariables false
set_option linter.unusedSimpArgs false
namespace Go.Vd
abbrev A3 := Int × Int × Int
theorem eq3 {x y : A3} (h1 : x.1 = y.1) (h2 : x.2.1 = y.2.1) (h3 : x.2.2 = y.2.2) : x = y := by
 obtain ⟨a, b, c⟩ := x; obtain ⟨a', b', c'⟩ := y
 simp only at h1 h2 h3
 subst h1; subst h2; subst h3; rfl
theorem mem_gtE {E : Type} [Inhabited E] {l : List E} {x : E} (h : x ∈ l) : ∃ i : Int, 0 ≤ i /\ i < (l.length : Int) /\ x = gt l i := by
 obtain ⟨i, hi, rfl⟩ := List.getElem_of_mem h
 exact ⟨i, by omega, by omega, (gt_nat hi).symm⟩
end Go.Vd

/-! (WtA) -/

set_option linter.unusedVariables false
set_option linter.unusedSimpArgs false
namespace Go.Vd
abbrev Lab := Int -> Option (Int × Int × Int)
def lup (L : Lab) (x : Int) (y : Int × Int × Int) : Lab := fun z => if z = x then some y else L z
def opn (L : Lab) (x d : Int) : Prop := match L x with
 | none => True
 | some y => y.2.2 = 0 /\ d < y.1
instance (L : Lab) (x d : Int) : Decidable (opn L x d) := by
 unfold opn
 cases L x with
 | none => exact inferInstanceAs (Decidable True)
 | some y => exact inferInstanceAs (Decidable (_ /\ _))
def wrel (d hp : Int) (L : Lab) (a : Int × Int) : Lab := if opn L a.1 (d + a.2) then lup L a.1 (d + a.2, hp + 1, 0) else L
def wset (row : Int -> List (Int × Int)) (hops : Int) (L : Lab) (v : Int) (y : Int × Int × Int) : Lab :=
 if y.2.1 ≥ hops then lup L v (y.1, y.2.1, 1) else (row v).foldl (wrel y.1 y.2.1) (lup L v (y.1, y.2.1, 1))
def WPick (L : Lab) (v : Int) (y : Int × Int × Int) : Prop :=
 L v = some y /\ y.2.2 = 0 /\ ∀ x z, L x = some z -> z.2.2 = 0 -> y.1 < z.1 ∨ (y.1 = z.1 /\ v ≤ x)
def WNo (L : Lab) : Prop := ∀ x z, L x = some z -> z.2.2 ≠ 0
variable {L L' : Lab} {row : Int -> List (Int × Int)} {hops settles most c N v : Int} {y : Int × Int × Int} {ss : List Int}
theorem WPick.uniq {v w : Int} {y z : Int × Int × Int} (h : WPick L v y) (k : WPick L w z) : v = w /\ y = z := by
 have h1 := h.2.2 w z k.1 k.2.1
 have h2 := k.2.2 v y h.1 h.2.1
 have e : v = w := by omega
 subst e
 exact ⟨rfl, Option.some.inj (h.1.symm.trans k.1)⟩
theorem WPick.no (h : WPick L v y) (k : WNo L) : False := k v y h.1 h.2.1
inductive WR (row : Int -> List (Int × Int)) (hops settles most : Int) : Int -> Lab -> Lab -> Prop
 | full (c : Int) (L : Lab) : settles ≤ c -> WR row hops settles most c L L
 | none (c : Int) (L : Lab) : c < settles -> WNo L -> WR row hops settles most c L L
 | far (c : Int) (L : Lab) (v : Int) (y : Int × Int × Int) : c < settles -> WPick L v y -> y.1 > most -> WR row hops settles most c L L
 | go (c : Int) (L : Lab) (v : Int) (y : Int × Int × Int) (L' : Lab) : c < settles -> WPick L v y -> ¬ y.1 > most -> WR row hops settles most (c + 1) (wset row hops L v y) L' -> WR row hops settles most c L L'
theorem WR.uniq {A B : Lab} (h : WR row hops settles most c L A) (k : WR row hops settles most c L B) : A = B := by
 induction h with
 | full c L h1 =>
  cases k with
  | full => rfl
  | none => rfl
  | far => rfl
  | go _ _ _ _ _ k1 => omega
 | none c L h1 h2 =>
  cases k with
  | full => rfl
  | none => rfl
  | far => rfl
  | go _ _ _ _ _ _ k2 => exact (k2.no h2).elim
 | far c L v y h1 h2 h3 =>
  cases k with
  | full => rfl
  | none => rfl
  | far => rfl
  | go _ _ _ _ _ _ k2 k3 => rw [(h2.uniq k2).2] at h3; exact absurd h3 k3
 | go c L v y L' h1 h2 h3 _ ih =>
  cases k with
  | full _ _ k1 => omega
  | none _ _ _ k2 => exact (h2.no k2).elim
  | far _ _ _ _ _ k2 k3 => rw [← (h2.uniq k2).2] at k3; exact absurd k3 h3
  | go _ _ w z _ _ k2 _ k4 =>
   obtain ⟨rfl, rfl⟩ := h2.uniq k2
   exact ih k4
def RowOk (row : Int -> List (Int × Int)) (N : Int) : Prop := ∀ v, ∀ a ∈ row v, (0 ≤ a.1 /\ a.1 < N) /\ 0 ≤ a.2 /\ a.2 ≤ 140737488355328
structure WI (N c : Int) (L : Lab) (ss : List Int) : Prop where
 dom : ∀ x y, L x = some y -> 0 ≤ x /\ x < N
 val : ∀ x y, L x = some y -> 0 ≤ y.1 /\ y.1 ≤ c * 140737488355328 /\ 0 ≤ y.2.1 /\ y.2.1 ≤ c /\ (y.2.2 = 0 ∨ y.2.2 = 1)
 st : ∀ x, x ∈ ss ↔ ∃ y, L x = some y /\ y.2.2 = 1
 nd : ss.Nodup
theorem nodup_len : ∀ {N : Nat} {l : List Int}, l.Nodup -> (∀ x ∈ l, 0 ≤ x /\ x < (N : Int)) -> l.length ≤ N := by
 intro N
 induction N with
 | zero =>
  intro l _ h
  cases l with
  | nil => simp
  | cons a l => have := h a (by simp); omega
 | succ N ih =>
  intro l hn h
  have h1 : (l.filter (fun x => decide (x ≠ (N : Int)))).length ≤ N := ih (hn.filter _) fun x hx => by
   have hm := List.mem_filter.1 hx
   have := h x hm.1
   have h3 := of_decide_eq_true hm.2
   omega
  have h2 : l.length ≤ (l.filter (fun x => decide (x ≠ (N : Int)))).length + 1 := by
   clear h h1 ih
   induction l with
   | nil => simp
   | cons a l ih2 =>
    rw [List.nodup_cons] at hn
    by_cases e : a = (N : Int)
    ·have : l.filter (fun x => decide (x ≠ (N : Int))) = l := List.filter_eq_self.2 fun x hx => decide_eq_true fun e2 => hn.1 (by rw [e, ← e2]; exact hx)
     rw [List.filter_cons, if_neg (by simp [e]), this]; simp
    ·rw [List.filter_cons, if_pos (by simp [e])]
     have := ih2 hn.2
     simp only [List.length_cons]; omega
  omega
theorem WI.len (h : WI N c L ss) (n0 : 0 ≤ N) : (ss.length : Int) ≤ N := by
 obtain ⟨n, rfl⟩ := Int.eq_ofNat_of_zero_le n0
 have := nodup_len (N := n) h.nd fun x hx => by
  obtain ⟨y, h1, _⟩ := (h.st x).1 hx
  exact h.dom x y h1
 omega
theorem WI.mono (h : WI N c L ss) {c' : Int} (hc : c ≤ c') : WI N c' L ss :=
 ⟨h.dom, fun x y e => by have := h.val x y e; omega, h.st, h.nd⟩
theorem WI.settle (h : WI N c L ss) (e : L v = some y) (h0 : y.2.2 = 0) : WI N c (lup L v (y.1, y.2.1, 1)) (v :: ss) := by
 have hv := h.val v y e
 have hn : v ∉ ss := fun hm => by
  obtain ⟨z, h1, h2⟩ := (h.st v).1 hm
  rw [e] at h1; cases h1; omega
 refine ⟨fun x z hz => ?_, fun x z hz => ?_, fun x => ?_, List.nodup_cons.2 ⟨hn, h.nd⟩⟩
 ·unfold lup at hz
  by_cases hx : x = v
  ·rw [hx]; exact h.dom v y e
  ·rw [if_neg hx] at hz; exact h.dom x z hz
 ·unfold lup at hz
  by_cases hx : x = v
  ·rw [if_pos hx] at hz; cases hz; exact ⟨hv.1, hv.2.1, hv.2.2.1, hv.2.2.2.1, .inr rfl⟩
  ·rw [if_neg hx] at hz; exact h.val x z hz
 ·unfold lup
  by_cases hx : x = v
  ·rw [if_pos hx, hx]; exact ⟨fun _ => ⟨_, rfl, rfl⟩, fun _ => by simp⟩
  ·rw [if_neg hx]
   simp only [List.mem_cons, hx, false_or]
   exact h.st x
theorem WI.rel (h : WI N c L ss) {d hp : Int} {a : Int × Int} (d0 : 0 ≤ d) (d1 : d + a.2 ≤ c * 140737488355328) (p0 : 0 ≤ hp) (p1 : hp + 1 ≤ c) (a0 : 0 ≤ a.1 /\ a.1 < N) (w0 : 0 ≤ a.2) : WI N c (wrel d hp L a) ss := by
 unfold wrel
 by_cases ho : opn L a.1 (d + a.2)
 ·rw [if_pos ho]
  refine ⟨fun x z hz => ?_, fun x z hz => ?_, fun x => ?_, h.nd⟩
  ·unfold lup at hz
   by_cases hx : x = a.1
   ·rw [hx]; exact a0
   ·rw [if_neg hx] at hz; exact h.dom x z hz
  ·unfold lup at hz
   by_cases hx : x = a.1
   ·rw [if_pos hx] at hz; cases hz; exact ⟨by dsimp only; omega, by dsimp only; omega, by dsimp only; omega, by dsimp only; omega, .inl rfl⟩
   ·rw [if_neg hx] at hz; exact h.val x z hz
  ·rw [h.st x]
   unfold lup
   by_cases hx : x = a.1
   ·rw [if_pos hx]
    constructor
    ·rintro ⟨z, h1, h2⟩
     rw [hx] at h1
     unfold opn at ho
     rw [h1] at ho
     dsimp only at ho
     omega
    ·rintro ⟨z, h1, h2⟩
     cases h1; cases h2
   ·rw [if_neg hx]
 ·rw [if_neg ho]; exact h
theorem WI.fold {d hp : Int} (d0 : 0 ≤ d) (d1 : d + 140737488355328 ≤ c * 140737488355328) (p0 : 0 ≤ hp) (p1 : hp + 1 ≤ c) : ∀ {l : List (Int × Int)} {L : Lab}, WI N c L ss -> (∀ a ∈ l, (0 ≤ a.1 /\ a.1 < N) /\ 0 ≤ a.2 /\ a.2 ≤ 140737488355328) -> WI N c (l.foldl (wrel d hp) L) ss := by
 intro l
 induction l with
 | nil => intro L h _; exact h
 | cons a l ih =>
  intro L h hl
  have := hl a (by simp)
  exact ih (h.rel d0 (by omega) p0 p1 this.1 this.2.1) fun b hb => hl b (by simp [hb])
theorem WI.set (h : WI N c L ss) (hr : RowOk row N) (hp : WPick L v y) : WI N (c + 1) (wset row hops L v y) (v :: ss) := by
 have hv := h.val v y hp.1
 have h1 := (h.settle hp.1 hp.2.1).mono (c' := c + 1) (by omega)
 unfold wset
 split
 ·exact h1
 ·exact WI.fold (by omega) (by omega) (by omega) (by omega) h1 (hr v)
def lab0 (u : Int) : Lab := lup (fun _ => none) u (0, 0, 0)
theorem WI.zero {u : Int} (u0 : 0 ≤ u) (u1 : u < N) : WI N 0 (lab0 u) [] := by
 refine ⟨fun x z hz => ?_, fun x z hz => ?_, fun x => ?_, List.nodup_nil⟩
 ·unfold lab0 lup at hz
  by_cases hx : x = u
  ·rw [hx]; exact ⟨u0, u1⟩
  ·rw [if_neg hx] at hz; cases hz
 ·unfold lab0 lup at hz
  by_cases hx : x = u
  ·rw [if_pos hx] at hz; cases hz; simp
  ·rw [if_neg hx] at hz; cases hz
 ·simp only [List.not_mem_nil, false_iff]
  rintro ⟨z, h1, h2⟩
  unfold lab0 lup at h1
  by_cases hx : x = u
  ·rw [if_pos hx] at h1; cases h1; cases h2
  ·rw [if_neg hx] at h1; cases h1
end Go.Vd

/-! (WtR) -/

set_option linter.unusedVariables false
set_option linter.unusedSimpArgs false
namespace Go.Vd
abbrev BSw := List Int × List Int × List Bool
def PickW (n : Int) (S : List Bool) (st : BSw) (v : Int) : Prop :=
 0 ≤ v /\ v < n /\ gt st.2.2 v = true /\ ¬ gt S v = true /\ ∀ x, 0 ≤ x -> x < n -> gt st.2.2 x = true -> ¬ gt S x = true -> gt st.1 v < gt st.1 x ∨ (gt st.1 v = gt st.1 x /\ v ≤ x)
def NoPickW (n : Int) (S : List Bool) (st : BSw) : Prop := ∀ x, 0 ≤ x -> x < n -> gt st.2.2 x = true -> gt S x = true
theorem gt_repD {E : Type} [Inhabited E] {n : Nat} {x : Int} : gt (List.replicate n (default : E)) x = default := by
 unfold gt
 rw [List.getD_eq_getElem?_getD, List.getElem?_replicate]
 split <;> rfl
variable {L L' : Lab} {row : Int -> List (Int × Int)} {hops settles most c n v s : Int} {y : Int × Int × Int} {ss : List Int} {S : List Bool} {st : BSw}
def labOf (n : Int) (st : BSw) (S : List Bool) : Lab := fun x => if 0 ≤ x /\ x < n /\ gt st.2.2 x = true then some (gt st.1 x, gt st.2.1 x, if gt S x = true then 1 else 0) else none
theorem labOf_pick (h : PickW n S st v) : WPick (labOf n st S) v (gt st.1 v, gt st.2.1 v, 0) := by
 obtain ⟨v0, v1, h1, h2, h3⟩ := h
 refine ⟨by unfold labOf; rw [if_pos ⟨v0, v1, h1⟩, if_neg h2], rfl, fun x z hz h0 => ?_⟩
 unfold labOf at hz
 split at hz
 ·rename_i hx
  cases hz
  dsimp only at h0 ⊢
  exact h3 x hx.1 hx.2.1 hx.2.2 fun hs => by rw [if_pos hs] at h0; cases h0
 ·cases hz
theorem labOf_no (h : NoPickW n S st) : WNo (labOf n st S) := fun x z hz h0 => by
 unfold labOf at hz
 split at hz
 ·rename_i hx
  cases hz
  dsimp only at h0
  rw [if_pos (h x hx.1 hx.2.1 hx.2.2)] at h0
  cases h0
 ·cases hz
structure BL (n : Int) (st : BSw) (S : List Bool) : Prop where
 lD : (st.1.length : Int) = n
 lH : (st.2.1.length : Int) = n
 lA : (st.2.2.length : Int) = n
 lS : (S.length : Int) = n
 sd : ∀ x, 0 ≤ x -> x < n -> gt S x = true -> gt st.2.2 x = true
theorem p_takeW {Ds Hs : List Int} {Has St : List Bool} (lD : (Ds.length : Int) = n) (lA : (Has.length : Int) = n) (lS : (St.length : Int) = n) (hn : n ≤ 1000000) :
  T (z_viaductref08_Search_take Ds Hs Has St) fun v => (v = -1 /\ NoPickW n St (Ds, Hs, Has)) ∨ PickW n St (Ds, Hs, Has) v := by
 unfold z_viaductref08_Search_take
 rw [T_bind]
 refine T_mono (Q := fun v => (v = -1 /\ NoPickW n St (Ds, Hs, Has)) ∨ PickW n St (Ds, Hs, Has) v) ?_ fun v h => by simpa using h
 refine T_loop (fun z => 0 ≤ z.2 /\ z.2 ≤ n /\ ((z.1 = -1 /\ ∀ x, 0 ≤ x -> x < z.2 -> gt Has x = true -> gt St x = true) ∨ (0 ≤ z.1 /\ z.1 < z.2 /\ gt Has z.1 = true /\ ¬ gt St z.1 = true /\ ∀ x, 0 ≤ x -> x < z.2 -> gt Has x = true -> ¬ gt St x = true -> gt Ds z.1 < gt Ds x ∨ (gt Ds z.1 = gt Ds x /\ z.1 ≤ x)))) (fun z => (n - z.2).toNat) ?_ ⟨by simp, by simp; omega, .inl ⟨rfl, fun x x0 x1 => by dsimp only at x1; omega⟩⟩
 rintro ⟨at_, i⟩ ⟨i0, i1, h⟩
 dsimp only at *
 unfold z_viaductref08_Search_take_l0
 rw [T_ite]
 refine ⟨fun hi => ?_, fun hi => ?_⟩
 ·have next1 : (¬ (gt Has i = true /\ ¬ gt St i = true)) -> ((at_ = -1 /\ ∀ x, 0 ≤ x -> x < i + 1 -> gt Has x = true -> gt St x = true) ∨ (0 ≤ at_ /\ at_ < i + 1 /\ gt Has at_ = true /\ ¬ gt St at_ = true /\ ∀ x, 0 ≤ x -> x < i + 1 -> gt Has x = true -> ¬ gt St x = true -> gt Ds at_ < gt Ds x ∨ (gt Ds at_ = gt Ds x /\ at_ ≤ x))) := fun hn => by
   rcases h with ⟨h1, h2⟩ | ⟨h1, h2, h3, h4, h5⟩
   ·refine .inl ⟨h1, fun x x0 x1 hx => ?_⟩
    by_cases e : x = i
    ·subst e; exact Classical.not_not.1 fun k => hn ⟨hx, k⟩
    ·exact h2 x x0 (by omega) hx
   ·refine .inr ⟨h1, by omega, h3, h4, fun x x0 x1 hx hs => ?_⟩
    by_cases e : x = i
    ·subst e; exact absurd ⟨hx, hs⟩ hn
    ·exact h5 x x0 (by omega) hx hs
  simp only [T_ite, T_G, T_some, Sum.elim_inl]
  refine ⟨i0, fun hA => ⟨by omega, fun hS => ⟨fun ha => ?_, fun ha => ?_⟩, fun hS => ?_⟩, fun hA => ?_⟩
  ·rcases h with ⟨h1, h2⟩ | ⟨h1, _⟩
   ·refine ⟨by omega, ⟨by omega, by omega, .inr ⟨i0, by omega, hA, by simpa using hS, fun x x0 x1 hx hs => ?_⟩⟩, by omega⟩
    by_cases e : x = i
    ·subst e; exact .inr ⟨rfl, Int.le_refl _⟩
    ·exact absurd (h2 x x0 (by omega) hx) hs
   ·omega
  ·rcases h with ⟨h1, h2⟩ | ⟨h1, h2, h3, h4, h5⟩
   ·omega
   refine ⟨by omega, by omega, fun hlt => ⟨by omega, ⟨by omega, by omega, .inr ⟨i0, by omega, hA, by simpa using hS, fun x x0 x1 hx hs => ?_⟩⟩, by omega⟩, fun hge => ⟨by omega, ⟨by omega, by omega, .inr ⟨h1, by omega, h3, h4, fun x x0 x1 hx hs => ?_⟩⟩, by omega⟩⟩
   ·by_cases e : x = i
    ·subst e; exact .inr ⟨rfl, Int.le_refl _⟩
    ·have := h5 x x0 (by omega) hx hs; omega
   ·by_cases e : x = i
    ·subst e; omega
    ·exact h5 x x0 (by omega) hx hs
  ·exact ⟨by omega, ⟨by omega, by omega, next1 fun k => k.2 (by simpa using hS)⟩, by omega⟩
  ·exact ⟨by omega, ⟨by omega, by omega, next1 fun k => hA k.1⟩, by omega⟩
 ·simp only [T_some, Sum.elim_inr]
  have e : i = n := by omega
  subst e
  rcases h with ⟨h1, h2⟩ | ⟨h1, h2, h3, h4, h5⟩
  ·exact .inl ⟨h1, h2⟩
  ·exact .inr ⟨h1, h2, h3, h4, h5⟩
theorem gt_memW {E : Type} [Inhabited E] {l : List E} {i : Int} (h0 : 0 ≤ i) (h1 : i < (l.length : Int)) : gt l i ∈ l := by
 unfold gt
 rw [List.getD_eq_getElem?_getD, List.getElem?_eq_getElem (by omega)]
 exact List.getElem_mem _
theorem labOf_rel (h : BL n st S) {a : Int × Int} (a0 : 0 ≤ a.1) (a1 : a.1 < n) (d hp : Int) :
  wrel d hp (labOf n st S) a = if ¬ gt S a.1 = true /\ (¬ gt st.2.2 a.1 = true ∨ d + a.2 < gt st.1 a.1) then labOf n (st.1.set a.1.toNat (d + a.2), st.2.1.set a.1.toNat (hp + 1), st.2.2.set a.1.toNat true) S else labOf n st S := by
 obtain ⟨lD, lH, lA, lS, sd⟩ := h
 have hs := sd a.1 a0 a1
 have eo : opn (labOf n st S) a.1 (d + a.2) ↔ (¬ gt S a.1 = true /\ (¬ gt st.2.2 a.1 = true ∨ d + a.2 < gt st.1 a.1)) := by
  unfold opn labOf
  by_cases hA : gt st.2.2 a.1 = true
  ·rw [if_pos ⟨a0, a1, hA⟩]
   dsimp only
   by_cases hS : gt S a.1 = true
   ·rw [if_pos hS]; simp [hS]
   ·rw [if_neg hS]; simp [hA, hS]
  ·rw [if_neg fun k => hA k.2.2]
   have : ¬ gt S a.1 = true := fun k => hA (hs k)
   simp [hA, this]
 unfold wrel
 by_cases ho : opn (labOf n st S) a.1 (d + a.2)
 ·have ho' := eo.1 ho
  rw [if_pos ho, if_pos ho']
  funext x
  have g1 : 0 ≤ x -> gt (st.1.set a.1.toNat (d + a.2)) x = if x = a.1 then d + a.2 else gt st.1 x := fun x0 => gt_set a0 (by omega) x0
  have g2 : 0 ≤ x -> gt (st.2.1.set a.1.toNat (hp + 1)) x = if x = a.1 then hp + 1 else gt st.2.1 x := fun x0 => gt_set a0 (by omega) x0
  have g3 : 0 ≤ x -> gt (st.2.2.set a.1.toNat true) x = if x = a.1 then true else gt st.2.2 x := fun x0 => gt_set a0 (by omega) x0
  unfold lup labOf
  dsimp only
  by_cases hx : x = a.1
  ·subst hx
   rw [if_pos rfl, g1 a0, g2 a0, g3 a0, if_pos rfl, if_pos rfl, if_pos rfl, if_pos ⟨a0, a1, rfl⟩, if_neg ho'.1]
  ·rw [if_neg hx]
   by_cases hr : 0 ≤ x /\ x < n
   ·rw [g1 hr.1, g2 hr.1, g3 hr.1, if_neg hx, if_neg hx, if_neg hx]
   ·rw [if_neg fun k => hr ⟨k.1, k.2.1⟩, if_neg fun k => hr ⟨k.1, k.2.1⟩]
 ·have ho' := fun k => ho (eo.2 k)
  rw [if_neg ho, if_neg ho']
theorem BL.rel (h : BL n st S) {a : Int × Int} (a0 : 0 ≤ a.1) (a1 : a.1 < n) (d hp : Int) : BL n (st.1.set a.1.toNat d, st.2.1.set a.1.toNat hp, st.2.2.set a.1.toNat true) S := by
 obtain ⟨lD, lH, lA, lS, sd⟩ := h
 refine ⟨by simpa using lD, by simpa using lH, by simpa using lA, lS, fun x x0 x1 hx => ?_⟩
 dsimp only
 rw [gt_set a0 (by omega) x0]
 split
 ·rfl
 ·exact sd x x0 x1 hx
theorem labOf_settle (h : BL n st S) (v0 : 0 ≤ v) (v1 : v < n) (hv : gt st.2.2 v = true) : labOf n st (S.set v.toNat true) = lup (labOf n st S) v (gt st.1 v, gt st.2.1 v, 1) := by
 obtain ⟨lD, lH, lA, lS, sd⟩ := h
 funext x
 have g3 : 0 ≤ x -> gt (S.set v.toNat true) x = if x = v then true else gt S x := fun x0 => gt_set v0 (by omega) x0
 unfold lup labOf
 by_cases hx : x = v
 ·subst hx
  rw [if_pos rfl, if_pos ⟨v0, v1, hv⟩, g3 v0, if_pos rfl, if_pos rfl]
 ·rw [if_neg hx]
  by_cases hr : 0 ≤ x /\ x < n
  ·rw [g3 hr.1, if_neg hx]
  ·rw [if_neg fun k => hr ⟨k.1, k.2.1⟩, if_neg fun k => hr ⟨k.1, k.2.1⟩]
theorem BL.settle (h : BL n st S) (v0 : 0 ≤ v) (v1 : v < n) (hv : gt st.2.2 v = true) : BL n st (S.set v.toNat true) := by
 obtain ⟨lD, lH, lA, lS, sd⟩ := h
 refine ⟨lD, lH, lA, by simpa using lS, fun x x0 x1 hx => ?_⟩
 rw [gt_set v0 (by omega) x0] at hx
 by_cases e : x = v
 ·rw [e]; exact hv
 ·rw [if_neg e] at hx; exact sd x x0 x1 hx
theorem foldl_take {l : List (Int × Int)} {f : Lab -> Int × Int -> Lab} {A : Lab} {i : Int} (i0 : 0 ≤ i) (i1 : i < (l.length : Int)) : (l.take (i + 1).toNat).foldl f A = f ((l.take i.toNat).foldl f A) (gt l i) := by
 rw [show (i + 1).toNat = i.toNat + 1 from by omega, List.take_add_one, List.foldl_append]
 have : l[i.toNat]?.toList = [gt l i] := by
  unfold gt
  rw [List.getD_eq_getElem?_getD, List.getElem?_eq_getElem (by omega)]; rfl
 rw [this]; rfl
theorem p_RunRowW {rows : List (List (Int × Int))} {S7 : List Bool} {l : List (Int × Int)} (hl : gt rows v = l) (rl : v < (rows.length : Int)) (ll : l.length ≤ 1000000) (n1 : n ≤ 65536) (c0 : 0 ≤ c) (c1 : c ≤ 65536) (v0 : 0 ≤ v) (v1 : v < n) (B : BL n st (S7.set v.toNat true)) (sv : gt (S7.set v.toNat true) v = true)
  (hr : ∀ a ∈ l, (0 ≤ a.1 /\ a.1 < n) /\ 0 ≤ a.2 /\ a.2 ≤ 140737488355328) (d0 : 0 ≤ gt st.1 v) (d1 : gt st.1 v ≤ c * 140737488355328) (h0 : 0 ≤ gt st.2.1 v) (h1 : gt st.2.1 v ≤ c) :
  T (loopO (fun zz_ => z_viaductref08_Run_l0 rows S7 v zz_.1 zz_.2.1 zz_.2.2.1 zz_.2.2.2) (st.1, st.2.1, st.2.2, 0)) fun r => labOf n r (S7.set v.toNat true) = l.foldl (wrel (gt st.1 v) (gt st.2.1 v)) (labOf n st (S7.set v.toNat true)) /\ BL n r (S7.set v.toNat true) := by
 have hmul : c * 140737488355328 ≤ 65536 * 140737488355328 := Int.mul_le_mul_of_nonneg_right c1 (by omega)
 refine T_loop (fun z => 0 ≤ z.2.2.2 /\ z.2.2.2 ≤ (l.length : Int) /\ labOf n (z.1, z.2.1, z.2.2.1) (S7.set v.toNat true) = (l.take z.2.2.2.toNat).foldl (wrel (gt st.1 v) (gt st.2.1 v)) (labOf n st (S7.set v.toNat true)) /\ BL n (z.1, z.2.1, z.2.2.1) (S7.set v.toNat true) /\ gt z.1 v = gt st.1 v /\ gt z.2.1 v = gt st.2.1 v) (fun z => ((l.length : Int) - z.2.2.2).toNat) ?_ ⟨by simp, by simp, rfl, B, rfl, rfl⟩
 rintro ⟨b0, b1, b2, i⟩ ⟨i0, i1, e, M, m1, m2⟩
 dsimp only at *
 unfold z_viaductref08_Run_l0
 rw [hl, T_ite]
 refine ⟨fun hi => ?_, fun hi => ?_⟩
 rotate_left
 ·simp only [T_some, Sum.elim_inr]
  have : i = (l.length : Int) := by omega
  rw [this, Int.toNat_natCast, List.take_length] at e
  exact ⟨e, M⟩
 have ha := hr _ (gt_memW i0 hi)
 have hft := foldl_take (f := wrel (gt st.1 v) (gt st.2.1 v)) (A := labOf n st (S7.set v.toNat true)) i0 hi
 rw [← e] at hft
 generalize gt l i = a at *
 obtain ⟨x, w⟩ := a
 dsimp only at *
 obtain ⟨⟨x0, x1⟩, w0, w1⟩ := ha
 have lD := M.lD; have lH := M.lH; have lA := M.lA; have lS := M.lS
 dsimp only at lD lH lA lS
 have hrl := labOf_rel M (a := (x, w)) x0 x1 (gt st.1 v) (gt st.2.1 v)
 dsimp only at hrl
 simp only [T_G]
 refine ⟨i0, by omega, by omega, ?_⟩
 refine T_bindr (fun o => o = true ↔ (¬ gt (S7.set v.toNat true) x = true /\ (¬ gt b2 x = true ∨ gt b0 v + w < gt b0 x))) ?_ fun o ho => ?_
 ·simp only [T_G, T_ite, T_some]
  refine ⟨by omega, fun h1 => ⟨by omega, fun h2 => ?_, fun h2 => ⟨by omega, ?_⟩⟩, fun h1 => ?_⟩
  ·simp at h1 h2; simp [h1, h2]
  ·simp at h1 h2; simp [h1, h2]
  ·simp at h1; simp [h1]
 rw [m1] at ho
 rw [T_ite]
 refine ⟨fun ht => ?_, fun hf => ?_⟩
 ·have ho' := ho.1 ht
  rw [if_pos ho'] at hrl
  have hxv : v ≠ x := fun e => ho'.1 (by rw [← e]; exact sv)
  simp only [T_G, T_some, Sum.elim_inl]
  rw [m1, m2]
  refine ⟨by omega, by omega, by omega, by omega, by omega, by omega, ⟨by omega, by omega, ?_, M.rel (a := (x, w)) x0 x1 _ _, ?_, ?_⟩, by omega⟩
  ·rw [hft, hrl]
  ·rw [gt_set x0 (by omega) v0, if_neg hxv]; exact m1
  ·rw [gt_set x0 (by omega) v0, if_neg hxv]; exact m2
 ·rw [if_neg fun k => hf (ho.2 k)] at hrl
  simp only [T_G, T_some, Sum.elim_inl]
  exact ⟨by omega, ⟨by omega, by omega, by rw [hft, hrl], M, m1, m2⟩, by omega⟩
theorem p_RunW {rows : List (List (Int × Int))} (lr : (rows.length : Int) = n) (n1 : n ≤ 65536) (hrow : ∀ v, 0 ≤ v -> v < n -> gt rows v = row v /\ (row v).length ≤ 1000000) (hr : RowOk row n) (s0 : 0 ≤ s) (s1 : s < n) (hset : settles ≤ 9223372036854775807) :
  T (z_viaductref08_Run rows s hops settles most) fun r => ∃ Lf, WR row hops settles most 0 (lab0 s) Lf /\ labOf n (r.1, r.2.1, r.2.2.1) r.2.2.2 = Lf /\ BL n (r.1, r.2.1, r.2.2.1) r.2.2.2 := by
 have hlr : rows.length = n.toNat := by omega
 unfold z_viaductref08_Run
 simp only [T_G]
 refine ⟨by omega, by omega, by simp; omega, ?_⟩
 rw [hlr]
 have hr0 : ∀ x, gt (List.replicate n.toNat (0 : Int)) x = 0 := fun x => gt_repD (E := Int)
 have hrf : ∀ x, gt (List.replicate n.toNat false) x = false := fun x => gt_repD (E := Bool)
 have B0 : BL n (List.replicate n.toNat 0, List.replicate n.toNat 0, (List.replicate n.toNat false).set s.toNat true) (List.replicate n.toNat false) :=
  ⟨by simp; omega, by simp; omega, by simp; omega, by simp; omega, fun x _ _ hx => by rw [hrf] at hx; cases hx⟩
 have L0 : labOf n (List.replicate n.toNat 0, List.replicate n.toNat 0, (List.replicate n.toNat false).set s.toNat true) (List.replicate n.toNat false) = lab0 s := by
  funext x
  unfold labOf lab0 lup
  dsimp only
  by_cases hx : x = s
  ·subst hx
   rw [if_pos rfl, hr0, hrf, if_pos ⟨s0, s1, by rw [gt_set s0 (by simp; omega) s0, if_pos rfl]⟩]; rfl
  ·rw [if_neg hx, if_neg]
   rintro ⟨x0, x1, h⟩
   rw [gt_set s0 (by simp; omega) x0, if_neg hx, hrf] at h
   cases h
 refine T_bindr (fun r => ∃ Lf, WR row hops settles most 0 (lab0 s) Lf /\ labOf n (r.1, r.2.1, r.2.2.1) r.2.2.2 = Lf /\ BL n (r.1, r.2.1, r.2.2.1) r.2.2.2) ?_ fun r h => by simpa using h
 refine T_loop (fun z => 0 ≤ z.2.2.2.2 /\ BL n (z.1, z.2.1, z.2.2.1) z.2.2.2.1 /\ (∃ ss, WI n z.2.2.2.2 (labOf n (z.1, z.2.1, z.2.2.1) z.2.2.2.1) ss /\ (ss.length : Int) = z.2.2.2.2) /\ ∀ Lf, WR row hops settles most z.2.2.2.2 (labOf n (z.1, z.2.1, z.2.2.1) z.2.2.2.1) Lf -> WR row hops settles most 0 (lab0 s) Lf) (fun z => (n - z.2.2.2.2).toNat) ?_ ⟨by simp, B0, ⟨[], by rw [L0]; exact WI.zero s0 s1, rfl⟩, fun _ h => by rw [L0] at h; exact h⟩
 rintro ⟨Ds, Hs, Has, St, c⟩ ⟨c0, D, ⟨ss, hW, hss⟩, K⟩
 dsimp only at *
 have lD := D.lD; have lH := D.lH; have lA := D.lA; have lS := D.lS
 dsimp only at lD lH lA lS
 have hcn := hW.len (by omega)
 unfold z_viaductref08_Run_l1
 rw [T_ite]
 refine ⟨fun hlt => ?_, fun hge => ?_⟩
 rotate_left
 ·simp only [T_some, Sum.elim_inr]
  exact ⟨_, K _ (.full _ _ (by omega)), rfl, D⟩
 refine T_bindr _ (p_takeW (Hs := Hs) lD lA lS (by omega)) fun v hv => ?_
 rcases hv with ⟨rfl, hno⟩ | hp
 ·refine T_bindr (fun o => o = true) (by simp) ?_
  rintro _ rfl
  rw [if_pos rfl]
  simp only [T_some, Sum.elim_inr]
  exact ⟨_, K _ (.none _ _ hlt (labOf_no hno)), rfl, D⟩
 obtain ⟨v0, v1, vA, vS, _⟩ := id hp
 have hpw := labOf_pick hp
 dsimp only at vA hpw
 refine T_bindr (fun o => o = decide (gt Ds v > most)) ?_ ?_
 ·rw [T_ite]
  simp only [T_G, T_some]
  exact ⟨fun h => by omega, fun _ => ⟨by omega, trivial⟩⟩
 rintro _ rfl
 rw [T_ite]
 refine ⟨fun h => ?_, fun h => ?_⟩
 ·simp only [T_some, Sum.elim_inr]
  exact ⟨_, K _ (.far _ _ v _ hlt hpw (by simpa using h)), rfl, D⟩
 have hmost : ¬ gt Ds v > most := by simpa using h
 have hset' := labOf_settle D v0 v1 vA
 have hB' := D.settle v0 v1 vA
 dsimp only at hset'
 have hWn := hW.set (hops := hops) hr hpw
 have hval := hW.val v _ hpw.1
 dsimp only at hval
 have hcn2 := hWn.len (by omega)
 rw [List.length_cons] at hcn2
 have sv : gt (St.set v.toNat true) v = true := by rw [gt_set v0 (by omega) v0, if_pos rfl]
 simp only [T_G]
 refine ⟨by omega, by omega, ?_⟩
 rw [T_ite]
 refine ⟨fun hh => ?_, fun hh => ?_⟩
 ·have e : wset row hops (labOf n (Ds, Hs, Has) St) v (gt Ds v, gt Hs v, 0) = labOf n (Ds, Hs, Has) (St.set v.toNat true) := by
   unfold wset; rw [if_pos hh, hset']
  rw [e] at hWn
  simp only [T_G, T_some, Sum.elim_inl]
  refine ⟨by omega, ⟨by omega, hB', ⟨_, hWn, by simp; omega⟩, fun Lf hL => K _ (.go _ _ v _ _ hlt hpw hmost (by rw [e]; exact hL))⟩, by omega⟩
 ·obtain ⟨r1, r2⟩ := hrow v v0 v1
  simp only [T_G]
  refine ⟨by omega, T_bindr _ (p_RunRowW (l := row v) (c := c) r1 (by omega) r2 n1 c0 (by omega) v0 v1 hB' sv (hr v) hval.1 hval.2.1 hval.2.2.1 hval.2.2.2.1) ?_⟩
  rintro ⟨b0, b1, b2⟩ ⟨e, M⟩
  dsimp only at *
  have e2 : wset row hops (labOf n (Ds, Hs, Has) St) v (gt Ds v, gt Hs v, 0) = labOf n (b0, b1, b2) (St.set v.toNat true) := by
   unfold wset; rw [if_neg hh, e, hset']
  rw [e2] at hWn
  simp only [T_G, T_some, Sum.elim_inl]
  refine ⟨by omega, ⟨by omega, M, ⟨_, hWn, by simp; omega⟩, fun Lf hL => K _ (.go _ _ v _ _ hlt hpw hmost (by rw [e2]; exact hL))⟩, by omega⟩
end Go.Vd

/-! (WtB) -/

set_option linter.unusedVariables false
set_option linter.unusedSimpArgs false
namespace Go.Vd
abbrev Nd3 := Bool × List (Int × Int × Int) × List (Int × Int × Int)
variable {a : List Nd3} {b1 b2 b3 b4 : Int} {f : Int -> Option (Int × Int × Int)} {q : List (Int × Int)} {i j n : Int}
theorem p_wLess (i0 : 0 ≤ i) (i1 : i < (q.length : Int)) (j0 : 0 ≤ j) (j1 : j < (q.length : Int)) : z_witness_queue_Less q i j = some (decide (Less (gt q i) (gt q j))) := by
 unfold z_witness_queue_Less G
 rw [if_pos ⟨i0, i1⟩, if_pos ⟨j0, j1⟩]
 generalize gt q i = x
 generalize gt q j = y
 unfold Less
 by_cases h : x.1 < y.1
 ·rw [if_pos h]; simp [h]
 ·rw [if_neg h]
  by_cases e : x.1 = y.1
  ·rw [if_pos e]; simp [h, e]
  ·rw [if_neg e]; simp [h, e]
theorem p_wSwap (i0 : 0 ≤ i) (i1 : i < (q.length : Int)) (j0 : 0 ≤ j) (j1 : j < (q.length : Int)) : z_witness_queue_Swap q i j = some (swp q i j) := by
 unfold z_witness_queue_Swap G
 rw [if_pos ⟨j0, j1⟩, if_pos ⟨i0, i1⟩, if_pos (by simpa using j1)]
 rfl
theorem p_hUp (hl : q.length ≤ 1000000000000) (j0 : 0 ≤ j) (j1 : j < (q.length : Int)) (U : Up2 q.length (gt q) j) :
  T (z_container_heap_up a b1 b2 b3 b4 q f j) fun r => r.Perm q /\ Hq r := by
 unfold z_container_heap_up
 refine T_bindr (fun r => r.Perm q /\ Hq r) ?_ fun r h => by simpa using h
 refine T_loop (fun z => z.1.Perm q /\ 0 ≤ z.2 /\ z.2 < (q.length : Int) /\ Up2 q.length (gt z.1) z.2) (fun z => z.2.toNat) ?_ ⟨List.Perm.refl _, j0, j1, U⟩
 rintro ⟨h, i⟩ ⟨hp, i0, i1, V⟩
 dsimp only at *
 have hlen := hp.length_eq
 unfold z_container_heap_up_l0
 by_cases hz : i = 0
 ·subst hz
  simp only [T_G]
  refine ⟨by omega, by decide, ?_⟩
  rw [if_pos (by decide), Option.bind_some, if_pos rfl]
  simp only [T_some, Sum.elim_inr]
  refine ⟨hp, ?_⟩
  have := V.done (.inl rfl)
  unfold Hq; rw [hlen]; exact this
 ·have hpar : par2 i < i /\ 0 ≤ par2 i := by unfold par2; omega
  rw [tdiv2 (by omega)]
  simp only [T_G]
  refine ⟨by omega, by omega, ?_⟩
  rw [if_neg (by omega), p_wLess (by omega) (by omega) hpar.2 (by omega), Option.bind_some, Option.bind_some]
  by_cases hless : Less (gt h i) (gt h (par2 i))
  ·rw [decide_eq_true hless, if_neg (by decide), p_wSwap hpar.2 (by omega) (by omega) (by omega), Option.bind_some]
   simp only [T_some, Sum.elim_inl]
   refine ⟨⟨(swp_perm hpar.2 (by omega) (by omega) (by omega)).trans hp, hpar.2, by omega, ?_⟩, by omega⟩
   refine V.step (by omega) i1 hless fun p p0 p1 => ?_
   rw [gt_swp hpar.2 (by omega) (by omega) (by omega) p0]
   by_cases e1 : p = i
   ·subst e1; rw [if_pos rfl, if_neg (by omega), if_pos rfl]
   ·rw [if_neg e1]
    by_cases e2 : p = par2 i
    ·rw [if_pos e2, if_pos e2]
    ·rw [if_neg e2, if_neg e2, if_neg e1]
  ·rw [decide_eq_false hless, if_pos (by decide)]
   simp only [T_some, Sum.elim_inr]
   refine ⟨hp, ?_⟩
   have := V.done (.inr hless)
   unfold Hq; rw [hlen]; exact this
theorem p_hDown (hl : q.length ≤ 1000000000000) (n0 : 0 ≤ n) (n1 : n ≤ (q.length : Int)) (D : Down2 n (gt q) 0) :
  T (z_container_heap_down a b1 b2 b3 b4 q f 0 n) fun r => r.2.Perm q /\ Ord2 n (gt r.2) /\ ∀ p, n ≤ p -> p < (q.length : Int) -> gt r.2 p = gt q p := by
 unfold z_container_heap_down
 refine T_bindr (fun r => r.2.Perm q /\ Ord2 n (gt r.2) /\ ∀ p, n ≤ p -> p < (q.length : Int) -> gt r.2 p = gt q p) ?_ fun r h => by simpa using h
 refine T_loop (fun z => z.1.Perm q /\ 0 ≤ z.2 /\ (z.2 < n ∨ z.2 = 0) /\ Down2 n (gt z.1) z.2 /\ ∀ p, n ≤ p -> p < (q.length : Int) -> gt z.1 p = gt q p) (fun z => (n - z.2).toNat) ?_ ⟨List.Perm.refl _, by simp, .inr rfl, D, fun _ _ _ => rfl⟩
 rintro ⟨h, i⟩ ⟨hp, i0, i1, E, hr⟩
 dsimp only at *
 have hlen := hp.length_eq
 have kids : ∀ c, 1 ≤ c -> par2 c = i -> c = 2 * i + 1 ∨ c = 2 * i + 1 + 1 := fun c c0 hc => by unfold par2 at hc; omega
 have par1 : par2 (2 * i + 1) = i := by unfold par2; omega
 have par2' : par2 (2 * i + 1 + 1) = i := by unfold par2; omega
 unfold z_container_heap_down_l0
 simp only [T_G]
 refine ⟨by omega, by omega, ?_⟩
 by_cases hn : 2 * i + 1 ≥ n
 ·rw [if_pos hn, Option.bind_some, if_pos rfl]
  simp only [T_some, Sum.elim_inr]
  refine ⟨hp, E.done fun c c0 c1 hc => ?_, hr⟩
  have := kids c c0 hc
  omega
 ·rw [if_neg hn, Option.bind_some, if_neg (by simp; omega)]
  have hin : i < n := by omega
  simp only [T_G]
  refine ⟨by omega, ?_⟩
  -- the lesser child
  refine T_bindr (fun o => o = decide (2 * i + 1 + 1 < n /\ Less (gt h (2 * i + 1 + 1)) (gt h (2 * i + 1)))) ?_ ?_
  ·by_cases h2 : 2 * i + 1 + 1 < n
   ·rw [if_pos h2, p_wLess (by omega) (by omega) (by omega) (by omega), Option.bind_some]
    simp [h2]
   ·rw [if_neg h2]; simp [h2]
  rintro _ rfl
  have key : ∀ c, 1 ≤ c -> c < n -> par2 c = i -> (∀ d, 1 ≤ d -> d < n -> par2 d = i -> ¬ Less (gt h d) (gt h c)) ->
    T ((z_witness_queue_Less h c i).bind fun y82 => if (!y82) = true then (some (Sum.inr (i, h))) else (((z_witness_queue_Swap h i c).bind fun y92 => some (Sum.inl (y92, c))))) (Sum.elim (fun z : List (Int × Int) × Int => (z.1.Perm q /\ 0 ≤ z.2 /\ (z.2 < n ∨ z.2 = 0) /\ Down2 n (gt z.1) z.2 /\ ∀ p, n ≤ p -> p < (q.length : Int) -> gt z.1 p = gt q p) /\ (n - z.2).toNat < (n - i).toNat) fun r : Int × List (Int × Int) => r.2.Perm q /\ Ord2 n (gt r.2) /\ ∀ p, n ≤ p -> p < (q.length : Int) -> gt r.2 p = gt q p) := by
   intro c c0 c1 hc hm
   have hci : i < c := by have := kids c c0 hc; omega
   rw [p_wLess (by omega) (by omega) i0 (by omega), Option.bind_some]
   by_cases hless : Less (gt h c) (gt h i)
   ·rw [decide_eq_true hless, if_neg (by decide), p_wSwap i0 (by omega) (by omega) (by omega), Option.bind_some]
    simp only [T_some, Sum.elim_inl]
    have hs : ∀ p, 0 ≤ p -> gt (swp h i c) p = if p = c then gt h i else if p = i then gt h c else gt h p := fun p p0 => gt_swp i0 (by omega) (by omega) (by omega) p0
    refine ⟨⟨(swp_perm i0 (by omega) (by omega) (by omega)).trans hp, by omega, .inl c1, E.step i0 c0 c1 hc hm hless fun p p0 p1 => hs p p0, fun p p0 p1 => ?_⟩, by omega⟩
    rw [hs p (by omega), if_neg (by omega), if_neg (by omega)]
    exact hr p p0 p1
   ·rw [decide_eq_false hless, if_pos (by decide)]
    simp only [T_some, Sum.elim_inr]
    refine ⟨hp, E.done fun d d0 d1 hd => ?_, hr⟩
    exact nl_trans (hm d d0 d1 hd) hless
  by_cases hpick : 2 * i + 1 + 1 < n /\ Less (gt h (2 * i + 1 + 1)) (gt h (2 * i + 1))
  ·rw [decide_eq_true hpick, if_pos rfl, Option.bind_some]
   refine key _ (by omega) hpick.1 par2' fun d d0 d1 hd => ?_
   rcases kids d d0 hd with rfl | rfl
   ·exact hpick.2.irr
   ·unfold Less; omega
  ·rw [decide_eq_false hpick, if_neg (by decide), Option.bind_some]
   refine key _ (by omega) (by omega) par1 fun d d0 d1 hd => ?_
   rcases kids d d0 hd with rfl | rfl
   ·unfold Less; omega
   ·exact fun k => hpick ⟨d1, k⟩
theorem gt_snocW {E : Type} [Inhabited E] {l : List E} {x : E} {p : Int} (p0 : 0 ≤ p) : gt (l ++ [x]) p = if p = (l.length : Int) then x else gt l p := by
 unfold gt
 rw [List.getD_eq_getElem?_getD, List.getD_eq_getElem?_getD]
 by_cases h : p = (l.length : Int)
 ·subst h; simp
 ·rw [if_neg h]
  by_cases h2 : p < (l.length : Int)
  ·rw [List.getElem?_append_left (by omega)]
  ·rw [List.getElem?_eq_none (by simp; omega), List.getElem?_eq_none (by omega)]
theorem gt_takeW {E : Type} [Inhabited E] {l : List E} {m : Nat} {p : Int} (p0 : 0 ≤ p) (p1 : p < (m : Int)) : gt (l.take m) p = gt l p := by
 unfold gt
 rw [List.getD_eq_getElem?_getD, List.getD_eq_getElem?_getD, List.getElem?_take, if_pos (by omega)]
theorem p_hPush {d v : Int} (hq : Hq q) (hl : q.length ≤ 100000000000) : T (z_container_heap_Push a b1 b2 b3 b4 q f d v) fun r => r.Perm ((d, v) :: q) /\ Hq r := by
 unfold z_container_heap_Push z_witness_queue_Push z_witness_queue_Len
 have hln : (q ++ [(d, v)]).length = q.length + 1 := by simp
 rw [T_bind, T_G]
 refine ⟨by omega, ?_⟩
 simp only [T_some, Option.bind_some, hln, T_G]
 refine ⟨by omega, ?_⟩
 refine T_bindr _ (p_hUp (q := q ++ [(d, v)]) (by omega) (by omega) (by rw [hln]; omega) ?_) ?_
 ·rw [hln, show ((q.length + 1 : Nat) : Int) - 1 = (q.length : Int) from by omega]
  have pl : ∀ p, 1 ≤ p -> par2 p < p /\ 0 ≤ par2 p := fun p hp => by unfold par2; omega
  refine ⟨fun p p0 p1 hp => ?_, fun i0 c c0 c1 hc => ?_⟩
  ·have := pl p p0
   rw [gt_snocW (by omega), if_neg hp, gt_snocW (by omega), if_neg (by omega)]
   exact hq p p0 (by omega)
  ·have := pl c c0; omega
 ·rintro r ⟨h1, h2⟩
  simp only [T_some]
  exact ⟨h1.trans (List.perm_append_singleton _ _), h2⟩
theorem p_hPop (hq : Hq q) (hl : q.length ≤ 100000000000) (h0 : 0 < (q.length : Int)) : T (z_container_heap_Pop a b1 b2 b3 b4 q f) fun r => (r.1, r.2.1) = gt q 0 /\ (gt q 0 :: r.2.2.2).Perm q /\ Hq r.2.2.2 := by
 unfold z_container_heap_Pop z_witness_queue_Len
 simp only [Option.bind_some, T_G]
 refine ⟨by omega, ?_⟩
 have hs : ∀ p, 0 ≤ p -> gt (swp q 0 ((q.length : Int) - 1)) p = if p = (q.length : Int) - 1 then gt q 0 else if p = 0 then gt q ((q.length : Int) - 1) else gt q p := fun p p0 => gt_swp (by omega) (by omega) (by omega) (by omega) p0
 have hsl : (swp q 0 ((q.length : Int) - 1)).length = q.length := swp_len
 have hsp := swp_perm (l := q) (i := 0) (j := (q.length : Int) - 1) (by omega) (by omega) (by omega) (by omega)
 rw [p_wSwap (by omega) (by omega) (by omega) (by omega), Option.bind_some]
 refine T_bindr _ (p_hDown (q := swp q 0 ((q.length : Int) - 1)) (by omega) (by omega) (by omega) ?_) ?_
 ·have pl : ∀ p, 1 ≤ p -> par2 p < p /\ 0 ≤ par2 p := fun p hp => by unfold par2; omega
  refine ⟨fun p p0 p1 hp => ?_, fun i0 => by omega⟩
  have := pl p p0
  rw [hs p (by omega), if_neg (by omega), if_neg (by omega), hs _ this.2, if_neg (by omega), if_neg hp]
  exact hq p p0 (by omega)
 ·rintro ⟨b, r⟩ ⟨h1, h2, h3⟩
  dsimp only at *
  have hrl := h1.length_eq
  rw [hsl] at hrl
  have hlast := h3 ((q.length : Int) - 1) (by omega) (by omega)
  rw [hs _ (by omega), if_pos rfl] at hlast
  unfold z_witness_queue_Pop
  simp only [T_G, T_bind, T_some, hrl]
  refine ⟨by omega, by omega, by omega, ?_⟩
  have hsplit : r = r.take ((q.length : Int) - 1).toNat ++ [gt r ((q.length : Int) - 1)] := by
   have e : r.take (((q.length : Int) - 1).toNat + 1) = r := List.take_of_length_le (by omega)
   have e2 := List.take_add_one (l := r) (i := ((q.length : Int) - 1).toNat)
   rw [e] at e2
   have : r[((q.length : Int) - 1).toNat]?.toList = [gt r ((q.length : Int) - 1)] := by
    unfold gt
    rw [List.getD_eq_getElem?_getD, List.getElem?_eq_getElem (by omega)]; rfl
   rw [this] at e2; exact e2
  refine ⟨by rw [hlast], ?_, ?_⟩
  ·rw [hlast] at hsplit
   refine List.Perm.trans ?_ (h1.trans hsp)
   conv => rhs; rw [hsplit]
   exact (List.perm_append_singleton _ _).symm
  ·have hlt : (r.take ((q.length : Int) - 1).toNat).length = q.length - 1 := by rw [List.length_take]; omega
   unfold Hq
   rw [hlt]
   refine Ord2.congr (h := gt r) ?_ fun p p0 p1 => gt_takeW p0 (by omega)
   rw [show ((q.length - 1 : Nat) : Int) = (q.length : Int) - 1 from by omega]; exact h2
end Go.Vd

/-! (OvA) -/

set_option linter.unusedVariables false
set_option linter.unusedSimpArgs false
namespace Go.Vd
abbrev Hf := Int × Int × Int
abbrev OAr := Int × Int × Int × Int
def Ris (l : List Hf) : Prop := l.Pairwise fun a b => a.1 < b.1
theorem Ris.uniq {l m : List Hf} (h : Ris l) (k : Ris m) (e : ∀ x, x ∈ l ↔ x ∈ m) : l = m := by
 induction l generalizing m with
 | nil =>
  cases m with
  | nil => rfl
  | cons b m => exact absurd ((e b).2 (List.mem_cons_self ..)) (by simp)
 | cons a l ih =>
  cases m with
  | nil => exact absurd ((e a).1 (List.mem_cons_self ..)) (by simp)
  | cons b m =>
   obtain ⟨h1, h2⟩ := List.pairwise_cons.1 h
   obtain ⟨k1, k2⟩ := List.pairwise_cons.1 k
   have hab : a = b := by
    rcases List.mem_cons.1 ((e a).1 (List.mem_cons_self ..)) with q | q
    ·exact q
    ·rcases List.mem_cons.1 ((e b).2 (List.mem_cons_self ..)) with p | p
     ·exact p.symm
     ·have := h1 b p; have := k1 a q; omega
   subst hab
   congr 1
   refine ih h2 k2 fun x => ?_
   have hx := e x
   constructor
   ·intro q
    rcases List.mem_cons.1 (hx.1 (List.mem_cons_of_mem _ q)) with p | p
    ·subst p; have := h1 _ q; omega
    ·exact p
   ·intro q
    rcases List.mem_cons.1 (hx.2 (List.mem_cons_of_mem _ q)) with p | p
    ·subst p; have := k1 _ q; omega
    ·exact p
def insR (h : Hf) (l : List Hf) : List Hf := l.filter (fun x => decide (x.1 < h.1)) ++ h :: l.filter (fun x => decide (h.1 < x.1))
def delR (v : Int) (l : List Hf) : List Hf := l.filter (fun x => decide (x.1 ≠ v))
theorem mem_insR {h x : Hf} {l : List Hf} : x ∈ insR h l ↔ x = h ∨ (x ∈ l /\ x.1 ≠ h.1) := by
 simp only [insR, List.mem_append, List.mem_cons, List.mem_filter, decide_eq_true_eq]
 constructor
 ·rintro (⟨a, b⟩ | a | ⟨a, b⟩)
  ·exact .inr ⟨a, by omega⟩
  ·exact .inl a
  ·exact .inr ⟨a, by omega⟩
 ·rintro (a | ⟨a, b⟩)
  ·exact .inr (.inl a)
  ·by_cases q : x.1 < h.1
   ·exact .inl ⟨a, q⟩
   ·exact .inr (.inr ⟨a, by omega⟩)
theorem mem_delR {v : Int} {x : Hf} {l : List Hf} : x ∈ delR v l ↔ x ∈ l /\ x.1 ≠ v := by simp [delR]
theorem Ris.nil : Ris [] := List.Pairwise.nil
theorem Ris.ins {h : Hf} {l : List Hf} (k : Ris l) : Ris (insR h l) := by
 refine List.pairwise_append.2 ⟨k.filter _, List.pairwise_cons.2 ⟨fun x hx => ?_, k.filter _⟩, fun x hx y hy => ?_⟩
 ·have := (List.mem_filter.1 hx).2; simpa using this
 ·have h1 : x.1 < h.1 := by have := (List.mem_filter.1 hx).2; simpa using this
  rcases List.mem_cons.1 hy with e | e
  ·subst e; exact h1
  ·have : h.1 < y.1 := by have := (List.mem_filter.1 e).2; simpa using this
   omega
theorem Ris.del {v : Int} {l : List Hf} (k : Ris l) : Ris (delR v l) := k.filter _
def cl (f : OAr -> Option Hf) (l0 : List Hf) (arcs : List OAr) : List Hf := arcs.foldl (fun l a => match f a with | some h => insR h l | none => l) l0
def Ds (f : OAr -> Option Hf) (arcs : List OAr) : Prop := arcs.Pairwise fun a b => ∀ h k, f a = some h -> f b = some k -> h.1 ≠ k.1
theorem cl_ris {f : OAr -> Option Hf} {arcs : List OAr} : ∀ {l0 : List Hf}, Ris l0 -> Ris (cl f l0 arcs) := by
 induction arcs with
 | nil => exact fun h => h
 | cons a arcs ih =>
  intro l0 h
  unfold cl
  rw [List.foldl_cons]
  refine ih ?_
  cases f a with
  | none => exact h
  | some x => exact h.ins
theorem cl_mem {f : OAr -> Option Hf} {arcs : List OAr} (hd : Ds f arcs) {x : Hf} : ∀ {l0 : List Hf}, x ∈ cl f l0 arcs ↔ (∃ a ∈ arcs, f a = some x) ∨ (x ∈ l0 /\ ∀ a ∈ arcs, ∀ h, f a = some h -> h.1 ≠ x.1) := by
 induction arcs with
 | nil => intro l0; simp [cl]
 | cons a arcs ih =>
  intro l0
  obtain ⟨d1, d2⟩ := List.pairwise_cons.1 hd
  have e : cl f l0 (a :: arcs) = cl f (match f a with | some h => insR h l0 | none => l0) arcs := by unfold cl; rw [List.foldl_cons]
  rw [e, ih d2]
  cases hf : f a with
  | none =>
   dsimp only
   constructor
   ·rintro (⟨b, hb, h⟩ | ⟨h1, h2⟩)
    ·exact .inl ⟨b, List.mem_cons_of_mem _ hb, h⟩
    ·refine .inr ⟨h1, fun b hb h hh => ?_⟩
     rcases List.mem_cons.1 hb with e | e
     ·rw [e, hf] at hh; cases hh
     ·exact h2 b e h hh
   ·rintro (⟨b, hb, h⟩ | ⟨h1, h2⟩)
    ·rcases List.mem_cons.1 hb with e | e
     ·rw [e, hf] at h; cases h
     ·exact .inl ⟨b, e, h⟩
    ·exact .inr ⟨h1, fun b hb => h2 b (List.mem_cons_of_mem _ hb)⟩
  | some y =>
   dsimp only
   rw [mem_insR]
   constructor
   ·rintro (⟨b, hb, h⟩ | ⟨h1 | ⟨h1, h3⟩, h2⟩)
    ·exact .inl ⟨b, List.mem_cons_of_mem _ hb, h⟩
    ·exact .inl ⟨a, List.mem_cons_self .., by rw [hf, h1]⟩
    ·refine .inr ⟨h1, fun b hb h hh => ?_⟩
     rcases List.mem_cons.1 hb with e | e
     ·rw [e, hf] at hh; cases hh; exact fun q => h3 q.symm
     ·exact h2 b e h hh
   ·rintro (⟨b, hb, h⟩ | ⟨h1, h2⟩)
    ·rcases List.mem_cons.1 hb with e | e
     ·rw [e, hf] at h; cases h
      exact .inr ⟨.inl rfl, fun c hc k hk => fun q => d1 c hc x k hf hk q.symm⟩
     ·exact .inl ⟨b, e, h⟩
    ·exact .inr ⟨.inr ⟨h1, fun q => h2 a (List.mem_cons_self ..) y hf q.symm⟩, fun b hb => h2 b (List.mem_cons_of_mem _ hb)⟩
def fOut (v : Int) (a : OAr) : Option Hf := if a.1 = v then some a.2 else none
def fIn (v : Int) (a : OAr) : Option Hf := if a.2.1 = v then some (a.1, a.2.2) else none
def outL (arcs : List OAr) (v : Int) : List Hf := cl (fOut v) [] arcs
def inL (arcs : List OAr) (v : Int) : List Hf := cl (fIn v) [] arcs
def KD (arcs : List OAr) : Prop := arcs.Pairwise fun a b => ¬ (a.1 = b.1 /\ a.2.1 = b.2.1)
theorem KD.out {arcs : List OAr} (h : KD arcs) (v : Int) : Ds (fOut v) arcs := h.imp fun {a b} q x y hx hy e => by
 unfold fOut at hx hy
 split at hx
 ·split at hy
  ·cases hx; cases hy; exact q ⟨by omega, e⟩
  ·cases hy
 ·cases hx
theorem KD.inn {arcs : List OAr} (h : KD arcs) (v : Int) : Ds (fIn v) arcs := h.imp fun {a b} q x y hx hy e => by
 unfold fIn at hx hy
 split at hx
 ·split at hy
  ·cases hx; cases hy; exact q ⟨e, by omega⟩
  ·cases hy
 ·cases hx
theorem outL_ris (arcs : List OAr) (v : Int) : Ris (outL arcs v) := cl_ris .nil
theorem inL_ris (arcs : List OAr) (v : Int) : Ris (inL arcs v) := cl_ris .nil
theorem mem_outL {arcs : List OAr} (h : KD arcs) {v : Int} {x : Hf} : x ∈ outL arcs v ↔ (v, x) ∈ arcs := by
 unfold outL
 rw [cl_mem (h.out v)]
 simp only [List.not_mem_nil, false_and, or_false]
 constructor
 ·rintro ⟨a, ha, e⟩
  unfold fOut at e
  split at e
  ·rename_i q; cases e; rw [← q]; exact ha
  ·cases e
 ·exact fun hm => ⟨_, hm, by simp [fOut]⟩
theorem mem_inL {arcs : List OAr} (h : KD arcs) {v : Int} {x : Hf} : x ∈ inL arcs v ↔ (x.1, v, x.2) ∈ arcs := by
 unfold inL
 rw [cl_mem (h.inn v)]
 simp only [List.not_mem_nil, false_and, or_false]
 constructor
 ·rintro ⟨a, ha, e⟩
  unfold fIn at e
  split at e
  ·rename_i q; cases e; rw [← q]; exact ha
  ·cases e
 ·exact fun hm => ⟨_, hm, by simp [fIn]⟩
def putA (arcs : List OAr) (a : OAr) : List OAr := arcs.filter (fun x => decide (¬ (x.1 = a.1 /\ x.2.1 = a.2.1))) ++ [a]
def remA (arcs : List OAr) (v : Int) : List OAr := arcs.filter (fun x => decide (x.1 ≠ v /\ x.2.1 ≠ v))
theorem mem_putA {arcs : List OAr} {a x : OAr} : x ∈ putA arcs a ↔ x = a ∨ (x ∈ arcs /\ ¬ (x.1 = a.1 /\ x.2.1 = a.2.1)) := by
 simp only [putA, List.mem_append, List.mem_filter, decide_eq_true_eq, List.mem_singleton]
 exact ⟨fun h => h.elim (fun h => .inr h) .inl, fun h => h.elim .inr .inl⟩
theorem mem_remA {arcs : List OAr} {v : Int} {x : OAr} : x ∈ remA arcs v ↔ x ∈ arcs /\ x.1 ≠ v /\ x.2.1 ≠ v := by simp [remA]
theorem KD.put {arcs : List OAr} (h : KD arcs) (a : OAr) : KD (putA arcs a) := by
 refine List.pairwise_append.2 ⟨h.filter _, List.pairwise_singleton _ _, fun x hx y hy => ?_⟩
 rw [List.mem_singleton.1 hy]
 exact of_decide_eq_true (List.mem_filter.1 hx).2
theorem KD.rem {arcs : List OAr} (h : KD arcs) (v : Int) : KD (remA arcs v) := h.filter _
theorem outL_put {arcs : List OAr} (h : KD arcs) (a : OAr) (v : Int) : outL (putA arcs a) v = if v = a.1 then insR a.2 (outL arcs v) else outL arcs v := by
 split
 ·rename_i e
  subst e
  refine (outL_ris _ _).uniq (outL_ris _ _).ins fun x => ?_
  rw [mem_outL (h.put a), mem_insR, mem_outL h, mem_putA]
  constructor
  ·rintro (q | ⟨q1, q2⟩)
   ·exact .inl (by rw [← q])
   ·exact .inr ⟨q1, fun e => q2 ⟨rfl, e⟩⟩
  ·rintro (q | ⟨q1, q2⟩)
   ·exact .inl (by rw [q])
   ·exact .inr ⟨q1, fun e => q2 e.2⟩
 ·rename_i e
  refine (outL_ris _ _).uniq (outL_ris _ _) fun x => ?_
  rw [mem_outL (h.put a), mem_outL h, mem_putA]
  constructor
  ·rintro (q | ⟨q1, q2⟩)
   ·exact absurd (by rw [← q]) e
   ·exact q1
  ·exact fun q => .inr ⟨q, fun k => e k.1⟩
theorem inL_put {arcs : List OAr} (h : KD arcs) (a : OAr) (v : Int) : inL (putA arcs a) v = if v = a.2.1 then insR (a.1, a.2.2) (inL arcs v) else inL arcs v := by
 split
 ·rename_i e
  subst e
  refine (inL_ris _ _).uniq (inL_ris _ _).ins fun x => ?_
  rw [mem_inL (h.put a), mem_insR, mem_inL h, mem_putA]
  constructor
  ·rintro (q | ⟨q1, q2⟩)
   ·exact .inl (by rw [← q])
   ·exact .inr ⟨q1, fun e => q2 ⟨e, rfl⟩⟩
  ·rintro (q | ⟨q1, q2⟩)
   ·exact .inl (by rw [q])
   ·exact .inr ⟨q1, fun e => q2 e.1⟩
 ·rename_i e
  refine (inL_ris _ _).uniq (inL_ris _ _) fun x => ?_
  rw [mem_inL (h.put a), mem_inL h, mem_putA]
  constructor
  ·rintro (q | ⟨q1, q2⟩)
   ·exact absurd (by rw [← q]) e
   ·exact q1
  ·exact fun q => .inr ⟨q, fun k => e k.2⟩
theorem outL_rem {arcs : List OAr} (h : KD arcs) (v x : Int) : outL (remA arcs v) x = if x = v then [] else delR v (outL arcs x) := by
 split
 ·rename_i e
  refine (outL_ris _ _).uniq .nil fun y => ?_
  rw [mem_outL (h.rem v), mem_remA]
  simp [e]
 ·rename_i e
  refine (outL_ris _ _).uniq (outL_ris _ _).del fun y => ?_
  rw [mem_outL (h.rem v), mem_delR, mem_outL h, mem_remA]
  exact ⟨fun ⟨a, _, b⟩ => ⟨a, b⟩, fun ⟨a, b⟩ => ⟨a, e, b⟩⟩
theorem inL_rem {arcs : List OAr} (h : KD arcs) (v x : Int) : inL (remA arcs v) x = if x = v then [] else delR v (inL arcs x) := by
 split
 ·rename_i e
  refine (inL_ris _ _).uniq .nil fun y => ?_
  rw [mem_inL (h.rem v), mem_remA]
  simp [e]
 ·rename_i e
  refine (inL_ris _ _).uniq (inL_ris _ _).del fun y => ?_
  rw [mem_inL (h.rem v), mem_delR, mem_inL h, mem_remA]
  exact ⟨fun ⟨a, b, _⟩ => ⟨a, b⟩, fun ⟨a, b⟩ => ⟨a, b, e⟩⟩
theorem cl_len {f : OAr -> Option Hf} {arcs : List OAr} (hd : Ds f arcs) : ∀ {l0 : List Hf}, (∀ x ∈ l0, ∀ a ∈ arcs, ∀ h, f a = some h -> h.1 ≠ x.1) -> Ris l0 -> (cl f l0 arcs).length = l0.length + (arcs.filter fun a => (f a).isSome).length := by
 induction arcs with
 | nil => intro l0 _ _; simp [cl]
 | cons a arcs ih =>
  intro l0 h hr
  obtain ⟨d1, d2⟩ := List.pairwise_cons.1 hd
  have e : cl f l0 (a :: arcs) = cl f (match f a with | some h => insR h l0 | none => l0) arcs := by unfold cl; rw [List.foldl_cons]
  rw [e, List.filter_cons]
  cases hf : f a with
  | none =>
   dsimp only
   rw [ih d2 (fun x hx b hb => h x hx b (List.mem_cons_of_mem _ hb)) hr]
   simp
  | some y =>
   dsimp only
   rw [ih d2 (fun x hx b hb k hk => ?_) hr.ins]
   ·have hne : ∀ x ∈ l0, x.1 ≠ y.1 := fun x hx e => h x hx a (List.mem_cons_self ..) y hf e.symm
    have hl : (insR y l0).length = l0.length + 1 := by
     clear ih e d1 d2 hd h hr
     unfold insR
     rw [List.length_append, List.length_cons]
     have : (l0.filter fun x => decide (x.1 < y.1)).length + (l0.filter fun x => decide (y.1 < x.1)).length = l0.length := by
      induction l0 with
      | nil => rfl
      | cons b l0 ih =>
       have h1 := hne b (List.mem_cons_self ..)
       have h2 := ih fun x hx => hne x (List.mem_cons_of_mem _ hx)
       rw [List.filter_cons, List.filter_cons]
       by_cases q : b.1 < y.1
       ·rw [if_pos (by simpa using q), if_neg (by simp; omega)]
        simp only [List.length_cons]; omega
       ·rw [if_neg (by simpa using q), if_pos (by simp; omega)]
        simp only [List.length_cons]; omega
     omega
    rw [hl]
    simp; omega
   ·rcases mem_insR.1 hx with q | ⟨q, _⟩
    ·rw [q]; exact fun e => d1 b hb y k hf hk e.symm
    ·exact h x q b (List.mem_cons_of_mem _ hb) k hk
theorem outL_len {arcs : List OAr} (h : KD arcs) (v : Int) : (outL arcs v).length = (arcs.filter fun a => decide (a.1 = v)).length := by
 unfold outL
 rw [cl_len (h.out v) (fun x hx => by cases hx) .nil, List.length_nil, Nat.zero_add]
 congr 1
 apply List.filter_congr
 intro a _
 by_cases e : a.1 = v <;> simp [fOut, e]
theorem inL_len {arcs : List OAr} (h : KD arcs) (v : Int) : (inL arcs v).length = (arcs.filter fun a => decide (a.2.1 = v)).length := by
 unfold inL
 rw [cl_len (h.inn v) (fun x hx => by cases hx) .nil, List.length_nil, Nat.zero_add]
 congr 1
 apply List.filter_congr
 intro a _
 by_cases e : a.2.1 = v <;> simp [fIn, e]
theorem rem_len {arcs : List OAr} (h : KD arcs) (hn : ∀ a ∈ arcs, a.1 ≠ a.2.1) (v : Int) : arcs.length = (remA arcs v).length + ((outL arcs v).length + (inL arcs v).length) := by
 rw [outL_len h, inL_len h]
 clear h
 unfold remA
 induction arcs with
 | nil => rfl
 | cons a arcs ih =>
  have h1 := hn a (List.mem_cons_self ..)
  have h2 := ih fun x hx => hn x (List.mem_cons_of_mem _ hx)
  rw [List.filter_cons, List.filter_cons, List.filter_cons]
  by_cases q : a.1 = v
  ·rw [if_neg (by simp [q]), if_pos (by simpa using q), if_neg (by simp; omega)]
   simp only [List.length_cons]; omega
  ·by_cases p : a.2.1 = v
   ·rw [if_neg (by simp [p]), if_neg (by simpa using q), if_pos (by simpa using p)]
    simp only [List.length_cons]; omega
   ·rw [if_pos (by simp [q, p]), if_neg (by simpa using q), if_neg (by simpa using p)]
    simp only [List.length_cons]; omega
theorem put_len {arcs : List OAr} (h : KD arcs) (a : OAr) : (putA arcs a).length = if (∃ x ∈ arcs, x.1 = a.1 /\ x.2.1 = a.2.1) then arcs.length else arcs.length + 1 := by
 unfold putA
 rw [List.length_append, List.length_singleton]
 induction arcs with
 | nil => simp
 | cons b arcs ih =>
  obtain ⟨h1, h2⟩ := List.pairwise_cons.1 h
  have ih' := ih h2
  rw [List.filter_cons]
  by_cases q : b.1 = a.1 /\ b.2.1 = a.2.1
  ·rw [if_neg (by simp [q]), if_pos ⟨b, List.mem_cons_self .., q⟩]
   have hno : ¬ ∃ x ∈ arcs, x.1 = a.1 /\ x.2.1 = a.2.1 := fun ⟨x, hx, e⟩ => h1 x hx ⟨by rw [q.1, e.1], by rw [q.2, e.2]⟩
   rw [if_neg hno] at ih'
   simp only [List.length_cons]; omega
  ·rw [if_pos (decide_eq_true q), List.length_cons]
   by_cases p : ∃ x ∈ arcs, x.1 = a.1 /\ x.2.1 = a.2.1
   ·rw [if_pos p] at ih'
    obtain ⟨x, hx, e⟩ := p
    rw [if_pos ⟨x, List.mem_cons_of_mem _ hx, e⟩]
    simp only [List.length_cons]; omega
   ·rw [if_neg p] at ih'
    rw [if_neg]
    ·simp only [List.length_cons]; omega
    ·rintro ⟨x, hx, e⟩
     rcases List.mem_cons.1 hx with k | k
     ·rw [k] at e; exact q e
     ·exact p ⟨x, k, e⟩
end Go.Vd

/-! (Nr0) -/

set_option linter.unusedVariables false
set_option linter.unusedSectionVars false
set_option linter.unusedSimpArgs false
namespace Go.Vd
def key2 (x y : Int × Int × Int) : Prop := x.1 = y.1 /\ x.2.1 = y.2.1
instance (x y : Int × Int × Int) : Decidable (key2 x y) := by unfold key2; infer_instance
def ltk (x y : A3) : Prop := x.1 < y.1 ∨ (x.1 = y.1 /\ x.2.1 < y.2.1)
structure Nrm (A L : List A3) : Prop where
 inc : L.Pairwise ltk
 sub : ∀ a ∈ L, a ∈ A /\ a.1 ≠ a.2.1 /\ ∀ b ∈ A, key2 b a -> a.2.2 ≤ b.2.2
 sup : ∀ a ∈ A, a.1 ≠ a.2.1 -> ∃ b ∈ L, key2 b a
theorem sorted_eq : ∀ {L M : List A3}, L.Pairwise ltk -> M.Pairwise ltk -> (∀ x, x ∈ L ↔ x ∈ M) -> L = M := by
 intro L
 induction L with
 | nil =>
  intro M _ _ h
  cases M with
  | nil => rfl
  | cons b M => have := (h b).2 (List.mem_cons_self ..); cases this
 | cons a L ih =>
  intro M hL hM h
  cases M with
  | nil => have := (h a).1 (List.mem_cons_self ..); cases this
  | cons b M =>
   have hab : a = b := by
    rcases List.mem_cons.1 ((h a).1 (List.mem_cons_self ..)) with h1 | h1
    ·exact h1
    ·rcases List.mem_cons.1 ((h b).2 (List.mem_cons_self ..)) with h2 | h2
     ·exact h2.symm
     ·have k1 := (List.pairwise_cons.1 hM).1 a h1
      have k2 := (List.pairwise_cons.1 hL).1 b h2
      unfold ltk at k1 k2
      omega
   subst hab
   rw [ih (List.pairwise_cons.1 hL).2 (List.pairwise_cons.1 hM).2 fun x => ⟨fun hx => ?_, fun hx => ?_⟩]
   ·rcases List.mem_cons.1 ((h x).1 (List.mem_cons_of_mem _ hx)) with rfl | h1
    ·have := (List.pairwise_cons.1 hL).1 x hx
     unfold ltk at this; omega
    ·exact h1
   ·rcases List.mem_cons.1 ((h x).2 (List.mem_cons_of_mem _ hx)) with rfl | h1
    ·have := (List.pairwise_cons.1 hM).1 x hx
     unfold ltk at this; omega
    ·exact h1
theorem inc_tri {L : List A3} (h : L.Pairwise ltk) : ∀ x ∈ L, ∀ y ∈ L, x = y ∨ ltk x y ∨ ltk y x := by
 induction L with
 | nil => intro x hx; cases hx
 | cons a L ih =>
  intro x hx y hy
  obtain ⟨h1, h2⟩ := List.pairwise_cons.1 h
  rcases List.mem_cons.1 hx with ex | hx'
  ·rcases List.mem_cons.1 hy with ey | hy'
   ·exact .inl (ex.trans ey.symm)
   ·rw [ex]; exact .inr (.inl (h1 y hy'))
  ·rcases List.mem_cons.1 hy with ey | hy'
   ·rw [ey]; exact .inr (.inr (h1 x hx'))
   ·exact ih h2 x hx' y hy'
theorem inc_key {L : List A3} (h : L.Pairwise ltk) {x y : A3} (hx : x ∈ L) (hy : y ∈ L) (k : key2 x y) : x = y := by
 rcases inc_tri h x hx y hy with h | h | h
 ·exact h
 ·unfold ltk at h; unfold key2 at k; omega
 ·unfold ltk at h; unfold key2 at k; omega
theorem Nrm.mem {A L M : List A3} (h : Nrm A L) (k : Nrm A M) {x : A3} (hx : x ∈ L) : x ∈ M := by
 obtain ⟨h1, h2, h3⟩ := h.sub x hx
 obtain ⟨b, b1, b2⟩ := k.sup x h1 h2
 obtain ⟨k1, k2, k3⟩ := k.sub b b1
 have e1 := h3 b k1 b2
 have e2 := k3 x h1 ⟨b2.1.symm, b2.2.symm⟩
 have : x = b := eq3 b2.1.symm b2.2.symm (by omega)
 rw [this]; exact b1
theorem Nrm.uniq {A L M : List A3} (h : Nrm A L) (k : Nrm A M) : L = M :=
 sorted_eq h.inc k.inc fun x => ⟨h.mem k, k.mem h⟩
end Go.Vd

/-! (PrP0) -/

set_option linter.unusedVariables false
set_option linter.unusedSectionVars false
set_option linter.unusedSimpArgs false
namespace Go.Vd
variable {N : Int} {A L : List A3}
instance (x y : A3) : Decidable (ltk x y) := by unfold ltk; exact inferInstance
inductive PutA : List A3 -> A3 -> List A3 -> Prop
 | hit (p q : List A3) (b a : A3) : key2 b a -> PutA (p ++ b :: q) a (p ++ (a.1, a.2.1, min a.2.2 b.2.2) :: q)
 | new (p q : List A3) (a : A3) : (∀ x ∈ p, ltk x a) -> (∀ x ∈ q, ltk a x) -> PutA (p ++ q) a (p ++ a :: q)
theorem p_less {x a : A3} : z_viaductref04_less x.1 x.2.1 x.2.2 a.1 a.2.1 a.2.2 = some (decide (ltk x a)) := by
 unfold z_viaductref04_less ltk
 by_cases h : x.1 < a.1
 ·rw [if_pos h]; simp [h]
 ·rw [if_neg h]
  by_cases h2 : x.1 = a.1
  ·rw [if_pos h2]; simp [h2]
  ·rw [if_neg h2]; simp [h, h2]
theorem split_gt {o : Int} (o0 : 0 ≤ o) (o1 : o < (L.length : Int)) : L.drop o.toNat = gt L o :: L.drop (o + 1).toNat := by
 rw [List.drop_eq_getElem_cons (i := o.toNat) (by omega), show (o + 1).toNat = o.toNat + 1 from by omega]
 congr 1
 have h : gt L ((o.toNat : Nat) : Int) = L[o.toNat] := gt_nat (by omega)
 rw [← h]; congr 1; omega
theorem p_Put {a : A3} (hL : L.Pairwise ltk) (hl : L.length ≤ 300000) : T (z_viaductref04_Put L a.1 a.2.1 a.2.2) fun r => PutA L a r /\ r.length ≤ L.length + 1 := by
 unfold z_viaductref04_Put
 refine T_bindr (fun o => 0 ≤ o /\ o ≤ (L.length : Int) /\ (∀ j, 0 ≤ j -> j < o -> ltk (gt L j) a) /\ (o < (L.length : Int) -> ¬ ltk (gt L o) a)) ?_ ?_
 ·refine T_loop (fun i => 0 ≤ i /\ i ≤ (L.length : Int) /\ ∀ j, 0 ≤ j -> j < i -> ltk (gt L j) a) (fun i => ((L.length : Int) - i).toNat) ?_ ⟨by omega, by omega, fun j _ _ => by omega⟩
  rintro i ⟨i0, i1, hi⟩
  unfold z_viaductref04_Put_l0
  rw [p_less, Option.bind_some]
  simp only [T_ite, T_G, T_some, Sum.elim_inl, Sum.elim_inr, decide_eq_true_eq]
  refine ⟨fun h => ⟨i0, fun k => ⟨by omega, ⟨by omega, by omega, fun j j0 j1 => ?_⟩, by omega⟩, fun k => ⟨i0, i1, hi, fun _ => k⟩⟩, fun h => ⟨i0, i1, hi, fun k => absurd k h⟩⟩
  by_cases e : j = i
  ·rw [e]; exact k
  ·exact hi j j0 (by omega)
 ·rintro o ⟨o0, o1, h1, h2⟩
  simp only [List.drop_zero, List.take_length, List.nil_append]
  rw [T_G, T_G]
  refine ⟨⟨o0, o1⟩, by rw [List.length_take]; omega, ?_⟩
  refine T_bindr (fun b => b = true ↔ (o < (L.length : Int) /\ key2 (gt L o) a)) ?_ fun b hb => ?_
  ·unfold key2
   simp only [T_ite, T_G, T_some, decide_eq_true_eq]
   exact ⟨fun h => ⟨o0, fun k => by simp [h, k], fun k => by simp [k]⟩, fun h => by simp; omega⟩
  have hp : ∀ x ∈ L.take o.toNat, ltk x a := fun x hx => by
   obtain ⟨j, j0, j1, rfl⟩ := mem_gtE hx
   rw [List.length_take] at j1
   have : gt (L.take o.toNat) j = gt L j := by
    unfold gt
    rw [List.getD_eq_getElem?_getD, List.getD_eq_getElem?_getD, List.getElem?_take, if_pos (by omega)]
   rw [this]
   exact h1 j j0 (by omega)
  have eL : L.take o.toNat ++ L.drop o.toNat = L := List.take_append_drop _ _
  rw [T_ite]
  refine ⟨fun h => ?_, fun h => ?_⟩
  ·obtain ⟨k1, k2⟩ := hb.1 h
   simp only [T_G, T_some, List.length_append, List.length_take, List.length_drop, List.length_cons, List.length_nil]
   refine ⟨⟨o0, k1⟩, by omega, by omega, by omega, by omega, ?_, by omega⟩
   have := PutA.hit (L.take o.toNat) (L.drop (o + 1).toNat) (gt L o) a k2
   rw [← split_gt o0 k1, eL] at this
   simpa using this
  ·have hn : ¬ (o < (L.length : Int) /\ key2 (gt L o) a) := fun k => h (hb.2 k)
   simp only [T_G, T_some, List.length_append, List.length_take, List.length_drop, List.length_cons, List.length_nil]
   refine ⟨by omega, by omega, ?_, by omega⟩
   have hq : ∀ x ∈ L.drop o.toNat, ltk a x := by
    by_cases k : o < (L.length : Int)
    ·have h3 := h2 k
     have h4 : ltk a (gt L o) := by
      have : ¬ key2 (gt L o) a := fun q => hn ⟨k, q⟩
      unfold ltk key2 at *; omega
     have h5 : (L.drop o.toNat).Pairwise ltk := hL.sublist (List.drop_sublist _ _)
     rw [split_gt o0 k] at h5 ⊢
     intro x hx
     rcases List.mem_cons.1 hx with rfl | hx
     ·exact h4
     ·have := (List.pairwise_cons.1 h5).1 x hx
      unfold ltk at *; omega
    ·rw [List.drop_of_length_le (by omega)]; intro x hx; cases hx
   have := PutA.new (L.take o.toNat) (L.drop o.toNat) a hp hq
   rw [eL] at this
   simpa using this
theorem key2_m {a : A3} {m : Int} : key2 (a.1, a.2.1, m) a := ⟨rfl, rfl⟩
theorem PutA.nrm {A L r : List A3} {a : A3} (h : PutA L a r) (k : Nrm A L) (hn : a.1 ≠ a.2.1) : Nrm (A ++ [a]) r := by
 have mA : ∀ c, c ∈ A ++ [a] ↔ (c ∈ A ∨ c = a) := fun c => by simp
 cases h with
 | hit p q b _ kb =>
  have inc := k.inc
  obtain ⟨i1, i2, i3⟩ := List.pairwise_append.1 inc
  obtain ⟨i4, i5⟩ := List.pairwise_cons.1 i2
  have kab : b.1 = a.1 /\ b.2.1 = a.2.1 := kb
  have hbL : b ∈ p ++ b :: q := by simp
  obtain ⟨b1, b2, b3⟩ := k.sub b hbL
  refine ⟨List.pairwise_append.2 ⟨i1, List.pairwise_cons.2 ⟨fun x hx => ?_, i5⟩, fun x hx y hy => ?_⟩, fun x hx => ?_, fun c hc hcn => ?_⟩
  ·have := i4 x hx; unfold ltk at *; dsimp only; omega
  ·rcases List.mem_cons.1 hy with rfl | hy
   ·have := i3 x hx b (List.mem_cons_self ..); unfold ltk at *; dsimp only; omega
   ·exact i3 x hx y (List.mem_cons_of_mem _ hy)
  ·have old : x ∈ p ∨ x ∈ q -> x ∈ A ++ [a] /\ x.1 ≠ x.2.1 /\ ∀ c ∈ A ++ [a], key2 c x -> x.2.2 ≤ c.2.2 := fun hx => by
    have hxL : x ∈ p ++ b :: q := by rcases hx with h | h <;> simp [h]
    have hk : ¬ key2 a x := by
     intro hk
     rcases hx with h | h
     ·have := i3 x h b (List.mem_cons_self ..); unfold ltk key2 at *; omega
     ·have := i4 x h; unfold ltk key2 at *; omega
    obtain ⟨x1, x2, x3⟩ := k.sub x hxL
    refine ⟨(mA x).2 (.inl x1), x2, fun c hc hk2 => ?_⟩
    rcases (mA c).1 hc with hc | rfl
    ·exact x3 c hc hk2
    ·exact absurd hk2 hk
   rcases List.mem_append.1 hx with h | h
   ·exact old (.inl h)
   ·rcases List.mem_cons.1 h with rfl | h
    ·refine ⟨(mA _).2 ?_, hn, fun c hc hk2 => ?_⟩
     ·by_cases hle : a.2.2 ≤ b.2.2
      ·right; rw [Int.min_eq_left hle]
      ·left
       rw [Int.min_eq_right (by omega)]
       have : ((a.1, a.2.1, b.2.2) : A3) = b := eq3 kab.1.symm kab.2.symm rfl
       rw [this]; exact b1
     ·rcases (mA c).1 hc with hc | rfl
      ·have := b3 c hc (by unfold key2 at *; dsimp only at hk2; omega)
       dsimp only; omega
      ·dsimp only; omega
    ·exact old (.inr h)
  ·have new : ∃ y ∈ p ++ (a.1, a.2.1, min a.2.2 b.2.2) :: q, key2 y a := ⟨(a.1, a.2.1, min a.2.2 b.2.2), List.mem_append.2 (.inr (List.mem_cons_self ..)), key2_m⟩
   rcases (mA c).1 hc with hc | rfl
   ·obtain ⟨y, hy, hk⟩ := k.sup c hc hcn
    rcases List.mem_append.1 hy with h | h
    ·exact ⟨y, by simp [h], hk⟩
    ·rcases List.mem_cons.1 h with rfl | h
     ·obtain ⟨z, hz, hz2⟩ := new
      exact ⟨z, hz, by unfold key2 at *; omega⟩
     ·exact ⟨y, by simp [h], hk⟩
   ·exact new
 | new p q _ h1 h2 =>
  have inc := k.inc
  obtain ⟨i1, i2, i3⟩ := List.pairwise_append.1 inc
  refine ⟨List.pairwise_append.2 ⟨i1, List.pairwise_cons.2 ⟨h2, i2⟩, fun x hx y hy => ?_⟩, fun x hx => ?_, fun c hc hcn => ?_⟩
  ·rcases List.mem_cons.1 hy with rfl | hy
   ·exact h1 x hx
   ·exact i3 x hx y hy
  ·have old : x ∈ p ∨ x ∈ q -> x ∈ A ++ [a] /\ x.1 ≠ x.2.1 /\ ∀ c ∈ A ++ [a], key2 c x -> x.2.2 ≤ c.2.2 := fun hx => by
    have hxL : x ∈ p ++ q := by rcases hx with h | h <;> simp [h]
    have hk : ¬ key2 a x := by
     intro hk
     rcases hx with h | h
     ·have := h1 x h; unfold ltk key2 at *; omega
     ·have := h2 x h; unfold ltk key2 at *; omega
    obtain ⟨x1, x2, x3⟩ := k.sub x hxL
    refine ⟨(mA x).2 (.inl x1), x2, fun c hc hk2 => ?_⟩
    rcases (mA c).1 hc with hc | rfl
    ·exact x3 c hc hk2
    ·exact absurd hk2 hk
   rcases List.mem_append.1 hx with h | h
   ·exact old (.inl h)
   ·rcases List.mem_cons.1 h with rfl | h
    ·refine ⟨(mA _).2 (.inr rfl), hn, fun c hc hk2 => ?_⟩
     rcases (mA c).1 hc with hc | rfl
     ·exfalso
      obtain ⟨y, hy, hk⟩ := k.sup c hc (by unfold key2 at hk2; omega)
      rcases List.mem_append.1 hy with h | h
      ·have := h1 y h; unfold ltk key2 at *; omega
      ·have := h2 y h; unfold ltk key2 at *; omega
     ·omega
    ·exact old (.inr h)
  ·rcases (mA c).1 hc with hc | rfl
   ·obtain ⟨y, hy, hk⟩ := k.sup c hc hcn
    rcases List.mem_append.1 hy with h | h
    ·exact ⟨y, by simp [h], hk⟩
    ·exact ⟨y, by simp [h], hk⟩
   ·exact ⟨c, by simp, rfl, rfl⟩
theorem Nrm.loop {a : A3} (k : Nrm A L) (hn : a.1 = a.2.1) : Nrm (A ++ [a]) L := by
 have mA : ∀ c, c ∈ A ++ [a] ↔ (c ∈ A ∨ c = a) := fun c => by simp
 refine ⟨k.inc, fun x hx => ?_, fun c hc hcn => ?_⟩
 ·obtain ⟨x1, x2, x3⟩ := k.sub x hx
  refine ⟨(mA x).2 (.inl x1), x2, fun c hc hk => ?_⟩
  rcases (mA c).1 hc with hc | rfl
  ·exact x3 c hc hk
  ·unfold key2 at hk; omega
 ·rcases (mA c).1 hc with hc | rfl
  ·exact k.sup c hc hcn
  ·exact absurd hn hcn
theorem Nrm.zero : Nrm [] [] := { inc := .nil, sub := fun a h => (by cases h), sup := fun a h => (by cases h) }
end Go.Vd

/-! (PrR0) -/

set_option linter.unusedVariables false
set_option linter.unusedSectionVars false
set_option linter.unusedSimpArgs false
namespace Go.Vd
variable {N : Int} {A L : List A3}
theorem p_rOf (hl : (A.length : Int) ≤ 262144) : T (z_viaductref04_Of N A) fun r => r.1 = N /\ Nrm A r.2 /\ r.2.length ≤ A.length := by
 unfold z_viaductref04_Of
 refine T_bindr (fun c => Nrm A c /\ c.length ≤ A.length) ?_ fun c hc => by simp only [T_some]; exact ⟨trivial, hc⟩
 refine T_loop (fun z => 0 ≤ z.1 /\ z.1 ≤ (A.length : Int) /\ Nrm (A.take z.1.toNat) z.2 /\ (z.2.length : Int) ≤ z.1) (fun z => ((A.length : Int) - z.1).toNat) ?_ ⟨by simp, by simp, by simpa using Nrm.zero, by simp⟩
 rintro ⟨i, c⟩ ⟨i0, i1, hc, hlc⟩
 dsimp only at *
 unfold z_viaductref04_Of_l0
 rw [T_ite]
 refine ⟨fun hlt => ?_, fun hge => ?_⟩
 rotate_left
 ·simp only [T_some, Sum.elim_inr]
  rw [List.take_of_length_le (by omega)] at hc
  exact ⟨hc, by omega⟩
 rw [T_G, T_ite]
 refine ⟨i0, fun h => ?_, fun h => ?_⟩
 ·simp only [T_G, T_some, Sum.elim_inl]
  refine ⟨by omega, ⟨by omega, by omega, ?_, by omega⟩, by omega⟩
  rw [take_gtE i0 hlt]; exact hc.loop h
 ·refine T_bindr _ (p_Put hc.inc (by omega)) ?_
  rintro r ⟨hr, hrl⟩
  simp only [T_G, T_some, Sum.elim_inl]
  refine ⟨by omega, ⟨by omega, by omega, ?_, by omega⟩, by omega⟩
  rw [take_gtE i0 hlt]; exact hr.nrm hc h
end Go.Vd

/-! (OvB) -/

set_option linter.unusedVariables false
set_option linter.unusedSimpArgs false
namespace Go.Vd
abbrev Nod := Bool × List Hf × List Hf
structure OvR (nodes : List Nod) (alive arcs : Int) (A : List Bool) (L : List OAr) : Prop where
 ln : nodes.length = A.length
 sm : A.length ≤ 65536
 kd : KD L
 en : ∀ a ∈ L, 0 ≤ a.1 /\ a.1 < (A.length : Int) /\ 0 ≤ a.2.1 /\ a.2.1 < (A.length : Int) /\ gt A a.1 = true /\ gt A a.2.1 = true /\ a.1 ≠ a.2.1 /\ 0 ≤ a.2.2.1 /\ a.2.2.1 ≤ 140737488355328 /\ -1 ≤ a.2.2.2 /\ a.2.2.2 < (A.length : Int)
 nd : ∀ v, 0 ≤ v -> v < (A.length : Int) -> gt nodes v = (!gt A v, outL L v, inL L v)
 al : alive = ((A.filter id).length : Int)
 ar : arcs = (L.length : Int)
 lb : L.length ≤ 1000000
variable {nodes nodes' : List Nod} {alive arcs : Int} {A : List Bool} {L : List OAr} {u v w wt via : Int}
theorem outL_le (h : KD L) (v : Int) : (outL L v).length ≤ L.length := by rw [outL_len h]; exact List.length_filter_le _ _
theorem inL_le (h : KD L) (v : Int) : (inL L v).length ≤ L.length := by rw [inL_len h]; exact List.length_filter_le _ _
theorem OvR.put (h : OvR nodes alive arcs A L) (u0 : 0 ≤ u) (u1 : u < (A.length : Int)) (w0 : 0 ≤ w) (w1 : w < (A.length : Int)) (au : gt A u = true) (aw : gt A w = true) (uw : u ≠ w) (t0 : 0 ≤ wt) (t1 : wt ≤ 140737488355328) (v0 : -1 ≤ via) (v1 : via < (A.length : Int)) (hb : L.length < 1000000)
  (hl : nodes'.length = nodes.length) (hn : ∀ x, 0 ≤ x -> x < (A.length : Int) -> gt nodes' x = ((gt nodes x).1, if x = u then insR (w, wt, via) (gt nodes x).2.1 else (gt nodes x).2.1, if x = w then insR (u, wt, via) (gt nodes x).2.2 else (gt nodes x).2.2)) :
  OvR nodes' alive (if (∃ x ∈ L, x.1 = u /\ x.2.1 = w) then arcs else arcs + 1) A (putA L (u, w, wt, via)) := by
 have hp := put_len h.kd (u, w, wt, via)
 refine ⟨by rw [hl, h.ln], h.sm, h.kd.put _, fun a ha => ?_, fun x x0 x1 => ?_, h.al, ?_, ?_⟩
 ·rcases mem_putA.1 ha with e | ⟨e, _⟩
  ·rw [e]; exact ⟨u0, u1, w0, w1, au, aw, uw, t0, t1, v0, v1⟩
  ·exact h.en a e
 ·rw [hn x x0 x1, h.nd x x0 x1, outL_put h.kd, inL_put h.kd]
 ·rw [hp]
  have := h.ar
  split
  ·exact this
  ·rw [this]; simp
 ·rw [hp]
  have := h.lb
  split <;> omega
theorem count_set : ∀ {A : List Bool} {i : Nat} (hi : i < A.length), A[i] = true -> ((A.set i false).filter id).length + 1 = (A.filter id).length
 | a :: A, 0, _, h => by
  have : a = true := h
  subst this
  simp
 | a :: A, i + 1, hi, h => by
  have := count_set (A := A) (i := i) (by simpa using hi) (by simpa using h)
  cases a <;> simp <;> omega
theorem gt_setB {A : List Bool} {v x : Int} (v0 : 0 ≤ v) (v1 : v < (A.length : Int)) (x0 : 0 ≤ x) : gt (A.set v.toNat false) x = if x = v then false else gt A x := gt_setE v0 v1 x0
theorem OvR.rem (h : OvR nodes alive arcs A L) (v0 : 0 ≤ v) (v1 : v < (A.length : Int)) (av : gt A v = true)
  (hl : nodes'.length = nodes.length) (hn : ∀ x, 0 ≤ x -> x < (A.length : Int) -> gt nodes' x = if x = v then (true, [], []) else ((gt nodes x).1, delR v (gt nodes x).2.1, delR v (gt nodes x).2.2)) :
  OvR nodes' (alive - 1) (arcs - (((outL L v).length : Int) + (inL L v).length)) (A.set v.toNat false) (remA L v) := by
 have hr := rem_len h.kd (fun a ha => (h.en a ha).2.2.2.2.2.2.1) v
 have hs : (A.set v.toNat false).length = A.length := List.length_set
 refine ⟨by rw [hl, h.ln, hs], by rw [hs]; exact h.sm, h.kd.rem v, fun a ha => ?_, fun x x0 x1 => ?_, ?_, ?_, ?_⟩
 ·obtain ⟨e, e1, e2⟩ := mem_remA.1 ha
  obtain ⟨a1, a2, a3, a4, a5, a6, a7⟩ := h.en a e
  rw [hs, gt_setB v0 v1 a1, gt_setB v0 v1 a3, if_neg e1, if_neg e2]
  exact ⟨a1, a2, a3, a4, a5, a6, a7⟩
 ·rw [hs] at x1
  rw [hn x x0 x1, h.nd x x0 x1, outL_rem h.kd, inL_rem h.kd, gt_setB v0 v1 x0]
  by_cases e : x = v
  ·rw [if_pos e, if_pos e, if_pos e, if_pos e]; rfl
  ·rw [if_neg e, if_neg e, if_neg e, if_neg e]
 ·have hi : v.toNat < A.length := by omega
  have hg : A[v.toNat] = true := by
   have : gt A v = A[v.toNat] := by simp [gt, List.getD_eq_getElem?_getD, List.getElem?_eq_getElem hi]
   rw [← this]; exact av
  have := count_set hi hg
  have := h.al
  omega
 ·have := h.ar; omega
 ·have := h.lb; omega
theorem insR_end {h : Hf} {l : List Hf} (k : ∀ x ∈ l, x.1 < h.1) : insR h l = l ++ [h] := by
 unfold insR
 rw [List.filter_eq_self.2 fun x hx => by simpa using k x hx, List.filter_eq_nil_iff.2 fun x hx => by have := k x hx; simp; omega]
theorem outL_snoc (L : List OAr) (a : OAr) (v : Int) : outL (L ++ [a]) v = if v = a.1 then insR a.2 (outL L v) else outL L v := by
 unfold outL cl
 rw [List.foldl_append]
 simp only [List.foldl_cons, List.foldl_nil]
 by_cases e : v = a.1
 ·rw [if_pos e]
  have : fOut v a = some a.2 := by simp [fOut, e]
  rw [this]
 ·rw [if_neg e]
  have : fOut v a = none := by simp [fOut]; exact fun h => e h.symm
  rw [this]
theorem inL_snoc (L : List OAr) (a : OAr) (v : Int) : inL (L ++ [a]) v = if v = a.2.1 then insR (a.1, a.2.2) (inL L v) else inL L v := by
 unfold inL cl
 rw [List.foldl_append]
 simp only [List.foldl_cons, List.foldl_nil]
 by_cases e : v = a.2.1
 ·rw [if_pos e]
  have : fIn v a = some (a.1, a.2.2) := by simp [fIn, e]
  rw [this]
 ·rw [if_neg e]
  have : fIn v a = none := by simp [fIn]; exact fun h => e h.symm
  rw [this]
def up4 (a : Int × Int × Int) : OAr := (a.1, a.2.1, a.2.2, -1)
theorem KD.up {M : List (Int × Int × Int)} (h : M.Pairwise ltk) : KD (M.map up4) := by
 unfold KD
 rw [List.pairwise_map]
 refine h.imp fun {a b} q => ?_
 unfold ltk at q
 show ¬ (a.1 = b.1 /\ a.2.1 = b.2.1)
 omega
end Go.Vd

/-! (OvC) -/

set_option linter.unusedVariables false
set_option linter.unusedSimpArgs false
namespace Go.Vd
variable {l : List Hf} {v w wt via : Int} {h : Hf}
theorem gt_memO {i : Int} (h0 : 0 ≤ i) (h1 : i < (l.length : Int)) : gt l i ∈ l := by
 unfold gt
 rw [List.getD_eq_getElem?_getD, List.getElem?_eq_getElem (by omega)]
 exact List.getElem_mem _
theorem insR_split {a m b : List Hf} (ha : ∀ x ∈ a, x.1 < h.1) (hm : ∀ x ∈ m, x.1 = h.1) (hb : ∀ x ∈ b, h.1 < x.1) : insR h (a ++ (m ++ b)) = a ++ ([h] ++ b) := by
 unfold insR
 rw [List.filter_append, List.filter_append, List.filter_append, List.filter_append,
  List.filter_eq_self.2 (fun x hx => decide_eq_true (ha x hx)), List.filter_eq_nil_iff.2 (fun x hx => by have := hm x hx; simp; omega), List.filter_eq_nil_iff.2 (fun x hx => by have := hb x hx; simp; omega),
  show a.filter (fun x => decide (h.1 < x.1)) = [] from List.filter_eq_nil_iff.2 fun x hx => (by have := ha x hx; simp; omega), show m.filter (fun x => decide (h.1 < x.1)) = [] from List.filter_eq_nil_iff.2 fun x hx => (by have := hm x hx; simp; omega), show b.filter (fun x => decide (h.1 < x.1)) = b from List.filter_eq_self.2 fun x hx => decide_eq_true (hb x hx)]
 simp
theorem delR_split {a m b : List Hf} (ha : ∀ x ∈ a, x.1 < v) (hm : ∀ x ∈ m, x.1 = v) (hb : ∀ x ∈ b, v < x.1) : delR v (a ++ (m ++ b)) = a ++ b := by
 unfold delR
 rw [List.filter_append, List.filter_append, List.filter_eq_self.2 (fun x hx => decide_eq_true (by have := ha x hx; omega)), show m.filter (fun x => decide (x.1 ≠ v)) = [] from List.filter_eq_nil_iff.2 fun x hx => (by have := hm x hx; simp; omega), show b.filter (fun x => decide (x.1 ≠ v)) = b from List.filter_eq_self.2 fun x hx => decide_eq_true (by have := hb x hx; omega)]
 simp
theorem delR_none (k : ∀ x ∈ l, x.1 ≠ v) : delR v l = l := List.filter_eq_self.2 fun x hx => decide_eq_true (k x hx)
theorem Ris.gt (k : Ris l) {i j : Int} (i0 : 0 ≤ i) (ij : i < j) (j1 : j < (l.length : Int)) : (gt l i).1 < (gt l j).1 := by
 have := List.pairwise_iff_getElem.1 k i.toNat j.toNat (by omega) (by omega) (by omega)
 have e : ∀ {n : Int}, 0 ≤ n -> (h : n < (l.length : Int)) -> Go.Vd.gt l n = l[n.toNat]'(by omega) := fun {n} n0 n1 => by
  unfold Go.Vd.gt
  rw [List.getD_eq_getElem?_getD, List.getElem?_eq_getElem (by omega)]; rfl
 rw [e i0 (by omega), e (by omega) j1]; exact this
theorem mem_take_gt {i : Int} {x : Hf} (i1 : i ≤ (l.length : Int)) (hx : x ∈ l.take i.toNat) : ∃ j, 0 ≤ j /\ j < i /\ x = gt l j := by
 obtain ⟨j, j0, j1, e⟩ := mem_gtE hx
 rw [List.length_take] at j1
 refine ⟨j, j0, by omega, ?_⟩
 rw [e]
 unfold gt
 rw [List.getD_eq_getElem?_getD, List.getD_eq_getElem?_getD, List.getElem?_take, if_pos (by omega)]
theorem mem_drop_gt {i : Int} {x : Hf} (i0 : 0 ≤ i) (hx : x ∈ l.drop i.toNat) : ∃ j, i ≤ j /\ j < (l.length : Int) /\ x = gt l j := by
 obtain ⟨j, j0, j1, e⟩ := mem_gtE hx
 rw [List.length_drop] at j1
 refine ⟨i + j, by omega, by omega, ?_⟩
 rw [e]
 unfold gt
 rw [List.getD_eq_getElem?_getD, List.getD_eq_getElem?_getD, List.getElem?_drop, show (i + j).toNat = i.toNat + j.toNat by omega]
structure FdR (l : List Hf) (v : Int) (p : Int) (b : Bool) : Prop where
 p0 : 0 ≤ p
 p1 : p ≤ (l.length : Int)
 yes : b = true -> p < (l.length : Int) /\ (gt l p).1 = v
 no : b = false -> ∀ x ∈ l, x.1 ≠ v
 lo : 0 ≤ v -> v < 65536 -> ∀ j, 0 ≤ j -> j < p -> (gt l j).1 < v
 hi : 0 ≤ v -> v < 65536 -> ∀ j, p ≤ j -> j < (l.length : Int) -> v ≤ (gt l j).1
theorem p_cmp {a b c : Int} (a0 : 0 ≤ a) (a1 : a < 65536) (v0 : -9223372036854775808 ≤ v) (v1 : v ≤ 9223372036854775807) : ∃ r, z_overlay_find_1 a b c v = some r /\ (r = 0 ↔ a = v) /\ (0 ≤ v -> (r < 0 ↔ a < v)) := by
 refine ⟨_, rfl, ?_, fun h => ?_⟩
 ·rw [IntKind.wrap_i64]; omega
 ·rw [IntKind.wrap_i64]; omega
theorem p_find (hr : Ris l) (hb : ∀ x ∈ l, 0 ≤ x.1 /\ x.1 < 65536) (hl : l.length ≤ 1000000) (v0 : -9223372036854775808 ≤ v) (v1 : v ≤ 9223372036854775807) : T (z_overlay_find l v) fun r => FdR l v r.1 r.2 := by
 have gtm : ∀ {i : Int}, 0 ≤ i -> i < (l.length : Int) -> gt l i ∈ l := fun {i} i0 i1 => gt_memO i0 i1
 unfold z_overlay_find
 refine T_bindr (fun r => FdR l v r.1 r.2) ?_ fun r h => by simp only [T_some]; exact h
 unfold z_slices_BinarySearchFunc
 refine T_bindr (fun p => 0 ≤ p /\ p ≤ (l.length : Int) /\ (0 ≤ v -> v < 65536 -> (∀ j, 0 ≤ j -> j < p -> (gt l j).1 < v) /\ ∀ j, p ≤ j -> j < (l.length : Int) -> v ≤ (gt l j).1)) ?_ ?_
 ·refine T_loop (fun z => 0 ≤ z.2 /\ z.2 ≤ z.1 /\ z.1 ≤ (l.length : Int) /\ (0 ≤ v -> v < 65536 -> (∀ j, 0 ≤ j -> j < z.2 -> (gt l j).1 < v) /\ ∀ j, z.1 ≤ j -> j < (l.length : Int) -> v ≤ (gt l j).1)) (fun z => (z.1 - z.2).toNat) ?_ ⟨by simp, by simp, by simp, fun _ _ => ⟨fun j j0 j1 => by dsimp only at j1; omega, fun j j0 j1 => by dsimp only at j0; omega⟩⟩
  rintro ⟨j, i⟩ ⟨i0, ij, j1, k⟩
  dsimp only at *
  unfold z_slices_BinarySearchFunc_l0
  rw [T_ite]
  refine ⟨fun hlt => ?_, fun hge => ?_⟩
  ·have hm := hb _ (gtm (i := (i + j) / 2) (by omega) (by omega))
   obtain ⟨r, e, r1, r2⟩ := p_cmp (b := (gt l ((i + j) / 2)).2.1) (c := (gt l ((i + j) / 2)).2.2) hm.1 hm.2 v0 v1
   simp only [T_G]
   refine ⟨by omega, by omega, by omega, by omega, ?_⟩
   rw [e, Option.bind_some, T_ite]
   refine ⟨fun hc => ?_, fun hc => ?_⟩
   ·simp only [T_G, T_some, Sum.elim_inl]
    refine ⟨by omega, ⟨by omega, by omega, j1, fun a b => ⟨fun q q0 q1 => ?_, (k a b).2⟩⟩, by omega⟩
    have hm := (r2 a).1 hc
    by_cases e : q = (i + j) / 2
    ·rw [e]; exact hm
    ·have := hr.gt q0 (by omega) (show (i + j) / 2 < (l.length : Int) by omega); omega
   ·simp only [T_some, Sum.elim_inl]
    refine ⟨⟨i0, by omega, by omega, fun a b => ⟨(k a b).1, fun q q0 q1 => ?_⟩⟩, by omega⟩
    have hm : ¬ (gt l ((i + j) / 2)).1 < v := fun h => hc ((r2 a).2 h)
    by_cases e : q = (i + j) / 2
    ·rw [e]; omega
    ·have := hr.gt (show 0 ≤ (i + j) / 2 by omega) (show (i + j) / 2 < q by omega) q1; omega
  ·simp only [T_some, Sum.elim_inr]
   refine ⟨i0, by omega, fun a b => ⟨(k a b).1, fun q q0 q1 => (k a b).2 q (by omega) q1⟩⟩
 ·rintro p ⟨p0, p1, k⟩
  rw [T_ite]
  have out : ∀ x ∈ l, ¬ (0 ≤ v /\ v < 65536) -> x.1 ≠ v := fun x hx hn e => by have := hb x hx; omega
  refine ⟨fun hlt => ?_, fun hge => ?_⟩
  ·have hm := hb _ (gtm p0 hlt)
   obtain ⟨r, e, r1, r2⟩ := p_cmp (b := (gt l p).2.1) (c := (gt l p).2.2) hm.1 hm.2 v0 v1
   simp only [T_G]
   refine ⟨p0, ?_⟩
   rw [e, Option.bind_some]
   simp only [T_some]
   refine ⟨p0, p1, fun hb => ⟨hlt, r1.1 (of_decide_eq_true hb)⟩, fun hf x hx => ?_, fun a b => (k a b).1, fun a b => (k a b).2⟩
   by_cases hv : 0 ≤ v /\ v < 65536
   ·obtain ⟨q, q0, q1, rfl⟩ := mem_gtE hx
    have hne : (gt l p).1 ≠ v := fun e => of_decide_eq_false hf (r1.2 e)
    by_cases hqp : q < p
    ·have := (k hv.1 hv.2).1 q q0 hqp; omega
    ·have h1 := (k hv.1 hv.2).2 p (Int.le_refl _) hlt
     by_cases e : q = p
     ·rw [e]; exact hne
     ·have := hr.gt p0 (show p < q by omega) q1; omega
   ·exact out x hx hv
  ·simp only [T_some]
   refine ⟨p0, p1, fun h => (by cases h), fun _ x hx => ?_, fun a b => (k a b).1, fun a b => (k a b).2⟩
   by_cases hv : 0 ≤ v /\ v < 65536
   ·obtain ⟨q, q0, q1, rfl⟩ := mem_gtE hx
    have := (k hv.1 hv.2).1 q q0 (by omega); omega
   ·exact out x hx hv
theorem FdR.split (hr : Ris l) {p : Int} {b : Bool} (f : FdR l v p b) (v0 : 0 ≤ v) (v1 : v < 65536) : ∃ m, l = l.take p.toNat ++ (m ++ l.drop (p.toNat + m.length)) /\ (∀ x ∈ l.take p.toNat, x.1 < v) /\ (∀ x ∈ m, x.1 = v) /\ (∀ x ∈ l.drop (p.toNat + m.length), v < x.1) /\ m.length = if b = true then 1 else 0 := by
 have a : ∀ x ∈ l.take p.toNat, x.1 < v := fun x hx => by
  obtain ⟨j, j0, j1, rfl⟩ := mem_take_gt f.p1 hx
  exact f.lo v0 v1 j j0 j1
 cases b with
 | true =>
  obtain ⟨h1, h2⟩ := f.yes rfl
  refine ⟨[gt l p], ?_, a, fun x hx => by rw [List.mem_singleton.1 hx]; exact h2, fun x hx => ?_, rfl⟩
  ·have e := take_gtE f.p0 h1
   rw [← List.append_assoc, ← e, show p.toNat + [gt l p].length = (p + 1).toNat by simp only [List.length_cons, List.length_nil]; have := f.p0; omega, List.take_append_drop]
  ·rw [show p.toNat + [gt l p].length = (p + 1).toNat by simp only [List.length_cons, List.length_nil]; have := f.p0; omega] at hx
   have := f.p0
   obtain ⟨j, j0, j1, rfl⟩ := mem_drop_gt (by omega) hx
   have := hr.gt f.p0 (show p < j by omega) j1
   omega
 | false =>
  refine ⟨[], by simp, a, (fun x hx => by cases hx), fun x hx => ?_, rfl⟩
  obtain ⟨j, j0, j1, rfl⟩ := mem_drop_gt f.p0 (by simpa using hx)
  have h1 := f.hi v0 v1 j j0 j1
  have h2 := f.no rfl (gt l j) (gt_memO (by have := f.p0; omega) j1)
  omega
theorem p_laid (hr : Ris l) (hb : ∀ x ∈ l, 0 ≤ x.1 /\ x.1 < 65536) (hl : l.length ≤ 1000000) (v0 : 0 ≤ v) (v1 : v < 65536) : z_overlay_laid l v wt via = some (insR (v, wt, via) l) := by
 refine T_eq.1 ?_
 unfold z_overlay_laid
 refine T_bindr _ (p_find hr hb hl (by omega) (by omega)) ?_
 rintro ⟨p, b⟩ f
 dsimp only at *
 obtain ⟨m, e, a1, a2, a3, a4⟩ := f.split hr v0 v1
 have p0 := f.p0
 have p1 := f.p1
 have hs : insR (v, wt, via) l = l.take p.toNat ++ ([(v, wt, via)] ++ l.drop (p.toNat + m.length)) := by
  conv => lhs; rw [e]
  exact insR_split a1 a2 a3
 rw [hs, T_ite]
 refine ⟨fun hb => ?_, fun hb => ?_⟩
 ·rw [if_pos hb] at a4
  have h1 := (f.yes hb).1
  simp only [T_G, T_some]
  refine ⟨⟨p0, h1⟩, ?_⟩
  rw [a4, List.set_eq_take_append_cons_drop, if_pos (by omega)]
  simp
 ·rw [if_neg hb] at a4
  simp only [T_G, T_some]
  refine ⟨⟨p0, p1, by omega⟩, ?_⟩
  rw [a4, Nat.add_zero]
theorem p_without (hr : Ris l) (hb : ∀ x ∈ l, 0 ≤ x.1 /\ x.1 < 65536) (hl : l.length ≤ 1000000) (v0 : 0 ≤ v) (v1 : v < 65536) : z_overlay_without l v = some (delR v l) := by
 refine T_eq.1 ?_
 unfold z_overlay_without
 refine T_bindr _ (p_find hr hb hl (by omega) (by omega)) ?_
 rintro ⟨p, b⟩ f
 dsimp only at *
 obtain ⟨m, e, a1, a2, a3, a4⟩ := f.split hr v0 v1
 have p0 := f.p0
 have p1 := f.p1
 have hs : delR v l = l.take p.toNat ++ l.drop (p.toNat + m.length) := by
  conv => lhs; rw [e]
  exact delR_split a1 a2 a3
 rw [T_ite]
 refine ⟨fun hb => ?_, fun hb => ?_⟩
 ·have hb' : b = false := by simpa using hb
  simp only [T_some]
  exact (delR_none (f.no hb')).symm
 ·have hb' : b = true := by simpa using hb
  rw [if_pos hb'] at a4
  have h1 := (f.yes hb').1
  simp only [T_G, T_some]
  refine ⟨by omega, by omega, ?_⟩
  rw [hs, a4, show (p + 1).toNat = p.toNat + 1 by omega]
end Go.Vd

/-! (So1) -/

set_option linter.unusedVariables false
set_option linter.unusedSimpArgs false
namespace Go.Vd
theorem p_Compare {x y : Int} : z_cmp_Compare x y = some (if x < y then -1 else if x > y then 1 else 0) := by
 unfold z_cmp_Compare z_cmp_isNaN
 simp only [Option.bind_some]
 simp
 by_cases h1 : x < y
 ·simp [h1]
 ·by_cases h2 : y < x <;> simp [h1, h2]
theorem p_Or3 {a b c : Int} : z_cmp_Or [a, b, c] = some (if a ≠ 0 then a else if b ≠ 0 then b else c) := by
 unfold z_cmp_Or
 have h3 : z_cmp_Or_l0 [a, b, c] 3 = some (Sum.inr (Sum.inr ())) := by unfold z_cmp_Or_l0; rw [if_neg (by simp)]
 have step : ∀ i : Int, 0 ≤ i -> i < 3 -> z_cmp_Or_l0 [a, b, c] i = if gt [a, b, c] i = 0 then some (Sum.inl (i + 1)) else some (Sum.inr (Sum.inl (gt [a, b, c] i))) := fun i i0 i1 => by
  unfold z_cmp_Or_l0 G
  rw [if_pos (by simp; omega), if_pos i0]
  split
  ·rw [if_pos (by omega)]
  ·rfl
 have g0 : gt [a, b, c] 0 = a := rfl
 have g1 : gt [a, b, c] 1 = b := rfl
 have g2 : gt [a, b, c] 2 = c := rfl
 rw [loopO_eq, step 0 (by omega) (by omega), g0]
 by_cases ha : a = 0
 ·rw [if_pos ha, if_neg (by simp [ha]), Option.bind_some, Sum.elim_inl, show (0 : Int) + 1 = 1 from rfl, loopO_eq, step 1 (by omega) (by omega), g1]
  by_cases hb : b = 0
  ·rw [if_pos hb, if_neg (by simp [hb]), Option.bind_some, Sum.elim_inl, show (1 : Int) + 1 = 2 from rfl, loopO_eq, step 2 (by omega) (by omega), g2]
   by_cases hc : c = 0
   ·rw [if_pos hc, Option.bind_some, Sum.elim_inl, show (2 : Int) + 1 = 3 from rfl, loopO_eq, h3]
    simp [hc]
   ·rw [if_neg hc]; simp
  ·rw [if_neg hb, if_pos hb]; simp
 ·rw [if_neg ha, if_pos ha]; simp
def lt3 (x y : Int × Int × Int) : Prop := x.1 < y.1 ∨ (x.1 = y.1 /\ (x.2.1 < y.2.1 ∨ (x.2.1 = y.2.1 /\ x.2.2 < y.2.2)))
instance (x y : Int × Int × Int) : Decidable (lt3 x y) := by unfold lt3; infer_instance
noncomputable abbrev ord3 : Int × Int × Int -> Int × Int × Int -> Option Int := fun a_ b_ => z_normal_order a_.1 a_.2.1 a_.2.2 b_.1 b_.2.1 b_.2.2
theorem p_order (x y : Int × Int × Int) : ∃ r, ord3 x y = some r /\ (r < 0 ↔ lt3 x y) := by
 unfold ord3 z_normal_order
 simp only [p_Compare, Option.bind_some, p_Or3]
 refine ⟨_, rfl, ?_⟩
 unfold lt3
 by_cases a1 : x.1 < y.1
 ·simp [a1]
 ·by_cases a2 : x.1 > y.1
  ·have : ¬ x.1 = y.1 := by omega
   simp [a1, a2, this]
  ·have e : x.1 = y.1 := by omega
   by_cases b1 : x.2.1 < y.2.1
   ·simp [e, b1]
   ·by_cases b2 : x.2.1 > y.2.1
    ·have : ¬ x.2.1 = y.2.1 := by omega
     simp [e, b1, b2, this]
    ·have e2 : x.2.1 = y.2.1 := by omega
     by_cases c1 : x.2.2 < y.2.2
     ·simp [e, e2, c1]
     ·by_cases c2 : x.2.2 > y.2.2 <;> simp [e, e2, c1, c2]
theorem ord3_lt (x y : Int × Int × Int) : (ord3 x y).getD 0 < 0 ↔ lt3 x y := by
 obtain ⟨r, h1, h2⟩ := p_order x y
 rw [h1]; exact h2
theorem ord3_ok : SortOk ord3 :=
 { ans := fun x y => let ⟨r, h, _⟩ := p_order x y; ⟨r, h⟩
   irr := fun x => by rw [ord3_lt]; unfold lt3; omega
   trn := fun x y z => by rw [ord3_lt, ord3_lt, ord3_lt]; unfold lt3; omega
   ntr := fun x y z => by rw [ord3_lt, ord3_lt, ord3_lt]; unfold lt3; omega
   tot := fun x y h1 h2 => by
    rw [ord3_lt] at h1 h2
    obtain ⟨x1, x2, x3⟩ := x
    obtain ⟨y1, y2, y3⟩ := y
    unfold lt3 at h1 h2
    dsimp only at h1 h2
    simp only [Prod.mk.injEq]
    omega }
theorem p_sort (xs : List (Int × Int × Int)) : sortO (fun (a_ b_ : Int × Int × Int) => z_normal_order a_.1 a_.2.1 a_.2.2 b_.1 b_.2.1 b_.2.2) xs = some (sortL ord3 xs) := sortO_ok ord3_ok xs
theorem sort_rise (xs : List (Int × Int × Int)) : (sortL ord3 xs).Pairwise fun x y => ¬ lt3 y x := (sortL_sorted ord3_ok xs).imp fun h => by rwa [ord3_lt] at h
theorem p_like {x y : Int × Int × Int} : z_normal_Of_1 x.1 x.2.1 x.2.2 y.1 y.2.1 y.2.2 = some (decide (key2 x y)) := by
 unfold z_normal_Of_1 key2
 by_cases h : x.1 = y.1 <;> simp [h]
def cpt (s : List (Int × Int × Int)) : Nat -> List (Int × Int × Int)
 | 0 => []
 | k + 1 => cpt s k ++ if k ≠ 0 /\ key2 (gt s (k : Int)) (gt s ((k : Int) - 1)) then [] else [gt s (k : Int)]
theorem cpt_len (s : List (Int × Int × Int)) (k : Nat) : (cpt s k).length ≤ k := by
 induction k with
 | zero => simp [cpt]
 | succ k ih =>
  simp only [cpt, List.length_append]
  split <;> simp <;> omega
theorem cpt_next {s : List (Int × Int × Int)} {i : Int} (i0 : 0 ≤ i) : cpt s (i + 1).toNat = cpt s i.toNat ++ if i ≠ 0 /\ key2 (gt s i) (gt s (i - 1)) then [] else [gt s i] := by
 rw [show (i + 1).toNat = i.toNat + 1 from by omega]
 simp only [cpt]
 rw [show ((i.toNat : Nat) : Int) = i from by omega]
 have : i.toNat ≠ 0 ↔ i ≠ 0 := by omega
 simp only [ne_eq, this]
theorem gt_drop {E : Type} [Inhabited E] {l : List E} {k j : Int} (k0 : 0 ≤ k) (j0 : 0 ≤ j) : gt (l.drop k.toNat) j = gt l (k + j) := by
 unfold gt
 rw [List.getD_eq_getElem?_getD, List.getD_eq_getElem?_getD, List.getElem?_drop, show k.toNat + j.toNat = (k + j).toNat from by omega]
theorem p_Compact {s : List (Int × Int × Int)} (hl : s.length ≤ 1000000000000) : T (z_slices_CompactFunc s) fun r => r.1 = cpt s s.length := by
 unfold z_slices_CompactFunc
 rw [T_ite]
 have c1 : 0 < s.length -> cpt s 1 = s.take 1 := fun h => by
  simp only [cpt]
  have := take_gtE (l := s) (i := 0) (by omega) (by omega)
  simpa using this.symm
 refine ⟨fun h => ?_, fun h => ?_⟩
 ·simp only [T_some]
  by_cases h0 : s.length = 0
  ·rw [h0]; exact List.eq_nil_of_length_eq_zero h0
  ·have : s.length = 1 := by omega
   have h2 := c1 (by omega)
   rw [this, h2, List.take_of_length_le (by omega)]
 refine T_binds (fun _ => cpt s s.length = s) ?_ fun _ h => by simp only [T_some]; exact h.symm
 refine T_loop (fun k => 1 ≤ k /\ k ≤ (s.length : Int) /\ cpt s k.toNat = s.take k.toNat) (fun k => ((s.length : Int) - k).toNat) ?_ ⟨by omega, by omega, c1 (by omega)⟩
 rintro k ⟨k0, k1, hk⟩
 unfold z_slices_CompactFunc_l1
 rw [T_ite]
 refine ⟨fun hlt => ?_, fun hge => ?_⟩
 rotate_left
 ·simp only [T_some, Sum.elim_inr]
  have : k = s.length := by omega
  subst this
  simpa using hk
 simp only [T_G]
 refine ⟨by omega, by omega, by omega, ?_⟩
 rw [p_like, Option.bind_some, T_ite]
 refine ⟨fun heq => ?_, fun hne => ?_⟩
 rotate_left
 ·have hne' : ¬ key2 (gt s k) (gt s (k - 1)) := by simpa using hne
  simp only [T_G, T_some, Sum.elim_inl]
  refine ⟨by omega, ⟨by omega, by omega, ?_⟩, by omega⟩
  rw [cpt_next (by omega), if_neg (fun h => hne' h.2), hk]
  exact (take_gtE (by omega) hlt).symm
 have heq' : key2 (gt s k) (gt s (k - 1)) := by simpa using heq
 simp only [T_G]
 refine ⟨by omega, ?_⟩
 refine T_bindr (fun r => (r.1.length : Int) = s.length /\ 0 ≤ r.2 /\ r.2 ≤ (s.length : Int) /\ cpt s s.length = r.1.take r.2.toNat) ?_ ?_
 ·refine T_loop (fun z => 1 ≤ z.2.2 /\ z.2.2 ≤ (s.length : Int) - k /\ k ≤ z.2.1 /\ z.2.1 ≤ k + z.2.2 - 1 /\ (z.1.length : Int) = s.length /\ cpt s (k + z.2.2).toNat = z.1.take z.2.1.toNat /\ ∀ j, k + z.2.2 - 1 ≤ j -> gt z.1 j = gt s j) (fun z => ((s.length : Int) - k - z.2.2).toNat) ?_ ⟨by simp, by dsimp only; omega, by simp, by dsimp only; omega, rfl, ?_, fun _ _ => rfl⟩
  rotate_left
  ·dsimp only
   rw [cpt_next (by omega), if_pos ⟨by omega, heq'⟩, hk, List.append_nil]
  rintro ⟨s0, k1', k2⟩ ⟨a0, a1, a2, a3, a4, a5, a6⟩
  dsimp only at *
  have hdl : ((s0.drop k.toNat).length : Int) = s.length - k := by rw [List.length_drop]; omega
  unfold z_slices_CompactFunc_l0
  rw [hdl, T_ite]
  refine ⟨fun hlt2 => ?_, fun hge2 => ?_⟩
  rotate_left
  ·simp only [T_some, Sum.elim_inr]
   have : k + k2 = s.length := by omega
   rw [this] at a5
   exact ⟨a4, by omega, by omega, by simpa using a5⟩
  have e1 : gt (s0.drop k.toNat) k2 = gt s (k + k2) := by rw [gt_drop (by omega) (by omega)]; exact a6 _ (by omega)
  have e2 : gt (s0.drop k.toNat) (k2 - 1) = gt s (k + k2 - 1) := by rw [gt_drop (by omega) (by omega), show k + (k2 - 1) = k + k2 - 1 from by omega]; exact a6 _ (by omega)
  simp only [T_G]
  refine ⟨by omega, by omega, by omega, ?_⟩
  rw [p_like, e1, e2, Option.bind_some, T_ite]
  have nx : (k + (k2 + 1)).toNat = (k + k2 + 1).toNat := by omega
  refine ⟨fun hn => ?_, fun hy => ?_⟩
  ·have hn' : ¬ key2 (gt s (k + k2)) (gt s (k + k2 - 1)) := by simpa using hn
   simp only [T_G, T_some, Sum.elim_inl]
   refine ⟨by omega, by omega, by omega, ⟨by omega, by omega, by omega, by omega, by simpa using a4, ?_, fun j hj => ?_⟩, by omega⟩
   ·rw [nx, cpt_next (by omega), if_neg (fun h => hn' h.2), a5]
    have h1 := take_gtE (l := s0.set k1'.toNat (gt s (k + k2))) (i := k1') (by omega) (by simp; omega)
    rw [h1, gt_setE (by omega) (by omega) (by omega), if_pos rfl, List.take_set_of_le (Nat.le_refl _)]
   ·rw [gt_setE (by omega) (by omega) (by omega), if_neg (by omega)]; exact a6 j (by omega)
  ·have hy' : key2 (gt s (k + k2)) (gt s (k + k2 - 1)) := by simpa using hy
   simp only [T_G, T_some, Sum.elim_inl]
   refine ⟨by omega, ⟨by omega, by omega, by omega, by omega, a4, ?_, fun j hj => a6 j (by omega)⟩, by omega⟩
   rw [nx, cpt_next (by omega), if_pos ⟨by omega, hy'⟩, a5, List.append_nil]
 ·rintro ⟨r, q⟩ ⟨b1, b2, b3, b4⟩
  dsimp only at *
  have hlen : ((r.take q.toNat ++ List.replicate (r.length - q.toNat) ((0, 0, 0) : Int × Int × Int)).length : Int) = r.length := by simp; omega
  simp only [T_G, T_map, T_some, Sum.elim_inr, Sum.elim_inl]
  refine ⟨by omega, by omega, by omega, ?_⟩
  rw [List.take_left' (by rw [List.length_take]; omega)]
  exact b4.symm
end Go.Vd

/-! (So2) -/

set_option linter.unusedVariables false
set_option linter.unusedSectionVars false
set_option linter.unusedSimpArgs false
namespace Go.Vd
section
variable {s : List A3} (hs : ∀ i j : Int, 0 ≤ i -> i < j -> j < (s.length : Int) -> ¬ lt3 (gt s j) (gt s i))
include hs
theorem rise2 {i j : Int} (i0 : 0 ≤ i) (ij : i < j) (j1 : j < (s.length : Int)) : ltk (gt s i) (gt s j) ∨ (key2 (gt s i) (gt s j) /\ (gt s i).2.2 ≤ (gt s j).2.2) := by
 have := hs i j i0 ij j1
 unfold lt3 at this; unfold ltk key2
 omega
theorem cpt_mem {k : Nat} (hk : k ≤ s.length) : ∀ x ∈ cpt s k, ∃ i : Int, 0 ≤ i /\ i < k /\ x = gt s i := by
 induction k with
 | zero => intro x hx; cases hx
 | succ k ih =>
  intro x hx
  simp only [cpt] at hx
  rcases List.mem_append.1 hx with hx | hx
  ·obtain ⟨i, i0, i1, e⟩ := ih (by omega) x hx
   exact ⟨i, i0, by omega, e⟩
  ·split at hx
   ·cases hx
   ·exact ⟨k, by omega, by omega, List.mem_singleton.1 hx⟩
theorem cpt_inc {k : Nat} (hk : k ≤ s.length) : (cpt s k).Pairwise ltk := by
 induction k with
 | zero => exact .nil
 | succ k ih =>
  simp only [cpt]
  split
  ·rw [List.append_nil]; exact ih (by omega)
  ·rename_i hn
   rw [List.pairwise_append]
   refine ⟨ih (by omega), List.pairwise_singleton _ _, fun x hx y hy => ?_⟩
   obtain rfl := List.mem_singleton.1 hy
   obtain ⟨i, i0, i1, rfl⟩ := cpt_mem hs (by omega) x hx
   have hk0 : k ≠ 0 := by omega
   have hn' : ¬ key2 (gt s (k : Int)) (gt s ((k : Int) - 1)) := fun q => hn ⟨hk0, q⟩
   have h1 := rise2 hs (i := (k : Int) - 1) (j := k) (by omega) (by omega) (by omega)
   by_cases e : i = (k : Int) - 1
   ·subst e
    unfold ltk key2 at *; omega
   ·have h2 := rise2 hs (i := i) (j := (k : Int) - 1) i0 (by omega) (by omega)
    unfold ltk key2 at *; omega
theorem cpt_has {k : Nat} (hk : k ≤ s.length) : ∀ i : Int, 0 ≤ i -> i < k -> ∃ x ∈ cpt s k, key2 x (gt s i) /\ x.2.2 ≤ (gt s i).2.2 := by
 induction k with
 | zero => intro i i0 i1; simp at i1; omega
 | succ k ih =>
  intro i i0 i1
  by_cases e : i = (k : Int)
  ·subst e
   by_cases hn : k ≠ 0 /\ key2 (gt s (k : Int)) (gt s ((k : Int) - 1))
   ·obtain ⟨x, h1, h2, h3⟩ := ih (by omega) ((k : Int) - 1) (by omega) (by omega)
    refine ⟨x, by simp only [cpt]; exact List.mem_append_left _ h1, ?_, ?_⟩
    ·have := hn.2; unfold key2 at *; omega
    ·have h4 := rise2 hs (i := (k : Int) - 1) (j := k) (by omega) (by omega) (by omega)
     have := hn.2; unfold ltk key2 at *; omega
   ·refine ⟨gt s (k : Int), ?_, ⟨rfl, rfl⟩, Int.le_refl _⟩
    simp only [cpt]
    rw [if_neg hn]
    exact List.mem_append_right _ (List.mem_singleton.2 rfl)
  ·obtain ⟨x, h1, h2⟩ := ih (by omega) i i0 (by omega)
   exact ⟨x, by simp only [cpt]; exact List.mem_append_left _ h1, h2⟩
end
def noLp (a : A3) : Bool := !decide (a.1 = a.2.1)
theorem nrm_of {A F s : List A3} (hF : F = A.filter noLp) (hp : s.Perm F) (hs : s.Pairwise fun x y => ¬ lt3 y x) : Nrm A (cpt s s.length) := by
 have hs' : ∀ i j : Int, 0 ≤ i -> i < j -> j < (s.length : Int) -> ¬ lt3 (gt s j) (gt s i) := fun i j i0 ij j1 => by
  obtain ⟨i, rfl⟩ := Int.eq_ofNat_of_zero_le i0
  obtain ⟨j, rfl⟩ := Int.eq_ofNat_of_zero_le (show 0 ≤ j by omega)
  rw [gt_nat (show i < s.length by omega), gt_nat (show j < s.length by omega)]
  exact List.pairwise_iff_getElem.1 hs i j (by omega) (by omega) (by omega)
 have mem : ∀ x, x ∈ s ↔ (x ∈ A /\ x.1 ≠ x.2.1) := fun x => by
  rw [hp.mem_iff, hF, List.mem_filter]; simp [noLp]
 have inc := cpt_inc hs' (Nat.le_refl _)
 refine ⟨inc, fun a ha => ?_, fun a ha hn => ?_⟩
 ·obtain ⟨i, i0, i1, e⟩ := cpt_mem hs' (Nat.le_refl _) a ha
  have hm := (mem a).1 (by rw [e]; exact gt_mem i0 i1)
  refine ⟨hm.1, hm.2, fun b hb hk => ?_⟩
  have hbn : b.1 ≠ b.2.1 := by have := hm.2; unfold key2 at hk; omega
  obtain ⟨j, j0, j1, rfl⟩ := mem_gtE ((mem b).2 ⟨hb, hbn⟩)
  obtain ⟨x, x1, x2, x3⟩ := cpt_has hs' (Nat.le_refl _) j j0 j1
  have : x = a := inc_key inc x1 ha (by unfold key2 at *; omega)
  rw [← this]; exact x3
 ·obtain ⟨j, j0, j1, rfl⟩ := mem_gtE ((mem a).2 ⟨ha, hn⟩)
  obtain ⟨x, x1, x2, _⟩ := cpt_has hs' (Nat.le_refl _) j j0 j1
  exact ⟨x, x1, x2⟩
end Go.Vd

/-! (Gc) -/

set_option linter.unusedVariables false
set_option linter.unusedSimpArgs false
namespace Go.Vd
variable {N : Int} {A L : List A3}
def arcG (N : Int) (a : A3) : Int := if a.1 < 0 ∨ a.1 ≥ N ∨ a.2.1 < 0 ∨ a.2.1 ≥ N then 7 else if a.2.2 < 0 ∨ a.2.2 > 2147483647 then 8 else 0
def BigG (N : Int) (A : List A3) : Prop := N < 0 ∨ N > 65536 ∨ (A.length : Int) > 262144
inductive GChk (N : Int) (A : List A3) : Er -> Prop
 | limit : BigG N A -> GChk N A (.no 9)
 | arc (i : Int) : ¬ BigG N A -> 0 ≤ i -> i < (A.length : Int) -> arcG N (gt A i) ≠ 0 -> (∀ j, 0 ≤ j -> j < i -> arcG N (gt A j) = 0) -> GChk N A (.at 4 i (.no (arcG N (gt A i))))
 | ok : ¬ BigG N A -> (∀ j, 0 ≤ j -> j < (A.length : Int) -> arcG N (gt A j) = 0) -> GChk N A .nil
theorem arcG_7 {a : A3} (h : a.1 < 0 ∨ a.1 ≥ N ∨ a.2.1 < 0 ∨ a.2.1 ≥ N) : arcG N a = 7 := by unfold arcG; rw [if_pos h]
theorem arcG_8 {a : A3} (h : ¬ (a.1 < 0 ∨ a.1 ≥ N ∨ a.2.1 < 0 ∨ a.2.1 ≥ N)) (k : a.2.2 < 0 ∨ a.2.2 > 2147483647) : arcG N a = 8 := by unfold arcG; rw [if_neg h, if_pos k]
theorem arcG_0 {a : A3} (h : ¬ (a.1 < 0 ∨ a.1 ≥ N ∨ a.2.1 < 0 ∨ a.2.1 ≥ N)) (k : ¬ (a.2.2 < 0 ∨ a.2.2 > 2147483647)) : arcG N a = 0 := by unfold arcG; rw [if_neg h, if_neg k]
theorem arcG_ok {a : A3} (h : arcG N a = 0) : 0 ≤ a.1 /\ a.1 < N /\ 0 ≤ a.2.1 /\ a.2.1 < N /\ 0 ≤ a.2.2 /\ a.2.2 ≤ 2147483647 := by
 unfold arcG at h
 split at h
 ·cases h
 ·split at h
  ·cases h
  ·omega
theorem GChk.uniq {er er' : Er} (h : GChk N A er) (k : GChk N A er') : er = er' := by
 cases h with
 | limit h1 =>
  cases k with
  | limit _ => rfl
  | arc _ k1 => exact absurd h1 k1
  | ok k1 _ => exact absurd h1 k1
 | arc i h1 h2 h3 h4 h5 =>
  cases k with
  | limit k1 => exact absurd k1 h1
  | arc j _ k2 k3 k4 k5 =>
   have : i = j := by
    rcases Int.lt_trichotomy i j with q | q | q
    ·exact absurd (k5 i h2 q) h4
    ·exact q
    ·exact absurd (h5 j k2 q) k4
   rw [this]
  | ok _ k2 => exact absurd (k2 i h2 h3) h4
 | ok h1 h2 =>
  cases k with
  | limit k1 => exact absurd k1 h1
  | arc j _ k2 k3 k4 _ => exact absurd (h2 j k2 k3) k4
  | ok _ _ => rfl
theorem GChk.bad {er : Er} (h : GChk N A er) : (er.code ≠ 0 ∨ er.pls ≠ []) ↔ er ≠ .nil := by
 cases h with
 | limit _ => simp [Er.code]
 | arc i _ _ _ h4 _ => simp [Er.pls]
 | ok _ _ => simp [Er.code, Er.pls]
theorem GChk.small (h : GChk N A .nil) : 0 ≤ N /\ N ≤ 65536 /\ (A.length : Int) ≤ 262144 := by
 cases h with
 | ok h1 _ => unfold BigG at h1; omega
theorem GChk.arcs (h : GChk N A .nil) : ∀ a ∈ A, 0 ≤ a.1 /\ a.1 < N /\ 0 ≤ a.2.1 /\ a.2.1 < N /\ 0 ≤ a.2.2 /\ a.2.2 ≤ 2147483647 := by
 cases h with
 | ok h1 h2 =>
  intro a ha
  obtain ⟨i, i0, i1, rfl⟩ := mem_gtE ha
  exact arcG_ok (h2 i i0 i1)
theorem p_garc {a : A3} : z_gtext_arc a.1 a.2.1 a.2.2 N = some (if arcG N a = 0 then .nil else .no (arcG N a)) := by
 refine T_eq.1 ?_
 unfold z_gtext_arc
 refine T_bindr (fun o => o = decide (a.1 < 0 ∨ a.1 ≥ N ∨ a.2.1 < 0 ∨ a.2.1 ≥ N)) ?_ ?_
 ·unfold z_gtext_within
  simp only [T_bind, T_ite, T_some]
  refine ⟨fun h1 => ⟨fun h2 => ⟨fun h3 => ?_, fun h3 => ?_⟩, fun h2 => ?_⟩, fun h1 => ⟨fun h2 => ?_, fun h2 => ?_⟩⟩
  ·have h2' : a.1 < N := by simpa using h2
   by_cases h4 : a.2.1 < N
   ·simp [h4]; omega
   ·simp [h4]; omega
  ·simp; omega
  ·have h2' : ¬ a.1 < N := by simpa using h2
   simp; omega
  ·simp at h2
  ·simp; omega
 ·rintro _ rfl
  by_cases h : a.1 < 0 ∨ a.1 ≥ N ∨ a.2.1 < 0 ∨ a.2.1 ≥ N
  ·rw [arcG_7 h]; simp [h]
  ·rw [decide_eq_false h, if_neg (by decide)]
   by_cases k1 : a.2.2 < 0
   ·rw [if_pos k1, arcG_8 h (.inl k1)]; simp
   ·rw [if_neg k1]
    by_cases k2 : a.2.2 > 2147483647
    ·rw [if_pos k2, arcG_8 h (.inr k2)]; simp
    ·rw [if_neg k2, arcG_0 h (by omega)]; simp
theorem p_fAtG {k i : Int} {e : Er} (h : e ≠ .nil) : z_fault_At k i e = some (.at k i e) := by
 unfold z_fault_At; rw [if_neg h]
theorem p_big : T (if N < 0 then (some true) else (if N > 65536 then (some true) else (some (decide ((A.length : Int) > 262144)))) : Option Bool) fun o => o = true ↔ BigG N A := by
 unfold BigG
 simp only [T_ite, T_some]
 exact ⟨fun h => by simp [h], fun h => ⟨fun h2 => by simp [h2], fun h2 => by simp; omega⟩⟩
theorem p_gCheck : T (z_gtext_Check N A) (GChk N A) := by
 unfold z_gtext_Check
 refine T_bindr _ p_big fun o ho => ?_
 rw [T_ite]
 refine ⟨fun h => by simp only [T_some]; exact .limit (ho.1 h), fun h => ?_⟩
 have hb : ¬ BigG N A := fun k => h (ho.2 k)
 have hl : (A.length : Int) ≤ 262144 := by unfold BigG at hb; omega
 refine T_binds (fun _ => ∀ j, 0 ≤ j -> j < (A.length : Int) -> arcG N (gt A j) = 0) ?_ fun _ h => by simp only [T_some]; exact .ok hb h
 refine T_loop (fun i => 0 ≤ i /\ i ≤ (A.length : Int) /\ ∀ j, 0 ≤ j -> j < i -> arcG N (gt A j) = 0) (fun i => ((A.length : Int) - i).toNat) ?_ ⟨by simp, by simp, fun j j0 j1 => by omega⟩
 rintro i ⟨i0, i1, hi⟩
 unfold z_gtext_Check_l0
 rw [T_ite]
 refine ⟨fun hlt => ?_, fun hge => by simp only [T_some, Sum.elim_inr]; exact fun j j0 j1 => hi j j0 (by omega)⟩
 rw [T_G, p_garc, Option.bind_some]
 refine ⟨i0, ?_⟩
 by_cases h0 : arcG N (gt A i) = 0
 ·rw [if_pos h0, if_pos rfl]
  simp only [T_G, T_some, Sum.elim_inl]
  refine ⟨by omega, ⟨by omega, by omega, fun j j0 j1 => ?_⟩, by omega⟩
  by_cases e : j = i
  ·rw [e]; exact h0
  ·exact hi j j0 (by omega)
 ·rw [if_neg h0, if_neg (by simp), p_fAtG (by simp), Option.bind_some]
  simp only [T_map, T_some, Sum.elim_inr, Sum.elim_inl]
  exact .arc i hb i0 hlt h0 hi
def swp3 (a : A3) : A3 := (a.2.1, a.1, a.2.2)
inductive RevA (N : Int) (A : List A3) : Int -> List A3 -> Er -> Prop
 | bad (er : Er) : GChk N A er -> er ≠ .nil -> RevA N A 0 [] er
 | ok : GChk N A .nil -> RevA N A N (A.map swp3) .nil
end Go.Vd

/-! (PrGd) -/

set_option linter.unusedVariables false
set_option linter.unusedSimpArgs false
namespace Go.Vd
variable {N : Int} {A L : List A3}
theorem p_gDocCheck : T (z_viaductref03_DocCheck N A) fun r => ∃ er, GChk N A er /\ r = (er.code, er.pls) := by
 unfold z_viaductref03_DocCheck
 refine T_bindr _ p_big fun o ho => ?_
 rw [T_ite]
 refine ⟨fun h => by rw [p_E, Option.bind_some]; simp only [T_some]; exact ⟨.no 9, .limit (ho.1 h), rfl⟩, fun h => ?_⟩
 have hb : ¬ BigG N A := fun k => h (ho.2 k)
 have hl : (A.length : Int) ≤ 262144 := by unfold BigG at hb; omega
 refine T_binds (fun _ => ∀ j, 0 ≤ j -> j < (A.length : Int) -> arcG N (gt A j) = 0) ?_ fun _ h => by simp only [T_some]; exact ⟨.nil, .ok hb h, rfl⟩
 refine T_loop (fun i => 0 ≤ i /\ i ≤ (A.length : Int) /\ ∀ j, 0 ≤ j -> j < i -> arcG N (gt A j) = 0) (fun i => ((A.length : Int) - i).toNat) ?_ ⟨by simp, by simp, fun j j0 j1 => by omega⟩
 rintro i ⟨i0, i1, hi⟩
 unfold z_viaductref03_DocCheck_l0
 rw [T_ite]
 refine ⟨fun hlt => ?_, fun hge => by simp only [T_some, Sum.elim_inr]; exact fun j j0 j1 => hi j j0 (by omega)⟩
 rw [T_G]
 refine ⟨i0, T_bindr (fun o => o = true ↔ ((gt A i).1 < 0 ∨ (gt A i).1 ≥ N ∨ (gt A i).2.1 < 0 ∨ (gt A i).2.1 ≥ N)) ?_ fun o ho => ?_⟩
 ·simp only [T_ite, T_some]
  refine ⟨fun h => by simp [h], fun h1 => ⟨fun h => by simp; omega, fun h2 => ⟨fun h => by simp [h], fun h3 => by simp; omega⟩⟩⟩
 rw [T_ite]
 refine ⟨fun h => ?_, fun h => ?_⟩
 ·have h7 := arcG_7 (ho.1 h)
  rw [p_E, Option.bind_some, p_At (by simp), Option.bind_some]
  simp only [T_map, T_some, Sum.elim_inr, Sum.elim_inl]
  refine ⟨_, .arc i hb i0 hlt (by rw [h7]; decide) hi, ?_⟩
  rw [h7]; rfl
 ·have hn : ¬ ((gt A i).1 < 0 ∨ (gt A i).1 ≥ N ∨ (gt A i).2.1 < 0 ∨ (gt A i).2.1 ≥ N) := fun k => h (ho.2 k)
  refine T_bindr (fun o => o = true ↔ ((gt A i).2.2 < 0 ∨ (gt A i).2.2 > 2147483647)) ?_ fun o ho => ?_
  ·simp only [T_ite, T_some]
   exact ⟨fun h => by simp [h], fun h => by simp; omega⟩
  rw [T_ite]
  refine ⟨fun h => ?_, fun h => ?_⟩
  ·have h8 := arcG_8 hn (ho.1 h)
   rw [p_E, Option.bind_some, p_At (by simp), Option.bind_some]
   simp only [T_map, T_some, Sum.elim_inr, Sum.elim_inl]
   refine ⟨_, .arc i hb i0 hlt (by rw [h8]; decide) hi, ?_⟩
   rw [h8]; rfl
  ·have h0 := arcG_0 hn fun k => h (ho.2 k)
   simp only [T_G, T_some, Sum.elim_inl]
   refine ⟨by omega, ⟨by omega, by omega, fun j j0 j1 => ?_⟩, by omega⟩
   by_cases e : j = i
   ·rw [e]; exact h0
   ·exact hi j j0 (by omega)
end Go.Vd

/-! (PrGf) -/

set_option linter.unusedVariables false
set_option linter.unusedSimpArgs false
namespace Go.Vd
variable {N : Int} {A L : List A3}
theorem p_Few {most : Int} : T (z_viaductref04_Few N A most) fun b => b = true ↔ (GChk N A .nil /\ N ≤ most /\ (A.length : Int) ≤ 2000) := by
 unfold z_viaductref04_Few
 refine T_bindr _ p_gDocCheck ?_
 rintro _ ⟨er, hc, rfl⟩
 dsimp only
 rw [p_Bad, Option.bind_some, T_ite]
 refine ⟨fun h => ?_, fun h => ?_⟩
 ·have hne := hc.bad.1 (by simpa using h)
  simp only [T_some]
  simp; exact fun k => absurd (hc.uniq k) hne
 ·have he : er = .nil := Classical.not_not.1 fun k => h (by simpa using hc.bad.2 k)
  subst he
  rw [T_ite]
  simp only [T_some]
  exact ⟨fun h => by simp [hc, h], fun h => by simp; intro _ k; omega⟩
end Go.Vd

/-! (So3) -/

set_option linter.unusedVariables false
set_option linter.unusedSimpArgs false
namespace Go.Vd
variable {N : Int} {A L : List A3}
inductive OfA (N : Int) (A : List A3) : Int -> List A3 -> Er -> Prop
 | bad (er : Er) : GChk N A er -> er ≠ .nil -> OfA N A 0 [] er
 | ok (L : List A3) : GChk N A .nil -> Nrm A L -> L.length ≤ A.length -> OfA N A N L .nil
theorem p_Of : T (z_normal_Of N A) fun r => OfA N A r.1 r.2.1 r.2.2 := by
 unfold z_normal_Of
 refine T_bindr _ p_gCheck fun er hc => ?_
 rw [T_ite]
 refine ⟨fun he => ?_, fun he => by simp only [T_some]; exact .bad er hc he⟩
 subst he
 obtain ⟨n0, n1, n2⟩ := hc.small
 refine T_bindr (fun c => c = A.filter noLp) ?_ ?_
 ·refine T_loop (fun z => 0 ≤ z.1 /\ z.1 ≤ (A.length : Int) /\ z.2 = (A.take z.1.toNat).filter noLp) (fun z => ((A.length : Int) - z.1).toNat) ?_ ⟨by simp, by simp, by simp⟩
  rintro ⟨i, c⟩ ⟨i0, i1, e⟩
  dsimp only at *
  subst e
  unfold z_normal_Of_l0
  rw [T_ite]
  refine ⟨fun hlt => ?_, fun hge => ?_⟩
  rotate_left
  ·simp only [T_some, Sum.elim_inr]
   rw [List.take_of_length_le (by omega)]
  have hll := List.length_filter_le noLp (A.take i.toNat)
  have hlt2 : (A.take i.toNat).length ≤ A.length := by rw [List.length_take]; omega
  have next : (A.take (i + 1).toNat).filter noLp = (A.take i.toNat).filter noLp ++ if (gt A i).1 = (gt A i).2.1 then [] else [gt A i] := by
   rw [take_gtE i0 hlt, List.filter_append]
   congr 1
   by_cases h : (gt A i).1 = (gt A i).2.1 <;> simp [List.filter, noLp, h]
  simp only [T_G, T_ite, T_some, Sum.elim_inl]
  refine ⟨i0, fun h => ⟨by omega, ⟨by omega, by omega, ?_⟩, by omega⟩, fun h => ⟨by omega, by omega, ⟨by omega, by omega, ?_⟩, by omega⟩⟩
  ·rw [next, if_pos h, List.append_nil]
  ·rw [next, if_neg h]
 ·rintro _ rfl
  have hll := List.length_filter_le noLp A
  rw [T_G, p_sort, Option.bind_some]
  refine ⟨by omega, ?_⟩
  have hp := sortL_perm ord3 (A.filter noLp)
  have hlen := hp.length_eq
  refine T_bindr _ (p_Compact (by omega)) fun r hr => ?_
  simp only [T_some]
  rw [hr]
  refine .ok _ hc (nrm_of rfl hp (sort_rise _)) ?_
  have := cpt_len (sortL ord3 (A.filter noLp)) (sortL ord3 (A.filter noLp)).length
  omega
end Go.Vd

/-! (PrPu) -/


/-! (PrGo) -/

set_option linter.unusedVariables false
set_option linter.unusedSectionVars false
set_option linter.unusedSimpArgs false
namespace Go.Vd
variable {N : Int} {A L : List A3}
theorem p_gDocOf : T (z_viaductref04_DocOf N A) fun r => ∃ er, OfA N A r.1 r.2.1 er /\ r.2.2.1 = er.code /\ r.2.2.2 = er.pls := by
 unfold z_viaductref04_DocOf
 refine T_bindr _ p_gDocCheck ?_
 rintro _ ⟨er, hc, rfl⟩
 dsimp only
 rw [p_Bad, Option.bind_some, T_ite]
 refine ⟨fun h => ?_, fun h => ?_⟩
 ·simp only [T_some]
  exact ⟨er, .bad er hc (hc.bad.1 (by simpa using h)), rfl, rfl⟩
 ·have he : er = .nil := Classical.byContradiction fun k => h (by simpa using hc.bad.2 k)
  subst he
  refine T_bindr _ (p_rOf hc.small.2.2) ?_
  rintro ⟨n, c⟩ ⟨e, h1, h2⟩
  dsimp only at *
  subst e
  simp only [T_some]
  exact ⟨.nil, .ok c hc h1 h2, rfl, rfl⟩
end Go.Vd

/-! (OvD) -/

set_option linter.unusedVariables false
set_option linter.unusedSimpArgs false
namespace Go.Vd
variable {nodes nodes' : List Nod} {alive arcs : Int} {A : List Bool} {L : List OAr} {u v w wt via : Int}
def liveB (A : List Bool) (v : Int) : Prop := 0 ≤ v /\ v < (A.length : Int) /\ gt A v = true
instance : Decidable (liveB A v) := by unfold liveB; infer_instance
theorem KD.uniq (h : KD L) {a b : OAr} (ha : a ∈ L) (hb : b ∈ L) (e1 : a.1 = b.1) (e2 : a.2.1 = b.2.1) : a = b := by
 obtain ⟨i, hi, rfl⟩ := List.mem_iff_getElem.1 ha
 obtain ⟨j, hj, rfl⟩ := List.mem_iff_getElem.1 hb
 rcases Nat.lt_trichotomy i j with q | q | q
 ·exact absurd ⟨e1, e2⟩ (List.pairwise_iff_getElem.1 h i j hi hj q)
 ·subst q; rfl
 ·exact absurd ⟨e1.symm, e2.symm⟩ (List.pairwise_iff_getElem.1 h j i hj hi q)
theorem OvR.outB (h : OvR nodes alive arcs A L) (v : Int) : ∀ x ∈ outL L v, 0 ≤ x.1 /\ x.1 < 65536 := fun x hx => by
 have := h.en _ ((mem_outL h.kd).1 hx)
 have hs := h.sm
 dsimp only at this
 omega
theorem OvR.inB (h : OvR nodes alive arcs A L) (v : Int) : ∀ x ∈ inL L v, 0 ≤ x.1 /\ x.1 < 65536 := fun x hx => by
 have := h.en _ ((mem_inL h.kd).1 hx)
 have hs := h.sm
 dsimp only at this
 omega
theorem OvR.outLen (h : OvR nodes alive arcs A L) (v : Int) : (outL L v).length ≤ 1000000 := Nat.le_trans (outL_le h.kd v) h.lb
theorem OvR.inLen (h : OvR nodes alive arcs A L) (v : Int) : (inL L v).length ≤ 1000000 := Nat.le_trans (inL_le h.kd v) h.lb
theorem OvR.out0 (h : OvR nodes alive arcs A L) (hv : ¬ liveB A v) : outL L v = [] := by
 refine List.eq_nil_iff_forall_not_mem.2 fun x hx => hv ?_
 obtain ⟨a1, a2, a3, a4, a5, _⟩ := h.en _ ((mem_outL h.kd).1 hx)
 exact ⟨a1, a2, a5⟩
theorem p_Alive (h : OvR nodes alive arcs A L) {a b v : Int} : z_overlay_Overlay_Alive nodes a b v = some (decide (liveB A v)) := by
 unfold z_overlay_Overlay_Alive liveB
 have hl := h.ln
 by_cases h0 : v ≥ 0
 ·rw [if_pos h0]
  by_cases h1 : v < (nodes.length : Int)
  ·rw [if_pos h1]
   unfold G
   rw [if_pos h0, h.nd v h0 (by omega)]
   have : v < (A.length : Int) := by omega
   show some (!(!gt A v)) = _
   rw [Bool.not_not]
   congr 1
   have h0' : 0 ≤ v := h0
   rw [Bool.eq_iff_iff]; simp [h0', this]
  ·rw [if_neg h1]
   have : ¬ v < (A.length : Int) := by omega
   simp [this]
 ·rw [if_neg h0]
  have : ¬ 0 ≤ v := h0
  simp [this]
def Wt (L : List OAr) (u w x : Int) (b : Bool) : Prop := (b = true /\ ∃ a ∈ L, a.1 = u /\ a.2.1 = w /\ a.2.2.1 = x) ∨ (b = false /\ x = 0 /\ ∀ a ∈ L, ¬ (a.1 = u /\ a.2.1 = w))
theorem p_Weight (h : OvR nodes alive arcs A L) {a b : Int} (w0 : -9223372036854775808 ≤ w) (w1 : w ≤ 9223372036854775807) : T (z_overlay_Overlay_Weight nodes a b u w) fun r => Wt L u w r.1 r.2 := by
 unfold z_overlay_Overlay_Weight
 rw [p_Alive h, Option.bind_some]
 by_cases hu : liveB A u
 ·rw [decide_eq_true hu, if_neg (by decide)]
  have hl := h.ln
  simp only [T_G]
  refine ⟨⟨hu.1, by have := hu.2.1; omega⟩, ?_⟩
  have hn := h.nd u hu.1 hu.2.1
  rw [hn]
  dsimp only
  refine T_bindr _ (p_find (outL_ris L u) (h.outB u) (h.outLen u) w0 w1) ?_
  rintro ⟨p, f⟩ hf
  dsimp only at *
  rw [T_ite]
  refine ⟨fun hb => ?_, fun hb => ?_⟩
  ·have hb' : f = false := by simpa using hb
   simp only [T_some]
   refine .inr ⟨rfl, rfl, fun x hx hk => ?_⟩
   have : x.2 ∈ outL L u := (mem_outL h.kd).2 (by rw [← hk.1]; exact hx)
   exact hf.no hb' _ this hk.2
  ·have hb' : f = true := by simpa using hb
   obtain ⟨q1, q2⟩ := hf.yes hb'
   simp only [T_G, T_some]
   refine ⟨⟨hf.p0, q1⟩, .inl ⟨rfl, _, (mem_outL h.kd).1 (gt_memO hf.p0 q1), rfl, q2, rfl⟩⟩
 ·rw [decide_eq_false hu, if_pos (by decide)]
  simp only [T_some]
  refine .inr ⟨rfl, rfl, fun x hx hk => hu ?_⟩
  obtain ⟨a1, a2, a3, a4, a5, _⟩ := h.en x hx
  rw [hk.1] at a1 a2 a5
  exact ⟨a1, a2, a5⟩
theorem p_cloneO {l : List Hf} (hl : l.length ≤ 1000000) : z_slices_Clone l = some l := by
 unfold z_slices_Clone G
 rw [if_pos (by simp; omega)]; simp
theorem p_Out (h : OvR nodes alive arcs A L) {a b : Int} : z_overlay_Overlay_Out nodes a b v = some (outL L v) := by
 unfold z_overlay_Overlay_Out
 rw [p_Alive h, Option.bind_some]
 by_cases hu : liveB A v
 ·have hl := h.ln
  have hn := h.nd v hu.1 hu.2.1
  rw [decide_eq_true hu, if_neg (by decide), hn]
  unfold G
  dsimp only
  rw [if_pos ⟨hu.1, by have := hu.2.1; omega⟩, p_cloneO (h.outLen v)]; rfl
 ·rw [decide_eq_false hu, if_pos (by decide), h.out0 hu]
def putNo (A : List Bool) (u w wt via : Int) : Int :=
 if ¬ (liveB A u /\ liveB A w) then 7 else if u = w then 1 else if wt > 140737488355328 then 8 else if via < -1 ∨ (A.length : Int) ≤ via ∨ (0 ≤ via /\ liveB A via) then 1 else 0
inductive PutR (nodes : List Nod) (alive arcs : Int) (A : List Bool) (L : List OAr) (u w wt via : Int) : Bool × Er × List Nod × Int -> Prop
 | bad : putNo A u w wt via ≠ 0 -> PutR nodes alive arcs A L u w wt via (false, .no (putNo A u w wt via), nodes, arcs)
 | less (a : OAr) : putNo A u w wt via = 0 -> a ∈ L -> a.1 = u -> a.2.1 = w -> a.2.2.1 ≤ wt -> PutR nodes alive arcs A L u w wt via (false, .nil, nodes, arcs)
 | put (nodes' : List Nod) (arcs' : Int) : putNo A u w wt via = 0 -> (∀ a ∈ L, a.1 = u -> a.2.1 = w -> wt < a.2.2.1) -> OvR nodes' alive arcs' A (putA L (u, w, wt, via)) -> PutR nodes alive arcs A L u w wt via (true, .nil, nodes', arcs')
theorem p_oPut (h : OvR nodes alive arcs A L) (hb : L.length < 1000000) (w0 : -9223372036854775808 ≤ w) (w1 : w ≤ 9223372036854775807) (t0 : 0 ≤ wt) : T (z_overlay_Overlay_Put nodes alive arcs u w wt via) (PutR nodes alive arcs A L u w wt via) := by
 unfold z_overlay_Overlay_Put
 rw [p_Alive h, Option.bind_some]
 have e1 : ((if decide (liveB A u) = true then ((z_overlay_Overlay_Alive nodes alive arcs w).bind fun y32 => some (!y32)) else (some true)) : Option Bool) = some (decide (¬ (liveB A u /\ liveB A w))) := by
  by_cases hu : liveB A u
  ·rw [decide_eq_true hu, if_pos rfl, p_Alive h, Option.bind_some]
   by_cases hw : liveB A w <;> simp [hu, hw]
  ·rw [decide_eq_false hu, if_neg (by decide)]; simp [hu]
 rw [e1, Option.bind_some]
 by_cases hl : ¬ (liveB A u /\ liveB A w)
 ·rw [if_pos (decide_eq_true hl)]
  simp only [T_some]
  have : putNo A u w wt via = 7 := if_pos hl
  exact this ▸ .bad (by rw [this]; decide)
 rw [if_neg (by simpa using hl)]
 have hl' : liveB A u /\ liveB A w := Classical.not_not.1 hl
 obtain ⟨hu, hw⟩ := hl'
 by_cases huw : u = w
 ·rw [if_pos huw]
  simp only [T_some]
  have : putNo A u w wt via = 1 := (if_neg hl).trans (if_pos huw)
  exact this ▸ .bad (by rw [this]; decide)
 rw [if_neg huw]
 by_cases hwt : wt > 140737488355328
 ·rw [if_pos hwt]
  simp only [T_some]
  have : putNo A u w wt via = 8 := (if_neg hl).trans ((if_neg huw).trans (if_pos hwt))
  exact this ▸ .bad (by rw [this]; decide)
 rw [if_neg hwt]
 have hln := h.ln
 have e2 : ((if via < (-1) then (some true) else (if via ≥ (nodes.length : Int) then (some true) else (if via ≥ 0 then (G (0 ≤ via /\ via < (nodes.length : Int)) (some (!(gt nodes via).1))) else (some false))) : Option Bool)) = some (decide (via < -1 ∨ (A.length : Int) ≤ via ∨ (0 ≤ via /\ liveB A via))) := by
  by_cases q1 : via < -1
  ·rw [if_pos q1]; simp [q1]
  rw [if_neg q1]
  by_cases q2 : via ≥ (nodes.length : Int)
  ·rw [if_pos q2]
   have q2' : (A.length : Int) ≤ via := by omega
   simp [q2']
  rw [if_neg q2]
  by_cases q3 : via ≥ 0
  ·rw [if_pos q3]
   unfold G
   have q2' : via < (A.length : Int) := by omega
   have q3' : 0 ≤ via := q3
   rw [if_pos ⟨q3, by omega⟩, h.nd via q3 q2']
   show some (!(!gt A via)) = _
   have q4 : ¬ (A.length : Int) ≤ via := by omega
   rw [Bool.not_not]
   congr 1
   rw [Bool.eq_iff_iff]; simp [liveB, q1, q4, q3', q2']
  ·rw [if_neg q3]
   have q3' : ¬ 0 ≤ via := q3
   have q4 : ¬ (A.length : Int) ≤ via := by omega
   simp [q1, q4, q3']
 rw [e2, Option.bind_some]
 by_cases hv : via < -1 ∨ (A.length : Int) ≤ via ∨ (0 ≤ via /\ liveB A via)
 ·rw [if_pos (decide_eq_true hv)]
  simp only [T_some]
  have : putNo A u w wt via = 1 := (if_neg hl).trans ((if_neg huw).trans ((if_neg hwt).trans (if_pos hv)))
  exact this ▸ .bad (by rw [this]; decide)
 rw [if_neg (by simpa using hv)]
 have hc : putNo A u w wt via = 0 := (if_neg hl).trans ((if_neg huw).trans ((if_neg hwt).trans (if_neg hv)))
 refine T_bindr _ (p_Weight h w0 w1) ?_
 rintro ⟨x, b⟩ hW
 dsimp only at *
 -- the two lists
 have hu1 := hu.2.1
 have hw1 := hw.2.1
 have hsm := h.sm
 have nu := h.nd u hu.1 hu1
 have nw := h.nd w hw.1 hw1
 have l1 := p_laid (l := (gt nodes u).2.1) (v := w) (wt := wt) (via := via) (by rw [nu]; exact outL_ris L u) (by rw [nu]; exact h.outB u) (by rw [nu]; exact h.outLen u) hw.1 (by omega)
 have l2 := p_laid (l := (gt nodes w).2.2) (v := u) (wt := wt) (via := via) (by rw [nw]; exact inL_ris L w) (by rw [nw]; exact h.inB w) (by rw [nw]; exact h.inLen w) hu.1 (by omega)
 have fin : ∀ ar' : Int, (ar' = if (∃ x ∈ L, x.1 = u /\ x.2.1 = w) then arcs else arcs + 1) -> (∀ a ∈ L, a.1 = u -> a.2.1 = w -> wt < a.2.2.1) ->
   T (G (0 ≤ u /\ u < (nodes.length : Int)) (((z_overlay_laid ((gt nodes u).2.1) w wt via).bind fun y148 => G (0 ≤ w /\ w < ((nodes.set u.toNat ((gt nodes u).1, y148, (gt nodes u).2.2)).length : Int)) (((z_overlay_laid ((gt (nodes.set u.toNat ((gt nodes u).1, y148, (gt nodes u).2.2)) w).2.2) u wt via).bind fun y192 => some (true, Er.nil, ((nodes.set u.toNat ((gt nodes u).1, y148, (gt nodes u).2.2)).set w.toNat ((gt (nodes.set u.toNat ((gt nodes u).1, y148, (gt nodes u).2.2)) w).1, (gt (nodes.set u.toNat ((gt nodes u).1, y148, (gt nodes u).2.2)) w).2.1, y192)), ar')))))) (PutR nodes alive arcs A L u w wt via) := by
  intro ar' har hless
  rw [l1, Option.bind_some]
  simp only [T_G, List.length_set]
  refine ⟨⟨hu.1, by omega⟩, ⟨hw.1, by omega⟩, ?_⟩
  rw [gt_setE hu.1 (by omega) hw.1, if_neg (Ne.symm huw), l2, Option.bind_some]
  simp only [T_some]
  refine .put _ _ hc hless ?_
  rw [har]
  refine h.put hu.1 hu1 hw.1 hw1 hu.2.2 hw.2.2 huw t0 (by omega) (by omega) (by omega) hb (by simp) fun x x0 x1 => ?_
  rw [gt_setE hw.1 (by rw [List.length_set]; omega) x0, gt_setE hu.1 (by omega) x0]
  by_cases q : x = w
  ·rw [if_pos q, if_pos q, if_neg (by omega), q]
  ·rw [if_neg q, if_neg q]
   by_cases q2 : x = u
   ·rw [if_pos q2, if_pos q2, q2]
   ·rw [if_neg q2, if_neg q2]
 rcases hW with ⟨rfl, a, a1, a2, a3, a4⟩ | ⟨rfl, rfl, hn⟩
 ·rw [if_pos rfl, Option.bind_some]
  by_cases hle : x ≤ wt
  ·rw [if_pos (decide_eq_true hle)]
   simp only [T_some]
   exact .less a hc a1 a2 a3 (by rw [a4]; exact hle)
  ·rw [if_neg (by simpa using hle)]
   dsimp only
   rw [if_neg (by decide), Option.bind_some]
   refine fin arcs (by rw [if_pos ⟨a, a1, a2, a3⟩]) fun b hb e1 e2 => ?_
   have := h.kd.uniq hb a1 (e1.trans a2.symm) (e2.trans a3.symm)
   rw [this, a4]; omega
 ·rw [if_neg (by decide), Option.bind_some, if_neg (by decide)]
  dsimp only
  rw [if_pos (by decide)]
  have hlb := h.lb
  have har := h.ar
  unfold G
  rw [if_pos (by omega), Option.bind_some]
  exact fin (arcs + 1) (by rw [if_neg (by rintro ⟨a, a1, a2, a3⟩; exact hn a a1 ⟨a2, a3⟩)]) fun b hb e1 e2 => absurd ⟨e1, e2⟩ (hn b hb)
end Go.Vd

/-! (WtC) -/

set_option linter.unusedVariables false
set_option linter.unusedSimpArgs false
set_option maxHeartbeats 1000000
namespace Go.Vd
variable {nodes : List Nod} {alive arcs : Int} {A : List Bool} {M : List OAr} {u v skip hops most settles c N : Int} {q : List (Int × Int)} {L : Lab} {ss : List Int}
def rowW (M : List OAr) (skip v : Int) : List (Int × Int) := ((outL M v).filter fun h => decide (h.1 ≠ skip)).map fun h => (h.1, h.2.1)
theorem OvR.rowOk (h : OvR nodes alive arcs A M) : RowOk (rowW M skip) A.length := fun v x hx => by
 unfold rowW at hx
 obtain ⟨y, hy, rfl⟩ := List.mem_map.1 hx
 have hm := (List.mem_filter.1 hy).1
 have := h.en _ ((mem_outL h.kd).1 hm)
 dsimp only at *
 omega
theorem OvR.rowLen (h : OvR nodes alive arcs A M) (v : Int) : (rowW M skip v).length ≤ 1000000 := by
 unfold rowW
 rw [List.length_map]
 exact Nat.le_trans (List.length_filter_le _ _) (h.outLen v)
structure QI (L : Lab) (q : List (Int × Int)) (k : Int -> Prop) : Prop where
 ord : Hq q
 inn : ∀ v y, L v = some y -> y.2.2 = 0 -> ¬ k v -> (y.1, v) ∈ q
 out : ∀ e ∈ q, ∃ y, L e.2 = some y /\ y.1 ≤ e.1
theorem gt_mem0 {q : List (Int × Int)} {p : Int} (p0 : 0 ≤ p) (p1 : p < (q.length : Int)) : gt q p ∈ q := by
 unfold gt
 rw [List.getD_eq_getElem?_getD, List.getElem?_eq_getElem (by omega)]
 exact List.getElem_mem _
theorem mem_gt0 {q : List (Int × Int)} {x : Int × Int} (h : x ∈ q) : ∃ p, 0 ≤ p /\ p < (q.length : Int) /\ gt q p = x := by
 obtain ⟨i, hi, e⟩ := List.getElem_of_mem h
 refine ⟨i, by omega, by omega, ?_⟩
 unfold gt
 rw [List.getD_eq_getElem?_getD, Int.toNat_natCast, List.getElem?_eq_getElem hi]; exact e
inductive NxR (L : Lab) (q : List (Int × Int)) : Int × Int × Int × Int × Bool × List (Int × Int) -> Prop
 | no : WNo L -> NxR L q (0, 0, 0, 0, false, [])
 | ok (v : Int) (y : Int × Int × Int) (q' : List (Int × Int)) : WPick L v y -> QI L q' (fun x => x = v) -> q'.length < q.length -> NxR L q (v, y.1, y.2.1, y.2.2, true, q')
theorem p_next {a : List Nd3} {b1 b2 b3 b4 : Int} (hq : QI L q fun _ => False) (hl : q.length ≤ 100000000000) : T (z_witness_seek_next a b1 b2 b3 b4 q L) (NxR L q) := by
 unfold z_witness_seek_next
 refine T_binds (fun r => r = [] /\ WNo L) ?_ ?_
 ·refine T_loop (fun z => QI L z (fun _ => False) /\ z.length ≤ q.length) (fun z => z.length) ?_ ⟨hq, Nat.le_refl _⟩
  rintro s ⟨Q, hs⟩
  unfold z_witness_seek_next_l0
  rw [T_ite]
  refine ⟨fun h0 => ?_, fun h0 => ?_⟩
  ·refine T_bindr _ (p_hPop Q.ord (by omega) h0) ?_
   rintro ⟨d, v, _, q'⟩ ⟨e, hp, ho⟩
   dsimp only at *
   have hlen := hp.length_eq
   rw [List.length_cons] at hlen
   have hm : (d, v) ∈ s := by rw [e]; exact gt_mem0 (by omega) h0
   obtain ⟨y, hy, hle⟩ := Q.out _ hm
   dsimp only at hy hle
   rw [hy]
   dsimp only [Option.getD_some]
   have out' : ∀ x ∈ q', ∃ y, L x.2 = some y /\ y.1 ≤ x.1 := fun x hx => Q.out x (hp.mem_iff.1 (List.mem_cons_of_mem _ hx))
   have least : ∀ x ∈ s, ¬ Less x (d, v) := fun x hx => by
    obtain ⟨p, p0, p1, rfl⟩ := mem_gt0 hx
    rw [e]
    exact Ord2.top Q.ord p p0 p1
   have stale : ¬ (y.2.2 = 0 /\ y.1 = d) -> QI L q' fun _ => False := fun hn => ⟨ho, fun w z hz z0 _ => by
    have := Q.inn w z hz z0 (fun h => h)
    rw [← hp.mem_iff] at this
    rcases List.mem_cons.1 this with h | h
    ·rw [← e] at h
     cases h
     rw [hy] at hz; cases hz
     exact absurd ⟨z0, rfl⟩ hn
    ·exact h, out'⟩
   rw [T_ite]
   refine ⟨fun h1 => ?_, fun h1 => ?_⟩
   ·rw [T_ite]
    refine ⟨fun h2 => ?_, fun h2 => ?_⟩
    ·simp only [T_map, T_some, Sum.elim_inr, Sum.elim_inl]
     have hpick : WPick L v y := by
      refine ⟨hy, h1, fun w z hz z0 => ?_⟩
      have := least _ (Q.inn w z hz z0 (fun h => h))
      unfold Less at this
      dsimp only at this
      omega
     exact .ok v y q' hpick ⟨ho, fun w z hz z0 hw => by
      have := Q.inn w z hz z0 (fun h => h)
      rw [← hp.mem_iff] at this
      rcases List.mem_cons.1 this with h | h
      ·rw [← e] at h; cases h; exact absurd rfl hw
      ·exact h, out'⟩ (by omega)
    ·simp only [T_some, Sum.elim_inl]
     exact ⟨⟨stale fun k => h2 k.2, by omega⟩, by omega⟩
   ·simp only [T_some, Sum.elim_inl]
    exact ⟨⟨stale fun k => h1 k.1, by omega⟩, by omega⟩
  ·simp only [T_some, Sum.elim_inr]
   have : s = [] := List.eq_nil_of_length_eq_zero (by omega)
   subst this
   exact ⟨rfl, fun x z hz z0 => by have := Q.inn x z hz z0 (fun h => h); cases this⟩
 ·rintro _ ⟨rfl, hn⟩
  simp only [T_some]
  exact .no hn
theorem p_set {a : List Nd3} {b1 b2 b3 b4 d hp : Int} {k : Int -> Prop} (hq : QI L q k) (hl : q.length ≤ 100000000000) (hopn : opn L v d) : T (z_witness_seek_set a b1 b2 b3 b4 q L v d hp 0) fun r => r.1 = lup L v (d, hp, 0) /\ QI r.1 r.2 k /\ r.2.length = q.length + 1 := by
 unfold z_witness_seek_set
 refine T_bindr _ (p_hPush hq.ord hl) ?_
 rintro r ⟨h1, h2⟩
 simp only [T_some]
 refine ⟨rfl, ⟨h2, fun w z hz z0 hw => ?_, fun e he => ?_⟩, by rw [h1.length_eq, List.length_cons]⟩
 ·rw [h1.mem_iff]
  by_cases e : w = v
  ·subst e
   rw [if_pos rfl] at hz; cases hz
   simp
  ·rw [if_neg e] at hz
   exact List.mem_cons_of_mem _ (hq.inn w z hz z0 hw)
 ·rw [h1.mem_iff] at he
  rcases List.mem_cons.1 he with rfl | he
  ·exact ⟨(d, hp, 0), if_pos rfl, Int.le_refl _⟩
  ·obtain ⟨y, hy, hle⟩ := hq.out e he
   by_cases ev : e.2 = v
   ·refine ⟨(d, hp, 0), if_pos ev, ?_⟩
    unfold opn at hopn
    rw [← ev, hy] at hopn
    dsimp only at hopn ⊢
    omega
   ·exact ⟨y, by rw [if_neg ev]; exact hy, hle⟩
theorem p_settleW (h : OvR nodes alive arcs A M) {y : Int × Int × Int} (hW : WI A.length c L ss) (c0 : 0 ≤ c) (c1 : c < 65536) (hp : WPick L v y) (hq : QI L q fun x => x = v) (hl : q.length ≤ 10000000000 + 1000000 * c.toNat) :
  T (z_witness_seek_settle nodes alive arcs skip hops q L v y.1 y.2.1 y.2.2) fun r => r.1 = wset (rowW M skip) hops L v y /\ QI r.1 r.2 (fun _ => False) /\ r.2.length ≤ 10000000000 + 1000000 * (c.toNat + 1) := by
 unfold z_witness_seek_settle
 have hv := hW.val v y hp.1
 have hW1 := hW.settle hp.1 hp.2.1
 have e1 : (fun x => if x = v then some (y.1, y.2.1, (1 : Int)) else L x) = lup L v (y.1, y.2.1, 1) := rfl
 rw [e1]
 have Q1 : QI (lup L v (y.1, y.2.1, 1)) q fun _ => False := by
  refine ⟨hq.ord, fun w z hz z0 _ => ?_, fun e he => ?_⟩
  ·unfold lup at hz
   by_cases ew : w = v
   ·rw [if_pos ew] at hz; cases hz; cases z0
   ·rw [if_neg ew] at hz; exact hq.inn w z hz z0 ew
  ·obtain ⟨z, hz, hle⟩ := hq.out e he
   unfold lup
   by_cases ew : e.2 = v
   ·rw [if_pos ew]
    rw [ew, hp.1] at hz; cases hz
    exact ⟨_, rfl, hle⟩
   ·rw [if_neg ew]; exact ⟨z, hz, hle⟩
 rw [T_ite]
 refine ⟨fun hh => ?_, fun hh => ?_⟩
 ·simp only [T_some]
  refine ⟨by unfold wset; rw [if_pos hh], Q1, by omega⟩
 rw [p_Out h, Option.bind_some]
 have hmul : c * 140737488355328 ≤ 65535 * 140737488355328 := Int.mul_le_mul_of_nonneg_right (by omega) (by omega)
 have hol := h.outLen v
 refine T_bindr (fun r => r.1 = (rowW M skip v).foldl (wrel y.1 y.2.1) (lup L v (y.1, y.2.1, 1)) /\ QI r.1 r.2 (fun _ => False) /\ r.2.length ≤ 10000000000 + 1000000 * (c.toNat + 1)) ?_ ?_
 rotate_left
 ·rintro ⟨r1, r2⟩ ⟨e, k1, k2⟩
  simp only [T_some]
  exact ⟨by unfold wset; rw [if_neg hh]; exact e, k1, k2⟩
 refine T_loop (fun z => 0 ≤ z.2.2 /\ z.2.2 ≤ ((outL M v).length : Int) /\ z.2.1 = ((((outL M v).take z.2.2.toNat).filter fun h => decide (h.1 ≠ skip)).map fun h => (h.1, h.2.1)).foldl (wrel y.1 y.2.1) (lup L v (y.1, y.2.1, 1)) /\ QI z.2.1 z.1 (fun _ => False) /\ (z.1.length : Int) ≤ 10000000000 + 1000000 * c + z.2.2) (fun z => (((outL M v).length : Int) - z.2.2).toNat) ?_ ⟨by simp, by simp, rfl, Q1, by simp; omega⟩
 rintro ⟨s, l, i⟩ ⟨i0, i1, e, Q, hs⟩
 dsimp only at *
 unfold z_witness_seek_settle_l0
 rw [T_ite]
 refine ⟨fun hi => ?_, fun hi => ?_⟩
 rotate_left
 ·simp only [T_some, Sum.elim_inr]
  rw [List.take_of_length_le (by omega)] at e
  exact ⟨e, Q, by omega⟩
 have hm : gt (outL M v) i ∈ outL M v := by
  unfold gt
  rw [List.getD_eq_getElem?_getD, List.getElem?_eq_getElem (by omega)]
  exact List.getElem_mem _
 have hen := h.en _ ((mem_outL h.kd).1 hm)
 have htk := take_gtE i0 hi
 generalize gt (outL M v) i = a at *
 obtain ⟨x, w, via⟩ := a
 dsimp only at *
 simp only [T_G]
 refine ⟨i0, by omega, by omega, ?_⟩
 have hnext : ∀ l', l' = (if x = skip then l else wrel y.1 y.2.1 l (x, w)) -> l' = ((((outL M v).take (i + 1).toNat).filter fun h => decide (h.1 ≠ skip)).map fun h => (h.1, h.2.1)).foldl (wrel y.1 y.2.1) (lup L v (y.1, y.2.1, 1)) := by
  rintro _ rfl
  rw [htk, List.filter_append, List.map_append, List.foldl_append, ← e]
  by_cases es : x = skip
  ·rw [if_pos es, List.filter_cons, if_neg (by simp [es])]; rfl
  ·rw [if_neg es, List.filter_cons, if_pos (by simp [es])]; rfl
 refine T_bindr (fun o => o = decide (x = skip ∨ ¬ opn l x (y.1 + w))) ?_ ?_
 ·by_cases es : x = skip
  ·rw [if_pos es]; simp [es]
  rw [if_neg es]
  have hval : ∀ z, l x = some z -> z.2.2 = 0 ∨ z.2.2 = 1 := fun z hz => by
   have hI : WI A.length (c + 1) l (v :: ss) := by
    rw [e]
    refine WI.fold (by omega) (by omega) (by omega) (by omega) (hW1.mono (by omega)) fun a ha => ?_
    obtain ⟨b, hb, rfl⟩ := List.mem_map.1 ha
    have hb' := List.mem_of_mem_take (List.mem_filter.1 hb).1
    have := h.en _ ((mem_outL h.kd).1 hb')
    dsimp only at *
    omega
   exact (hI.val x z hz).2.2.2.2
  cases hz : l x with
  | none =>
   have ho : opn l x (y.1 + w) := by unfold opn; rw [hz]; trivial
   simp [es, ho]
  | some z =>
   have := hval z hz
   have ho : opn l x (y.1 + w) ↔ z.2.2 = 0 /\ y.1 + w < z.1 := by unfold opn; rw [hz]
   dsimp only [Option.getD_some]
   by_cases z0 : z.2.2 > 0
   ·rw [if_pos z0]
    have h1 : ¬ opn l x (y.1 + w) := fun k => by have := (ho.1 k).1; omega
    simp [h1]
   ·rw [if_neg z0, if_pos (show (some z).isSome = true from rfl)]
    have h0 : z.2.2 = 0 := by omega
    by_cases hd : z.1 ≤ y.1 + w
    ·have h1 : ¬ opn l x (y.1 + w) := fun k => by have := (ho.1 k).2; omega
     simp [h1, hd]
    ·have h1 : opn l x (y.1 + w) := ho.2 ⟨h0, by omega⟩
     simp [h1, hd, es]
 rintro _ rfl
 rw [T_ite]
 refine ⟨fun hk => ?_, fun hk => ?_⟩
 ·have hk' := of_decide_eq_true hk
  simp only [T_G, T_some, Sum.elim_inl]
  refine ⟨by omega, ⟨by omega, by omega, hnext _ ?_, Q, by omega⟩, by omega⟩
  rcases hk' with hk' | hk'
  ·rw [if_pos hk']
  ·unfold wrel; rw [if_neg hk']; split <;> rfl
 ·have hk' : ¬ x = skip /\ opn l x (y.1 + w) := by
   have : ¬ (x = skip ∨ ¬ opn l x (y.1 + w)) := fun k => hk (decide_eq_true k)
   exact ⟨fun k => this (.inl k), Classical.not_not.1 fun k => this (.inr k)⟩
  refine T_bindr _ (p_set (hp := y.2.1 + 1) Q (by omega) hk'.2) ?_
  rintro ⟨r1, r2⟩ ⟨k1, k2, k3⟩
  dsimp only at *
  simp only [T_G, T_some, Sum.elim_inl]
  refine ⟨by omega, ⟨by omega, by omega, hnext _ ?_, k2, by omega⟩, by omega⟩
  rw [if_neg hk'.1, k1]
  unfold wrel; rw [if_pos hk'.2]
theorem p_run (h : OvR nodes alive arcs A M) (u0 : 0 ≤ u) (u1 : u < (A.length : Int)) (hset : settles ≤ 9223372036854775807) :
  T (z_witness_seek_run nodes alive arcs skip hops [] (fun _ => none) u most settles) fun r => WR (rowW M skip) hops settles most 0 (lab0 u) r.1 := by
 have hsm := h.sm
 unfold z_witness_seek_run
 refine T_bindr _ (p_set (k := fun _ => False) (hp := 0) (d := 0) (v := u) (L := fun _ => none) (q := []) ⟨fun p p0 p1 => by simp at p1; omega, fun w z hz => (by cases hz), fun e he => (by cases he)⟩ (by simp) (by unfold opn; trivial)) ?_
 rintro ⟨l0, q0⟩ ⟨e0, Q0, hl0⟩
 dsimp only at *
 subst e0
 refine T_binds (fun r => WR (rowW M skip) hops settles most 0 (lab0 u) r.1) ?_ fun r hr => by simpa using hr
 refine T_loop (fun z => 0 ≤ z.2.2 /\ QI z.2.1 z.1 (fun _ => False) /\ (∃ ss, WI A.length z.2.2 z.2.1 ss /\ (ss.length : Int) = z.2.2) /\ z.1.length ≤ 10000000000 + 1000000 * z.2.2.toNat /\ ∀ Lf, WR (rowW M skip) hops settles most z.2.2 z.2.1 Lf -> WR (rowW M skip) hops settles most 0 (lab0 u) Lf) (fun z => ((A.length : Int) - z.2.2).toNat) ?_ ⟨by simp, Q0, ⟨[], WI.zero u0 u1, rfl⟩, by rw [hl0]; simp, fun _ k => k⟩
 rintro ⟨q, L, c⟩ ⟨c0, Q, ⟨ss, hW, hss⟩, hl, K⟩
 dsimp only at *
 have hcn := hW.len (by omega)
 unfold z_witness_seek_run_l0
 rw [T_ite]
 refine ⟨fun hlt => ?_, fun hge => ?_⟩
 rotate_left
 ·simp only [T_some, Sum.elim_inr]
  exact K _ (.full _ _ (by omega))
 have hlt' : c < settles := by omega
 refine T_bindr _ (p_next Q (by omega)) ?_
 intro r hr
 cases hr with
 | no hn =>
  dsimp only
  rw [if_pos (by decide), Option.bind_some, if_pos rfl]
  simp only [T_map, T_some, Sum.elim_inr, Sum.elim_inl]
  exact K _ (.none _ _ hlt' hn)
 | ok v y q' hp Q' hq' =>
  dsimp only
  rw [if_neg (by decide), Option.bind_some]
  by_cases hm : y.1 > most
  ·rw [decide_eq_true hm, if_pos rfl]
   simp only [T_map, T_some, Sum.elim_inr, Sum.elim_inl]
   exact K _ (.far _ _ v y hlt' hp hm)
  ·rw [decide_eq_false hm, if_neg (by decide)]
   have hWn := hW.set (hops := hops) (h.rowOk (skip := skip)) hp
   have hcn2 := hWn.len (by omega)
   rw [List.length_cons] at hcn2
   refine T_bindr _ (p_settleW (skip := skip) (hops := hops) h hW c0 (by omega) hp Q' (by omega)) ?_
   rintro ⟨r1, r2⟩ ⟨k1, k2, k3⟩
   dsimp only at *
   subst k1
   simp only [T_G, T_some, Sum.elim_inl]
   exact ⟨by omega, ⟨by omega, k2, ⟨_, hWn, by simp; omega⟩, by omega, fun Lf hL => K _ (.go _ _ v y _ hlt' hp hm hL)⟩, by omega⟩
end Go.Vd

/-! (WtD) -/

set_option linter.unusedVariables false
set_option linter.unusedSimpArgs false
set_option maxHeartbeats 1000000
namespace Go.Vd
variable {nodes : List Nod} {alive arcs : Int} {A : List Bool} {M : List OAr} {u v skip hops most settles c N : Int} {goals : List Int}
def far (L : Lab) (w : Int) : Int := if (L w).isSome = true then ((L w).getD (0, 0, 0)).1 else 18446744073709551615
inductive FdW (A : List Bool) (M : List OAr) (u skip : Int) (goals : List Int) (most hops settles : Int) : List Int × Er -> Prop
 | bad : ¬ liveB A u -> FdW A M u skip goals most hops settles ([], .no 7)
 | goal (i : Int) : liveB A u -> 0 ≤ i -> i < (goals.length : Int) -> ¬ liveB A (gt goals i) -> (∀ j, 0 ≤ j -> j < i -> liveB A (gt goals j)) -> FdW A M u skip goals most hops settles ([], .at 3 i (.no 7))
 | ok (Lf : Lab) : liveB A u -> (∀ j, 0 ≤ j -> j < (goals.length : Int) -> liveB A (gt goals j)) -> WR (rowW M skip) hops settles most 0 (lab0 u) Lf -> FdW A M u skip goals most hops settles (goals.map (far Lf), .nil)
theorem take_gtW {E : Type} [Inhabited E] {l : List E} {i : Int} (i0 : 0 ≤ i) (i1 : i < (l.length : Int)) : l.take (i + 1).toNat = l.take i.toNat ++ [gt l i] := by
 rw [show (i + 1).toNat = i.toNat + 1 from by omega, List.take_add_one]
 have : l[i.toNat]?.toList = [gt l i] := by
  unfold gt
  rw [List.getD_eq_getElem?_getD, List.getElem?_eq_getElem (by omega)]; rfl
 rw [this]
theorem p_Find (h : OvR nodes alive arcs A M) (hg : goals.length ≤ 10000000000000) (hset : settles ≤ 9223372036854775807) : T (z_witness_Find nodes alive arcs u skip goals most hops settles) (FdW A M u skip goals most hops settles) := by
 unfold z_witness_Find
 rw [p_Alive h, Option.bind_some]
 by_cases hu : liveB A u
 rotate_left
 ·rw [decide_eq_false hu, if_pos (by decide)]
  simp only [T_some]
  exact .bad hu
 rw [decide_eq_true hu, if_neg (by decide)]
 refine T_binds (fun _ => ∀ j, 0 ≤ j -> j < (goals.length : Int) -> liveB A (gt goals j)) ?_ ?_
 ·refine T_loop (fun i => 0 ≤ i /\ i ≤ (goals.length : Int) /\ ∀ j, 0 ≤ j -> j < i -> liveB A (gt goals j)) (fun i => ((goals.length : Int) - i).toNat) ?_ ⟨by simp, by simp, fun j j0 j1 => by omega⟩
  rintro i ⟨i0, i1, hi⟩
  unfold z_witness_Find_l0
  rw [T_ite]
  refine ⟨fun hlt => ?_, fun hge => ?_⟩
  ·rw [T_G]
   refine ⟨i0, ?_⟩
   rw [p_Alive h, Option.bind_some]
   by_cases hw : liveB A (gt goals i)
   ·rw [decide_eq_true hw, if_neg (by decide)]
    simp only [T_G, T_some, Sum.elim_inl]
    refine ⟨by omega, ⟨by omega, by omega, fun j j0 j1 => ?_⟩, by omega⟩
    by_cases e : j = i
    ·rw [e]; exact hw
    ·exact hi j j0 (by omega)
   ·rw [decide_eq_false hw, if_pos (by decide)]
    unfold z_fault_At
    rw [if_neg (by decide)]
    simp only [T_bind, T_map, T_some, Option.bind_some, Sum.elim_inr, Sum.elim_inl]
    exact .goal i hu i0 hlt hw hi
  ·simp only [T_some, Sum.elim_inr]
   exact fun j j0 j1 => hi j j0 (by omega)
 intro _ hgl
 refine T_bindr _ (p_run (skip := skip) (hops := hops) (most := most) (settles := settles) h hu.1 hu.2.1 hset) ?_
 rintro ⟨Lf, q⟩ hR
 dsimp only at hR
 refine T_bindr (fun l => l = goals.map (far Lf)) ?_ fun l e => by simp only [T_some]; rw [e]; exact .ok Lf hu hgl hR
 refine T_loop (fun z => 0 ≤ z.2 /\ z.2 ≤ (goals.length : Int) /\ z.1 = (goals.take z.2.toNat).map (far Lf)) (fun z => ((goals.length : Int) - z.2).toNat) ?_ ⟨by simp, by simp, by simp⟩
 rintro ⟨l, i⟩ ⟨i0, i1, e⟩
 dsimp only at *
 have hl : l.length ≤ goals.length := by rw [e, List.length_map, List.length_take]; omega
 unfold z_witness_Find_l1
 rw [T_ite]
 refine ⟨fun hlt => ?_, fun hge => ?_⟩
 ·have hs := take_gtW i0 hlt
  rw [T_G]
  refine ⟨i0, ?_⟩
  by_cases hx : (Lf (gt goals i)).isSome = true
  ·rw [if_pos hx]
   simp only [T_G, T_some, Sum.elim_inl, List.length_cons, List.length_nil]
   refine ⟨by omega, by omega, ⟨by omega, by omega, ?_⟩, by omega⟩
   rw [hs, List.map_append, e]
   unfold far
   simp [hx]
  ·rw [if_neg hx]
   simp only [T_G, T_some, Sum.elim_inl]
   refine ⟨by omega, by omega, ⟨by omega, by omega, ?_⟩, by omega⟩
   rw [hs, List.map_append, e]
   unfold far
   simp [hx]
 ·simp only [T_some, Sum.elim_inr]
  rw [e, List.take_of_length_le (by omega)]
end Go.Vd

/-! (PrTw) -/

set_option linter.unusedVariables false
set_option linter.unusedSimpArgs false
namespace Go.Vd
theorem p_TwinIntsW {l : List Int} (h : l.length ≤ 17592186043904) : z_viaductref02_TwinInts l = some l := by
 refine T_eq.1 ?_
 unfold z_viaductref02_TwinInts
 rw [T_bind]
 refine T_mono (Q := fun r => r = l) ?_ fun r e => by simpa using e
 refine T_loop (fun s => 0 ≤ s.2 /\ s.2 ≤ (l.length : Int) /\ s.1 = l.take s.2.toNat) (fun s => ((l.length : Int) - s.2).toNat) ?_ (by simp)
 rintro ⟨m, i⟩ ⟨h0, h1, h2⟩
 dsimp only at h0 h1 h2 ⊢
 subst h2
 simp only [z_viaductref02_TwinInts_l0, T_ite, T_G, T_some, Sum.elim_inl, Sum.elim_inr, List.length_take]
 refine ⟨fun hi => ⟨h0, by omega, by omega, ⟨by omega, by omega, (take_gtW h0 hi).symm⟩, by omega⟩, fun hi => List.take_of_length_le (by omega)⟩
end Go.Vd

/-! (OvE) -/

set_option linter.unusedVariables false
set_option linter.unusedSimpArgs false
set_option maxHeartbeats 1000000
namespace Go.Vd
variable {nodes nodes' : List Nod} {alive arcs : Int} {A : List Bool} {L : List OAr} {u v w wt via : Int}
inductive RemR (nodes : List Nod) (alive arcs : Int) (A : List Bool) (L : List OAr) (v : Int) : Er × List Nod × Int × Int -> Prop
 | bad : ¬ liveB A v -> RemR nodes alive arcs A L v (.no 7, nodes, alive, arcs)
 | ok (nodes' : List Nod) : liveB A v -> OvR nodes' (alive - 1) (arcs - (((outL L v).length : Int) + (inL L v).length)) (A.set v.toNat false) (remA L v) ->
   RemR nodes alive arcs A L v (.nil, nodes', alive - 1, arcs - (((outL L v).length : Int) + (inL L v).length))
theorem p_rem0 (h : OvR nodes alive arcs A L) (hv : liveB A v) : T (loopO (fun zz_ => z_overlay_Overlay_Remove_l0 nodes v zz_.1 zz_.2) (nodes, 0)) fun o =>
  o.length = nodes.length /\ ∀ x, 0 ≤ x -> x < (nodes.length : Int) -> gt o x = ((gt nodes x).1, (gt nodes x).2.1, delR v (gt nodes x).2.2) ∨ (x = v /\ gt o x = gt nodes x) := by
 have hln := h.ln
 have hsm := h.sm
 have hv1 := hv.2.1
 have nv := h.nd v hv.1 hv.2.1
 have eo : (gt nodes v).2.1 = outL L v := by rw [nv]
 have hol := h.outLen v
 refine T_loop (fun z => z.1.length = nodes.length /\ 0 ≤ z.2 /\ z.2 ≤ ((outL L v).length : Int) /\ ∀ x, 0 ≤ x -> x < (nodes.length : Int) -> (gt z.1 x).1 = (gt nodes x).1 /\ (gt z.1 x).2.1 = (gt nodes x).2.1 /\
   ((∃ k, 0 ≤ k /\ k < z.2 /\ (gt (outL L v) k).1 = x) -> (gt z.1 x).2.2 = delR v (gt nodes x).2.2) /\ ((∀ k, 0 ≤ k -> k < z.2 -> (gt (outL L v) k).1 ≠ x) -> (gt z.1 x).2.2 = (gt nodes x).2.2)) (fun z => (((outL L v).length : Int) - z.2).toNat) ?_
  ⟨rfl, by simp, by simp, fun x _ _ => ⟨rfl, rfl, fun ⟨k, k0, k1, _⟩ => by dsimp only at k1; omega, fun _ => rfl⟩⟩
 rintro ⟨o, i⟩ ⟨ol, i0, i1, ho⟩
 dsimp only at *
 unfold z_overlay_Overlay_Remove_l0
 rw [eo, T_ite]
 refine ⟨fun hlt => ?_, fun hge => ?_⟩
 ·have hm := gt_memO i0 hlt
  obtain ⟨a1, a2, a3, a4, a5, a6, a7, _⟩ := h.en _ ((mem_outL h.kd).1 hm)
  dsimp only at *
  obtain ⟨q1, q2, q3, q4⟩ := ho _ a3 (by omega)
  have nx := h.nd _ a3 a4
  have hnv : ∀ k, 0 ≤ k -> k < i -> (gt (outL L v) k).1 ≠ (gt (outL L v) i).1 := fun k k0 k1 => by have := (outL_ris L v).gt k0 k1 hlt; omega
  have e2 := q4 hnv
  have hwo := p_without (l := (gt o (gt (outL L v) i).1).2.2) (v := v) (by rw [e2, nx]; exact inL_ris L _) (by rw [e2, nx]; exact h.inB _) (by rw [e2, nx]; exact h.inLen _) hv.1 (by omega)
  simp only [T_G]
  refine ⟨i0, ⟨a3, by omega⟩, fun e => a7 e.symm, ?_⟩
  rw [hwo, Option.bind_some]
  simp only [T_G, T_some, Sum.elim_inl]
  refine ⟨by omega, ⟨by simpa using ol, by omega, by omega, fun x x0 x1 => ?_⟩, by omega⟩
  rw [gt_setE a3 (by omega) x0]
  by_cases e : x = (gt (outL L v) i).1
  ·rw [if_pos e, e]
   refine ⟨q1, q2, fun _ => by rw [e2], fun hn => absurd rfl (hn i i0 (by omega))⟩
  ·rw [if_neg e]
   obtain ⟨r1, r2, r3, r4⟩ := ho x x0 x1
   refine ⟨r1, r2, fun ⟨k, k0, k1, ke⟩ => r3 ⟨k, k0, ?_, ke⟩, fun hn => r4 fun k k0 k1 => hn k k0 (by omega)⟩
   by_cases q : k = i
   ·rw [q] at ke; exact absurd ke.symm e
   ·omega
 ·simp only [T_some, Sum.elim_inr]
  refine ⟨ol, fun x x0 x1 => ?_⟩
  obtain ⟨r1, r2, r3, r4⟩ := ho x x0 x1
  by_cases hk : ∃ k, 0 ≤ k /\ k < i /\ (gt (outL L v) k).1 = x
  ·exact .inl (Prod.ext r1 (Prod.ext r2 (r3 hk)))
  ·have e := r4 fun k k0 k1 ke => hk ⟨k, k0, k1, ke⟩
   refine .inl (Prod.ext r1 (Prod.ext r2 (e.trans ?_)))
   rw [h.nd x x0 (by omega)]
   refine (delR_none fun y hy hyv => hk ?_).symm
   have hm := (mem_inL h.kd).1 hy
   rw [hyv] at hm
   obtain ⟨k, k0, k1, ke⟩ := mem_gtE ((mem_outL h.kd).2 hm)
   exact ⟨k, k0, by omega, by rw [← ke]⟩
theorem p_rem1 (h : OvR nodes alive arcs A L) (hv : liveB A v) {o1 : List Nod} (l1 : o1.length = nodes.length) (h1 : ∀ x, 0 ≤ x -> x < (nodes.length : Int) -> (gt o1 x).2.1 = (gt nodes x).2.1) : T (loopO (fun zz_ => z_overlay_Overlay_Remove_l1 nodes v zz_.1 zz_.2) (o1, 0)) fun o =>
  o.length = nodes.length /\ ∀ x, 0 ≤ x -> x < (nodes.length : Int) -> gt o x = ((gt o1 x).1, delR v (gt nodes x).2.1, (gt o1 x).2.2) := by
 have hln := h.ln
 have hsm := h.sm
 have hv1 := hv.2.1
 have nv := h.nd v hv.1 hv.2.1
 have eo : (gt nodes v).2.2 = inL L v := by rw [nv]
 have hol := h.inLen v
 refine T_loop (fun z => z.1.length = nodes.length /\ 0 ≤ z.2 /\ z.2 ≤ ((inL L v).length : Int) /\ ∀ x, 0 ≤ x -> x < (nodes.length : Int) -> (gt z.1 x).1 = (gt o1 x).1 /\ (gt z.1 x).2.2 = (gt o1 x).2.2 /\
   ((∃ k, 0 ≤ k /\ k < z.2 /\ (gt (inL L v) k).1 = x) -> (gt z.1 x).2.1 = delR v (gt nodes x).2.1) /\ ((∀ k, 0 ≤ k -> k < z.2 -> (gt (inL L v) k).1 ≠ x) -> (gt z.1 x).2.1 = (gt nodes x).2.1)) (fun z => (((inL L v).length : Int) - z.2).toNat) ?_
  ⟨l1, by simp, by simp, fun x x0 x1 => ⟨rfl, rfl, fun ⟨k, k0, k1, _⟩ => by dsimp only at k1; omega, fun _ => h1 x x0 x1⟩⟩
 rintro ⟨o, i⟩ ⟨ol, i0, i1, ho⟩
 dsimp only at *
 unfold z_overlay_Overlay_Remove_l1
 rw [eo, T_ite]
 refine ⟨fun hlt => ?_, fun hge => ?_⟩
 ·have hm := gt_memO i0 hlt
  obtain ⟨a1, a2, a3, a4, a5, a6, a7, _⟩ := h.en _ ((mem_inL h.kd).1 hm)
  dsimp only at *
  obtain ⟨q1, q2, q3, q4⟩ := ho _ a1 (by omega)
  have nx := h.nd _ a1 a2
  have hnv : ∀ k, 0 ≤ k -> k < i -> (gt (inL L v) k).1 ≠ (gt (inL L v) i).1 := fun k k0 k1 => by have := (inL_ris L v).gt k0 k1 hlt; omega
  have e2 := q4 hnv
  have hwo := p_without (l := (gt o (gt (inL L v) i).1).2.1) (v := v) (by rw [e2, nx]; exact outL_ris L _) (by rw [e2, nx]; exact h.outB _) (by rw [e2, nx]; exact h.outLen _) hv.1 (by omega)
  simp only [T_G]
  refine ⟨i0, ⟨a1, by omega⟩, a7, ?_⟩
  rw [hwo, Option.bind_some]
  simp only [T_G, T_some, Sum.elim_inl]
  refine ⟨by omega, ⟨by simpa using ol, by omega, by omega, fun x x0 x1 => ?_⟩, by omega⟩
  rw [gt_setE a1 (by omega) x0]
  by_cases e : x = (gt (inL L v) i).1
  ·rw [if_pos e, e]
   refine ⟨q1, q2, fun _ => by rw [e2], fun hn => absurd rfl (hn i i0 (by omega))⟩
  ·rw [if_neg e]
   obtain ⟨r1, r2, r3, r4⟩ := ho x x0 x1
   refine ⟨r1, r2, fun ⟨k, k0, k1, ke⟩ => r3 ⟨k, k0, ?_, ke⟩, fun hn => r4 fun k k0 k1 => hn k k0 (by omega)⟩
   by_cases q : k = i
   ·rw [q] at ke; exact absurd ke.symm e
   ·omega
 ·simp only [T_some, Sum.elim_inr]
  refine ⟨ol, fun x x0 x1 => ?_⟩
  obtain ⟨r1, r2, r3, r4⟩ := ho x x0 x1
  by_cases hk : ∃ k, 0 ≤ k /\ k < i /\ (gt (inL L v) k).1 = x
  ·exact Prod.ext r1 (Prod.ext (r3 hk) r2)
  ·have e := r4 fun k k0 k1 ke => hk ⟨k, k0, k1, ke⟩
   refine Prod.ext r1 (Prod.ext (e.trans ?_) r2)
   rw [h.nd x x0 (by omega)]
   refine (delR_none fun y hy hyv => hk ?_).symm
   have hm := (mem_outL h.kd).1 hy
   have hm' : (x, v, y.2) ∈ L := by rw [← hyv]; exact hm
   obtain ⟨k, k0, k1, ke⟩ := mem_gtE ((mem_inL (x := (x, y.2)) h.kd).2 hm')
   exact ⟨k, k0, by omega, by rw [← ke]⟩
theorem p_Remove (h : OvR nodes alive arcs A L) : T (z_overlay_Overlay_Remove nodes alive arcs v) (RemR nodes alive arcs A L v) := by
 unfold z_overlay_Overlay_Remove
 rw [p_Alive h, Option.bind_some]
 by_cases hv : liveB A v
 ·rw [decide_eq_true hv, if_neg (by decide)]
  have hln := h.ln
  have hv1 := hv.2.1
  have nv := h.nd v hv.1 hv1
  have hsm := h.sm
  have har := h.ar
  have hal := h.al
  have hlb := h.lb
  have ho := h.outLen v
  have hi := h.inLen v
  have hfl : (A.filter id).length ≤ A.length := List.length_filter_le _ _
  simp only [T_G]
  refine ⟨⟨hv.1, by omega⟩, ?_⟩
  refine T_bindr _ (p_rem0 h hv) ?_
  rintro o1 ⟨l1, e1⟩
  refine T_bindr _ (p_rem1 h hv l1 fun x x0 x1 => ?_) ?_
  ·rcases e1 x x0 x1 with e | ⟨_, e⟩ <;> rw [e]
  rintro o2 ⟨l2, e2⟩
  have x1 : (gt nodes v).2.1 = outL L v := by rw [nv]
  have x2 : (gt nodes v).2.2 = inL L v := by rw [nv]
  rw [x1, x2]
  simp only [T_G, T_some]
  refine ⟨by omega, by omega, by omega, by omega, .ok _ hv (h.rem hv.1 hv1 hv.2.2 (by rw [List.length_set, l2]) fun x x0 x1 => ?_)⟩
  rw [gt_setE hv.1 (by omega) x0]
  by_cases q : x = v
  ·rw [if_pos q, if_pos q]
  ·rw [if_neg q, if_neg q, e2 x x0 (by omega)]
   rcases e1 x x0 (by omega) with e | ⟨e, _⟩
   ·rw [e]
   ·exact absurd e q
 ·rw [decide_eq_false hv, if_pos (by decide)]
  simp only [T_some]
  exact .bad hv
inductive NewR (N : Int) (Arcs : List A3) : Er ⊕ (List Nod × Int × Int) -> Prop
 | bad (er : Er) : GChk N Arcs er -> er ≠ .nil -> NewR N Arcs (.inl er)
 | ok (M : List A3) (nodes : List Nod) : GChk N Arcs .nil -> Nrm Arcs M -> M.length ≤ Arcs.length -> OvR nodes N (M.length : Int) (List.replicate N.toNat true) (M.map up4) -> NewR N Arcs (.inr (nodes, N, (M.length : Int)))
theorem gt_repO {n : Nat} {x : Int} (x0 : 0 ≤ x) (x1 : x < (n : Int)) {E : Type} [Inhabited E] {e : E} : gt (List.replicate n e) x = e := by
 unfold gt
 rw [List.getD_eq_getElem?_getD, List.getElem?_replicate, if_pos (by omega)]; rfl
theorem p_New {N : Int} {Arcs : List A3} : T (z_overlay_New N Arcs) (NewR N Arcs) := by
 unfold z_overlay_New
 refine T_bindr _ p_Of ?_
 rintro ⟨n, M, er⟩ hO
 dsimp only at *
 cases hO with
 | bad _ hc hne => rw [if_neg hne]; simp only [T_some]; exact .bad er hc hne
 | ok _ hc hM hMl =>
  rw [if_pos rfl]
  obtain ⟨n0, n1, n2⟩ := hc.small
  have hb : ∀ a ∈ M, 0 ≤ a.1 /\ a.1 < N /\ 0 ≤ a.2.1 /\ a.2.1 < N /\ 0 ≤ a.2.2 /\ a.2.2 ≤ 2147483647 /\ a.1 ≠ a.2.1 := fun a ha => by
   obtain ⟨s1, s2, _⟩ := hM.sub a ha
   have := hc.arcs a s1
   omega
  simp only [T_G]
  refine ⟨by omega, ?_⟩
  have hinc : ∀ i j : Int, 0 ≤ i -> i < j -> j < (M.length : Int) -> ltk (gt M i) (gt M j) := fun i j i0 ij j1 => by
   have := List.pairwise_iff_getElem.1 hM.inc i.toNat j.toNat (by omega) (by omega) (by omega)
   have e : ∀ {n : Int}, 0 ≤ n -> (h : n < (M.length : Int)) -> gt M n = M[n.toNat]'(by omega) := fun {n} q0 q1 => by
    unfold gt
    rw [List.getD_eq_getElem?_getD, List.getElem?_eq_getElem (by omega)]; rfl
   rw [e i0 (by omega), e (by omega) j1]; exact this
  refine T_bindr (fun o => o.length = N.toNat /\ ∀ x, 0 ≤ x -> x < N -> gt o x = (false, outL (M.map up4) x, inL (M.map up4) x)) ?_ ?_
  ·refine T_loop (fun z => 0 ≤ z.1 /\ z.1 ≤ (M.length : Int) /\ z.2.length = N.toNat /\ ∀ x, 0 ≤ x -> x < N -> gt z.2 x = (false, outL ((M.take z.1.toNat).map up4) x, inL ((M.take z.1.toNat).map up4) x)) (fun z => ((M.length : Int) - z.1).toNat) ?_
    ⟨by simp, by simp, by simp, fun x x0 x1 => by rw [gt_repO x0 (by omega)]; rfl⟩
   rintro ⟨i, o⟩ ⟨i0, i1, ol, ho⟩
   dsimp only at *
   unfold z_overlay_New_l0
   dsimp only
   rw [T_ite]
   refine ⟨fun hlt => ?_, fun hge => ?_⟩
   ·have hm : gt M i ∈ M := by
     unfold gt
     rw [List.getD_eq_getElem?_getD, List.getElem?_eq_getElem (by omega)]
     exact List.getElem_mem _
    obtain ⟨b1, b2, b3, b4, b5, b6, b7⟩ := hb _ hm
    have hkd : KD ((M.take i.toNat).map up4) := KD.up (hM.inc.sublist (List.take_sublist _ _))
    have lt1 : (outL ((M.take i.toNat).map up4) (gt M i).1).length ≤ 262144 := by
     have := outL_le hkd (gt M i).1
     rw [List.length_map, List.length_take] at this; omega
    have lt2 : (inL ((M.take i.toNat).map up4) (gt M i).2.1).length ≤ 262144 := by
     have := inL_le hkd (gt M i).2.1
     rw [List.length_map, List.length_take] at this; omega
    have hprev : ∀ a ∈ (M.take i.toNat).map up4, a.1 < (gt M i).1 ∨ (a.1 = (gt M i).1 /\ a.2.1 < (gt M i).2.1) := fun a ha => by
     obtain ⟨b, hb, rfl⟩ := List.mem_map.1 ha
     obtain ⟨j, j0, j1, rfl⟩ := mem_take_gt (l := M) i1 hb
     exact hinc j i j0 j1 hlt
    have eu := ho (gt M i).1 b1 b2
    have ew := ho (gt M i).2.1 b3 b4
    have hs : ∀ (z : Nod), gt (o.set ((gt M i).1).toNat z) (gt M i).2.1 = gt o (gt M i).2.1 := fun z => by rw [gt_setE b1 (by omega) b3, if_neg (fun e => b7 e.symm)]
    simp only [T_G, T_some, Sum.elim_inl, List.length_set, hs, eu, ew]
    refine ⟨i0, ⟨b1, by omega⟩, ⟨b5, by omega⟩, by omega, ⟨b3, by omega⟩, by omega, by omega, by omega, ⟨by omega, by omega, by simpa using ol, fun x x0 x1 => ?_⟩, by omega⟩
    have hnext : (M.take (i + 1).toNat).map up4 = (M.take i.toNat).map up4 ++ [up4 (gt M i)] := by rw [take_gtE i0 hlt, List.map_append]; rfl
    rw [hnext, outL_snoc, inL_snoc, gt_setE b3 (by rw [List.length_set]; omega) x0, gt_setE b1 (by omega) x0, ho x x0 x1]
    show _ = (false, (if x = (gt M i).1 then insR ((gt M i).2.1, (gt M i).2.2, -1) _ else _), (if x = (gt M i).2.1 then insR ((gt M i).1, (gt M i).2.2, -1) _ else _))
    by_cases q : x = (gt M i).2.1
    ·have q2 : ¬ x = (gt M i).1 := fun e => b7 (e.symm.trans q)
     rw [if_pos q, if_neg q2, if_pos q, ← q]
     rw [insR_end fun y hy => ?_]
     have := hprev _ ((mem_inL hkd).1 hy)
     dsimp only at this ⊢
     omega
    ·rw [if_neg q, if_neg q]
     by_cases q2 : x = (gt M i).1
     ·rw [if_pos q2, if_pos q2, ← q2]
      rw [insR_end fun y hy => ?_]
      have := hprev _ ((mem_outL hkd).1 hy)
      dsimp only at this ⊢
      omega
     ·rw [if_neg q2, if_neg q2]
   ·simp only [T_some, Sum.elim_inr]
    refine ⟨ol, fun x x0 x1 => ?_⟩
    rw [ho x x0 x1, List.take_of_length_le (by omega)]
  ·rintro o ⟨ol, ho⟩
   simp only [T_some]
   refine .ok M o hc hM hMl ⟨by rw [ol, List.length_replicate], by rw [List.length_replicate]; omega, KD.up hM.inc, fun a ha => ?_, fun x x0 x1 => ?_, ?_, by rw [List.length_map], by rw [List.length_map]; omega⟩
   ·obtain ⟨b, hb', rfl⟩ := List.mem_map.1 ha
    obtain ⟨b1, b2, b3, b4, b5, b6, b7⟩ := hb b hb'
    have hl : ((List.replicate N.toNat true).length : Int) = N := by rw [List.length_replicate]; omega
    rw [hl]
    show 0 ≤ b.1 /\ b.1 < N /\ 0 ≤ b.2.1 /\ b.2.1 < N /\ gt _ b.1 = true /\ gt _ b.2.1 = true /\ b.1 ≠ b.2.1 /\ 0 ≤ b.2.2 /\ b.2.2 ≤ _ /\ -1 ≤ (-1 : Int) /\ (-1 : Int) < N
    exact ⟨b1, b2, b3, b4, gt_repO b1 (by omega), gt_repO b3 (by omega), b7, b5, by omega, by omega, by omega⟩
   ·rw [List.length_replicate] at x1
    rw [ho x x0 (by omega), gt_repO x0 (by omega)]; rfl
   ·rw [List.filter_eq_self.2 fun x hx => by rw [(List.mem_replicate.1 hx).2]; rfl, List.length_replicate]; omega
end Go.Vd

/-! (OvO) -/

set_option linter.unusedVariables false
set_option linter.unusedSimpArgs false
set_option maxHeartbeats 1000000
namespace Go.Vd
variable {l : List Hf} {L : List OAr} {B : List Bool} {v wt via N : Int} {A M : List A3}
theorem p_rPut (hr : Ris l) (hn : ∀ x ∈ l, x.1 ≠ v) (hl : l.length ≤ 1000000) : z_viaductref11_put l v wt via = some (insR (v, wt, via) l) := by
 refine T_eq.1 ?_
 unfold z_viaductref11_put
 refine T_bindr (fun p => 0 ≤ p /\ p ≤ (l.length : Int) /\ (∀ j, 0 ≤ j -> j < p -> (gt l j).1 < v) /\ (p < (l.length : Int) -> ¬ (gt l p).1 < v)) ?_ ?_
 ·refine T_loop (fun i => 0 ≤ i /\ i ≤ (l.length : Int) /\ ∀ j, 0 ≤ j -> j < i -> (gt l j).1 < v) (fun i => ((l.length : Int) - i).toNat) ?_ ⟨by simp, by simp, fun j j0 j1 => by omega⟩
  rintro i ⟨i0, i1, h⟩
  unfold z_viaductref11_put_l0
  simp only [T_ite, T_G, T_some, Sum.elim_inl, Sum.elim_inr]
  refine ⟨fun hlt => ⟨i0, fun hc => ⟨by omega, ⟨by omega, by omega, fun j j0 j1 => ?_⟩, by omega⟩, fun hc => ⟨i0, i1, h, fun _ => hc⟩⟩, fun hge => ⟨i0, i1, h, fun h => absurd h hge⟩⟩
  by_cases q : j = i
  ·rw [q]; exact hc
  ·exact h j j0 (by omega)
 ·rintro p ⟨p0, p1, h1, h2⟩
  have e : insR (v, wt, via) l = l.take p.toNat ++ ([(v, wt, via)] ++ l.drop p.toNat) := by
   conv => lhs; rw [show l = l.take p.toNat ++ ([] ++ l.drop p.toNat) by simp]
   refine insR_split (fun x hx => ?_) (fun x hx => by cases hx) (fun x hx => ?_)
   ·obtain ⟨j, j0, j1, rfl⟩ := mem_take_gt p1 hx
    exact h1 j j0 j1
   ·obtain ⟨j, j0, j1, rfl⟩ := mem_drop_gt p0 hx
    have a := h2 (by omega)
    have b := hn _ (gt_memO (i := j) (by omega) j1)
    show v < (gt l j).1
    by_cases q : j = p
    ·rw [q] at b ⊢; omega
    ·have := hr.gt p0 (show p < j by omega) j1; omega
  rw [e]
  have t1 : (l.take p.toNat).length ≤ l.length := by rw [List.length_take]; omega
  have t2 : (l.drop p.toNat).length ≤ l.length := by rw [List.length_drop]; omega
  simp only [T_G, T_some, List.nil_append, List.drop_zero, List.take_length, List.length_append, List.length_cons, List.length_nil]
  refine ⟨⟨p0, p1⟩, by omega, by omega, by omega, by simp⟩
theorem p_rOut (h : KD L) (hl : L.length ≤ 1000000) : z_viaductref11_Out B L v = some (outL L v) := by
 refine T_eq.1 ?_
 unfold z_viaductref11_Out
 refine T_bindr (fun o => o = outL L v) ?_ fun o e => by simp only [T_some]; exact e
 refine T_loop (fun z => 0 ≤ z.1 /\ z.1 ≤ (L.length : Int) /\ z.2 = outL (L.take z.1.toNat) v) (fun z => ((L.length : Int) - z.1).toNat) ?_ ⟨by simp, by simp, rfl⟩
 rintro ⟨i, o⟩ ⟨i0, i1, e⟩
 dsimp only at *
 subst e
 unfold z_viaductref11_Out_l0
 rw [T_ite]
 refine ⟨fun hlt => ?_, fun hge => by simp only [T_some, Sum.elim_inr]; rw [List.take_of_length_le (by omega)]⟩
 have hs := take_gtE i0 hlt
 have hk1 : KD (L.take i.toNat) := List.Pairwise.sublist (List.take_sublist _ _) h
 have hk2 : KD (L.take (i + 1).toNat) := List.Pairwise.sublist (List.take_sublist _ _) h
 have hlen := outL_le hk1 v
 have hlen2 : (L.take i.toNat).length ≤ L.length := by rw [List.length_take]; omega
 rw [hs] at hk2
 have hsn := outL_snoc (L.take i.toNat) (gt L i) v
 rw [← hs] at hsn
 have hno := (List.pairwise_append.1 hk2).2.2
 rw [T_G, T_ite]
 refine ⟨i0, fun hv => ?_, fun hv => ?_⟩
 ·rw [p_rPut (outL_ris _ _) (fun x hx hxe => hno _ ((mem_outL hk1).1 hx) _ (List.mem_singleton.2 rfl) ⟨hv.symm, hxe⟩) (by omega), Option.bind_some]
  simp only [T_G, T_some, Sum.elim_inl]
  exact ⟨by omega, ⟨by omega, by omega, by rw [hsn, if_pos hv.symm]⟩, by omega⟩
 ·simp only [T_G, T_some, Sum.elim_inl]
  exact ⟨by omega, ⟨by omega, by omega, by rw [hsn, if_neg (fun e => hv e.symm)]⟩, by omega⟩
end Go.Vd

/-! (OvF) -/

set_option linter.unusedVariables false
set_option linter.unusedSimpArgs false
set_option maxHeartbeats 1000000
namespace Go.Vd
variable {l : List Hf} {L : List OAr} {B : List Bool} {v wt via N : Int} {A M : List A3}
theorem p_rNew (n0 : 0 ≤ N) (n1 : N ≤ 65536) (hM : M.length ≤ 262144) (hw : ∀ a ∈ M, 0 ≤ a.2.2 /\ a.2.2 ≤ 2147483647) : z_viaductref11_New N M = some (List.replicate N.toNat true, M.map up4) := by
 refine T_eq.1 ?_
 unfold z_viaductref11_New
 rw [T_G]
 refine ⟨by omega, ?_⟩
 refine T_bindr (fun o => o = List.replicate N.toNat true) ?_ ?_
 ·refine T_loop (fun z => 0 ≤ z.1 /\ z.1 ≤ N /\ z.2.length = N.toNat /\ ∀ j, 0 ≤ j -> j < z.1 -> gt z.2 j = true) (fun z => (N - z.1).toNat) ?_ ⟨by simp, by simp; exact n0, by simp, fun j j0 j1 => by dsimp only at j1; omega⟩
  rintro ⟨i, o⟩ ⟨i0, i1, ol, h⟩
  dsimp only at *
  unfold z_viaductref11_New_l0
  rw [List.length_replicate, T_ite]
  refine ⟨fun hlt => ?_, fun hge => ?_⟩
  ·simp only [T_G, T_some, Sum.elim_inl]
   refine ⟨⟨i0, by omega⟩, by omega, ⟨by omega, by omega, by simpa using ol, fun j j0 j1 => ?_⟩, by omega⟩
   rw [gt_setE i0 (by omega) j0]
   by_cases q : j = i
   ·rw [if_pos q]
   ·rw [if_neg q]; exact h j j0 (by omega)
  ·simp only [T_some, Sum.elim_inr]
   refine list_gtE (by rw [ol, List.length_replicate]) fun j j0 j1 => ?_
   rw [h j j0 (by omega), gt_repO j0 (by omega)]
 ·rintro _ rfl
  refine T_bindr (fun o => o = M.map up4) ?_ fun o e => by simp only [T_some]; rw [e]
  refine T_loop (fun z => 0 ≤ z.1 /\ z.1 ≤ (M.length : Int) /\ z.2 = (M.take z.1.toNat).map up4) (fun z => ((M.length : Int) - z.1).toNat) ?_ ⟨by simp, by simp, rfl⟩
  rintro ⟨i, o⟩ ⟨i0, i1, e⟩
  dsimp only at *
  subst e
  unfold z_viaductref11_New_l1
  rw [T_ite]
  refine ⟨fun hlt => ?_, fun hge => by simp only [T_some, Sum.elim_inr]; rw [List.take_of_length_le (by omega)]⟩
  have hm : gt M i ∈ M := by
   unfold gt
   rw [List.getD_eq_getElem?_getD, List.getElem?_eq_getElem (by omega)]
   exact List.getElem_mem _
  have hb := hw _ hm
  simp only [T_G, T_some, Sum.elim_inl, List.length_map, List.length_take]
  refine ⟨i0, by omega, by omega, by omega, ⟨by omega, by omega, ?_⟩, by omega⟩
  rw [take_gtE i0 hlt, List.map_append]; rfl
theorem p_DocNew (hc : GChk N A .nil) : T (z_viaductref11_DocNew N A) fun r => ∃ M, Nrm A M /\ M.length ≤ A.length /\ r = (List.replicate N.toNat true, M.map up4, 0, []) := by
 unfold z_viaductref11_DocNew
 obtain ⟨n0, n1, n2⟩ := hc.small
 refine T_bindr _ p_gDocOf ?_
 rintro ⟨n, M, c, ps⟩ ⟨er, hO, e1, e2⟩
 dsimp only at *
 cases hO with
 | bad _ c n => exact absurd (c.uniq hc) n
 | ok _ _ hM hl =>
  subst e1; subst e2
  rw [p_Bad, Option.bind_some, if_neg (by simp [Er.code, Er.pls]), p_rNew n0 n1 (by omega) (fun a ha => by have := hc.arcs a (hM.sub a ha).1; omega), Option.bind_some]
  simp only [T_some]
  exact ⟨M, hM, hl, rfl⟩
end Go.Vd

/-! (OvG) -/

set_option linter.unusedVariables false
set_option linter.unusedSimpArgs false
set_option maxHeartbeats 1000000
namespace Go.Vd
variable {L : List OAr} {A : List Bool} {u v w wt via : Int}
theorem p_Lives : z_viaductref11_Lives A L v = some (decide (liveB A v)) := by
 unfold z_viaductref11_Lives liveB
 by_cases h0 : v ≥ 0
 ·rw [if_pos h0]
  by_cases h1 : v < (A.length : Int)
  ·rw [if_pos h1]
   unfold G
   rw [if_pos h0]
   congr 1
   have h0' : 0 ≤ v := h0
   rw [Bool.eq_iff_iff]; simp [h0', h1]
  ·rw [if_neg h1]; simp [h1]
 ·rw [if_neg h0]
  have : ¬ 0 ≤ v := h0
  simp [this]
theorem p_DocPut : z_viaductref11_DocPut A L u w wt via = some (putNo A u w wt via) := by
 unfold z_viaductref11_DocPut putNo
 rw [p_Lives, Option.bind_some]
 have e1 : ((if decide (liveB A u) = true then ((z_viaductref11_Lives A L w).bind fun y37 => some (!y37)) else (some true)) : Option Bool) = some (decide (¬ (liveB A u /\ liveB A w))) := by
  by_cases hu : liveB A u
  ·rw [decide_eq_true hu, if_pos rfl, p_Lives, Option.bind_some]
   by_cases hw : liveB A w <;> simp [hu, hw]
  ·rw [decide_eq_false hu, if_neg (by decide)]; simp [hu]
 rw [e1, Option.bind_some]
 by_cases hl : ¬ (liveB A u /\ liveB A w)
 ·rw [if_pos (decide_eq_true hl), if_pos hl]; rfl
 rw [if_neg (by simpa using hl), if_neg hl]
 by_cases huw : u = w
 ·rw [if_pos huw, if_pos huw]; rfl
 rw [if_neg huw, if_neg huw]
 by_cases hwt : wt > 140737488355328
 ·rw [if_pos hwt, if_pos hwt]; rfl
 rw [if_neg hwt, if_neg hwt]
 have e2 : ((if via = (-1) then (some false) else (if via < 0 then (some true) else (if via ≥ (A.length : Int) then (some true) else (G (0 ≤ via /\ via < (A.length : Int)) (some (gt A via)))))) : Option Bool) = some (decide (via < -1 ∨ (A.length : Int) ≤ via ∨ (0 ≤ via /\ liveB A via))) := by
  by_cases q1 : via = -1
  ·rw [if_pos q1]
   have a1 : ¬ via < -1 := by omega
   have a2 : ¬ (A.length : Int) ≤ via := by omega
   have a3 : ¬ 0 ≤ via := by omega
   simp [a1, a2, a3]
  rw [if_neg q1]
  by_cases q2 : via < 0
  ·rw [if_pos q2]
   have a1 : via < -1 := by omega
   simp [a1]
  rw [if_neg q2]
  by_cases q3 : via ≥ (A.length : Int)
  ·rw [if_pos q3]
   have a1 : (A.length : Int) ≤ via := q3
   simp [a1]
  rw [if_neg q3]
  unfold G
  rw [if_pos ⟨by omega, by omega⟩]
  congr 1
  have a1 : ¬ via < -1 := by omega
  have a2 : ¬ (A.length : Int) ≤ via := q3
  have a3 : 0 ≤ via := by omega
  have a4 : via < (A.length : Int) := by omega
  rw [Bool.eq_iff_iff]; simp [liveB, a1, a2, a3, a4]
 rw [e2, Option.bind_some]
 by_cases hv : via < -1 ∨ (A.length : Int) ≤ via ∨ (0 ≤ via /\ liveB A via)
 ·rw [if_pos (decide_eq_true hv), if_pos hv]; rfl
 ·rw [if_neg (by simpa using hv), if_neg hv]
theorem p_rPutA (hl : L.length ≤ 1000000) : T (z_viaductref11_Put A L u w wt via) fun r => ((∃ a ∈ L, a.1 = u /\ a.2.1 = w /\ a.2.2.1 ≤ wt) /\ r = (L, false)) ∨ ((∀ a ∈ L, a.1 = u -> a.2.1 = w -> wt < a.2.2.1) /\ r = (putA L (u, w, wt, via), true)) := by
 unfold z_viaductref11_Put
 refine T_binds (fun p => p = L.filter (fun x => decide (¬ (x.1 = u /\ x.2.1 = w))) /\ ∀ a ∈ L, a.1 = u -> a.2.1 = w -> wt < a.2.2.1) ?_ ?_
 ·refine T_loop (fun z => 0 ≤ z.1 /\ z.1 ≤ (L.length : Int) /\ z.2 = (L.take z.1.toNat).filter (fun x => decide (¬ (x.1 = u /\ x.2.1 = w))) /\ ∀ a ∈ L.take z.1.toNat, a.1 = u -> a.2.1 = w -> wt < a.2.2.1) (fun z => ((L.length : Int) - z.1).toNat) ?_ ⟨by simp, by simp, rfl, fun a ha => by simp at ha⟩
  rintro ⟨i, p⟩ ⟨i0, i1, e, h⟩
  dsimp only at *
  subst e
  unfold z_viaductref11_Put_l0
  rw [T_ite]
  refine ⟨fun hlt => ?_, fun hge => ?_⟩
  ·have hm : gt L i ∈ L := by
    unfold gt
    rw [List.getD_eq_getElem?_getD, List.getElem?_eq_getElem (by omega)]
    exact List.getElem_mem _
   have hs := take_gtE i0 hlt
   have hf : ((L.take i.toNat).filter (fun x => decide (¬ (x.1 = u /\ x.2.1 = w)))).length ≤ L.length := Nat.le_trans (List.length_filter_le _ _) (by rw [List.length_take]; omega)
   rw [T_G]
   refine ⟨i0, ?_⟩
   refine T_bindr (fun b => b = decide ((gt L i).1 = u /\ (gt L i).2.1 = w)) ?_ ?_
   ·by_cases q : (gt L i).1 = u <;> simp [q]
   ·rintro _ rfl
    rw [T_ite]
    refine ⟨fun hk => ?_, fun hk => ?_⟩
    ·have hk' := of_decide_eq_true hk
     rw [T_ite]
     refine ⟨fun hle => ?_, fun hle => ?_⟩
     ·simp only [T_map, T_some, Sum.elim_inr, Sum.elim_inl]
      exact .inl ⟨⟨_, hm, hk'.1, hk'.2, hle⟩, trivial⟩
     ·simp only [T_G, T_some, Sum.elim_inl]
      refine ⟨by omega, ⟨by omega, by omega, ?_, fun a ha => ?_⟩, by omega⟩
      ·rw [hs, List.filter_append, List.filter_cons, if_neg (by simp [hk'.1, hk'.2])]; simp
      ·rw [hs] at ha
       rcases List.mem_append.1 ha with ha | ha
       ·exact h a ha
       ·rw [List.mem_singleton.1 ha]; exact fun _ _ => by omega
    ·have hk' : ¬ ((gt L i).1 = u /\ (gt L i).2.1 = w) := fun e => hk (decide_eq_true e)
     simp only [T_G, T_some, Sum.elim_inl]
     refine ⟨by omega, by omega, ⟨by omega, by omega, ?_, fun a ha => ?_⟩, by omega⟩
     ·rw [hs, List.filter_append, List.filter_cons, if_pos (decide_eq_true hk')]; simp
     ·rw [hs] at ha
      rcases List.mem_append.1 ha with ha | ha
      ·exact h a ha
      ·rw [List.mem_singleton.1 ha]; exact fun e1 e2 => absurd ⟨e1, e2⟩ hk'
  ·simp only [T_some, Sum.elim_inr]
   have e : L.take i.toNat = L := List.take_of_length_le (by omega)
   rw [e] at h ⊢
   exact ⟨rfl, h⟩
 ·rintro p ⟨rfl, h⟩
  have hf : (L.filter (fun x => decide (¬ (x.1 = u /\ x.2.1 = w)))).length ≤ L.length := List.length_filter_le _ _
  simp only [T_G, T_some]
  exact ⟨by omega, .inr ⟨h, rfl⟩⟩
theorem p_rRemove (hl : L.length ≤ 1000000) (hA : A.length ≤ 65536) (hv : liveB A v) : z_viaductref11_Remove A L v = some (A.set v.toNat false, remA L v) := by
 refine T_eq.1 ?_
 unfold z_viaductref11_Remove
 have hv1 := hv.2.1
 simp only [T_G, List.nil_append]
 refine ⟨by omega, ⟨hv.1, hv1⟩, ?_⟩
 refine T_bindr (fun p => p = remA L v) ?_ fun p e => by simp only [T_some]; rw [e]
 refine T_loop (fun z => 0 ≤ z.1 /\ z.1 ≤ (L.length : Int) /\ z.2 = remA (L.take z.1.toNat) v) (fun z => ((L.length : Int) - z.1).toNat) ?_ ⟨by simp, by simp, rfl⟩
 rintro ⟨i, p⟩ ⟨i0, i1, e⟩
 dsimp only at *
 subst e
 unfold z_viaductref11_Remove_l0
 rw [T_ite]
 refine ⟨fun hlt => ?_, fun hge => by simp only [T_some, Sum.elim_inr]; rw [List.take_of_length_le (by omega)]⟩
 have hs := take_gtE i0 hlt
 have hf : (remA (L.take i.toNat) v).length ≤ L.length := Nat.le_trans (List.length_filter_le _ _) (by rw [List.length_take]; omega)
 rw [T_G]
 refine ⟨i0, ?_⟩
 refine T_bindr (fun b => b = decide ((gt L i).1 ≠ v /\ (gt L i).2.1 ≠ v)) ?_ ?_
 ·by_cases q : (gt L i).1 = v <;> simp [q]
 ·rintro _ rfl
  rw [T_ite]
  refine ⟨fun hk => ?_, fun hk => ?_⟩
  ·simp only [T_G, T_some, Sum.elim_inl]
   refine ⟨by omega, by omega, ⟨by omega, by omega, ?_⟩, by omega⟩
   rw [hs]; unfold remA
   rw [List.filter_append, List.filter_cons, if_pos hk]; rfl
  ·simp only [T_G, T_some, Sum.elim_inl]
   refine ⟨by omega, ⟨by omega, by omega, ?_⟩, by omega⟩
   rw [hs]; unfold remA
   rw [List.filter_append, List.filter_cons, if_neg hk]; simp
end Go.Vd

/-! (Ld12) -/

set_option linter.unusedVariables false
set_option linter.unusedSimpArgs false
set_option maxHeartbeats 1000000
namespace Go.Vd
variable {nodes : List Nod} {alive arcs : Int} {A : List Bool} {L : List OAr} {N : Int} {Arcs : List A3}
abbrev Stp := Int × Int × Int × Int × Int
abbrev StpOk (script : List Stp) : Prop := ∀ x ∈ script, (0 ≤ x.1 /\ x.1 ≤ 255) /\ (-9223372036854775808 ≤ x.2.1 /\ x.2.1 ≤ 9223372036854775807) /\ (-9223372036854775808 ≤ x.2.2.1 /\ x.2.2.1 ≤ 9223372036854775807) /\ (0 ≤ x.2.2.2.1 /\ x.2.2.2.1 ≤ 18446744073709551615) /\ (-9223372036854775808 ≤ x.2.2.2.2 /\ x.2.2.2.2 ≤ 9223372036854775807)
def LdR (n : Nat) (r : List Nod × Int × Int × List Bool × List OAr) : Prop := OvR r.1 r.2.1 r.2.2.1 r.2.2.2.1 r.2.2.2.2 /\ r.2.2.2.2.length ≤ 2060 /\ r.2.2.2.1.length = n
theorem p_laid1 {script : List Stp} (hs : StpOk script) (hl : (script.length : Int) ≤ 60) (h : OvR nodes alive arcs A L) (hb : L.length ≤ 2000) :
  T (loopO (fun zz_ => z_viaductlaw12_laid_l0 script zz_.1 zz_.2.1 zz_.2.2.1 zz_.2.2.2.1 zz_.2.2.2.2.1 zz_.2.2.2.2.2) (0, nodes, alive, arcs, A, L)) (LdR A.length) := by
 refine T_loop (fun z => 0 ≤ z.1 /\ z.1 ≤ (script.length : Int) /\ OvR z.2.1 z.2.2.1 z.2.2.2.1 z.2.2.2.2.1 z.2.2.2.2.2 /\ (z.2.2.2.2.2.length : Int) ≤ 2000 + z.1 /\ z.2.2.2.2.1.length = A.length) (fun z => ((script.length : Int) - z.1).toNat) ?_ ⟨by simp, by simp, h, by simp; omega, rfl⟩
 rintro ⟨i, o, al, ar, B, M⟩ ⟨i0, i1, ho, hM, hB⟩
 dsimp only at *
 clear h hb
 unfold z_viaductlaw12_laid_l0
 rw [T_ite]
 refine ⟨fun hlt => ?_, fun hge => ?_⟩
 rotate_left
 ·simp only [T_some, Sum.elim_inr]
  exact ⟨ho, by dsimp only; omega, hB⟩
 have hm : gt script i ∈ script := by
  unfold gt
  rw [List.getD_eq_getElem?_getD, List.getElem?_eq_getElem (by omega)]
  exact List.getElem_mem _
 obtain ⟨_, b1, b2, b3, b4⟩ := hs _ hm
 generalize gt script i = st at *
 obtain ⟨kd, u, w, wt, via⟩ := st
 dsimp only at *
 rw [T_G]
 refine ⟨i0, ?_⟩
 refine T_bindr (fun r => OvR r.1 al r.2.1 B r.2.2 /\ (r.2.2.length : Int) ≤ 2000 + (i + 1)) ?_ ?_
 ·rw [T_ite]
  refine ⟨fun _ => ?_, fun _ => ?_⟩
  ·have hlb := ho.lb
   refine T_bindr _ (p_oPut (u := u) (via := via) ho (by omega) b2.1 b2.2 b3.1) ?_
   intro r hr
   rw [p_DocPut, Option.bind_some, p_Bad, Option.bind_some]
   cases hr with
   | bad hn =>
    rw [if_neg (by simp [hn])]
    simp only [T_some]
    exact ⟨ho, by omega⟩
   | less a hc a1 a2 a3 a4 =>
    rw [hc, if_pos (by simp)]
    refine T_bindr _ (p_rPutA hlb) ?_
    rintro r (⟨_, rfl⟩ | ⟨hn, rfl⟩)
    ·simp only [T_some]
     exact ⟨ho, by omega⟩
    ·have := hn a a1 a2 a3; omega
   | put o' ar' hc hless h2 =>
    have hpl := put_len ho.kd (u, w, wt, via)
    have hpl2 : (putA M (u, w, wt, via)).length ≤ M.length + 1 := by rw [hpl]; split <;> omega
    rw [hc, if_pos (by simp)]
    refine T_bindr _ (p_rPutA hlb) ?_
    rintro r (⟨⟨a, a1, a2, a3, a4⟩, rfl⟩ | ⟨hn, rfl⟩)
    ·have := hless a a1 a2 a3; omega
    ·simp only [T_some]
     exact ⟨h2, by omega⟩
  ·simp only [T_some]
   exact ⟨ho, by omega⟩
 ·rintro ⟨o1, ar1, M1⟩ ⟨h1, l1⟩
  dsimp only at *
  rw [T_ite]
  refine ⟨fun _ => ?_, fun _ => ?_⟩
  ·refine T_bindr _ (p_Remove (v := u) h1) ?_
   intro r hr
   rw [p_Lives, Option.bind_some]
   cases hr with
   | bad hn =>
    rw [decide_eq_false hn, if_neg (by decide)]
    simp only [T_G, T_some, Sum.elim_inl]
    exact ⟨by omega, ⟨by omega, by omega, h1, by omega, hB⟩, by omega⟩
   | ok o' hv h' =>
    have hrl : (remA M1 u).length ≤ M1.length := List.length_filter_le _ _
    rw [decide_eq_true hv, if_pos rfl, p_rRemove h1.lb h1.sm hv, Option.bind_some]
    simp only [T_G, T_some, Sum.elim_inl]
    exact ⟨by omega, ⟨by omega, by omega, h', by omega, by rw [List.length_set]; exact hB⟩, by omega⟩
  ·simp only [T_G, T_some, Sum.elim_inl]
   exact ⟨by omega, ⟨by omega, by omega, h1, by omega, hB⟩, by omega⟩
theorem p_laidW {script : List Stp} (hs : StpOk script) : T (z_viaductlaw12_laid N Arcs script) fun r => r = .inl () ∨ (GChk N Arcs .nil /\ N ≤ 12 /\ ∃ y, r = .inr y /\ LdR N.toNat y) := by
 unfold z_viaductlaw12_laid
 refine T_bindr (fun b => b = false -> (GChk N Arcs .nil /\ N ≤ 12 /\ (Arcs.length : Int) ≤ 2000) /\ (script.length : Int) ≤ 60) ?_ ?_
 ·refine T_bindr _ p_Few fun f hf => ?_
  rw [T_ite]
  refine ⟨fun h => ?_, fun h => ?_⟩
  ·simp only [T_some]
   intro hd
   exact ⟨hf.1 h, by simpa using hd⟩
  ·simp only [T_some]
   intro hd; cases hd
 ·intro b hb
  rw [T_ite]
  refine ⟨fun _ => by simp, fun hb' => ?_⟩
  obtain ⟨⟨hc, hN, ha⟩, hl⟩ := hb (by simpa using hb')
  refine T_bindr _ p_New ?_
  intro r hr
  cases hr with
  | bad er c n => exact absurd (c.uniq hc) n
  | ok M nodes _ k l h =>
   rw [Sum.elim_inr]
   refine T_bindr _ (p_DocNew hc) ?_
   rintro r ⟨M', k', l', rfl⟩
   obtain rfl := k.uniq k'
   dsimp only
   refine T_bindr _ (p_laid1 hs hl h (by rw [List.length_map]; omega)) ?_
   rintro ⟨a1, a2, a3, a4, a5⟩ hL
   simp only [T_some]
   refine .inr ⟨hc, hN, _, rfl, ?_⟩
   rw [List.length_replicate] at hL
   exact hL
end Go.Vd

/-! (WtF) -/

set_option linter.unusedVariables false
set_option linter.unusedSimpArgs false
set_option maxHeartbeats 1000000
namespace Go.Vd
variable {nodes : List Nod} {alive arcs : Int} {A : List Bool} {M : List OAr} {u v skip hops most settles c N : Int} {goals : List Int}
theorem gt_repW {n : Nat} {x : Int} (x0 : 0 ≤ x) (x1 : x < (n : Int)) {E : Type} [Inhabited E] {e : E} : gt (List.replicate n e) x = e := by
 unfold gt
 rw [List.getD_eq_getElem?_getD, List.getElem?_replicate, if_pos (by omega)]; rfl
theorem gt_setW {E : Type} [Inhabited E] {l : List E} {i j : Int} {v : E} (i0 : 0 ≤ i) (i1 : i < (l.length : Int)) (j0 : 0 ≤ j) : gt (l.set i.toNat v) j = if j = i then v else gt l j := by
 unfold gt
 rw [List.getD_eq_getElem?_getD, List.getD_eq_getElem?_getD, List.getElem?_set]
 by_cases h : j = i
 ·subst h; rw [if_pos rfl, if_pos (by omega), if_pos rfl]; rfl
 ·rw [if_neg (by omega), if_neg h]
theorem p_Rows (h : OvR nodes alive arcs A M) : T (z_viaductref12_Rows A M skip) fun rows => rows.length = A.length /\ ∀ v, 0 ≤ v -> v < (A.length : Int) -> gt rows v = rowW M skip v := by
 have hsm := h.sm
 unfold z_viaductref12_Rows
 rw [T_G]
 refine ⟨by omega, ?_⟩
 refine T_bindr (fun rows => rows.length = A.length /\ ∀ v, 0 ≤ v -> v < (A.length : Int) -> gt rows v = rowW M skip v) ?_ fun r k => by simpa using k
 refine T_loop (fun z => 0 ≤ z.1 /\ z.1 ≤ (A.length : Int) /\ z.2.length = A.length /\ (∀ v, 0 ≤ v -> v < z.1 -> gt z.2 v = rowW M skip v) /\ ∀ v, z.1 ≤ v -> v < (A.length : Int) -> gt z.2 v = []) (fun z => ((A.length : Int) - z.1).toNat) ?_ ⟨by simp, by simp, by simp, fun v v0 v1 => by dsimp only at v1; omega, fun v v0 v1 => gt_repW v0 (by simpa using v1)⟩
 rintro ⟨i, rows⟩ ⟨i0, i1, hl, h1, h2⟩
 dsimp only at *
 unfold z_viaductref12_Rows_l1
 rw [List.length_replicate, T_ite]
 refine ⟨fun hlt => ?_, fun hge => ?_⟩
 rotate_left
 ·simp only [T_some, Sum.elim_inr]
  exact ⟨hl, fun v v0 v1 => h1 v v0 (by omega)⟩
 rw [p_rOut h.kd h.lb, Option.bind_some]
 have hol := h.outLen i
 refine T_bindr (fun r => r.length = A.length /\ gt r i = rowW M skip i /\ ∀ v, 0 ≤ v -> v < (A.length : Int) -> v ≠ i -> gt r v = gt rows v) ?_ ?_
 ·refine T_loop (fun z => 0 ≤ z.1 /\ z.1 ≤ ((outL M i).length : Int) /\ z.2.length = A.length /\ gt z.2 i = (((outL M i).take z.1.toNat).filter fun h => decide (h.1 ≠ skip)).map (fun h => (h.1, h.2.1)) /\ ∀ v, 0 ≤ v -> v < (A.length : Int) -> v ≠ i -> gt z.2 v = gt rows v) (fun z => (((outL M i).length : Int) - z.1).toNat) ?_ ⟨by simp, by simp, hl, by simpa using h2 i (by omega) hlt, fun _ _ _ _ => rfl⟩
  rintro ⟨j, r⟩ ⟨j0, j1, kl, k1, k2⟩
  dsimp only at *
  unfold z_viaductref12_Rows_l0
  rw [T_ite]
  refine ⟨fun hj => ?_, fun hj => ?_⟩
  rotate_left
  ·simp only [T_some, Sum.elim_inr]
   rw [List.take_of_length_le (by omega)] at k1
   exact ⟨kl, k1, k2⟩
  have hs := take_gtW j0 hj
  have hrl : (gt r i).length ≤ (outL M i).length := by
   rw [k1, List.length_map]
   exact Nat.le_trans (List.length_filter_le _ _) (by rw [List.length_take]; omega)
  rw [T_G]
  refine ⟨j0, ?_⟩
  rw [T_ite]
  refine ⟨fun he => ?_, fun he => ?_⟩
  ·simp only [T_G, T_some, Sum.elim_inl]
   refine ⟨by omega, ⟨by omega, by omega, kl, ?_, k2⟩, by omega⟩
   rw [hs, List.filter_append, List.filter_cons, if_neg (by simp [he]), k1]; simp
  ·simp only [T_G, T_some, Sum.elim_inl]
   refine ⟨by omega, by omega, by omega, ⟨by omega, by omega, by simpa using kl, ?_, fun v v0 v1 hv => ?_⟩, by omega⟩
   ·rw [gt_setW i0 (by omega) i0, if_pos rfl, k1, hs, List.filter_append, List.filter_cons, if_pos (by simp [he])]; simp
   ·rw [gt_setW i0 (by omega) v0, if_neg hv]; exact k2 v v0 v1 hv
 ·rintro r ⟨kl, k1, k2⟩
  simp only [T_G, T_some, Sum.elim_inl]
  refine ⟨by omega, ⟨by omega, by omega, kl, fun v v0 v1 => ?_, fun v v0 v1 => ?_⟩, by omega⟩
  ·by_cases e : v = i
   ·rw [e]; exact k1
   ·rw [k2 v v0 (by omega) e]; exact h1 v v0 (by omega)
  ·rw [k2 v (by omega) v1 (by omega)]; exact h2 v (by omega) v1
theorem p_rFind (h : OvR nodes alive arcs A M) (hu : liveB A u) (hg : goals.length ≤ 10000000000000) (hl : ∀ j, 0 ≤ j -> j < (goals.length : Int) -> liveB A (gt goals j)) (hset : settles ≤ 9223372036854775807) :
  T (z_viaductref12_Find A M u skip goals most hops settles) fun l => ∃ Lf, WR (rowW M skip) hops settles most 0 (lab0 u) Lf /\ l = goals.map (far Lf) := by
 have hsm := h.sm
 unfold z_viaductref12_Find
 refine T_bindr _ (p_Rows (skip := skip) h) ?_
 rintro rows ⟨r1, r2⟩
 refine T_bindr _ (p_RunW (n := A.length) (row := rowW M skip) (hops := hops) (most := most) (settles := settles) (by omega) (by omega) (fun v v0 v1 => ⟨r2 v v0 v1, h.rowLen v⟩) h.rowOk hu.1 hu.2.1 hset) ?_
 rintro ⟨Ds, Hs, Has, St⟩ ⟨Lf, hR, hLf, B⟩
 dsimp only at *
 have lD := B.lD; have lA := B.lA
 dsimp only at lD lA
 refine T_bindr (fun l => l = goals.map (far Lf)) ?_ fun l e => by simp only [T_some]; exact ⟨Lf, hR, e⟩
 refine T_loop (fun z => 0 ≤ z.2 /\ z.2 ≤ (goals.length : Int) /\ z.1 = (goals.take z.2.toNat).map (far Lf)) (fun z => ((goals.length : Int) - z.2).toNat) ?_ ⟨by simp, by simp, by simp⟩
 rintro ⟨l, i⟩ ⟨i0, i1, e⟩
 dsimp only at *
 have hll : l.length ≤ goals.length := by rw [e, List.length_map, List.length_take]; omega
 unfold z_viaductref12_Find_l0
 rw [T_ite]
 refine ⟨fun hlt => ?_, fun hge => ?_⟩
 rotate_left
 ·simp only [T_some, Sum.elim_inr]
  rw [e, List.take_of_length_le (by omega)]
 have hs := take_gtW i0 hlt
 obtain ⟨w0, w1, _⟩ := hl i i0 hlt
 simp only [T_G]
 refine ⟨i0, by omega, ?_⟩
 rw [T_ite]
 refine ⟨fun hx => ?_, fun hx => ?_⟩
 ·simp only [T_G, T_some, Sum.elim_inl]
  refine ⟨by omega, by omega, by omega, ⟨by omega, by omega, ?_⟩, by omega⟩
  have hf : far Lf (gt goals i) = gt Ds (gt goals i) := by
   rw [← hLf]; unfold far labOf
   dsimp only
   have hc : 0 ≤ gt goals i /\ gt goals i < (A.length : Int) /\ gt Has (gt goals i) = true := ⟨w0, w1, hx⟩
   simp [hc]
  rw [hs, List.map_append, e, List.map_cons, List.map_nil, hf]
 ·simp only [T_G, T_some, Sum.elim_inl]
  refine ⟨by omega, by omega, ⟨by omega, by omega, ?_⟩, by omega⟩
  have hf : far Lf (gt goals i) = 18446744073709551615 := by
   rw [← hLf]; unfold far labOf
   dsimp only
   have hc : ¬ (0 ≤ gt goals i /\ gt goals i < (A.length : Int) /\ gt Has (gt goals i) = true) := fun k => hx k.2.2
   simp [hx]
  rw [hs, List.map_append, e, List.map_cons, List.map_nil, hf]
theorem p_DocFind (h : OvR nodes alive arcs A M) (hg : goals.length ≤ 1000000000000) (hset : settles ≤ 9223372036854775807) :
  T (z_viaductref12_DocFind A M u skip goals most hops settles) fun r => ∃ er, FdW A M u skip goals most hops settles (r.1, er) /\ r.2 = (er.code, er.pls) := by
 unfold z_viaductref12_DocFind
 rw [p_Lives, Option.bind_some]
 by_cases hu : liveB A u
 rotate_left
 ·rw [decide_eq_false hu, if_pos (by decide), p_E, Option.bind_some]
  simp only [T_some]
  exact ⟨_, .bad hu, rfl⟩
 rw [decide_eq_true hu, if_neg (by decide)]
 refine T_binds (fun _ => ∀ j, 0 ≤ j -> j < (goals.length : Int) -> liveB A (gt goals j)) ?_ ?_
 ·refine T_loop (fun i => 0 ≤ i /\ i ≤ (goals.length : Int) /\ ∀ j, 0 ≤ j -> j < i -> liveB A (gt goals j)) (fun i => ((goals.length : Int) - i).toNat) ?_ ⟨by simp, by simp, fun j j0 j1 => by omega⟩
  rintro i ⟨i0, i1, hi⟩
  unfold z_viaductref12_DocFind_l0
  rw [T_ite]
  refine ⟨fun hlt => ?_, fun hge => ?_⟩
  ·rw [T_G]
   refine ⟨i0, ?_⟩
   rw [p_Lives, Option.bind_some]
   by_cases hw : liveB A (gt goals i)
   ·rw [decide_eq_true hw, if_neg (by decide)]
    simp only [T_G, T_some, Sum.elim_inl]
    refine ⟨by omega, ⟨by omega, by omega, fun j j0 j1 => ?_⟩, by omega⟩
    by_cases e : j = i
    ·rw [e]; exact hw
    ·exact hi j j0 (by omega)
   ·rw [decide_eq_false hw, if_pos (by decide), p_E, Option.bind_some, p_At (by simp), Option.bind_some]
    simp only [T_map, T_some, Sum.elim_inr, Sum.elim_inl]
    exact ⟨_, .goal i hu i0 hlt hw hi, rfl⟩
  ·simp only [T_some, Sum.elim_inr]
   exact fun j j0 j1 => hi j j0 (by omega)
 intro _ hgl
 refine T_bindr _ (p_rFind (skip := skip) (hops := hops) (most := most) (settles := settles) h hu (by omega) hgl hset) ?_
 rintro l ⟨Lf, hR, rfl⟩
 simp only [T_some]
 exact ⟨.nil, .ok Lf hu hgl hR, rfl⟩
theorem FdW.uniq {p q : List Int × Er} (h : FdW A M u skip goals most hops settles p) (k : FdW A M u skip goals most hops settles q) : p = q := by
 cases h with
 | bad h1 =>
  cases k with
  | bad => rfl
  | goal _ k1 => exact absurd k1 h1
  | ok _ k1 => exact absurd k1 h1
 | goal i h1 i0 i1 h2 h3 =>
  cases k with
  | bad k1 => exact absurd h1 k1
  | goal j _ j0 j1 k2 k3 =>
   have : i = j := by
    rcases Int.lt_trichotomy i j with e | e | e
    ·exact absurd (k3 i i0 e) h2
    ·exact e
    ·exact absurd (h3 j j0 e) k2
   rw [this]
  | ok _ _ k2 => exact absurd (k2 i i0 i1) h2
 | ok Lf h1 h2 h3 =>
  cases k with
  | bad k1 => exact absurd h1 k1
  | goal j _ j0 j1 k2 _ => exact absurd (h2 j j0 j1) k2
  | ok Lg _ _ k3 => rw [h3.uniq k3]
end Go.Vd

/-! (OvL) -/

set_option linter.unusedVariables false
set_option linter.unusedSimpArgs false
set_option maxHeartbeats 1000000
namespace Go.Vd
variable {L : List OAr} {A : List Bool} {u v w wt via : Int}
theorem p_rLen (hA : A.length ≤ 65536) : z_viaductref11_Len A L = some ((A.filter id).length : Int) := by
 refine T_eq.1 ?_
 unfold z_viaductref11_Len
 refine T_bindr (fun n => n = ((A.filter id).length : Int)) ?_ fun n e => by simp only [T_some]; exact e
 refine T_loop (fun z => 0 ≤ z.2 /\ z.2 ≤ (A.length : Int) /\ z.1 = (((A.take z.2.toNat).filter id).length : Int)) (fun z => ((A.length : Int) - z.2).toNat) ?_ ⟨by simp, by simp, rfl⟩
 rintro ⟨n, i⟩ ⟨i0, i1, e⟩
 dsimp only at *
 subst e
 unfold z_viaductref11_Len_l0
 rw [T_ite]
 refine ⟨fun hlt => ?_, fun hge => by simp only [T_some, Sum.elim_inr]; rw [List.take_of_length_le (by omega)]⟩
 have hs := take_gtE i0 hlt
 have f2 : ((A.take i.toNat).filter id).length ≤ A.length := Nat.le_trans (List.length_filter_le _ _) (by rw [List.length_take]; omega)
 rw [T_G, T_ite]
 refine ⟨i0, fun hg => ?_, fun hg => ?_⟩
 ·simp only [T_G, T_some, Sum.elim_inl]
  refine ⟨by omega, by omega, ⟨by omega, by omega, ?_⟩, by omega⟩
  rw [hs, List.filter_append, hg]; simp
 ·have hg' : gt A i = false := by simpa using hg
  simp only [T_G, T_some, Sum.elim_inl]
  refine ⟨by omega, ⟨by omega, by omega, ?_⟩, by omega⟩
  rw [hs, List.filter_append, hg']; simp
end Go.Vd

/-! (Sc) -/

set_option linter.unusedVariables false
set_option linter.unusedSimpArgs false
namespace Go.Vd
theorem same_nextE {E : Type} [Inhabited E] {l m : List E} {i : Int} (h : ∀ j : Int, 0 ≤ j -> j < i -> gt l j = gt m j) (k : gt l i = gt m i) : ∀ j : Int, 0 ≤ j -> j < i + 1 -> gt l j = gt m j := by
 intro j h0 h1
 by_cases e : j = i
 ·rw [e]; exact k
 ·exact h j h0 (by omega)
theorem same_neE {E : Type} [DecidableEq E] {l m : List E} (h : ¬ (l.length : Int) = (m.length : Int)) : decide (l = m) = false := by
 apply decide_eq_false; rintro rfl; exact h rfl
theorem same_atE {E : Type} [DecidableEq E] [Inhabited E] {l m : List E} {i : Int} (h : ¬ gt l i = gt m i) : decide (l = m) = false := by
 apply decide_eq_false; rintro rfl; exact h rfl
theorem same_allE {E : Type} [DecidableEq E] [Inhabited E] {l m : List E} {i : Int} (h : ∀ j : Int, 0 ≤ j -> j < i -> gt l j = gt m j) (hl : (l.length : Int) = m.length) (hi : (l.length : Int) ≤ i) : decide (l = m) = true :=
 decide_eq_true (list_gtE (by omega) fun j h0 h1 => h j h0 (by omega))
end Go.Vd

/-! (PrSx) -/

set_option linter.unusedVariables false
set_option linter.unusedSimpArgs false
namespace Go.Vd
theorem p_SameRow {a b : List Int} (ha : a.length ≤ 1000000000000) : z_viaductref04_SameRow a b = some (decide (a = b)) := by
 refine T_eq.1 ?_
 unfold z_viaductref04_SameRow
 rw [T_ite]
 refine ⟨fun hl => ?_, fun hl => by simp only [T_some]; exact (same_neE hl).symm⟩
 refine T_binds (fun _ => a = b) ?_ fun _ h => by simp [h]
 refine T_loop (fun i => 0 ≤ i /\ i ≤ (a.length : Int) /\ ∀ j : Int, 0 ≤ j -> j < i -> gt a j = gt b j) (fun i => ((a.length : Int) - i).toNat) ?_ ⟨by simp, by simp, fun j j0 j1 => by omega⟩
 rintro i ⟨i0, i1, h⟩
 unfold z_viaductref04_SameRow_l0
 simp only [T_ite, T_G, T_map, T_some, Sum.elim_inl, Sum.elim_inr]
 refine ⟨fun hi => ⟨i0, by omega, fun e => ⟨by omega, ⟨by omega, by omega, same_nextE h e⟩, by omega⟩, fun e => (same_atE e).symm⟩, fun hi => of_decide_eq_true (same_allE h hl (by omega))⟩
end Go.Vd
