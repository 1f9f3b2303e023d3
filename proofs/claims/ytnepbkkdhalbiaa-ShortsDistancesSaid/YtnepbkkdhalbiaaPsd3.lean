/- Lists and places. Plain Lean: no program here. -/
import Derived.Test.YtnepbkkdhalbiaaPsd2
import Derived.Test.YtnepbkkdhalbiaaPsdSo0
import Derived.Test.YtnepbkkdhalbiaaPsdVdQ
import Derived.Test.YtnepbkkdhalbiaaPsdISd
import Derived.Test.YtnepbkkdhalbiaaPsdVpB
set_option linter.unusedVariables false
set_option linter.unusedSimpArgs false
set_option linter.unusedSectionVars false
/-! (Mo0) -/

namespace Go.Vd
theorem take_gtE {E : Type} [Inhabited E] {l : List E} {i : Int} (h0 : 0 ≤ i) (h1 : i < (l.length : Int)) : l.take (i + 1).toNat = l.take i.toNat ++ [gt l i] := by
 have hi : i.toNat < l.length := by omega
 rw [show (i + 1).toNat = i.toNat + 1 from by omega, List.take_add_one, List.getElem?_eq_getElem hi]
 have : gt l i = l[i.toNat] := by simp [gt, List.getD_eq_getElem?_getD, hi]
 rw [this]; rfl
theorem gt_setE {E : Type} [Inhabited E] {l : List E} {i j : Int} {v : E} (i0 : 0 ≤ i) (i1 : i < (l.length : Int)) (j0 : 0 ≤ j) : gt (l.set i.toNat v) j = if j = i then v else gt l j := by
 unfold gt
 rw [List.getD_eq_getElem?_getD, List.getD_eq_getElem?_getD, List.getElem?_set]
 by_cases h : j = i
 ·subst h; rw [if_pos rfl, if_pos rfl, if_pos (by omega)]; rfl
 ·rw [if_neg h, if_neg (by omega)]
theorem list_gtE {E : Type} [Inhabited E] {l m : List E} (hl : l.length = m.length) (h : ∀ j : Int, 0 ≤ j -> j < (l.length : Int) -> gt l j = gt m j) : l = m := by
 refine List.ext_getElem hl fun j h1 h2 => ?_
 have := h (j : Int) (by omega) (by omega)
 rwa [gt_nat h1, gt_nat h2] at this
end Go.Vd

/-! (Gb) -/

set_option linter.unusedVariables false
set_option linter.unusedSimpArgs false
namespace Go.Vd
abbrev A3 := Int × Int × Int
theorem eq3 {x y : A3} (h1 : x.1 = y.1) (h2 : x.2.1 = y.2.1) (h3 : x.2.2 = y.2.2) : x = y := by
 obtain ⟨a, b, c⟩ := x; obtain ⟨a', b', c'⟩ := y
 simp only at h1 h2 h3
 subst h1; subst h2; subst h3; rfl
theorem mem_gtE {E : Type} [Inhabited E] {l : List E} {x : E} (h : x ∈ l) : ∃ i : Int, 0 ≤ i /\ i < (l.length : Int) /\ x = gt l i := by
 obtain ⟨i, hi, rfl⟩ := List.getElem_of_mem h
 exact ⟨i, by omega, by omega, (gt_nat hi).symm⟩
end Go.Vd

/-! (Nr0) -/

set_option linter.unusedVariables false
set_option linter.unusedSectionVars false
set_option linter.unusedSimpArgs false
namespace Go.Vd
def key2 (x y : Int × Int × Int) : Prop := x.1 = y.1 /\ x.2.1 = y.2.1
instance (x y : Int × Int × Int) : Decidable (key2 x y) := by unfold key2; infer_instance
def ltk (x y : A3) : Prop := x.1 < y.1 ∨ (x.1 = y.1 /\ x.2.1 < y.2.1)
structure Nrm (A L : List A3) : Prop where
 inc : L.Pairwise ltk
 sub : ∀ a ∈ L, a ∈ A /\ a.1 ≠ a.2.1 /\ ∀ b ∈ A, key2 b a -> a.2.2 ≤ b.2.2
 sup : ∀ a ∈ A, a.1 ≠ a.2.1 -> ∃ b ∈ L, key2 b a
theorem inc_tri {L : List A3} (h : L.Pairwise ltk) : ∀ x ∈ L, ∀ y ∈ L, x = y ∨ ltk x y ∨ ltk y x := by
 induction L with
 | nil => intro x hx; cases hx
 | cons a L ih =>
  intro x hx y hy
  obtain ⟨h1, h2⟩ := List.pairwise_cons.1 h
  rcases List.mem_cons.1 hx with ex | hx'
  ·rcases List.mem_cons.1 hy with ey | hy'
   ·exact .inl (ex.trans ey.symm)
   ·rw [ex]; exact .inr (.inl (h1 y hy'))
  ·rcases List.mem_cons.1 hy with ey | hy'
   ·rw [ey]; exact .inr (.inr (h1 x hx'))
   ·exact ih h2 x hx' y hy'
theorem inc_key {L : List A3} (h : L.Pairwise ltk) {x y : A3} (hx : x ∈ L) (hy : y ∈ L) (k : key2 x y) : x = y := by
 rcases inc_tri h x hx y hy with h | h | h
 ·exact h
 ·unfold ltk at h; unfold key2 at k; omega
 ·unfold ltk at h; unfold key2 at k; omega
end Go.Vd

/-! (So1) -/

set_option linter.unusedVariables false
set_option linter.unusedSimpArgs false
namespace Go.Vd
theorem p_Compare {x y : Int} : z_cmp_Compare x y = some (if x < y then -1 else if x > y then 1 else 0) := by
 unfold z_cmp_Compare z_cmp_isNaN
 simp only [Option.bind_some]
 simp
 by_cases h1 : x < y
 ·simp [h1]
 ·by_cases h2 : y < x <;> simp [h1, h2]
theorem p_Or3 {a b c : Int} : z_cmp_Or [a, b, c] = some (if a ≠ 0 then a else if b ≠ 0 then b else c) := by
 unfold z_cmp_Or
 have h3 : z_cmp_Or_l0 [a, b, c] 3 = some (Sum.inr (Sum.inr ())) := by unfold z_cmp_Or_l0; rw [if_neg (by simp)]
 have step : ∀ i : Int, 0 ≤ i -> i < 3 -> z_cmp_Or_l0 [a, b, c] i = if gt [a, b, c] i = 0 then some (Sum.inl (i + 1)) else some (Sum.inr (Sum.inl (gt [a, b, c] i))) := fun i i0 i1 => by
  unfold z_cmp_Or_l0 G
  rw [if_pos (by simp; omega), if_pos i0]
  split
  ·rw [if_pos (by omega)]
  ·rfl
 have g0 : gt [a, b, c] 0 = a := rfl
 have g1 : gt [a, b, c] 1 = b := rfl
 have g2 : gt [a, b, c] 2 = c := rfl
 rw [loopO_eq, step 0 (by omega) (by omega), g0]
 by_cases ha : a = 0
 ·rw [if_pos ha, if_neg (by simp [ha]), Option.bind_some, Sum.elim_inl, show (0 : Int) + 1 = 1 from rfl, loopO_eq, step 1 (by omega) (by omega), g1]
  by_cases hb : b = 0
  ·rw [if_pos hb, if_neg (by simp [hb]), Option.bind_some, Sum.elim_inl, show (1 : Int) + 1 = 2 from rfl, loopO_eq, step 2 (by omega) (by omega), g2]
   by_cases hc : c = 0
   ·rw [if_pos hc, Option.bind_some, Sum.elim_inl, show (2 : Int) + 1 = 3 from rfl, loopO_eq, h3]
    simp [hc]
   ·rw [if_neg hc]; simp
  ·rw [if_neg hb, if_pos hb]; simp
 ·rw [if_neg ha, if_pos ha]; simp
def lt3 (x y : Int × Int × Int) : Prop := x.1 < y.1 ∨ (x.1 = y.1 /\ (x.2.1 < y.2.1 ∨ (x.2.1 = y.2.1 /\ x.2.2 < y.2.2)))
instance (x y : Int × Int × Int) : Decidable (lt3 x y) := by unfold lt3; infer_instance
noncomputable abbrev ord3 : Int × Int × Int -> Int × Int × Int -> Option Int := fun a_ b_ => z_normal_order a_.1 a_.2.1 a_.2.2 b_.1 b_.2.1 b_.2.2
theorem p_order (x y : Int × Int × Int) : ∃ r, ord3 x y = some r /\ (r < 0 ↔ lt3 x y) := by
 unfold ord3 z_normal_order
 simp only [p_Compare, Option.bind_some, p_Or3]
 refine ⟨_, rfl, ?_⟩
 unfold lt3
 by_cases a1 : x.1 < y.1
 ·simp [a1]
 ·by_cases a2 : x.1 > y.1
  ·have : ¬ x.1 = y.1 := by omega
   simp [a1, a2, this]
  ·have e : x.1 = y.1 := by omega
   by_cases b1 : x.2.1 < y.2.1
   ·simp [e, b1]
   ·by_cases b2 : x.2.1 > y.2.1
    ·have : ¬ x.2.1 = y.2.1 := by omega
     simp [e, b1, b2, this]
    ·have e2 : x.2.1 = y.2.1 := by omega
     by_cases c1 : x.2.2 < y.2.2
     ·simp [e, e2, c1]
     ·by_cases c2 : x.2.2 > y.2.2 <;> simp [e, e2, c1, c2]
theorem ord3_lt (x y : Int × Int × Int) : (ord3 x y).getD 0 < 0 ↔ lt3 x y := by
 obtain ⟨r, h1, h2⟩ := p_order x y
 rw [h1]; exact h2
theorem ord3_ok : SortOk ord3 :=
 { ans := fun x y => let ⟨r, h, _⟩ := p_order x y; ⟨r, h⟩
   irr := fun x => by rw [ord3_lt]; unfold lt3; omega
   trn := fun x y z => by rw [ord3_lt, ord3_lt, ord3_lt]; unfold lt3; omega
   ntr := fun x y z => by rw [ord3_lt, ord3_lt, ord3_lt]; unfold lt3; omega
   tot := fun x y h1 h2 => by
    rw [ord3_lt] at h1 h2
    obtain ⟨x1, x2, x3⟩ := x
    obtain ⟨y1, y2, y3⟩ := y
    unfold lt3 at h1 h2
    dsimp only at h1 h2
    simp only [Prod.mk.injEq]
    omega }
theorem p_sort (xs : List (Int × Int × Int)) : sortO (fun (a_ b_ : Int × Int × Int) => z_normal_order a_.1 a_.2.1 a_.2.2 b_.1 b_.2.1 b_.2.2) xs = some (sortL ord3 xs) := sortO_ok ord3_ok xs
theorem sort_rise (xs : List (Int × Int × Int)) : (sortL ord3 xs).Pairwise fun x y => ¬ lt3 y x := (sortL_sorted ord3_ok xs).imp fun h => by rwa [ord3_lt] at h
theorem p_like {x y : Int × Int × Int} : z_normal_Of_1 x.1 x.2.1 x.2.2 y.1 y.2.1 y.2.2 = some (decide (key2 x y)) := by
 unfold z_normal_Of_1 key2
 by_cases h : x.1 = y.1 <;> simp [h]
def cpt (s : List (Int × Int × Int)) : Nat -> List (Int × Int × Int)
 | 0 => []
 | k + 1 => cpt s k ++ if k ≠ 0 /\ key2 (gt s (k : Int)) (gt s ((k : Int) - 1)) then [] else [gt s (k : Int)]
theorem cpt_len (s : List (Int × Int × Int)) (k : Nat) : (cpt s k).length ≤ k := by
 induction k with
 | zero => simp [cpt]
 | succ k ih =>
  simp only [cpt, List.length_append]
  split <;> simp <;> omega
theorem cpt_next {s : List (Int × Int × Int)} {i : Int} (i0 : 0 ≤ i) : cpt s (i + 1).toNat = cpt s i.toNat ++ if i ≠ 0 /\ key2 (gt s i) (gt s (i - 1)) then [] else [gt s i] := by
 rw [show (i + 1).toNat = i.toNat + 1 from by omega]
 simp only [cpt]
 rw [show ((i.toNat : Nat) : Int) = i from by omega]
 have : i.toNat ≠ 0 ↔ i ≠ 0 := by omega
 simp only [ne_eq, this]
theorem gt_drop {E : Type} [Inhabited E] {l : List E} {k j : Int} (k0 : 0 ≤ k) (j0 : 0 ≤ j) : gt (l.drop k.toNat) j = gt l (k + j) := by
 unfold gt
 rw [List.getD_eq_getElem?_getD, List.getD_eq_getElem?_getD, List.getElem?_drop, show k.toNat + j.toNat = (k + j).toNat from by omega]
theorem p_Compact {s : List (Int × Int × Int)} (hl : s.length ≤ 1000000000000) : T (z_slices_CompactFunc s) fun r => r.1 = cpt s s.length := by
 unfold z_slices_CompactFunc
 rw [T_ite]
 have c1 : 0 < s.length -> cpt s 1 = s.take 1 := fun h => by
  simp only [cpt]
  have := take_gtE (l := s) (i := 0) (by omega) (by omega)
  simpa using this.symm
 refine ⟨fun h => ?_, fun h => ?_⟩
 ·simp only [T_some]
  by_cases h0 : s.length = 0
  ·rw [h0]; exact List.eq_nil_of_length_eq_zero h0
  ·have : s.length = 1 := by omega
   have h2 := c1 (by omega)
   rw [this, h2, List.take_of_length_le (by omega)]
 refine T_binds (fun _ => cpt s s.length = s) ?_ fun _ h => by simp only [T_some]; exact h.symm
 refine T_loop (fun k => 1 ≤ k /\ k ≤ (s.length : Int) /\ cpt s k.toNat = s.take k.toNat) (fun k => ((s.length : Int) - k).toNat) ?_ ⟨by omega, by omega, c1 (by omega)⟩
 rintro k ⟨k0, k1, hk⟩
 unfold z_slices_CompactFunc_l1
 rw [T_ite]
 refine ⟨fun hlt => ?_, fun hge => ?_⟩
 rotate_left
 ·simp only [T_some, Sum.elim_inr]
  have : k = s.length := by omega
  subst this
  simpa using hk
 simp only [T_G]
 refine ⟨by omega, by omega, by omega, ?_⟩
 rw [p_like, Option.bind_some, T_ite]
 refine ⟨fun heq => ?_, fun hne => ?_⟩
 rotate_left
 ·have hne' : ¬ key2 (gt s k) (gt s (k - 1)) := by simpa using hne
  simp only [T_G, T_some, Sum.elim_inl]
  refine ⟨by omega, ⟨by omega, by omega, ?_⟩, by omega⟩
  rw [cpt_next (by omega), if_neg (fun h => hne' h.2), hk]
  exact (take_gtE (by omega) hlt).symm
 have heq' : key2 (gt s k) (gt s (k - 1)) := by simpa using heq
 simp only [T_G]
 refine ⟨by omega, ?_⟩
 refine T_bindr (fun r => (r.1.length : Int) = s.length /\ 0 ≤ r.2 /\ r.2 ≤ (s.length : Int) /\ cpt s s.length = r.1.take r.2.toNat) ?_ ?_
 ·refine T_loop (fun z => 1 ≤ z.2.2 /\ z.2.2 ≤ (s.length : Int) - k /\ k ≤ z.2.1 /\ z.2.1 ≤ k + z.2.2 - 1 /\ (z.1.length : Int) = s.length /\ cpt s (k + z.2.2).toNat = z.1.take z.2.1.toNat /\ ∀ j, k + z.2.2 - 1 ≤ j -> gt z.1 j = gt s j) (fun z => ((s.length : Int) - k - z.2.2).toNat) ?_ ⟨by simp, by dsimp only; omega, by simp, by dsimp only; omega, rfl, ?_, fun _ _ => rfl⟩
  rotate_left
  ·dsimp only
   rw [cpt_next (by omega), if_pos ⟨by omega, heq'⟩, hk, List.append_nil]
  rintro ⟨s0, k1', k2⟩ ⟨a0, a1, a2, a3, a4, a5, a6⟩
  dsimp only at *
  have hdl : ((s0.drop k.toNat).length : Int) = s.length - k := by rw [List.length_drop]; omega
  unfold z_slices_CompactFunc_l0
  rw [hdl, T_ite]
  refine ⟨fun hlt2 => ?_, fun hge2 => ?_⟩
  rotate_left
  ·simp only [T_some, Sum.elim_inr]
   have : k + k2 = s.length := by omega
   rw [this] at a5
   exact ⟨a4, by omega, by omega, by simpa using a5⟩
  have e1 : gt (s0.drop k.toNat) k2 = gt s (k + k2) := by rw [gt_drop (by omega) (by omega)]; exact a6 _ (by omega)
  have e2 : gt (s0.drop k.toNat) (k2 - 1) = gt s (k + k2 - 1) := by rw [gt_drop (by omega) (by omega), show k + (k2 - 1) = k + k2 - 1 from by omega]; exact a6 _ (by omega)
  simp only [T_G]
  refine ⟨by omega, by omega, by omega, ?_⟩
  rw [p_like, e1, e2, Option.bind_some, T_ite]
  have nx : (k + (k2 + 1)).toNat = (k + k2 + 1).toNat := by omega
  refine ⟨fun hn => ?_, fun hy => ?_⟩
  ·have hn' : ¬ key2 (gt s (k + k2)) (gt s (k + k2 - 1)) := by simpa using hn
   simp only [T_G, T_some, Sum.elim_inl]
   refine ⟨by omega, by omega, by omega, ⟨by omega, by omega, by omega, by omega, by simpa using a4, ?_, fun j hj => ?_⟩, by omega⟩
   ·rw [nx, cpt_next (by omega), if_neg (fun h => hn' h.2), a5]
    have h1 := take_gtE (l := s0.set k1'.toNat (gt s (k + k2))) (i := k1') (by omega) (by simp; omega)
    rw [h1, gt_setE (by omega) (by omega) (by omega), if_pos rfl, List.take_set_of_le (Nat.le_refl _)]
   ·rw [gt_setE (by omega) (by omega) (by omega), if_neg (by omega)]; exact a6 j (by omega)
  ·have hy' : key2 (gt s (k + k2)) (gt s (k + k2 - 1)) := by simpa using hy
   simp only [T_G, T_some, Sum.elim_inl]
   refine ⟨by omega, ⟨by omega, by omega, by omega, by omega, a4, ?_, fun j hj => a6 j (by omega)⟩, by omega⟩
   rw [nx, cpt_next (by omega), if_pos ⟨by omega, hy'⟩, a5, List.append_nil]
 ·rintro ⟨r, q⟩ ⟨b1, b2, b3, b4⟩
  dsimp only at *
  have hlen : ((r.take q.toNat ++ List.replicate (r.length - q.toNat) ((0, 0, 0) : Int × Int × Int)).length : Int) = r.length := by simp; omega
  simp only [T_G, T_map, T_some, Sum.elim_inr, Sum.elim_inl]
  refine ⟨by omega, by omega, by omega, ?_⟩
  rw [List.take_left' (by rw [List.length_take]; omega)]
  exact b4.symm
end Go.Vd

/-! (So2) -/

set_option linter.unusedVariables false
set_option linter.unusedSectionVars false
set_option linter.unusedSimpArgs false
namespace Go.Vd
section
variable {s : List A3} (hs : ∀ i j : Int, 0 ≤ i -> i < j -> j < (s.length : Int) -> ¬ lt3 (gt s j) (gt s i))
include hs
theorem rise2 {i j : Int} (i0 : 0 ≤ i) (ij : i < j) (j1 : j < (s.length : Int)) : ltk (gt s i) (gt s j) ∨ (key2 (gt s i) (gt s j) /\ (gt s i).2.2 ≤ (gt s j).2.2) := by
 have := hs i j i0 ij j1
 unfold lt3 at this; unfold ltk key2
 omega
theorem cpt_mem {k : Nat} (hk : k ≤ s.length) : ∀ x ∈ cpt s k, ∃ i : Int, 0 ≤ i /\ i < k /\ x = gt s i := by
 induction k with
 | zero => intro x hx; cases hx
 | succ k ih =>
  intro x hx
  simp only [cpt] at hx
  rcases List.mem_append.1 hx with hx | hx
  ·obtain ⟨i, i0, i1, e⟩ := ih (by omega) x hx
   exact ⟨i, i0, by omega, e⟩
  ·split at hx
   ·cases hx
   ·exact ⟨k, by omega, by omega, List.mem_singleton.1 hx⟩
theorem cpt_inc {k : Nat} (hk : k ≤ s.length) : (cpt s k).Pairwise ltk := by
 induction k with
 | zero => exact .nil
 | succ k ih =>
  simp only [cpt]
  split
  ·rw [List.append_nil]; exact ih (by omega)
  ·rename_i hn
   rw [List.pairwise_append]
   refine ⟨ih (by omega), List.pairwise_singleton _ _, fun x hx y hy => ?_⟩
   obtain rfl := List.mem_singleton.1 hy
   obtain ⟨i, i0, i1, rfl⟩ := cpt_mem hs (by omega) x hx
   have hk0 : k ≠ 0 := by omega
   have hn' : ¬ key2 (gt s (k : Int)) (gt s ((k : Int) - 1)) := fun q => hn ⟨hk0, q⟩
   have h1 := rise2 hs (i := (k : Int) - 1) (j := k) (by omega) (by omega) (by omega)
   by_cases e : i = (k : Int) - 1
   ·subst e
    unfold ltk key2 at *; omega
   ·have h2 := rise2 hs (i := i) (j := (k : Int) - 1) i0 (by omega) (by omega)
    unfold ltk key2 at *; omega
theorem cpt_has {k : Nat} (hk : k ≤ s.length) : ∀ i : Int, 0 ≤ i -> i < k -> ∃ x ∈ cpt s k, key2 x (gt s i) /\ x.2.2 ≤ (gt s i).2.2 := by
 induction k with
 | zero => intro i i0 i1; simp at i1; omega
 | succ k ih =>
  intro i i0 i1
  by_cases e : i = (k : Int)
  ·subst e
   by_cases hn : k ≠ 0 /\ key2 (gt s (k : Int)) (gt s ((k : Int) - 1))
   ·obtain ⟨x, h1, h2, h3⟩ := ih (by omega) ((k : Int) - 1) (by omega) (by omega)
    refine ⟨x, by simp only [cpt]; exact List.mem_append_left _ h1, ?_, ?_⟩
    ·have := hn.2; unfold key2 at *; omega
    ·have h4 := rise2 hs (i := (k : Int) - 1) (j := k) (by omega) (by omega) (by omega)
     have := hn.2; unfold ltk key2 at *; omega
   ·refine ⟨gt s (k : Int), ?_, ⟨rfl, rfl⟩, Int.le_refl _⟩
    simp only [cpt]
    rw [if_neg hn]
    exact List.mem_append_right _ (List.mem_singleton.2 rfl)
  ·obtain ⟨x, h1, h2⟩ := ih (by omega) i i0 (by omega)
   exact ⟨x, by simp only [cpt]; exact List.mem_append_left _ h1, h2⟩
end
def noLp (a : A3) : Bool := !decide (a.1 = a.2.1)
theorem nrm_of {A F s : List A3} (hF : F = A.filter noLp) (hp : s.Perm F) (hs : s.Pairwise fun x y => ¬ lt3 y x) : Nrm A (cpt s s.length) := by
 have hs' : ∀ i j : Int, 0 ≤ i -> i < j -> j < (s.length : Int) -> ¬ lt3 (gt s j) (gt s i) := fun i j i0 ij j1 => by
  obtain ⟨i, rfl⟩ := Int.eq_ofNat_of_zero_le i0
  obtain ⟨j, rfl⟩ := Int.eq_ofNat_of_zero_le (show 0 ≤ j by omega)
  rw [gt_nat (show i < s.length by omega), gt_nat (show j < s.length by omega)]
  exact List.pairwise_iff_getElem.1 hs i j (by omega) (by omega) (by omega)
 have mem : ∀ x, x ∈ s ↔ (x ∈ A /\ x.1 ≠ x.2.1) := fun x => by
  rw [hp.mem_iff, hF, List.mem_filter]; simp [noLp]
 have inc := cpt_inc hs' (Nat.le_refl _)
 refine ⟨inc, fun a ha => ?_, fun a ha hn => ?_⟩
 ·obtain ⟨i, i0, i1, e⟩ := cpt_mem hs' (Nat.le_refl _) a ha
  have hm := (mem a).1 (by rw [e]; exact gt_mem i0 i1)
  refine ⟨hm.1, hm.2, fun b hb hk => ?_⟩
  have hbn : b.1 ≠ b.2.1 := by have := hm.2; unfold key2 at hk; omega
  obtain ⟨j, j0, j1, rfl⟩ := mem_gtE ((mem b).2 ⟨hb, hbn⟩)
  obtain ⟨x, x1, x2, x3⟩ := cpt_has hs' (Nat.le_refl _) j j0 j1
  have : x = a := inc_key inc x1 ha (by unfold key2 at *; omega)
  rw [← this]; exact x3
 ·obtain ⟨j, j0, j1, rfl⟩ := mem_gtE ((mem a).2 ⟨ha, hn⟩)
  obtain ⟨x, x1, x2, _⟩ := cpt_has hs' (Nat.le_refl _) j j0 j1
  exact ⟨x, x1, x2⟩
end Go.Vd

/-! (Gc) -/

set_option linter.unusedVariables false
set_option linter.unusedSimpArgs false
namespace Go.Vd
variable {N : Int} {A L : List A3}
def arcG (N : Int) (a : A3) : Int := if a.1 < 0 ∨ a.1 ≥ N ∨ a.2.1 < 0 ∨ a.2.1 ≥ N then 7 else if a.2.2 < 0 ∨ a.2.2 > 2147483647 then 8 else 0
def BigG (N : Int) (A : List A3) : Prop := N < 0 ∨ N > 65536 ∨ (A.length : Int) > 262144
inductive GChk (N : Int) (A : List A3) : Er -> Prop
 | limit : BigG N A -> GChk N A (.no 9)
 | arc (i : Int) : ¬ BigG N A -> 0 ≤ i -> i < (A.length : Int) -> arcG N (gt A i) ≠ 0 -> (∀ j, 0 ≤ j -> j < i -> arcG N (gt A j) = 0) -> GChk N A (.at 4 i (.no (arcG N (gt A i))))
 | ok : ¬ BigG N A -> (∀ j, 0 ≤ j -> j < (A.length : Int) -> arcG N (gt A j) = 0) -> GChk N A .nil
theorem arcG_7 {a : A3} (h : a.1 < 0 ∨ a.1 ≥ N ∨ a.2.1 < 0 ∨ a.2.1 ≥ N) : arcG N a = 7 := by unfold arcG; rw [if_pos h]
theorem arcG_8 {a : A3} (h : ¬ (a.1 < 0 ∨ a.1 ≥ N ∨ a.2.1 < 0 ∨ a.2.1 ≥ N)) (k : a.2.2 < 0 ∨ a.2.2 > 2147483647) : arcG N a = 8 := by unfold arcG; rw [if_neg h, if_pos k]
theorem arcG_0 {a : A3} (h : ¬ (a.1 < 0 ∨ a.1 ≥ N ∨ a.2.1 < 0 ∨ a.2.1 ≥ N)) (k : ¬ (a.2.2 < 0 ∨ a.2.2 > 2147483647)) : arcG N a = 0 := by unfold arcG; rw [if_neg h, if_neg k]
theorem arcG_ok {a : A3} (h : arcG N a = 0) : 0 ≤ a.1 /\ a.1 < N /\ 0 ≤ a.2.1 /\ a.2.1 < N /\ 0 ≤ a.2.2 /\ a.2.2 ≤ 2147483647 := by
 unfold arcG at h
 split at h
 ·cases h
 ·split at h
  ·cases h
  ·omega
theorem GChk.uniq {er er' : Er} (h : GChk N A er) (k : GChk N A er') : er = er' := by
 cases h with
 | limit h1 =>
  cases k with
  | limit _ => rfl
  | arc _ k1 => exact absurd h1 k1
  | ok k1 _ => exact absurd h1 k1
 | arc i h1 h2 h3 h4 h5 =>
  cases k with
  | limit k1 => exact absurd k1 h1
  | arc j _ k2 k3 k4 k5 =>
   have : i = j := by
    rcases Int.lt_trichotomy i j with q | q | q
    ·exact absurd (k5 i h2 q) h4
    ·exact q
    ·exact absurd (h5 j k2 q) k4
   rw [this]
  | ok _ k2 => exact absurd (k2 i h2 h3) h4
 | ok h1 h2 =>
  cases k with
  | limit k1 => exact absurd k1 h1
  | arc j _ k2 k3 k4 _ => exact absurd (h2 j k2 k3) k4
  | ok _ _ => rfl
theorem GChk.bad {er : Er} (h : GChk N A er) : (er.code ≠ 0 ∨ er.pls ≠ []) ↔ er ≠ .nil := by
 cases h with
 | limit _ => simp [Er.code]
 | arc i _ _ _ h4 _ => simp [Er.pls]
 | ok _ _ => simp [Er.code, Er.pls]
theorem GChk.small (h : GChk N A .nil) : 0 ≤ N /\ N ≤ 65536 /\ (A.length : Int) ≤ 262144 := by
 cases h with
 | ok h1 _ => unfold BigG at h1; omega
theorem GChk.arcs (h : GChk N A .nil) : ∀ a ∈ A, 0 ≤ a.1 /\ a.1 < N /\ 0 ≤ a.2.1 /\ a.2.1 < N /\ 0 ≤ a.2.2 /\ a.2.2 ≤ 2147483647 := by
 cases h with
 | ok h1 h2 =>
  intro a ha
  obtain ⟨i, i0, i1, rfl⟩ := mem_gtE ha
  exact arcG_ok (h2 i i0 i1)
theorem p_garc {a : A3} : z_gtext_arc a.1 a.2.1 a.2.2 N = some (if arcG N a = 0 then .nil else .no (arcG N a)) := by
 refine T_eq.1 ?_
 unfold z_gtext_arc
 refine T_bindr (fun o => o = decide (a.1 < 0 ∨ a.1 ≥ N ∨ a.2.1 < 0 ∨ a.2.1 ≥ N)) ?_ ?_
 ·unfold z_gtext_within
  simp only [T_bind, T_ite, T_some]
  refine ⟨fun h1 => ⟨fun h2 => ⟨fun h3 => ?_, fun h3 => ?_⟩, fun h2 => ?_⟩, fun h1 => ⟨fun h2 => ?_, fun h2 => ?_⟩⟩
  ·have h2' : a.1 < N := by simpa using h2
   by_cases h4 : a.2.1 < N
   ·simp [h4]; omega
   ·simp [h4]; omega
  ·simp; omega
  ·have h2' : ¬ a.1 < N := by simpa using h2
   simp; omega
  ·simp at h2
  ·simp; omega
 ·rintro _ rfl
  by_cases h : a.1 < 0 ∨ a.1 ≥ N ∨ a.2.1 < 0 ∨ a.2.1 ≥ N
  ·rw [arcG_7 h]; simp [h]
  ·rw [decide_eq_false h, if_neg (by decide)]
   by_cases k1 : a.2.2 < 0
   ·rw [if_pos k1, arcG_8 h (.inl k1)]; simp
   ·rw [if_neg k1]
    by_cases k2 : a.2.2 > 2147483647
    ·rw [if_pos k2, arcG_8 h (.inr k2)]; simp
    ·rw [if_neg k2, arcG_0 h (by omega)]; simp
theorem p_fAtG {k i : Int} {e : Er} (h : e ≠ .nil) : z_fault_At k i e = some (.at k i e) := by
 unfold z_fault_At; rw [if_neg h]
theorem p_big : T (if N < 0 then (some true) else (if N > 65536 then (some true) else (some (decide ((A.length : Int) > 262144)))) : Option Bool) fun o => o = true ↔ BigG N A := by
 unfold BigG
 simp only [T_ite, T_some]
 exact ⟨fun h => by simp [h], fun h => ⟨fun h2 => by simp [h2], fun h2 => by simp; omega⟩⟩
theorem p_gCheck : T (z_gtext_Check N A) (GChk N A) := by
 unfold z_gtext_Check
 refine T_bindr _ p_big fun o ho => ?_
 rw [T_ite]
 refine ⟨fun h => by simp only [T_some]; exact .limit (ho.1 h), fun h => ?_⟩
 have hb : ¬ BigG N A := fun k => h (ho.2 k)
 have hl : (A.length : Int) ≤ 262144 := by unfold BigG at hb; omega
 refine T_binds (fun _ => ∀ j, 0 ≤ j -> j < (A.length : Int) -> arcG N (gt A j) = 0) ?_ fun _ h => by simp only [T_some]; exact .ok hb h
 refine T_loop (fun i => 0 ≤ i /\ i ≤ (A.length : Int) /\ ∀ j, 0 ≤ j -> j < i -> arcG N (gt A j) = 0) (fun i => ((A.length : Int) - i).toNat) ?_ ⟨by simp, by simp, fun j j0 j1 => by omega⟩
 rintro i ⟨i0, i1, hi⟩
 unfold z_gtext_Check_l0
 rw [T_ite]
 refine ⟨fun hlt => ?_, fun hge => by simp only [T_some, Sum.elim_inr]; exact fun j j0 j1 => hi j j0 (by omega)⟩
 rw [T_G, p_garc, Option.bind_some]
 refine ⟨i0, ?_⟩
 by_cases h0 : arcG N (gt A i) = 0
 ·rw [if_pos h0, if_pos rfl]
  simp only [T_G, T_some, Sum.elim_inl]
  refine ⟨by omega, ⟨by omega, by omega, fun j j0 j1 => ?_⟩, by omega⟩
  by_cases e : j = i
  ·rw [e]; exact h0
  ·exact hi j j0 (by omega)
 ·rw [if_neg h0, if_neg (by simp), p_fAtG (by simp), Option.bind_some]
  simp only [T_map, T_some, Sum.elim_inr, Sum.elim_inl]
  exact .arc i hb i0 hlt h0 hi
def swp3 (a : A3) : A3 := (a.2.1, a.1, a.2.2)
inductive RevA (N : Int) (A : List A3) : Int -> List A3 -> Er -> Prop
 | bad (er : Er) : GChk N A er -> er ≠ .nil -> RevA N A 0 [] er
 | ok : GChk N A .nil -> RevA N A N (A.map swp3) .nil
end Go.Vd

/-! (PrGd) -/

set_option linter.unusedVariables false
set_option linter.unusedSimpArgs false
namespace Go.Vd
variable {N : Int} {A L : List A3}
theorem p_gDocCheck : T (z_viaductref03_DocCheck N A) fun r => ∃ er, GChk N A er /\ r = (er.code, er.pls) := by
 unfold z_viaductref03_DocCheck
 refine T_bindr _ p_big fun o ho => ?_
 rw [T_ite]
 refine ⟨fun h => by rw [p_E, Option.bind_some]; simp only [T_some]; exact ⟨.no 9, .limit (ho.1 h), rfl⟩, fun h => ?_⟩
 have hb : ¬ BigG N A := fun k => h (ho.2 k)
 have hl : (A.length : Int) ≤ 262144 := by unfold BigG at hb; omega
 refine T_binds (fun _ => ∀ j, 0 ≤ j -> j < (A.length : Int) -> arcG N (gt A j) = 0) ?_ fun _ h => by simp only [T_some]; exact ⟨.nil, .ok hb h, rfl⟩
 refine T_loop (fun i => 0 ≤ i /\ i ≤ (A.length : Int) /\ ∀ j, 0 ≤ j -> j < i -> arcG N (gt A j) = 0) (fun i => ((A.length : Int) - i).toNat) ?_ ⟨by simp, by simp, fun j j0 j1 => by omega⟩
 rintro i ⟨i0, i1, hi⟩
 unfold z_viaductref03_DocCheck_l0
 rw [T_ite]
 refine ⟨fun hlt => ?_, fun hge => by simp only [T_some, Sum.elim_inr]; exact fun j j0 j1 => hi j j0 (by omega)⟩
 rw [T_G]
 refine ⟨i0, T_bindr (fun o => o = true ↔ ((gt A i).1 < 0 ∨ (gt A i).1 ≥ N ∨ (gt A i).2.1 < 0 ∨ (gt A i).2.1 ≥ N)) ?_ fun o ho => ?_⟩
 ·simp only [T_ite, T_some]
  refine ⟨fun h => by simp [h], fun h1 => ⟨fun h => by simp; omega, fun h2 => ⟨fun h => by simp [h], fun h3 => by simp; omega⟩⟩⟩
 rw [T_ite]
 refine ⟨fun h => ?_, fun h => ?_⟩
 ·have h7 := arcG_7 (ho.1 h)
  rw [p_E, Option.bind_some, p_At (by simp), Option.bind_some]
  simp only [T_map, T_some, Sum.elim_inr, Sum.elim_inl]
  refine ⟨_, .arc i hb i0 hlt (by rw [h7]; decide) hi, ?_⟩
  rw [h7]; rfl
 ·have hn : ¬ ((gt A i).1 < 0 ∨ (gt A i).1 ≥ N ∨ (gt A i).2.1 < 0 ∨ (gt A i).2.1 ≥ N) := fun k => h (ho.2 k)
  refine T_bindr (fun o => o = true ↔ ((gt A i).2.2 < 0 ∨ (gt A i).2.2 > 2147483647)) ?_ fun o ho => ?_
  ·simp only [T_ite, T_some]
   exact ⟨fun h => by simp [h], fun h => by simp; omega⟩
  rw [T_ite]
  refine ⟨fun h => ?_, fun h => ?_⟩
  ·have h8 := arcG_8 hn (ho.1 h)
   rw [p_E, Option.bind_some, p_At (by simp), Option.bind_some]
   simp only [T_map, T_some, Sum.elim_inr, Sum.elim_inl]
   refine ⟨_, .arc i hb i0 hlt (by rw [h8]; decide) hi, ?_⟩
   rw [h8]; rfl
  ·have h0 := arcG_0 hn fun k => h (ho.2 k)
   simp only [T_G, T_some, Sum.elim_inl]
   refine ⟨by omega, ⟨by omega, by omega, fun j j0 j1 => ?_⟩, by omega⟩
   by_cases e : j = i
   ·rw [e]; exact h0
   ·exact hi j j0 (by omega)
end Go.Vd

/-! (PrGf) -/

set_option linter.unusedVariables false
set_option linter.unusedSimpArgs false
namespace Go.Vd
variable {N : Int} {A L : List A3}
theorem p_Few {most : Int} : T (z_viaductref04_Few N A most) fun b => b = true ↔ (GChk N A .nil /\ N ≤ most /\ (A.length : Int) ≤ 2000) := by
 unfold z_viaductref04_Few
 refine T_bindr _ p_gDocCheck ?_
 rintro _ ⟨er, hc, rfl⟩
 dsimp only
 rw [p_Bad, Option.bind_some, T_ite]
 refine ⟨fun h => ?_, fun h => ?_⟩
 ·have hne := hc.bad.1 (by simpa using h)
  simp only [T_some]
  simp; exact fun k => absurd (hc.uniq k) hne
 ·have he : er = .nil := Classical.not_not.1 fun k => h (by simpa using hc.bad.2 k)
  subst he
  rw [T_ite]
  simp only [T_some]
  exact ⟨fun h => by simp [hc, h], fun h => by simp; intro _ k; omega⟩
end Go.Vd

/-! (So3) -/

set_option linter.unusedVariables false
set_option linter.unusedSimpArgs false
namespace Go.Vd
variable {N : Int} {A L : List A3}
inductive OfA (N : Int) (A : List A3) : Int -> List A3 -> Er -> Prop
 | bad (er : Er) : GChk N A er -> er ≠ .nil -> OfA N A 0 [] er
 | ok (L : List A3) : GChk N A .nil -> Nrm A L -> L.length ≤ A.length -> OfA N A N L .nil
theorem p_Of : T (z_normal_Of N A) fun r => OfA N A r.1 r.2.1 r.2.2 := by
 unfold z_normal_Of
 refine T_bindr _ p_gCheck fun er hc => ?_
 rw [T_ite]
 refine ⟨fun he => ?_, fun he => by simp only [T_some]; exact .bad er hc he⟩
 subst he
 obtain ⟨n0, n1, n2⟩ := hc.small
 refine T_bindr (fun c => c = A.filter noLp) ?_ ?_
 ·refine T_loop (fun z => 0 ≤ z.1 /\ z.1 ≤ (A.length : Int) /\ z.2 = (A.take z.1.toNat).filter noLp) (fun z => ((A.length : Int) - z.1).toNat) ?_ ⟨by simp, by simp, by simp⟩
  rintro ⟨i, c⟩ ⟨i0, i1, e⟩
  dsimp only at *
  subst e
  unfold z_normal_Of_l0
  rw [T_ite]
  refine ⟨fun hlt => ?_, fun hge => ?_⟩
  rotate_left
  ·simp only [T_some, Sum.elim_inr]
   rw [List.take_of_length_le (by omega)]
  have hll := List.length_filter_le noLp (A.take i.toNat)
  have hlt2 : (A.take i.toNat).length ≤ A.length := by rw [List.length_take]; omega
  have next : (A.take (i + 1).toNat).filter noLp = (A.take i.toNat).filter noLp ++ if (gt A i).1 = (gt A i).2.1 then [] else [gt A i] := by
   rw [take_gtE i0 hlt, List.filter_append]
   congr 1
   by_cases h : (gt A i).1 = (gt A i).2.1 <;> simp [List.filter, noLp, h]
  simp only [T_G, T_ite, T_some, Sum.elim_inl]
  refine ⟨i0, fun h => ⟨by omega, ⟨by omega, by omega, ?_⟩, by omega⟩, fun h => ⟨by omega, by omega, ⟨by omega, by omega, ?_⟩, by omega⟩⟩
  ·rw [next, if_pos h, List.append_nil]
  ·rw [next, if_neg h]
 ·rintro _ rfl
  have hll := List.length_filter_le noLp A
  rw [T_G, p_sort, Option.bind_some]
  refine ⟨by omega, ?_⟩
  have hp := sortL_perm ord3 (A.filter noLp)
  have hlen := hp.length_eq
  refine T_bindr _ (p_Compact (by omega)) fun r hr => ?_
  simp only [T_some]
  rw [hr]
  refine .ok _ hc (nrm_of rfl hp (sort_rise _)) ?_
  have := cpt_len (sortL ord3 (A.filter noLp)) (sortL ord3 (A.filter noLp)).length
  omega
end Go.Vd

/-! (Wk0) -/

set_option linter.unusedVariables false
set_option linter.unusedSimpArgs false
namespace Go.Vd
variable {N i j d : Int} {A L : List A3}
inductive Wk (A : List A3) : Int -> Int -> Int -> Prop
 | refl (i : Int) : Wk A i i 0
 | step (i u d x w : Int) : Wk A i u d -> (u, x, w) ∈ A -> Wk A i x (d + w)
theorem Wk.cat {i u v d e : Int} (h : Wk A i u d) (k : Wk A u v e) : Wk A i v (d + e) := by
 induction k with
 | refl => simpa using h
 | step u e x w _ ha ih =>
  have := ih.step _ _ _ _ w ha
  rwa [Int.add_assoc] at this
theorem Wk.one {i j w : Int} (h : (i, j, w) ∈ A) : Wk A i j w := by
 have := (Wk.refl i).step _ _ _ j w h
 simpa using this
theorem Wk.nrm (k : Nrm A L) (ha : ∀ a ∈ A, 0 ≤ a.2.2) (h : Wk A i j d) : ∃ e, Wk L i j e /\ e ≤ d := by
 induction h with
 | refl => exact ⟨0, .refl _, Int.le_refl _⟩
 | step u e x w _ hm ih =>
  obtain ⟨f, h1, h2⟩ := ih
  have := ha _ hm
  dsimp only at this
  by_cases q : u = x
  ·subst q; exact ⟨f, h1, by omega⟩
  ·obtain ⟨b, b1, b2⟩ := k.sup _ hm q
   have b3 := (k.sub b b1).2.2 _ hm ⟨b2.1.symm, b2.2.symm⟩
   have eb : (u, x, b.2.2) = b := eq3 b2.1.symm b2.2.symm rfl
   exact ⟨f + b.2.2, h1.step _ _ _ _ _ (by rw [eb]; exact b1), by dsimp only at b3; omega⟩
theorem Wk.sub (k : ∀ a ∈ L, a ∈ A) (h : Wk L i j d) : Wk A i j d := by
 induction h with
 | refl => exact .refl _
 | step u e x w _ hm ih => exact ih.step _ _ _ _ _ (k _ hm)
theorem arcs_in (h : GChk N A .nil) : ∀ a ∈ A, (0 ≤ a.1 /\ a.1 < N) /\ 0 ≤ a.2.1 /\ a.2.1 < N /\ 0 ≤ a.2.2 /\ a.2.2 ≤ 2147483647 := fun a ha => by
 obtain ⟨a1, a2, a3, a4, a5, a6⟩ := h.arcs a ha; exact ⟨⟨a1, a2⟩, a3, a4, a5, a6⟩
end Go.Vd

/-! (Fw) -/

set_option linter.unusedVariables false
set_option linter.unusedSimpArgs false
namespace Go.Vd
variable {N n k i j : Int} {A L : List A3} {E E' : Int -> Int -> Int} {M : List (List Int)}
def IsM (n : Int) (M : List (List Int)) (E : Int -> Int -> Int) : Prop := (M.length : Int) = n /\ ∀ i, 0 ≤ i -> i < n -> ((gt M i).length : Int) = n /\ ∀ j, 0 ≤ j -> j < n -> gt (gt M i) j = E i j
theorem IsM.congr (h : IsM n M E) (k : ∀ i j, 0 ≤ i -> i < n -> 0 ≤ j -> j < n -> E i j = E' i j) : IsM n M E' :=
 ⟨h.1, fun i i0 i1 => ⟨(h.2 i i0 i1).1, fun j j0 j1 => ((h.2 i i0 i1).2 j j0 j1).trans (k i j i0 i1 j0 j1)⟩⟩
theorem IsM.upd (h : IsM n M E) (i0 : 0 ≤ i) (i1 : i < n) (j0 : 0 ≤ j) (j1 : j < n) {v : Int} : IsM n (M.set i.toNat ((gt M i).set j.toNat v)) (fun a b => if a = i /\ b = j then v else E a b) := by
 have hl := h.1
 refine ⟨by simpa using h.1, fun a a0 a1 => ?_⟩
 rw [gt_setE i0 (by omega) a0]
 by_cases e : a = i
 ·subst e
  rw [if_pos rfl]
  obtain ⟨h1, h2⟩ := h.2 a a0 a1
  refine ⟨by simpa using h1, fun b b0 b1 => ?_⟩
  rw [gt_setE j0 (by omega) b0]
  by_cases f : b = j
  ·rw [if_pos f]; dsimp only; rw [if_pos ⟨rfl, f⟩]
  ·rw [if_neg f]; dsimp only; rw [if_neg (fun q => f q.2)]; exact h2 b b0 b1
 ·rw [if_neg e]
  obtain ⟨h1, h2⟩ := h.2 a a0 a1
  exact ⟨h1, fun b b0 b1 => by dsimp only; rw [if_neg (fun q => e q.1)]; exact h2 b b0 b1⟩
structure FwI (N : Int) (A : List A3) (B k : Int) (E : Int -> Int -> Int) : Prop where
 rng : ∀ i j, 0 ≤ i -> i < N -> 0 ≤ j -> j < N -> E i j = 18446744073709551615 ∨ (0 ≤ E i j /\ E i j ≤ B)
 snd : ∀ i j, 0 ≤ i -> i < N -> 0 ≤ j -> j < N -> E i j ≠ 18446744073709551615 -> Wk A i j (E i j)
 dia : ∀ i, 0 ≤ i -> i < N -> E i i = 0
 arc : ∀ a ∈ A, E a.1 a.2.1 ≤ a.2.2
 tri : ∀ m, 0 ≤ m -> m < k -> ∀ i j, 0 ≤ i -> i < N -> 0 ≤ j -> j < N -> E i m ≠ 18446744073709551615 -> E m j ≠ 18446744073709551615 -> E i j ≤ E i m + E m j
def thv (E : Int -> Int -> Int) (k i j : Int) : Int := if E i k ≠ 18446744073709551615 /\ E k j ≠ 18446744073709551615 then min (E i j) (E i k + E k j) else E i j
theorem thv_row (h : E k k = 0) : thv E k k j = E k j := by unfold thv; split <;> omega
theorem thv_col (h : E k k = 0) : thv E k i k = E i k := by unfold thv; split <;> omega
theorem thv_le {B : Int} (h : E i j = 18446744073709551615 ∨ (0 ≤ E i j /\ E i j ≤ B)) (hb : B ≤ 9000000000000000000) : thv E k i j ≤ E i j := by unfold thv; split <;> omega
theorem FwI.next {B : Int} (h : FwI N A B k E) (hb : B ≤ 9000000000000000000) (k0 : 0 ≤ k) (k1 : k < N) (ha : ∀ a ∈ A, (0 ≤ a.1 /\ a.1 < N) /\ 0 ≤ a.2.1 /\ a.2.1 < N) : FwI N A (B + B) (k + 1) (thv E k) := by
 have kk := h.dia k k0 k1
 refine ⟨fun i j i0 i1 j0 j1 => ?_, fun i j i0 i1 j0 j1 hne => ?_, fun i i0 i1 => ?_, fun a haA => ?_, fun m m0 m1 i j i0 i1 j0 j1 n1 n2 => ?_⟩
 ·have r1 := h.rng i j i0 i1 j0 j1; have r2 := h.rng i k i0 i1 k0 k1; have r3 := h.rng k j k0 k1 j0 j1
  unfold thv; split <;> omega
 ·have r1 := h.rng i j i0 i1 j0 j1; have r2 := h.rng i k i0 i1 k0 k1; have r3 := h.rng k j k0 k1 j0 j1
  by_cases c : E i k ≠ 18446744073709551615 /\ E k j ≠ 18446744073709551615
  ·have e : thv E k i j = min (E i j) (E i k + E k j) := by unfold thv; rw [if_pos c]
   rw [e] at hne ⊢
   by_cases q : E i j ≤ E i k + E k j
   ·rw [Int.min_eq_left q] at hne ⊢; exact h.snd i j i0 i1 j0 j1 hne
   ·rw [Int.min_eq_right (by omega)]; exact (h.snd i k i0 i1 k0 k1 c.1).cat (h.snd k j k0 k1 j0 j1 c.2)
  ·have e : thv E k i j = E i j := by unfold thv; rw [if_neg c]
   rw [e] at hne ⊢
   exact h.snd i j i0 i1 j0 j1 hne
 ·have r2 := h.rng i k i0 i1 k0 k1; have r3 := h.rng k i k0 k1 i0 i1
  have := h.dia i i0 i1
  unfold thv; split <;> omega
 ·obtain ⟨⟨a1, a2⟩, a3, a4⟩ := ha a haA
  have := h.arc a haA
  have := thv_le (k := k) (h.rng a.1 a.2.1 a1 a2 a3 a4) hb
  omega
 ·have m2 : m < N := by omega
  by_cases e : m = k
  ·subst e
   rw [thv_col kk] at n1 ⊢
   rw [thv_row kk] at n2 ⊢
   unfold thv; rw [if_pos ⟨n1, n2⟩]; omega
  ·have mk : m < k := by omega
   have tr : ∀ a b, 0 ≤ a -> a < N -> 0 ≤ b -> b < N -> E a m = 18446744073709551615 ∨ E m b = 18446744073709551615 ∨ E a b ≤ E a m + E m b := fun a b a0 a1 b0 b1 => by
    by_cases c1 : E a m = 18446744073709551615
    ·exact .inl c1
    ·by_cases c2 : E m b = 18446744073709551615
     ·exact .inr (.inl c2)
     ·exact .inr (.inr (h.tri m m0 mk a b a0 a1 b0 b1 c1 c2))
   have t1 := tr i j i0 i1 j0 j1; have t2 := tr i k i0 i1 k0 k1; have t3 := tr k j k0 k1 j0 j1; have t4 := tr k k k0 k1 k0 k1
   have r1 := h.rng i j i0 i1 j0 j1; have r2 := h.rng i k i0 i1 k0 k1; have r3 := h.rng k j k0 k1 j0 j1
   have r4 := h.rng i m i0 i1 m0 m2; have r5 := h.rng m j m0 m2 j0 j1; have r6 := h.rng k m k0 k1 m0 m2; have r7 := h.rng m k m0 m2 k0 k1
   unfold thv at n1 n2 ⊢
   clear h
   generalize E i j = x1 at *; generalize E i k = x2 at *; generalize E k j = x3 at *; generalize E i m = x4 at *; generalize E m j = x5 at *; generalize E k m = x6 at *; generalize E m k = x7 at *
   by_cases c1 : x2 = 18446744073709551615 <;> by_cases c2 : x3 = 18446744073709551615 <;> by_cases c3 : x6 = 18446744073709551615 <;> by_cases c4 : x7 = 18446744073709551615 <;> simp only [c1, c2, c3, c4, ne_eq, not_true_eq_false, not_false_eq_true, and_true, and_false, true_and, false_and, false_or, true_or, or_true, or_false, if_true, if_false] at n1 n2 t1 t2 t3 t4 r1 r2 r3 r4 r5 r6 r7 ⊢ <;> omega
theorem FwI.low {B : Int} (h : FwI N A B N E) (hb : B ≤ 9000000000000000000) (ha : ∀ a ∈ A, (0 ≤ a.1 /\ a.1 < N) /\ 0 ≤ a.2.1 /\ a.2.1 < N /\ 0 ≤ a.2.2 /\ a.2.2 ≤ 2147483647) (i0 : 0 ≤ i) (i1 : i < N) {d : Int} (w : Wk A i j d) :
  (0 ≤ j /\ j < N) /\ (E i j ≤ d) /\ E i j ≠ 18446744073709551615 := by
 induction w with
 | refl => have := h.dia _ i0 i1; exact ⟨⟨i0, i1⟩, by omega, by omega⟩
 | step u e x w _ hm ih =>
  obtain ⟨⟨u0, u1⟩, h1, h2⟩ := ih
  obtain ⟨⟨_, _⟩, a3, a4, a5, a6⟩ := ha _ hm
  have h3 := h.arc _ hm
  dsimp only at *
  have r1 := h.rng _ x i0 i1 a3 a4
  have r2 := h.rng _ u i0 i1 u0 u1
  have r3 := h.rng u x u0 u1 a3 a4
  have := h.tri u u0 u1 _ x i0 i1 a3 a4 h2 (by omega)
  exact ⟨⟨a3, a4⟩, by omega, by omega⟩
def DistM (N : Int) (A : List A3) (M : List (List Int)) : Prop := ∃ E B, B ≤ 9000000000000000000 /\ IsM N M E /\ FwI N A B N E
theorem rep_len {E0 : Type} {m : Int} {x : E0} (h : 0 ≤ m) : ((List.replicate m.toNat x).length : Int) = m := by simp; omega
theorem gt_repI {m : Nat} {x : Int} : gt (List.replicate m (0 : Int)) x = 0 := by
 unfold gt
 rw [List.getD_eq_getElem?_getD, List.getElem?_replicate]
 split <;> rfl
def E0f : Int -> Int -> Int := fun a b => if a = b then 0 else 18446744073709551615
theorem p_fwInit (n0 : 0 ≤ N) (n1 : N ≤ 65536) : T (loopO (fun zz_ => z_viaductref04_Distances_l1 N zz_.1 zz_.2) (0, (List.replicate N.toNat ([] : List Int)))) fun M => IsM N M E0f := by
 refine T_loop (fun z => 0 ≤ z.1 /\ z.1 ≤ N /\ (z.2.length : Int) = N /\ ∀ a, 0 ≤ a -> a < z.1 -> ((gt z.2 a).length : Int) = N /\ ∀ b, 0 ≤ b -> b < N -> gt (gt z.2 a) b = E0f a b) (fun z => (N - z.1).toNat) ?_ ⟨by simp, n0, rep_len n0, fun a a0 a1 => by dsimp only at a1; omega⟩
 rintro ⟨x, d⟩ ⟨x0, x1, hl, hd⟩
 dsimp only at *
 unfold z_viaductref04_Distances_l1
 rw [rep_len n0, T_ite]
 refine ⟨fun hx => ?_, fun hx => ?_⟩
 rotate_left
 ·simp only [T_some, Sum.elim_inr]
  exact ⟨hl, fun a a0 a1 => hd a a0 (by omega)⟩
 rw [T_G, T_G, T_G]
 refine ⟨by omega, by omega, by simp; omega, ?_⟩
 have hg : gt (d.set x.toNat (List.replicate N.toNat (0 : Int))) x = List.replicate N.toNat 0 := by rw [gt_setE x0 (by omega) x0, if_pos rfl]
 refine T_bindr (fun r => (r.length : Int) = N /\ (∀ a, 0 ≤ a -> a ≠ x -> gt r a = gt d a) /\ ((gt r x).length : Int) = N /\ ∀ b, 0 ≤ b -> b < N -> gt (gt r x) b = E0f x b) ?_ ?_
 ·refine T_loop (fun z => 0 ≤ z.2 /\ z.2 ≤ N /\ (z.1.length : Int) = N /\ (∀ a, 0 ≤ a -> a ≠ x -> gt z.1 a = gt d a) /\ ((gt z.1 x).length : Int) = N /\ ∀ b, 0 ≤ b -> b < N -> gt (gt z.1 x) b = if b < z.2 then E0f x b else 0) (fun z => (N - z.2).toNat) ?_
   ⟨by simp, n0, by simpa using hl, fun a a0 ha => by (try dsimp only); rw [gt_setE x0 (by omega) a0, if_neg ha], by (try dsimp only); rw [hg]; exact rep_len n0, fun b b0 b1 => by (try dsimp only); rw [hg, gt_repI, if_neg (by omega)]⟩
  rintro ⟨r, y⟩ ⟨y0, y1, r1, r2, r3, r4⟩
  dsimp only at *
  unfold z_viaductref04_Distances_l0
  rw [hg, rep_len n0, T_ite]
  refine ⟨fun hy => ?_, fun hy => ?_⟩
  rotate_left
  ·simp only [T_some, Sum.elim_inr]
   exact ⟨r1, r2, r3, fun b b0 b1 => by rw [r4 b b0 b1, if_pos (by omega)]⟩
  rw [T_ite]
  refine ⟨fun e => ?_, fun e => ?_⟩
  ·simp only [T_G, T_some, Sum.elim_inl]
   refine ⟨by omega, ⟨by omega, by omega, r1, r2, r3, fun b b0 b1 => ?_⟩, by omega⟩
   rw [r4 b b0 b1]
   by_cases f : b < y
   ·rw [if_pos f, if_pos (by omega)]
   ·rw [if_neg f]
    by_cases g : b = y
    ·subst g; rw [if_pos (by omega)]; unfold E0f; rw [if_pos e]
    ·rw [if_neg (by omega)]
  ·simp only [T_G, T_some, Sum.elim_inl]
   refine ⟨by omega, by omega, by omega, ⟨by omega, by omega, by simpa using r1, fun a a0 ha => ?_, ?_, fun b b0 b1 => ?_⟩, by omega⟩
   ·rw [gt_setE x0 (by omega) a0, if_neg ha]; exact r2 a a0 ha
   ·rw [gt_setE x0 (by omega) x0, if_pos rfl]; simpa using r3
   ·rw [gt_setE x0 (by omega) x0, if_pos rfl, gt_setE y0 (by omega) b0]
    by_cases g : b = y
    ·subst g; rw [if_pos rfl, if_pos (by omega)]; unfold E0f; rw [if_neg e]
    ·rw [if_neg g, r4 b b0 b1]
     by_cases f : b < y
     ·rw [if_pos f, if_pos (by omega)]
     ·rw [if_neg f, if_neg (by omega)]
 ·rintro r ⟨r1, r2, r3, r4⟩
  simp only [T_G, T_some, Sum.elim_inl]
  refine ⟨by omega, ⟨by omega, by omega, r1, fun a a0 a1 => ?_⟩, by omega⟩
  by_cases e : a = x
  ·rw [e]; exact ⟨r3, r4⟩
  ·rw [r2 a a0 e]; exact hd a a0 (by omega)
theorem p_fwArcs (hg : GChk N A .nil) (h : IsM N M E0f) : T (loopO (fun zz_ => z_viaductref04_Distances_l2 A zz_.1 zz_.2) (M, 0)) fun M' => ∃ E, IsM N M' E /\ FwI N A 2147483647 0 E := by
 obtain ⟨n0, n1, n2⟩ := hg.small
 have ha := hg.arcs
 refine T_loop (fun z => 0 ≤ z.2 /\ z.2 ≤ (A.length : Int) /\ ∃ E, IsM N z.1 E /\ (∀ i j, 0 ≤ i -> i < N -> 0 ≤ j -> j < N -> E i j = 18446744073709551615 ∨ (0 ≤ E i j /\ E i j ≤ 2147483647)) /\
  (∀ i j, 0 ≤ i -> i < N -> 0 ≤ j -> j < N -> E i j ≠ 18446744073709551615 -> Wk A i j (E i j)) /\ (∀ i, 0 ≤ i -> i < N -> E i i = 0) /\ ∀ q, 0 ≤ q -> q < z.2 -> E (gt A q).1 (gt A q).2.1 ≤ (gt A q).2.2) (fun z => ((A.length : Int) - z.2).toNat) ?_ ?_
 ·rintro ⟨d, x⟩ ⟨x0, x1, E, h1, h2, h3, h4, h5⟩
  dsimp only at *
  unfold z_viaductref04_Distances_l2
  rw [T_ite]
  refine ⟨fun hx => ?_, fun hx => ?_⟩
  rotate_left
  ·simp only [T_some, Sum.elim_inr]
   exact ⟨E, h1, h2, h3, h4, fun a hA => by obtain ⟨q, q0, q1, rfl⟩ := mem_gtE hA; exact h5 q q0 (by omega), fun m m0 m1 => by omega⟩
  obtain ⟨a1, a2, a3, a4, a5, a6⟩ := ha _ (gt_mem x0 hx)
  obtain ⟨l1, l2⟩ := h1.2 _ a1 a2
  have hl := h1.1
  have hv := l2 _ a3 a4
  simp only [T_G, T_some, Sum.elim_inl]
  refine ⟨x0, by omega, by omega, by omega, by omega, ⟨by omega, by omega, _, h1.upd a1 a2 a3 a4, fun i j i0 i1 j0 j1 => ?_, fun i j i0 i1 j0 j1 => ?_, fun i i0 i1 => ?_, fun q q0 q1 => ?_⟩, by omega⟩
  ·try dsimp only
   have := h2 i j i0 i1 j0 j1
   have := h2 _ _ a1 a2 a3 a4
   split <;> omega
  ·try dsimp only
   split
   ·rename_i e
    obtain ⟨rfl, rfl⟩ := e
    rw [hv]
    intro hne
    by_cases q : E (gt A x).1 (gt A x).2.1 ≤ (gt A x).2.2
    ·rw [Int.min_eq_left q] at hne ⊢; exact h3 _ _ a1 a2 a3 a4 hne
    ·rw [Int.min_eq_right (by omega)]; exact .one (gt_mem x0 hx)
   ·exact h3 i j i0 i1 j0 j1
  ·try dsimp only
   have := h4 i i0 i1
   split
   ·rename_i e
    rw [hv, ← e.1, ← e.2]
    omega
   ·exact this
  ·try dsimp only
   by_cases e : (gt A q).1 = (gt A x).1 /\ (gt A q).2.1 = (gt A x).2.1
   ·rw [if_pos e, hv]
    by_cases f : q = x
    ·subst f; omega
    ·have := h5 q q0 (by omega)
     rw [e.1, e.2] at this; omega
   ·rw [if_neg e]
    by_cases f : q = x
    ·subst f; exact absurd ⟨rfl, rfl⟩ e
    ·exact h5 q q0 (by omega)
 ·refine ⟨by simp, by simp, E0f, h, fun i j _ _ _ _ => ?_, fun i j i0 i1 j0 j1 => ?_, fun i _ _ => by unfold E0f; rw [if_pos rfl], fun q q0 q1 => by dsimp only at q1; omega⟩
  ·unfold E0f; split <;> simp
  ·unfold E0f
   split
   ·rename_i e; subst e; intro _; exact .refl i
   ·intro q; exact absurd rfl q
theorem p_fwRow {B : Int} (h : FwI N A B k E) (hb : B ≤ 9000000000000000000) (k0 : 0 ≤ k) (k1 : k < N) (hN : N ≤ 65536) (i0 : 0 ≤ i) (i1 : i < N) {d : List (List Int)}
  (hd : IsM N d fun a b => if a < i then thv E k a b else E a b) :
  T (loopO (fun zz_ => z_viaductref04_Distances_l3 k d i zz_.1 zz_.2) (d, 0)) fun r => IsM N r fun a b => if a < i + 1 then thv E k a b else E a b := by
 have kk := h.dia k k0 k1
 have hl := hd.1
 refine T_loop (fun z => 0 ≤ z.2 /\ z.2 ≤ N /\ IsM N z.1 fun a b => if a < i ∨ (a = i /\ b < z.2) then thv E k a b else E a b) (fun z => (N - z.2).toNat) ?_ ⟨by simp, by (try dsimp only); omega, hd.congr fun a b _ _ b0 _ => by
  try dsimp only
  by_cases q : a < i
  ·rw [if_pos q, if_pos (.inl q)]
  ·rw [if_neg q, if_neg (by omega)]⟩
 rintro ⟨r, y⟩ ⟨y0, y1, hr⟩
 dsimp only at *
 unfold z_viaductref04_Distances_l3
 rw [hl, T_ite]
 refine ⟨fun hy => ?_, fun hy => ?_⟩
 rotate_left
 ·simp only [T_some, Sum.elim_inr]
  refine hr.congr fun a b _ _ b0 b1 => ?_
  try dsimp only
  by_cases q : a < i + 1
  ·rw [if_pos q, if_pos (by omega)]
  ·rw [if_neg q, if_neg (by omega)]
 have hrl := hr.1
 obtain ⟨ri1, ri2⟩ := hr.2 i i0 i1
 obtain ⟨rk1, rk2⟩ := hr.2 k k0 k1
 have eik : gt (gt r i) k = E i k := by
  rw [ri2 k k0 k1]; (try dsimp only); split
  ·exact thv_col kk
  ·rfl
 have ekj : gt (gt r k) y = E k y := by
  rw [rk2 y y0 hy]; (try dsimp only); split
  ·exact thv_row kk
  ·rfl
 have eij : gt (gt r i) y = E i y := by
  rw [ri2 y y0 hy]; (try dsimp only); rw [if_neg (by omega)]
 have r1 := h.rng i y i0 i1 y0 hy; have r2 := h.rng i k i0 i1 k0 k1; have r3 := h.rng k y k0 k1 y0 hy
 refine T_bindr (fun o => o = true ↔ (E i k ≠ 18446744073709551615 /\ E k y ≠ 18446744073709551615)) ?_ fun o ho => ?_
 ·rw [eik, ekj]
  simp only [T_G, T_ite, T_some]
  exact ⟨by omega, by omega, fun e => by simp [e], fun e => ⟨by omega, by omega, by simp [e]⟩⟩
 have next : ∀ v, v = thv E k i y -> ∀ q, IsM N q (fun a b => if a = i /\ b = y then v else if a < i ∨ (a = i /\ b < y) then thv E k a b else E a b) -> IsM N q fun a b => if a < i ∨ (a = i /\ b < y + 1) then thv E k a b else E a b := fun v hv q hq => hq.congr fun a b _ _ _ _ => by
  try dsimp only
  by_cases e : a = i /\ b = y
  ·obtain ⟨rfl, rfl⟩ := e
   rw [if_pos ⟨rfl, rfl⟩, if_pos (by omega), hv]
  ·rw [if_neg e]
   by_cases f : a < i ∨ (a = i /\ b < y)
   ·rw [if_pos f, if_pos (by omega)]
   ·rw [if_neg f, if_neg (by omega)]
 rw [T_ite]
 refine ⟨fun e => ?_, fun e => ?_⟩
 ·have c := ho.1 e
  rw [eik, ekj, eij]
  simp only [T_G, T_some, Sum.elim_inl]
  refine ⟨by omega, by omega, by omega, by omega, by omega, by omega, by omega, ⟨by omega, by omega, next _ ?_ _ (hr.upd i0 i1 y0 hy)⟩, by omega⟩
  unfold thv; rw [if_pos c]
 ·have c : ¬ (E i k ≠ 18446744073709551615 /\ E k y ≠ 18446744073709551615) := fun q => e (ho.2 q)
  simp only [T_G, T_some, Sum.elim_inl]
  refine ⟨by omega, ⟨by omega, by omega, hr.congr fun a b _ _ _ _ => ?_⟩, by omega⟩
  try dsimp only
  by_cases f : a = i /\ b = y
  ·obtain ⟨rfl, rfl⟩ := f
   rw [if_neg (by omega), if_pos (by omega)]
   unfold thv; rw [if_neg c]
  ·by_cases g : a < i ∨ (a = i /\ b < y)
   ·rw [if_pos g, if_pos (by omega)]
   ·rw [if_neg g, if_neg (by omega)]
theorem p_Distances (hg : GChk N A .nil) (hN : N ≤ 12) : T (z_viaductref04_Distances N A) (DistM N A) := by
 obtain ⟨n0, n1, n2⟩ := hg.small
 unfold z_viaductref04_Distances
 rw [T_G]
 refine ⟨by omega, T_bindr _ (p_fwInit n0 n1) fun M0 h0 => T_bindr _ (p_fwArcs hg h0) ?_⟩
 rintro M1 ⟨E1, h1, h2⟩
 have hl := h1.1
 refine T_bindr (DistM N A) ?_ fun r hr => by simpa using hr
 refine T_loop (fun z => 0 ≤ z.2 /\ z.2 ≤ N /\ ∃ E, IsM N z.1 E /\ FwI N A (2147483647 * 2 ^ z.2.toNat) z.2 E) (fun z => (N - z.2).toNat) ?_ ⟨by simp, n0, E1, h1, by simpa using h2⟩
 rintro ⟨d, x⟩ ⟨x0, x1, E, h3, h4⟩
 dsimp only at *
 have hpow : (2 : Int) ^ x.toNat ≤ 2 ^ 12 := by
  have : (2 : Nat) ^ x.toNat ≤ 2 ^ 12 := Nat.pow_le_pow_right (by decide) (by omega)
  exact_mod_cast this
 have hpow0 : (0 : Int) < 2 ^ x.toNat := Int.pow_pos (by decide)
 unfold z_viaductref04_Distances_l5
 rw [hl, T_ite]
 refine ⟨fun hx => ?_, fun hx => ?_⟩
 rotate_left
 ·simp only [T_some, Sum.elim_inr]
  have : x = N := by omega
  subst this
  exact ⟨E, _, by omega, h3, h4⟩
 have hdl := h3.1
 refine T_bindr (fun r => IsM N r (thv E x)) ?_ ?_
 ·refine T_loop (fun z => 0 ≤ z.2 /\ z.2 ≤ N /\ IsM N z.1 fun a b => if a < z.2 then thv E x a b else E a b) (fun z => (N - z.2).toNat) ?_ ⟨by simp, n0, h3.congr fun a b a0 _ _ _ => by (try dsimp only); rw [if_neg (by omega)]⟩
  rintro ⟨r, y⟩ ⟨y0, y1, hr⟩
  dsimp only at *
  unfold z_viaductref04_Distances_l4
  rw [hdl, T_ite]
  refine ⟨fun hy => ?_, fun hy => ?_⟩
  ·refine T_bindr _ (p_fwRow h4 (by omega) x0 hx n1 y0 hy hr) fun q hq => ?_
   simp only [T_G, T_some, Sum.elim_inl]
   exact ⟨by omega, ⟨by omega, by omega, hq⟩, by omega⟩
  ·simp only [T_some, Sum.elim_inr]
   exact hr.congr fun a b _ a1 _ _ => by (try dsimp only); rw [if_pos (by omega)]
 ·intro r hr
  simp only [T_G, T_some, Sum.elim_inl]
  refine ⟨by omega, ⟨by omega, by omega, _, hr, ?_⟩, by omega⟩
  have := h4.next (by omega) x0 hx fun a hA => by obtain ⟨a1, a2, a3, a4, _⟩ := hg.arcs a hA; exact ⟨⟨a1, a2⟩, a3, a4⟩
  rw [show (x + 1).toNat = x.toNat + 1 from by omega, Int.pow_succ]
  have e : (2147483647 * (2 ^ x.toNat * 2) : Int) = 2147483647 * 2 ^ x.toNat + 2147483647 * 2 ^ x.toNat := by omega
  rw [e]; exact this
end Go.Vd

/-! (WtA) -/

set_option linter.unusedVariables false
set_option linter.unusedSimpArgs false
namespace Go.Vd
abbrev Lab := Int -> Option (Int × Int × Int)
def lup (L : Lab) (x : Int) (y : Int × Int × Int) : Lab := fun z => if z = x then some y else L z
def opn (L : Lab) (x d : Int) : Prop := match L x with
 | none => True
 | some y => y.2.2 = 0 /\ d < y.1
instance (L : Lab) (x d : Int) : Decidable (opn L x d) := by
 unfold opn
 cases L x with
 | none => exact inferInstanceAs (Decidable True)
 | some y => exact inferInstanceAs (Decidable (_ /\ _))
def wrel (d hp : Int) (L : Lab) (a : Int × Int) : Lab := if opn L a.1 (d + a.2) then lup L a.1 (d + a.2, hp + 1, 0) else L
def wset (row : Int -> List (Int × Int)) (hops : Int) (L : Lab) (v : Int) (y : Int × Int × Int) : Lab :=
 if y.2.1 ≥ hops then lup L v (y.1, y.2.1, 1) else (row v).foldl (wrel y.1 y.2.1) (lup L v (y.1, y.2.1, 1))
def WPick (L : Lab) (v : Int) (y : Int × Int × Int) : Prop :=
 L v = some y /\ y.2.2 = 0 /\ ∀ x z, L x = some z -> z.2.2 = 0 -> y.1 < z.1 ∨ (y.1 = z.1 /\ v ≤ x)
def WNo (L : Lab) : Prop := ∀ x z, L x = some z -> z.2.2 ≠ 0
variable {L L' : Lab} {row : Int -> List (Int × Int)} {hops settles most c N v : Int} {y : Int × Int × Int} {ss : List Int}
theorem WPick.uniq {v w : Int} {y z : Int × Int × Int} (h : WPick L v y) (k : WPick L w z) : v = w /\ y = z := by
 have h1 := h.2.2 w z k.1 k.2.1
 have h2 := k.2.2 v y h.1 h.2.1
 have e : v = w := by omega
 subst e
 exact ⟨rfl, Option.some.inj (h.1.symm.trans k.1)⟩
theorem WPick.no (h : WPick L v y) (k : WNo L) : False := k v y h.1 h.2.1
inductive WR (row : Int -> List (Int × Int)) (hops settles most : Int) : Int -> Lab -> Lab -> Prop
 | full (c : Int) (L : Lab) : settles ≤ c -> WR row hops settles most c L L
 | none (c : Int) (L : Lab) : c < settles -> WNo L -> WR row hops settles most c L L
 | far (c : Int) (L : Lab) (v : Int) (y : Int × Int × Int) : c < settles -> WPick L v y -> y.1 > most -> WR row hops settles most c L L
 | go (c : Int) (L : Lab) (v : Int) (y : Int × Int × Int) (L' : Lab) : c < settles -> WPick L v y -> ¬ y.1 > most -> WR row hops settles most (c + 1) (wset row hops L v y) L' -> WR row hops settles most c L L'
theorem WR.uniq {A B : Lab} (h : WR row hops settles most c L A) (k : WR row hops settles most c L B) : A = B := by
 induction h with
 | full c L h1 =>
  cases k with
  | full => rfl
  | none => rfl
  | far => rfl
  | go _ _ _ _ _ k1 => omega
 | none c L h1 h2 =>
  cases k with
  | full => rfl
  | none => rfl
  | far => rfl
  | go _ _ _ _ _ _ k2 => exact (k2.no h2).elim
 | far c L v y h1 h2 h3 =>
  cases k with
  | full => rfl
  | none => rfl
  | far => rfl
  | go _ _ _ _ _ _ k2 k3 => rw [(h2.uniq k2).2] at h3; exact absurd h3 k3
 | go c L v y L' h1 h2 h3 _ ih =>
  cases k with
  | full _ _ k1 => omega
  | none _ _ _ k2 => exact (h2.no k2).elim
  | far _ _ _ _ _ k2 k3 => rw [← (h2.uniq k2).2] at k3; exact absurd k3 h3
  | go _ _ w z _ _ k2 _ k4 =>
   obtain ⟨rfl, rfl⟩ := h2.uniq k2
   exact ih k4
def RowOk (row : Int -> List (Int × Int)) (N : Int) : Prop := ∀ v, ∀ a ∈ row v, (0 ≤ a.1 /\ a.1 < N) /\ 0 ≤ a.2 /\ a.2 ≤ 140737488355328
structure WI (N c : Int) (L : Lab) (ss : List Int) : Prop where
 dom : ∀ x y, L x = some y -> 0 ≤ x /\ x < N
 val : ∀ x y, L x = some y -> 0 ≤ y.1 /\ y.1 ≤ c * 140737488355328 /\ 0 ≤ y.2.1 /\ y.2.1 ≤ c /\ (y.2.2 = 0 ∨ y.2.2 = 1)
 st : ∀ x, x ∈ ss ↔ ∃ y, L x = some y /\ y.2.2 = 1
 nd : ss.Nodup
theorem nodup_len : ∀ {N : Nat} {l : List Int}, l.Nodup -> (∀ x ∈ l, 0 ≤ x /\ x < (N : Int)) -> l.length ≤ N := by
 intro N
 induction N with
 | zero =>
  intro l _ h
  cases l with
  | nil => simp
  | cons a l => have := h a (by simp); omega
 | succ N ih =>
  intro l hn h
  have h1 : (l.filter (fun x => decide (x ≠ (N : Int)))).length ≤ N := ih (hn.filter _) fun x hx => by
   have hm := List.mem_filter.1 hx
   have := h x hm.1
   have h3 := of_decide_eq_true hm.2
   omega
  have h2 : l.length ≤ (l.filter (fun x => decide (x ≠ (N : Int)))).length + 1 := by
   clear h h1 ih
   induction l with
   | nil => simp
   | cons a l ih2 =>
    rw [List.nodup_cons] at hn
    by_cases e : a = (N : Int)
    ·have : l.filter (fun x => decide (x ≠ (N : Int))) = l := List.filter_eq_self.2 fun x hx => decide_eq_true fun e2 => hn.1 (by rw [e, ← e2]; exact hx)
     rw [List.filter_cons, if_neg (by simp [e]), this]; simp
    ·rw [List.filter_cons, if_pos (by simp [e])]
     have := ih2 hn.2
     simp only [List.length_cons]; omega
  omega
theorem WI.len (h : WI N c L ss) (n0 : 0 ≤ N) : (ss.length : Int) ≤ N := by
 obtain ⟨n, rfl⟩ := Int.eq_ofNat_of_zero_le n0
 have := nodup_len (N := n) h.nd fun x hx => by
  obtain ⟨y, h1, _⟩ := (h.st x).1 hx
  exact h.dom x y h1
 omega
theorem WI.mono (h : WI N c L ss) {c' : Int} (hc : c ≤ c') : WI N c' L ss :=
 ⟨h.dom, fun x y e => by have := h.val x y e; omega, h.st, h.nd⟩
theorem WI.settle (h : WI N c L ss) (e : L v = some y) (h0 : y.2.2 = 0) : WI N c (lup L v (y.1, y.2.1, 1)) (v :: ss) := by
 have hv := h.val v y e
 have hn : v ∉ ss := fun hm => by
  obtain ⟨z, h1, h2⟩ := (h.st v).1 hm
  rw [e] at h1; cases h1; omega
 refine ⟨fun x z hz => ?_, fun x z hz => ?_, fun x => ?_, List.nodup_cons.2 ⟨hn, h.nd⟩⟩
 ·unfold lup at hz
  by_cases hx : x = v
  ·rw [hx]; exact h.dom v y e
  ·rw [if_neg hx] at hz; exact h.dom x z hz
 ·unfold lup at hz
  by_cases hx : x = v
  ·rw [if_pos hx] at hz; cases hz; exact ⟨hv.1, hv.2.1, hv.2.2.1, hv.2.2.2.1, .inr rfl⟩
  ·rw [if_neg hx] at hz; exact h.val x z hz
 ·unfold lup
  by_cases hx : x = v
  ·rw [if_pos hx, hx]; exact ⟨fun _ => ⟨_, rfl, rfl⟩, fun _ => by simp⟩
  ·rw [if_neg hx]
   simp only [List.mem_cons, hx, false_or]
   exact h.st x
theorem WI.rel (h : WI N c L ss) {d hp : Int} {a : Int × Int} (d0 : 0 ≤ d) (d1 : d + a.2 ≤ c * 140737488355328) (p0 : 0 ≤ hp) (p1 : hp + 1 ≤ c) (a0 : 0 ≤ a.1 /\ a.1 < N) (w0 : 0 ≤ a.2) : WI N c (wrel d hp L a) ss := by
 unfold wrel
 by_cases ho : opn L a.1 (d + a.2)
 ·rw [if_pos ho]
  refine ⟨fun x z hz => ?_, fun x z hz => ?_, fun x => ?_, h.nd⟩
  ·unfold lup at hz
   by_cases hx : x = a.1
   ·rw [hx]; exact a0
   ·rw [if_neg hx] at hz; exact h.dom x z hz
  ·unfold lup at hz
   by_cases hx : x = a.1
   ·rw [if_pos hx] at hz; cases hz; exact ⟨by dsimp only; omega, by dsimp only; omega, by dsimp only; omega, by dsimp only; omega, .inl rfl⟩
   ·rw [if_neg hx] at hz; exact h.val x z hz
  ·rw [h.st x]
   unfold lup
   by_cases hx : x = a.1
   ·rw [if_pos hx]
    constructor
    ·rintro ⟨z, h1, h2⟩
     rw [hx] at h1
     unfold opn at ho
     rw [h1] at ho
     dsimp only at ho
     omega
    ·rintro ⟨z, h1, h2⟩
     cases h1; cases h2
   ·rw [if_neg hx]
 ·rw [if_neg ho]; exact h
theorem WI.fold {d hp : Int} (d0 : 0 ≤ d) (d1 : d + 140737488355328 ≤ c * 140737488355328) (p0 : 0 ≤ hp) (p1 : hp + 1 ≤ c) : ∀ {l : List (Int × Int)} {L : Lab}, WI N c L ss -> (∀ a ∈ l, (0 ≤ a.1 /\ a.1 < N) /\ 0 ≤ a.2 /\ a.2 ≤ 140737488355328) -> WI N c (l.foldl (wrel d hp) L) ss := by
 intro l
 induction l with
 | nil => intro L h _; exact h
 | cons a l ih =>
  intro L h hl
  have := hl a (by simp)
  exact ih (h.rel d0 (by omega) p0 p1 this.1 this.2.1) fun b hb => hl b (by simp [hb])
theorem WI.set (h : WI N c L ss) (hr : RowOk row N) (hp : WPick L v y) : WI N (c + 1) (wset row hops L v y) (v :: ss) := by
 have hv := h.val v y hp.1
 have h1 := (h.settle hp.1 hp.2.1).mono (c' := c + 1) (by omega)
 unfold wset
 split
 ·exact h1
 ·exact WI.fold (by omega) (by omega) (by omega) (by omega) h1 (hr v)
def lab0 (u : Int) : Lab := lup (fun _ => none) u (0, 0, 0)
theorem WI.zero {u : Int} (u0 : 0 ≤ u) (u1 : u < N) : WI N 0 (lab0 u) [] := by
 refine ⟨fun x z hz => ?_, fun x z hz => ?_, fun x => ?_, List.nodup_nil⟩
 ·unfold lab0 lup at hz
  by_cases hx : x = u
  ·rw [hx]; exact ⟨u0, u1⟩
  ·rw [if_neg hx] at hz; cases hz
 ·unfold lab0 lup at hz
  by_cases hx : x = u
  ·rw [if_pos hx] at hz; cases hz; simp
  ·rw [if_neg hx] at hz; cases hz
 ·simp only [List.not_mem_nil, false_iff]
  rintro ⟨z, h1, h2⟩
  unfold lab0 lup at h1
  by_cases hx : x = u
  ·rw [if_pos hx] at h1; cases h1; cases h2
  ·rw [if_neg hx] at h1; cases h1
end Go.Vd

/-! (WtB) -/

set_option linter.unusedVariables false
set_option linter.unusedSimpArgs false
namespace Go.Vd
abbrev Nd3 := Bool × List (Int × Int × Int) × List (Int × Int × Int)
variable {a : List Nd3} {b1 b2 b3 b4 : Int} {f : Int -> Option (Int × Int × Int)} {q : List (Int × Int)} {i j n : Int}
theorem p_wLess (i0 : 0 ≤ i) (i1 : i < (q.length : Int)) (j0 : 0 ≤ j) (j1 : j < (q.length : Int)) : z_witness_queue_Less q i j = some (decide (Less (gt q i) (gt q j))) := by
 unfold z_witness_queue_Less G
 rw [if_pos ⟨i0, i1⟩, if_pos ⟨j0, j1⟩]
 generalize gt q i = x
 generalize gt q j = y
 unfold Less
 by_cases h : x.1 < y.1
 ·rw [if_pos h]; simp [h]
 ·rw [if_neg h]
  by_cases e : x.1 = y.1
  ·rw [if_pos e]; simp [h, e]
  ·rw [if_neg e]; simp [h, e]
theorem p_wSwap (i0 : 0 ≤ i) (i1 : i < (q.length : Int)) (j0 : 0 ≤ j) (j1 : j < (q.length : Int)) : z_witness_queue_Swap q i j = some (swp q i j) := by
 unfold z_witness_queue_Swap G
 rw [if_pos ⟨j0, j1⟩, if_pos ⟨i0, i1⟩, if_pos (by simpa using j1)]
 rfl
theorem p_hUp (hl : q.length ≤ 1000000000000) (j0 : 0 ≤ j) (j1 : j < (q.length : Int)) (U : Up2 q.length (gt q) j) :
  T (z_container_heap_up a b1 b2 b3 b4 q f j) fun r => r.Perm q /\ Hq r := by
 unfold z_container_heap_up
 refine T_bindr (fun r => r.Perm q /\ Hq r) ?_ fun r h => by simpa using h
 refine T_loop (fun z => z.1.Perm q /\ 0 ≤ z.2 /\ z.2 < (q.length : Int) /\ Up2 q.length (gt z.1) z.2) (fun z => z.2.toNat) ?_ ⟨List.Perm.refl _, j0, j1, U⟩
 rintro ⟨h, i⟩ ⟨hp, i0, i1, V⟩
 dsimp only at *
 have hlen := hp.length_eq
 unfold z_container_heap_up_l0
 by_cases hz : i = 0
 ·subst hz
  simp only [T_G]
  refine ⟨by omega, by decide, ?_⟩
  rw [if_pos (by decide), Option.bind_some, if_pos rfl]
  simp only [T_some, Sum.elim_inr]
  refine ⟨hp, ?_⟩
  have := V.done (.inl rfl)
  unfold Hq; rw [hlen]; exact this
 ·have hpar : par2 i < i /\ 0 ≤ par2 i := by unfold par2; omega
  rw [tdiv2 (by omega)]
  simp only [T_G]
  refine ⟨by omega, by omega, ?_⟩
  rw [if_neg (by omega), p_wLess (by omega) (by omega) hpar.2 (by omega), Option.bind_some, Option.bind_some]
  by_cases hless : Less (gt h i) (gt h (par2 i))
  ·rw [decide_eq_true hless, if_neg (by decide), p_wSwap hpar.2 (by omega) (by omega) (by omega), Option.bind_some]
   simp only [T_some, Sum.elim_inl]
   refine ⟨⟨(swp_perm hpar.2 (by omega) (by omega) (by omega)).trans hp, hpar.2, by omega, ?_⟩, by omega⟩
   refine V.step (by omega) i1 hless fun p p0 p1 => ?_
   rw [gt_swp hpar.2 (by omega) (by omega) (by omega) p0]
   by_cases e1 : p = i
   ·subst e1; rw [if_pos rfl, if_neg (by omega), if_pos rfl]
   ·rw [if_neg e1]
    by_cases e2 : p = par2 i
    ·rw [if_pos e2, if_pos e2]
    ·rw [if_neg e2, if_neg e2, if_neg e1]
  ·rw [decide_eq_false hless, if_pos (by decide)]
   simp only [T_some, Sum.elim_inr]
   refine ⟨hp, ?_⟩
   have := V.done (.inr hless)
   unfold Hq; rw [hlen]; exact this
theorem p_hDown (hl : q.length ≤ 1000000000000) (n0 : 0 ≤ n) (n1 : n ≤ (q.length : Int)) (D : Down2 n (gt q) 0) :
  T (z_container_heap_down a b1 b2 b3 b4 q f 0 n) fun r => r.2.Perm q /\ Ord2 n (gt r.2) /\ ∀ p, n ≤ p -> p < (q.length : Int) -> gt r.2 p = gt q p := by
 unfold z_container_heap_down
 refine T_bindr (fun r => r.2.Perm q /\ Ord2 n (gt r.2) /\ ∀ p, n ≤ p -> p < (q.length : Int) -> gt r.2 p = gt q p) ?_ fun r h => by simpa using h
 refine T_loop (fun z => z.1.Perm q /\ 0 ≤ z.2 /\ (z.2 < n ∨ z.2 = 0) /\ Down2 n (gt z.1) z.2 /\ ∀ p, n ≤ p -> p < (q.length : Int) -> gt z.1 p = gt q p) (fun z => (n - z.2).toNat) ?_ ⟨List.Perm.refl _, by simp, .inr rfl, D, fun _ _ _ => rfl⟩
 rintro ⟨h, i⟩ ⟨hp, i0, i1, E, hr⟩
 dsimp only at *
 have hlen := hp.length_eq
 have kids : ∀ c, 1 ≤ c -> par2 c = i -> c = 2 * i + 1 ∨ c = 2 * i + 1 + 1 := fun c c0 hc => by unfold par2 at hc; omega
 have par1 : par2 (2 * i + 1) = i := by unfold par2; omega
 have par2' : par2 (2 * i + 1 + 1) = i := by unfold par2; omega
 unfold z_container_heap_down_l0
 simp only [T_G]
 refine ⟨by omega, by omega, ?_⟩
 by_cases hn : 2 * i + 1 ≥ n
 ·rw [if_pos hn, Option.bind_some, if_pos rfl]
  simp only [T_some, Sum.elim_inr]
  refine ⟨hp, E.done fun c c0 c1 hc => ?_, hr⟩
  have := kids c c0 hc
  omega
 ·rw [if_neg hn, Option.bind_some, if_neg (by simp; omega)]
  have hin : i < n := by omega
  simp only [T_G]
  refine ⟨by omega, ?_⟩
  -- the lesser child
  refine T_bindr (fun o => o = decide (2 * i + 1 + 1 < n /\ Less (gt h (2 * i + 1 + 1)) (gt h (2 * i + 1)))) ?_ ?_
  ·by_cases h2 : 2 * i + 1 + 1 < n
   ·rw [if_pos h2, p_wLess (by omega) (by omega) (by omega) (by omega), Option.bind_some]
    simp [h2]
   ·rw [if_neg h2]; simp [h2]
  rintro _ rfl
  have key : ∀ c, 1 ≤ c -> c < n -> par2 c = i -> (∀ d, 1 ≤ d -> d < n -> par2 d = i -> ¬ Less (gt h d) (gt h c)) ->
    T ((z_witness_queue_Less h c i).bind fun y82 => if (!y82) = true then (some (Sum.inr (i, h))) else (((z_witness_queue_Swap h i c).bind fun y92 => some (Sum.inl (y92, c))))) (Sum.elim (fun z : List (Int × Int) × Int => (z.1.Perm q /\ 0 ≤ z.2 /\ (z.2 < n ∨ z.2 = 0) /\ Down2 n (gt z.1) z.2 /\ ∀ p, n ≤ p -> p < (q.length : Int) -> gt z.1 p = gt q p) /\ (n - z.2).toNat < (n - i).toNat) fun r : Int × List (Int × Int) => r.2.Perm q /\ Ord2 n (gt r.2) /\ ∀ p, n ≤ p -> p < (q.length : Int) -> gt r.2 p = gt q p) := by
   intro c c0 c1 hc hm
   have hci : i < c := by have := kids c c0 hc; omega
   rw [p_wLess (by omega) (by omega) i0 (by omega), Option.bind_some]
   by_cases hless : Less (gt h c) (gt h i)
   ·rw [decide_eq_true hless, if_neg (by decide), p_wSwap i0 (by omega) (by omega) (by omega), Option.bind_some]
    simp only [T_some, Sum.elim_inl]
    have hs : ∀ p, 0 ≤ p -> gt (swp h i c) p = if p = c then gt h i else if p = i then gt h c else gt h p := fun p p0 => gt_swp i0 (by omega) (by omega) (by omega) p0
    refine ⟨⟨(swp_perm i0 (by omega) (by omega) (by omega)).trans hp, by omega, .inl c1, E.step i0 c0 c1 hc hm hless fun p p0 p1 => hs p p0, fun p p0 p1 => ?_⟩, by omega⟩
    rw [hs p (by omega), if_neg (by omega), if_neg (by omega)]
    exact hr p p0 p1
   ·rw [decide_eq_false hless, if_pos (by decide)]
    simp only [T_some, Sum.elim_inr]
    refine ⟨hp, E.done fun d d0 d1 hd => ?_, hr⟩
    exact nl_trans (hm d d0 d1 hd) hless
  by_cases hpick : 2 * i + 1 + 1 < n /\ Less (gt h (2 * i + 1 + 1)) (gt h (2 * i + 1))
  ·rw [decide_eq_true hpick, if_pos rfl, Option.bind_some]
   refine key _ (by omega) hpick.1 par2' fun d d0 d1 hd => ?_
   rcases kids d d0 hd with rfl | rfl
   ·exact hpick.2.irr
   ·unfold Less; omega
  ·rw [decide_eq_false hpick, if_neg (by decide), Option.bind_some]
   refine key _ (by omega) (by omega) par1 fun d d0 d1 hd => ?_
   rcases kids d d0 hd with rfl | rfl
   ·unfold Less; omega
   ·exact fun k => hpick ⟨d1, k⟩
theorem gt_snocW {E : Type} [Inhabited E] {l : List E} {x : E} {p : Int} (p0 : 0 ≤ p) : gt (l ++ [x]) p = if p = (l.length : Int) then x else gt l p := by
 unfold gt
 rw [List.getD_eq_getElem?_getD, List.getD_eq_getElem?_getD]
 by_cases h : p = (l.length : Int)
 ·subst h; simp
 ·rw [if_neg h]
  by_cases h2 : p < (l.length : Int)
  ·rw [List.getElem?_append_left (by omega)]
  ·rw [List.getElem?_eq_none (by simp; omega), List.getElem?_eq_none (by omega)]
theorem gt_takeW {E : Type} [Inhabited E] {l : List E} {m : Nat} {p : Int} (p0 : 0 ≤ p) (p1 : p < (m : Int)) : gt (l.take m) p = gt l p := by
 unfold gt
 rw [List.getD_eq_getElem?_getD, List.getD_eq_getElem?_getD, List.getElem?_take, if_pos (by omega)]
theorem p_hPush {d v : Int} (hq : Hq q) (hl : q.length ≤ 100000000000) : T (z_container_heap_Push a b1 b2 b3 b4 q f d v) fun r => r.Perm ((d, v) :: q) /\ Hq r := by
 unfold z_container_heap_Push z_witness_queue_Push z_witness_queue_Len
 have hln : (q ++ [(d, v)]).length = q.length + 1 := by simp
 rw [T_bind, T_G]
 refine ⟨by omega, ?_⟩
 simp only [T_some, Option.bind_some, hln, T_G]
 refine ⟨by omega, ?_⟩
 refine T_bindr _ (p_hUp (q := q ++ [(d, v)]) (by omega) (by omega) (by rw [hln]; omega) ?_) ?_
 ·rw [hln, show ((q.length + 1 : Nat) : Int) - 1 = (q.length : Int) from by omega]
  have pl : ∀ p, 1 ≤ p -> par2 p < p /\ 0 ≤ par2 p := fun p hp => by unfold par2; omega
  refine ⟨fun p p0 p1 hp => ?_, fun i0 c c0 c1 hc => ?_⟩
  ·have := pl p p0
   rw [gt_snocW (by omega), if_neg hp, gt_snocW (by omega), if_neg (by omega)]
   exact hq p p0 (by omega)
  ·have := pl c c0; omega
 ·rintro r ⟨h1, h2⟩
  simp only [T_some]
  exact ⟨h1.trans (List.perm_append_singleton _ _), h2⟩
theorem p_hPop (hq : Hq q) (hl : q.length ≤ 100000000000) (h0 : 0 < (q.length : Int)) : T (z_container_heap_Pop a b1 b2 b3 b4 q f) fun r => (r.1, r.2.1) = gt q 0 /\ (gt q 0 :: r.2.2.2).Perm q /\ Hq r.2.2.2 := by
 unfold z_container_heap_Pop z_witness_queue_Len
 simp only [Option.bind_some, T_G]
 refine ⟨by omega, ?_⟩
 have hs : ∀ p, 0 ≤ p -> gt (swp q 0 ((q.length : Int) - 1)) p = if p = (q.length : Int) - 1 then gt q 0 else if p = 0 then gt q ((q.length : Int) - 1) else gt q p := fun p p0 => gt_swp (by omega) (by omega) (by omega) (by omega) p0
 have hsl : (swp q 0 ((q.length : Int) - 1)).length = q.length := swp_len
 have hsp := swp_perm (l := q) (i := 0) (j := (q.length : Int) - 1) (by omega) (by omega) (by omega) (by omega)
 rw [p_wSwap (by omega) (by omega) (by omega) (by omega), Option.bind_some]
 refine T_bindr _ (p_hDown (q := swp q 0 ((q.length : Int) - 1)) (by omega) (by omega) (by omega) ?_) ?_
 ·have pl : ∀ p, 1 ≤ p -> par2 p < p /\ 0 ≤ par2 p := fun p hp => by unfold par2; omega
  refine ⟨fun p p0 p1 hp => ?_, fun i0 => by omega⟩
  have := pl p p0
  rw [hs p (by omega), if_neg (by omega), if_neg (by omega), hs _ this.2, if_neg (by omega), if_neg hp]
  exact hq p p0 (by omega)
 ·rintro ⟨b, r⟩ ⟨h1, h2, h3⟩
  dsimp only at *
  have hrl := h1.length_eq
  rw [hsl] at hrl
  have hlast := h3 ((q.length : Int) - 1) (by omega) (by omega)
  rw [hs _ (by omega), if_pos rfl] at hlast
  unfold z_witness_queue_Pop
  simp only [T_G, T_bind, T_some, hrl]
  refine ⟨by omega, by omega, by omega, ?_⟩
  have hsplit : r = r.take ((q.length : Int) - 1).toNat ++ [gt r ((q.length : Int) - 1)] := by
   have e : r.take (((q.length : Int) - 1).toNat + 1) = r := List.take_of_length_le (by omega)
   have e2 := List.take_add_one (l := r) (i := ((q.length : Int) - 1).toNat)
   rw [e] at e2
   have : r[((q.length : Int) - 1).toNat]?.toList = [gt r ((q.length : Int) - 1)] := by
    unfold gt
    rw [List.getD_eq_getElem?_getD, List.getElem?_eq_getElem (by omega)]; rfl
   rw [this] at e2; exact e2
  refine ⟨by rw [hlast], ?_, ?_⟩
  ·rw [hlast] at hsplit
   refine List.Perm.trans ?_ (h1.trans hsp)
   conv => rhs; rw [hsplit]
   exact (List.perm_append_singleton _ _).symm
  ·have hlt : (r.take ((q.length : Int) - 1).toNat).length = q.length - 1 := by rw [List.length_take]; omega
   unfold Hq
   rw [hlt]
   refine Ord2.congr (h := gt r) ?_ fun p p0 p1 => gt_takeW p0 (by omega)
   rw [show ((q.length - 1 : Nat) : Int) = (q.length : Int) - 1 from by omega]; exact h2
end Go.Vd

/-! (OvA) -/

set_option linter.unusedVariables false
set_option linter.unusedSimpArgs false
namespace Go.Vd
abbrev Hf := Int × Int × Int
abbrev OAr := Int × Int × Int × Int
def Ris (l : List Hf) : Prop := l.Pairwise fun a b => a.1 < b.1
theorem Ris.uniq {l m : List Hf} (h : Ris l) (k : Ris m) (e : ∀ x, x ∈ l ↔ x ∈ m) : l = m := by
 induction l generalizing m with
 | nil =>
  cases m with
  | nil => rfl
  | cons b m => exact absurd ((e b).2 (List.mem_cons_self ..)) (by simp)
 | cons a l ih =>
  cases m with
  | nil => exact absurd ((e a).1 (List.mem_cons_self ..)) (by simp)
  | cons b m =>
   obtain ⟨h1, h2⟩ := List.pairwise_cons.1 h
   obtain ⟨k1, k2⟩ := List.pairwise_cons.1 k
   have hab : a = b := by
    rcases List.mem_cons.1 ((e a).1 (List.mem_cons_self ..)) with q | q
    ·exact q
    ·rcases List.mem_cons.1 ((e b).2 (List.mem_cons_self ..)) with p | p
     ·exact p.symm
     ·have := h1 b p; have := k1 a q; omega
   subst hab
   congr 1
   refine ih h2 k2 fun x => ?_
   have hx := e x
   constructor
   ·intro q
    rcases List.mem_cons.1 (hx.1 (List.mem_cons_of_mem _ q)) with p | p
    ·subst p; have := h1 _ q; omega
    ·exact p
   ·intro q
    rcases List.mem_cons.1 (hx.2 (List.mem_cons_of_mem _ q)) with p | p
    ·subst p; have := k1 _ q; omega
    ·exact p
def insR (h : Hf) (l : List Hf) : List Hf := l.filter (fun x => decide (x.1 < h.1)) ++ h :: l.filter (fun x => decide (h.1 < x.1))
def delR (v : Int) (l : List Hf) : List Hf := l.filter (fun x => decide (x.1 ≠ v))
theorem mem_insR {h x : Hf} {l : List Hf} : x ∈ insR h l ↔ x = h ∨ (x ∈ l /\ x.1 ≠ h.1) := by
 simp only [insR, List.mem_append, List.mem_cons, List.mem_filter, decide_eq_true_eq]
 constructor
 ·rintro (⟨a, b⟩ | a | ⟨a, b⟩)
  ·exact .inr ⟨a, by omega⟩
  ·exact .inl a
  ·exact .inr ⟨a, by omega⟩
 ·rintro (a | ⟨a, b⟩)
  ·exact .inr (.inl a)
  ·by_cases q : x.1 < h.1
   ·exact .inl ⟨a, q⟩
   ·exact .inr (.inr ⟨a, by omega⟩)
theorem mem_delR {v : Int} {x : Hf} {l : List Hf} : x ∈ delR v l ↔ x ∈ l /\ x.1 ≠ v := by simp [delR]
theorem Ris.nil : Ris [] := List.Pairwise.nil
theorem Ris.ins {h : Hf} {l : List Hf} (k : Ris l) : Ris (insR h l) := by
 refine List.pairwise_append.2 ⟨k.filter _, List.pairwise_cons.2 ⟨fun x hx => ?_, k.filter _⟩, fun x hx y hy => ?_⟩
 ·have := (List.mem_filter.1 hx).2; simpa using this
 ·have h1 : x.1 < h.1 := by have := (List.mem_filter.1 hx).2; simpa using this
  rcases List.mem_cons.1 hy with e | e
  ·subst e; exact h1
  ·have : h.1 < y.1 := by have := (List.mem_filter.1 e).2; simpa using this
   omega
theorem Ris.del {v : Int} {l : List Hf} (k : Ris l) : Ris (delR v l) := k.filter _
def cl (f : OAr -> Option Hf) (l0 : List Hf) (arcs : List OAr) : List Hf := arcs.foldl (fun l a => match f a with | some h => insR h l | none => l) l0
def Ds (f : OAr -> Option Hf) (arcs : List OAr) : Prop := arcs.Pairwise fun a b => ∀ h k, f a = some h -> f b = some k -> h.1 ≠ k.1
theorem cl_ris {f : OAr -> Option Hf} {arcs : List OAr} : ∀ {l0 : List Hf}, Ris l0 -> Ris (cl f l0 arcs) := by
 induction arcs with
 | nil => exact fun h => h
 | cons a arcs ih =>
  intro l0 h
  unfold cl
  rw [List.foldl_cons]
  refine ih ?_
  cases f a with
  | none => exact h
  | some x => exact h.ins
theorem cl_mem {f : OAr -> Option Hf} {arcs : List OAr} (hd : Ds f arcs) {x : Hf} : ∀ {l0 : List Hf}, x ∈ cl f l0 arcs ↔ (∃ a ∈ arcs, f a = some x) ∨ (x ∈ l0 /\ ∀ a ∈ arcs, ∀ h, f a = some h -> h.1 ≠ x.1) := by
 induction arcs with
 | nil => intro l0; simp [cl]
 | cons a arcs ih =>
  intro l0
  obtain ⟨d1, d2⟩ := List.pairwise_cons.1 hd
  have e : cl f l0 (a :: arcs) = cl f (match f a with | some h => insR h l0 | none => l0) arcs := by unfold cl; rw [List.foldl_cons]
  rw [e, ih d2]
  cases hf : f a with
  | none =>
   dsimp only
   constructor
   ·rintro (⟨b, hb, h⟩ | ⟨h1, h2⟩)
    ·exact .inl ⟨b, List.mem_cons_of_mem _ hb, h⟩
    ·refine .inr ⟨h1, fun b hb h hh => ?_⟩
     rcases List.mem_cons.1 hb with e | e
     ·rw [e, hf] at hh; cases hh
     ·exact h2 b e h hh
   ·rintro (⟨b, hb, h⟩ | ⟨h1, h2⟩)
    ·rcases List.mem_cons.1 hb with e | e
     ·rw [e, hf] at h; cases h
     ·exact .inl ⟨b, e, h⟩
    ·exact .inr ⟨h1, fun b hb => h2 b (List.mem_cons_of_mem _ hb)⟩
  | some y =>
   dsimp only
   rw [mem_insR]
   constructor
   ·rintro (⟨b, hb, h⟩ | ⟨h1 | ⟨h1, h3⟩, h2⟩)
    ·exact .inl ⟨b, List.mem_cons_of_mem _ hb, h⟩
    ·exact .inl ⟨a, List.mem_cons_self .., by rw [hf, h1]⟩
    ·refine .inr ⟨h1, fun b hb h hh => ?_⟩
     rcases List.mem_cons.1 hb with e | e
     ·rw [e, hf] at hh; cases hh; exact fun q => h3 q.symm
     ·exact h2 b e h hh
   ·rintro (⟨b, hb, h⟩ | ⟨h1, h2⟩)
    ·rcases List.mem_cons.1 hb with e | e
     ·rw [e, hf] at h; cases h
      exact .inr ⟨.inl rfl, fun c hc k hk => fun q => d1 c hc x k hf hk q.symm⟩
     ·exact .inl ⟨b, e, h⟩
    ·exact .inr ⟨.inr ⟨h1, fun q => h2 a (List.mem_cons_self ..) y hf q.symm⟩, fun b hb => h2 b (List.mem_cons_of_mem _ hb)⟩
def fOut (v : Int) (a : OAr) : Option Hf := if a.1 = v then some a.2 else none
def fIn (v : Int) (a : OAr) : Option Hf := if a.2.1 = v then some (a.1, a.2.2) else none
def outL (arcs : List OAr) (v : Int) : List Hf := cl (fOut v) [] arcs
def inL (arcs : List OAr) (v : Int) : List Hf := cl (fIn v) [] arcs
def KD (arcs : List OAr) : Prop := arcs.Pairwise fun a b => ¬ (a.1 = b.1 /\ a.2.1 = b.2.1)
theorem KD.out {arcs : List OAr} (h : KD arcs) (v : Int) : Ds (fOut v) arcs := h.imp fun {a b} q x y hx hy e => by
 unfold fOut at hx hy
 split at hx
 ·split at hy
  ·cases hx; cases hy; exact q ⟨by omega, e⟩
  ·cases hy
 ·cases hx
theorem KD.inn {arcs : List OAr} (h : KD arcs) (v : Int) : Ds (fIn v) arcs := h.imp fun {a b} q x y hx hy e => by
 unfold fIn at hx hy
 split at hx
 ·split at hy
  ·cases hx; cases hy; exact q ⟨e, by omega⟩
  ·cases hy
 ·cases hx
theorem outL_ris (arcs : List OAr) (v : Int) : Ris (outL arcs v) := cl_ris .nil
theorem inL_ris (arcs : List OAr) (v : Int) : Ris (inL arcs v) := cl_ris .nil
theorem mem_outL {arcs : List OAr} (h : KD arcs) {v : Int} {x : Hf} : x ∈ outL arcs v ↔ (v, x) ∈ arcs := by
 unfold outL
 rw [cl_mem (h.out v)]
 simp only [List.not_mem_nil, false_and, or_false]
 constructor
 ·rintro ⟨a, ha, e⟩
  unfold fOut at e
  split at e
  ·rename_i q; cases e; rw [← q]; exact ha
  ·cases e
 ·exact fun hm => ⟨_, hm, by simp [fOut]⟩
theorem mem_inL {arcs : List OAr} (h : KD arcs) {v : Int} {x : Hf} : x ∈ inL arcs v ↔ (x.1, v, x.2) ∈ arcs := by
 unfold inL
 rw [cl_mem (h.inn v)]
 simp only [List.not_mem_nil, false_and, or_false]
 constructor
 ·rintro ⟨a, ha, e⟩
  unfold fIn at e
  split at e
  ·rename_i q; cases e; rw [← q]; exact ha
  ·cases e
 ·exact fun hm => ⟨_, hm, by simp [fIn]⟩
def putA (arcs : List OAr) (a : OAr) : List OAr := arcs.filter (fun x => decide (¬ (x.1 = a.1 /\ x.2.1 = a.2.1))) ++ [a]
def remA (arcs : List OAr) (v : Int) : List OAr := arcs.filter (fun x => decide (x.1 ≠ v /\ x.2.1 ≠ v))
theorem mem_putA {arcs : List OAr} {a x : OAr} : x ∈ putA arcs a ↔ x = a ∨ (x ∈ arcs /\ ¬ (x.1 = a.1 /\ x.2.1 = a.2.1)) := by
 simp only [putA, List.mem_append, List.mem_filter, decide_eq_true_eq, List.mem_singleton]
 exact ⟨fun h => h.elim (fun h => .inr h) .inl, fun h => h.elim .inr .inl⟩
theorem mem_remA {arcs : List OAr} {v : Int} {x : OAr} : x ∈ remA arcs v ↔ x ∈ arcs /\ x.1 ≠ v /\ x.2.1 ≠ v := by simp [remA]
theorem KD.put {arcs : List OAr} (h : KD arcs) (a : OAr) : KD (putA arcs a) := by
 refine List.pairwise_append.2 ⟨h.filter _, List.pairwise_singleton _ _, fun x hx y hy => ?_⟩
 rw [List.mem_singleton.1 hy]
 exact of_decide_eq_true (List.mem_filter.1 hx).2
theorem KD.rem {arcs : List OAr} (h : KD arcs) (v : Int) : KD (remA arcs v) := h.filter _
theorem outL_put {arcs : List OAr} (h : KD arcs) (a : OAr) (v : Int) : outL (putA arcs a) v = if v = a.1 then insR a.2 (outL arcs v) else outL arcs v := by
 split
 ·rename_i e
  subst e
  refine (outL_ris _ _).uniq (outL_ris _ _).ins fun x => ?_
  rw [mem_outL (h.put a), mem_insR, mem_outL h, mem_putA]
  constructor
  ·rintro (q | ⟨q1, q2⟩)
   ·exact .inl (by rw [← q])
   ·exact .inr ⟨q1, fun e => q2 ⟨rfl, e⟩⟩
  ·rintro (q | ⟨q1, q2⟩)
   ·exact .inl (by rw [q])
   ·exact .inr ⟨q1, fun e => q2 e.2⟩
 ·rename_i e
  refine (outL_ris _ _).uniq (outL_ris _ _) fun x => ?_
  rw [mem_outL (h.put a), mem_outL h, mem_putA]
  constructor
  ·rintro (q | ⟨q1, q2⟩)
   ·exact absurd (by rw [← q]) e
   ·exact q1
  ·exact fun q => .inr ⟨q, fun k => e k.1⟩
theorem inL_put {arcs : List OAr} (h : KD arcs) (a : OAr) (v : Int) : inL (putA arcs a) v = if v = a.2.1 then insR (a.1, a.2.2) (inL arcs v) else inL arcs v := by
 split
 ·rename_i e
  subst e
  refine (inL_ris _ _).uniq (inL_ris _ _).ins fun x => ?_
  rw [mem_inL (h.put a), mem_insR, mem_inL h, mem_putA]
  constructor
  ·rintro (q | ⟨q1, q2⟩)
   ·exact .inl (by rw [← q])
   ·exact .inr ⟨q1, fun e => q2 ⟨e, rfl⟩⟩
  ·rintro (q | ⟨q1, q2⟩)
   ·exact .inl (by rw [q])
   ·exact .inr ⟨q1, fun e => q2 e.1⟩
 ·rename_i e
  refine (inL_ris _ _).uniq (inL_ris _ _) fun x => ?_
  rw [mem_inL (h.put a), mem_inL h, mem_putA]
  constructor
  ·rintro (q | ⟨q1, q2⟩)
   ·exact absurd (by rw [← q]) e
   ·exact q1
  ·exact fun q => .inr ⟨q, fun k => e k.2⟩
theorem outL_rem {arcs : List OAr} (h : KD arcs) (v x : Int) : outL (remA arcs v) x = if x = v then [] else delR v (outL arcs x) := by
 split
 ·rename_i e
  refine (outL_ris _ _).uniq .nil fun y => ?_
  rw [mem_outL (h.rem v), mem_remA]
  simp [e]
 ·rename_i e
  refine (outL_ris _ _).uniq (outL_ris _ _).del fun y => ?_
  rw [mem_outL (h.rem v), mem_delR, mem_outL h, mem_remA]
  exact ⟨fun ⟨a, _, b⟩ => ⟨a, b⟩, fun ⟨a, b⟩ => ⟨a, e, b⟩⟩
theorem inL_rem {arcs : List OAr} (h : KD arcs) (v x : Int) : inL (remA arcs v) x = if x = v then [] else delR v (inL arcs x) := by
 split
 ·rename_i e
  refine (inL_ris _ _).uniq .nil fun y => ?_
  rw [mem_inL (h.rem v), mem_remA]
  simp [e]
 ·rename_i e
  refine (inL_ris _ _).uniq (inL_ris _ _).del fun y => ?_
  rw [mem_inL (h.rem v), mem_delR, mem_inL h, mem_remA]
  exact ⟨fun ⟨a, b, _⟩ => ⟨a, b⟩, fun ⟨a, b⟩ => ⟨a, b, e⟩⟩
theorem cl_len {f : OAr -> Option Hf} {arcs : List OAr} (hd : Ds f arcs) : ∀ {l0 : List Hf}, (∀ x ∈ l0, ∀ a ∈ arcs, ∀ h, f a = some h -> h.1 ≠ x.1) -> Ris l0 -> (cl f l0 arcs).length = l0.length + (arcs.filter fun a => (f a).isSome).length := by
 induction arcs with
 | nil => intro l0 _ _; simp [cl]
 | cons a arcs ih =>
  intro l0 h hr
  obtain ⟨d1, d2⟩ := List.pairwise_cons.1 hd
  have e : cl f l0 (a :: arcs) = cl f (match f a with | some h => insR h l0 | none => l0) arcs := by unfold cl; rw [List.foldl_cons]
  rw [e, List.filter_cons]
  cases hf : f a with
  | none =>
   dsimp only
   rw [ih d2 (fun x hx b hb => h x hx b (List.mem_cons_of_mem _ hb)) hr]
   simp
  | some y =>
   dsimp only
   rw [ih d2 (fun x hx b hb k hk => ?_) hr.ins]
   ·have hne : ∀ x ∈ l0, x.1 ≠ y.1 := fun x hx e => h x hx a (List.mem_cons_self ..) y hf e.symm
    have hl : (insR y l0).length = l0.length + 1 := by
     clear ih e d1 d2 hd h hr
     unfold insR
     rw [List.length_append, List.length_cons]
     have : (l0.filter fun x => decide (x.1 < y.1)).length + (l0.filter fun x => decide (y.1 < x.1)).length = l0.length := by
      induction l0 with
      | nil => rfl
      | cons b l0 ih =>
       have h1 := hne b (List.mem_cons_self ..)
       have h2 := ih fun x hx => hne x (List.mem_cons_of_mem _ hx)
       rw [List.filter_cons, List.filter_cons]
       by_cases q : b.1 < y.1
       ·rw [if_pos (by simpa using q), if_neg (by simp; omega)]
        simp only [List.length_cons]; omega
       ·rw [if_neg (by simpa using q), if_pos (by simp; omega)]
        simp only [List.length_cons]; omega
     omega
    rw [hl]
    simp; omega
   ·rcases mem_insR.1 hx with q | ⟨q, _⟩
    ·rw [q]; exact fun e => d1 b hb y k hf hk e.symm
    ·exact h x q b (List.mem_cons_of_mem _ hb) k hk
theorem outL_len {arcs : List OAr} (h : KD arcs) (v : Int) : (outL arcs v).length = (arcs.filter fun a => decide (a.1 = v)).length := by
 unfold outL
 rw [cl_len (h.out v) (fun x hx => by cases hx) .nil, List.length_nil, Nat.zero_add]
 congr 1
 apply List.filter_congr
 intro a _
 by_cases e : a.1 = v <;> simp [fOut, e]
theorem inL_len {arcs : List OAr} (h : KD arcs) (v : Int) : (inL arcs v).length = (arcs.filter fun a => decide (a.2.1 = v)).length := by
 unfold inL
 rw [cl_len (h.inn v) (fun x hx => by cases hx) .nil, List.length_nil, Nat.zero_add]
 congr 1
 apply List.filter_congr
 intro a _
 by_cases e : a.2.1 = v <;> simp [fIn, e]
theorem rem_len {arcs : List OAr} (h : KD arcs) (hn : ∀ a ∈ arcs, a.1 ≠ a.2.1) (v : Int) : arcs.length = (remA arcs v).length + ((outL arcs v).length + (inL arcs v).length) := by
 rw [outL_len h, inL_len h]
 clear h
 unfold remA
 induction arcs with
 | nil => rfl
 | cons a arcs ih =>
  have h1 := hn a (List.mem_cons_self ..)
  have h2 := ih fun x hx => hn x (List.mem_cons_of_mem _ hx)
  rw [List.filter_cons, List.filter_cons, List.filter_cons]
  by_cases q : a.1 = v
  ·rw [if_neg (by simp [q]), if_pos (by simpa using q), if_neg (by simp; omega)]
   simp only [List.length_cons]; omega
  ·by_cases p : a.2.1 = v
   ·rw [if_neg (by simp [p]), if_neg (by simpa using q), if_pos (by simpa using p)]
    simp only [List.length_cons]; omega
   ·rw [if_pos (by simp [q, p]), if_neg (by simpa using q), if_neg (by simpa using p)]
    simp only [List.length_cons]; omega
theorem put_len {arcs : List OAr} (h : KD arcs) (a : OAr) : (putA arcs a).length = if (∃ x ∈ arcs, x.1 = a.1 /\ x.2.1 = a.2.1) then arcs.length else arcs.length + 1 := by
 unfold putA
 rw [List.length_append, List.length_singleton]
 induction arcs with
 | nil => simp
 | cons b arcs ih =>
  obtain ⟨h1, h2⟩ := List.pairwise_cons.1 h
  have ih' := ih h2
  rw [List.filter_cons]
  by_cases q : b.1 = a.1 /\ b.2.1 = a.2.1
  ·rw [if_neg (by simp [q]), if_pos ⟨b, List.mem_cons_self .., q⟩]
   have hno : ¬ ∃ x ∈ arcs, x.1 = a.1 /\ x.2.1 = a.2.1 := fun ⟨x, hx, e⟩ => h1 x hx ⟨by rw [q.1, e.1], by rw [q.2, e.2]⟩
   rw [if_neg hno] at ih'
   simp only [List.length_cons]; omega
  ·rw [if_pos (decide_eq_true q), List.length_cons]
   by_cases p : ∃ x ∈ arcs, x.1 = a.1 /\ x.2.1 = a.2.1
   ·rw [if_pos p] at ih'
    obtain ⟨x, hx, e⟩ := p
    rw [if_pos ⟨x, List.mem_cons_of_mem _ hx, e⟩]
    simp only [List.length_cons]; omega
   ·rw [if_neg p] at ih'
    rw [if_neg]
    ·simp only [List.length_cons]; omega
    ·rintro ⟨x, hx, e⟩
     rcases List.mem_cons.1 hx with k | k
     ·rw [k] at e; exact q e
     ·exact p ⟨x, k, e⟩
end Go.Vd

/-! (OvB) -/

set_option linter.unusedVariables false
set_option linter.unusedSimpArgs false
namespace Go.Vd
abbrev Nod := Bool × List Hf × List Hf
structure OvR (nodes : List Nod) (alive arcs : Int) (A : List Bool) (L : List OAr) : Prop where
 ln : nodes.length = A.length
 sm : A.length ≤ 65536
 kd : KD L
 en : ∀ a ∈ L, 0 ≤ a.1 /\ a.1 < (A.length : Int) /\ 0 ≤ a.2.1 /\ a.2.1 < (A.length : Int) /\ gt A a.1 = true /\ gt A a.2.1 = true /\ a.1 ≠ a.2.1 /\ 0 ≤ a.2.2.1 /\ a.2.2.1 ≤ 140737488355328 /\ -1 ≤ a.2.2.2 /\ a.2.2.2 < (A.length : Int)
 nd : ∀ v, 0 ≤ v -> v < (A.length : Int) -> gt nodes v = (!gt A v, outL L v, inL L v)
 al : alive = ((A.filter id).length : Int)
 ar : arcs = (L.length : Int)
 lb : L.length ≤ 1000000
variable {nodes nodes' : List Nod} {alive arcs : Int} {A : List Bool} {L : List OAr} {u v w wt via : Int}
theorem outL_le (h : KD L) (v : Int) : (outL L v).length ≤ L.length := by rw [outL_len h]; exact List.length_filter_le _ _
theorem inL_le (h : KD L) (v : Int) : (inL L v).length ≤ L.length := by rw [inL_len h]; exact List.length_filter_le _ _
theorem OvR.put (h : OvR nodes alive arcs A L) (u0 : 0 ≤ u) (u1 : u < (A.length : Int)) (w0 : 0 ≤ w) (w1 : w < (A.length : Int)) (au : gt A u = true) (aw : gt A w = true) (uw : u ≠ w) (t0 : 0 ≤ wt) (t1 : wt ≤ 140737488355328) (v0 : -1 ≤ via) (v1 : via < (A.length : Int)) (hb : L.length < 1000000)
  (hl : nodes'.length = nodes.length) (hn : ∀ x, 0 ≤ x -> x < (A.length : Int) -> gt nodes' x = ((gt nodes x).1, if x = u then insR (w, wt, via) (gt nodes x).2.1 else (gt nodes x).2.1, if x = w then insR (u, wt, via) (gt nodes x).2.2 else (gt nodes x).2.2)) :
  OvR nodes' alive (if (∃ x ∈ L, x.1 = u /\ x.2.1 = w) then arcs else arcs + 1) A (putA L (u, w, wt, via)) := by
 have hp := put_len h.kd (u, w, wt, via)
 refine ⟨by rw [hl, h.ln], h.sm, h.kd.put _, fun a ha => ?_, fun x x0 x1 => ?_, h.al, ?_, ?_⟩
 ·rcases mem_putA.1 ha with e | ⟨e, _⟩
  ·rw [e]; exact ⟨u0, u1, w0, w1, au, aw, uw, t0, t1, v0, v1⟩
  ·exact h.en a e
 ·rw [hn x x0 x1, h.nd x x0 x1, outL_put h.kd, inL_put h.kd]
 ·rw [hp]
  have := h.ar
  split
  ·exact this
  ·rw [this]; simp
 ·rw [hp]
  have := h.lb
  split <;> omega
theorem count_set : ∀ {A : List Bool} {i : Nat} (hi : i < A.length), A[i] = true -> ((A.set i false).filter id).length + 1 = (A.filter id).length
 | a :: A, 0, _, h => by
  have : a = true := h
  subst this
  simp
 | a :: A, i + 1, hi, h => by
  have := count_set (A := A) (i := i) (by simpa using hi) (by simpa using h)
  cases a <;> simp <;> omega
theorem gt_setB {A : List Bool} {v x : Int} (v0 : 0 ≤ v) (v1 : v < (A.length : Int)) (x0 : 0 ≤ x) : gt (A.set v.toNat false) x = if x = v then false else gt A x := gt_setE v0 v1 x0
theorem OvR.rem (h : OvR nodes alive arcs A L) (v0 : 0 ≤ v) (v1 : v < (A.length : Int)) (av : gt A v = true)
  (hl : nodes'.length = nodes.length) (hn : ∀ x, 0 ≤ x -> x < (A.length : Int) -> gt nodes' x = if x = v then (true, [], []) else ((gt nodes x).1, delR v (gt nodes x).2.1, delR v (gt nodes x).2.2)) :
  OvR nodes' (alive - 1) (arcs - (((outL L v).length : Int) + (inL L v).length)) (A.set v.toNat false) (remA L v) := by
 have hr := rem_len h.kd (fun a ha => (h.en a ha).2.2.2.2.2.2.1) v
 have hs : (A.set v.toNat false).length = A.length := List.length_set
 refine ⟨by rw [hl, h.ln, hs], by rw [hs]; exact h.sm, h.kd.rem v, fun a ha => ?_, fun x x0 x1 => ?_, ?_, ?_, ?_⟩
 ·obtain ⟨e, e1, e2⟩ := mem_remA.1 ha
  obtain ⟨a1, a2, a3, a4, a5, a6, a7⟩ := h.en a e
  rw [hs, gt_setB v0 v1 a1, gt_setB v0 v1 a3, if_neg e1, if_neg e2]
  exact ⟨a1, a2, a3, a4, a5, a6, a7⟩
 ·rw [hs] at x1
  rw [hn x x0 x1, h.nd x x0 x1, outL_rem h.kd, inL_rem h.kd, gt_setB v0 v1 x0]
  by_cases e : x = v
  ·rw [if_pos e, if_pos e, if_pos e, if_pos e]; rfl
  ·rw [if_neg e, if_neg e, if_neg e, if_neg e]
 ·have hi : v.toNat < A.length := by omega
  have hg : A[v.toNat] = true := by
   have : gt A v = A[v.toNat] := by simp [gt, List.getD_eq_getElem?_getD, List.getElem?_eq_getElem hi]
   rw [← this]; exact av
  have := count_set hi hg
  have := h.al
  omega
 ·have := h.ar; omega
 ·have := h.lb; omega
theorem insR_end {h : Hf} {l : List Hf} (k : ∀ x ∈ l, x.1 < h.1) : insR h l = l ++ [h] := by
 unfold insR
 rw [List.filter_eq_self.2 fun x hx => by simpa using k x hx, List.filter_eq_nil_iff.2 fun x hx => by have := k x hx; simp; omega]
theorem outL_snoc (L : List OAr) (a : OAr) (v : Int) : outL (L ++ [a]) v = if v = a.1 then insR a.2 (outL L v) else outL L v := by
 unfold outL cl
 rw [List.foldl_append]
 simp only [List.foldl_cons, List.foldl_nil]
 by_cases e : v = a.1
 ·rw [if_pos e]
  have : fOut v a = some a.2 := by simp [fOut, e]
  rw [this]
 ·rw [if_neg e]
  have : fOut v a = none := by simp [fOut]; exact fun h => e h.symm
  rw [this]
theorem inL_snoc (L : List OAr) (a : OAr) (v : Int) : inL (L ++ [a]) v = if v = a.2.1 then insR (a.1, a.2.2) (inL L v) else inL L v := by
 unfold inL cl
 rw [List.foldl_append]
 simp only [List.foldl_cons, List.foldl_nil]
 by_cases e : v = a.2.1
 ·rw [if_pos e]
  have : fIn v a = some (a.1, a.2.2) := by simp [fIn, e]
  rw [this]
 ·rw [if_neg e]
  have : fIn v a = none := by simp [fIn]; exact fun h => e h.symm
  rw [this]
def up4 (a : Int × Int × Int) : OAr := (a.1, a.2.1, a.2.2, -1)
theorem KD.up {M : List (Int × Int × Int)} (h : M.Pairwise ltk) : KD (M.map up4) := by
 unfold KD
 rw [List.pairwise_map]
 refine h.imp fun {a b} q => ?_
 unfold ltk at q
 show ¬ (a.1 = b.1 /\ a.2.1 = b.2.1)
 omega
end Go.Vd

/-! (OvC) -/

set_option linter.unusedVariables false
set_option linter.unusedSimpArgs false
namespace Go.Vd
variable {l : List Hf} {v w wt via : Int} {h : Hf}
theorem gt_memO {i : Int} (h0 : 0 ≤ i) (h1 : i < (l.length : Int)) : gt l i ∈ l := by
 unfold gt
 rw [List.getD_eq_getElem?_getD, List.getElem?_eq_getElem (by omega)]
 exact List.getElem_mem _
theorem insR_split {a m b : List Hf} (ha : ∀ x ∈ a, x.1 < h.1) (hm : ∀ x ∈ m, x.1 = h.1) (hb : ∀ x ∈ b, h.1 < x.1) : insR h (a ++ (m ++ b)) = a ++ ([h] ++ b) := by
 unfold insR
 rw [List.filter_append, List.filter_append, List.filter_append, List.filter_append,
  List.filter_eq_self.2 (fun x hx => decide_eq_true (ha x hx)), List.filter_eq_nil_iff.2 (fun x hx => by have := hm x hx; simp; omega), List.filter_eq_nil_iff.2 (fun x hx => by have := hb x hx; simp; omega),
  show a.filter (fun x => decide (h.1 < x.1)) = [] from List.filter_eq_nil_iff.2 fun x hx => (by have := ha x hx; simp; omega), show m.filter (fun x => decide (h.1 < x.1)) = [] from List.filter_eq_nil_iff.2 fun x hx => (by have := hm x hx; simp; omega), show b.filter (fun x => decide (h.1 < x.1)) = b from List.filter_eq_self.2 fun x hx => decide_eq_true (hb x hx)]
 simp
theorem delR_split {a m b : List Hf} (ha : ∀ x ∈ a, x.1 < v) (hm : ∀ x ∈ m, x.1 = v) (hb : ∀ x ∈ b, v < x.1) : delR v (a ++ (m ++ b)) = a ++ b := by
 unfold delR
 rw [List.filter_append, List.filter_append, List.filter_eq_self.2 (fun x hx => decide_eq_true (by have := ha x hx; omega)), show m.filter (fun x => decide (x.1 ≠ v)) = [] from List.filter_eq_nil_iff.2 fun x hx => (by have := hm x hx; simp; omega), show b.filter (fun x => decide (x.1 ≠ v)) = b from List.filter_eq_self.2 fun x hx => decide_eq_true (by have := hb x hx; omega)]
 simp
theorem delR_none (k : ∀ x ∈ l, x.1 ≠ v) : delR v l = l := List.filter_eq_self.2 fun x hx => decide_eq_true (k x hx)
theorem Ris.gt (k : Ris l) {i j : Int} (i0 : 0 ≤ i) (ij : i < j) (j1 : j < (l.length : Int)) : (gt l i).1 < (gt l j).1 := by
 have := List.pairwise_iff_getElem.1 k i.toNat j.toNat (by omega) (by omega) (by omega)
 have e : ∀ {n : Int}, 0 ≤ n -> (h : n < (l.length : Int)) -> Go.Vd.gt l n = l[n.toNat]'(by omega) := fun {n} n0 n1 => by
  unfold Go.Vd.gt
  rw [List.getD_eq_getElem?_getD, List.getElem?_eq_getElem (by omega)]; rfl
 rw [e i0 (by omega), e (by omega) j1]; exact this
theorem mem_take_gt {i : Int} {x : Hf} (i1 : i ≤ (l.length : Int)) (hx : x ∈ l.take i.toNat) : ∃ j, 0 ≤ j /\ j < i /\ x = gt l j := by
 obtain ⟨j, j0, j1, e⟩ := mem_gtE hx
 rw [List.length_take] at j1
 refine ⟨j, j0, by omega, ?_⟩
 rw [e]
 unfold gt
 rw [List.getD_eq_getElem?_getD, List.getD_eq_getElem?_getD, List.getElem?_take, if_pos (by omega)]
theorem mem_drop_gt {i : Int} {x : Hf} (i0 : 0 ≤ i) (hx : x ∈ l.drop i.toNat) : ∃ j, i ≤ j /\ j < (l.length : Int) /\ x = gt l j := by
 obtain ⟨j, j0, j1, e⟩ := mem_gtE hx
 rw [List.length_drop] at j1
 refine ⟨i + j, by omega, by omega, ?_⟩
 rw [e]
 unfold gt
 rw [List.getD_eq_getElem?_getD, List.getD_eq_getElem?_getD, List.getElem?_drop, show (i + j).toNat = i.toNat + j.toNat by omega]
structure FdR (l : List Hf) (v : Int) (p : Int) (b : Bool) : Prop where
 p0 : 0 ≤ p
 p1 : p ≤ (l.length : Int)
 yes : b = true -> p < (l.length : Int) /\ (gt l p).1 = v
 no : b = false -> ∀ x ∈ l, x.1 ≠ v
 lo : 0 ≤ v -> v < 65536 -> ∀ j, 0 ≤ j -> j < p -> (gt l j).1 < v
 hi : 0 ≤ v -> v < 65536 -> ∀ j, p ≤ j -> j < (l.length : Int) -> v ≤ (gt l j).1
theorem p_cmp {a b c : Int} (a0 : 0 ≤ a) (a1 : a < 65536) (v0 : -9223372036854775808 ≤ v) (v1 : v ≤ 9223372036854775807) : ∃ r, z_overlay_find_1 a b c v = some r /\ (r = 0 ↔ a = v) /\ (0 ≤ v -> (r < 0 ↔ a < v)) := by
 refine ⟨_, rfl, ?_, fun h => ?_⟩
 ·rw [IntKind.wrap_i64]; omega
 ·rw [IntKind.wrap_i64]; omega
theorem p_find (hr : Ris l) (hb : ∀ x ∈ l, 0 ≤ x.1 /\ x.1 < 65536) (hl : l.length ≤ 1000000) (v0 : -9223372036854775808 ≤ v) (v1 : v ≤ 9223372036854775807) : T (z_overlay_find l v) fun r => FdR l v r.1 r.2 := by
 have gtm : ∀ {i : Int}, 0 ≤ i -> i < (l.length : Int) -> gt l i ∈ l := fun {i} i0 i1 => gt_memO i0 i1
 unfold z_overlay_find
 refine T_bindr (fun r => FdR l v r.1 r.2) ?_ fun r h => by simp only [T_some]; exact h
 unfold z_slices_BinarySearchFunc
 refine T_bindr (fun p => 0 ≤ p /\ p ≤ (l.length : Int) /\ (0 ≤ v -> v < 65536 -> (∀ j, 0 ≤ j -> j < p -> (gt l j).1 < v) /\ ∀ j, p ≤ j -> j < (l.length : Int) -> v ≤ (gt l j).1)) ?_ ?_
 ·refine T_loop (fun z => 0 ≤ z.2 /\ z.2 ≤ z.1 /\ z.1 ≤ (l.length : Int) /\ (0 ≤ v -> v < 65536 -> (∀ j, 0 ≤ j -> j < z.2 -> (gt l j).1 < v) /\ ∀ j, z.1 ≤ j -> j < (l.length : Int) -> v ≤ (gt l j).1)) (fun z => (z.1 - z.2).toNat) ?_ ⟨by simp, by simp, by simp, fun _ _ => ⟨fun j j0 j1 => by dsimp only at j1; omega, fun j j0 j1 => by dsimp only at j0; omega⟩⟩
  rintro ⟨j, i⟩ ⟨i0, ij, j1, k⟩
  dsimp only at *
  unfold z_slices_BinarySearchFunc_l0
  rw [T_ite]
  refine ⟨fun hlt => ?_, fun hge => ?_⟩
  ·have hm := hb _ (gtm (i := (i + j) / 2) (by omega) (by omega))
   obtain ⟨r, e, r1, r2⟩ := p_cmp (b := (gt l ((i + j) / 2)).2.1) (c := (gt l ((i + j) / 2)).2.2) hm.1 hm.2 v0 v1
   simp only [T_G]
   refine ⟨by omega, by omega, by omega, by omega, ?_⟩
   rw [e, Option.bind_some, T_ite]
   refine ⟨fun hc => ?_, fun hc => ?_⟩
   ·simp only [T_G, T_some, Sum.elim_inl]
    refine ⟨by omega, ⟨by omega, by omega, j1, fun a b => ⟨fun q q0 q1 => ?_, (k a b).2⟩⟩, by omega⟩
    have hm := (r2 a).1 hc
    by_cases e : q = (i + j) / 2
    ·rw [e]; exact hm
    ·have := hr.gt q0 (by omega) (show (i + j) / 2 < (l.length : Int) by omega); omega
   ·simp only [T_some, Sum.elim_inl]
    refine ⟨⟨i0, by omega, by omega, fun a b => ⟨(k a b).1, fun q q0 q1 => ?_⟩⟩, by omega⟩
    have hm : ¬ (gt l ((i + j) / 2)).1 < v := fun h => hc ((r2 a).2 h)
    by_cases e : q = (i + j) / 2
    ·rw [e]; omega
    ·have := hr.gt (show 0 ≤ (i + j) / 2 by omega) (show (i + j) / 2 < q by omega) q1; omega
  ·simp only [T_some, Sum.elim_inr]
   refine ⟨i0, by omega, fun a b => ⟨(k a b).1, fun q q0 q1 => (k a b).2 q (by omega) q1⟩⟩
 ·rintro p ⟨p0, p1, k⟩
  rw [T_ite]
  have out : ∀ x ∈ l, ¬ (0 ≤ v /\ v < 65536) -> x.1 ≠ v := fun x hx hn e => by have := hb x hx; omega
  refine ⟨fun hlt => ?_, fun hge => ?_⟩
  ·have hm := hb _ (gtm p0 hlt)
   obtain ⟨r, e, r1, r2⟩ := p_cmp (b := (gt l p).2.1) (c := (gt l p).2.2) hm.1 hm.2 v0 v1
   simp only [T_G]
   refine ⟨p0, ?_⟩
   rw [e, Option.bind_some]
   simp only [T_some]
   refine ⟨p0, p1, fun hb => ⟨hlt, r1.1 (of_decide_eq_true hb)⟩, fun hf x hx => ?_, fun a b => (k a b).1, fun a b => (k a b).2⟩
   by_cases hv : 0 ≤ v /\ v < 65536
   ·obtain ⟨q, q0, q1, rfl⟩ := mem_gtE hx
    have hne : (gt l p).1 ≠ v := fun e => of_decide_eq_false hf (r1.2 e)
    by_cases hqp : q < p
    ·have := (k hv.1 hv.2).1 q q0 hqp; omega
    ·have h1 := (k hv.1 hv.2).2 p (Int.le_refl _) hlt
     by_cases e : q = p
     ·rw [e]; exact hne
     ·have := hr.gt p0 (show p < q by omega) q1; omega
   ·exact out x hx hv
  ·simp only [T_some]
   refine ⟨p0, p1, fun h => (by cases h), fun _ x hx => ?_, fun a b => (k a b).1, fun a b => (k a b).2⟩
   by_cases hv : 0 ≤ v /\ v < 65536
   ·obtain ⟨q, q0, q1, rfl⟩ := mem_gtE hx
    have := (k hv.1 hv.2).1 q q0 (by omega); omega
   ·exact out x hx hv
theorem FdR.split (hr : Ris l) {p : Int} {b : Bool} (f : FdR l v p b) (v0 : 0 ≤ v) (v1 : v < 65536) : ∃ m, l = l.take p.toNat ++ (m ++ l.drop (p.toNat + m.length)) /\ (∀ x ∈ l.take p.toNat, x.1 < v) /\ (∀ x ∈ m, x.1 = v) /\ (∀ x ∈ l.drop (p.toNat + m.length), v < x.1) /\ m.length = if b = true then 1 else 0 := by
 have a : ∀ x ∈ l.take p.toNat, x.1 < v := fun x hx => by
  obtain ⟨j, j0, j1, rfl⟩ := mem_take_gt f.p1 hx
  exact f.lo v0 v1 j j0 j1
 cases b with
 | true =>
  obtain ⟨h1, h2⟩ := f.yes rfl
  refine ⟨[gt l p], ?_, a, fun x hx => by rw [List.mem_singleton.1 hx]; exact h2, fun x hx => ?_, rfl⟩
  ·have e := take_gtE f.p0 h1
   rw [← List.append_assoc, ← e, show p.toNat + [gt l p].length = (p + 1).toNat by simp only [List.length_cons, List.length_nil]; have := f.p0; omega, List.take_append_drop]
  ·rw [show p.toNat + [gt l p].length = (p + 1).toNat by simp only [List.length_cons, List.length_nil]; have := f.p0; omega] at hx
   have := f.p0
   obtain ⟨j, j0, j1, rfl⟩ := mem_drop_gt (by omega) hx
   have := hr.gt f.p0 (show p < j by omega) j1
   omega
 | false =>
  refine ⟨[], by simp, a, (fun x hx => by cases hx), fun x hx => ?_, rfl⟩
  obtain ⟨j, j0, j1, rfl⟩ := mem_drop_gt f.p0 (by simpa using hx)
  have h1 := f.hi v0 v1 j j0 j1
  have h2 := f.no rfl (gt l j) (gt_memO (by have := f.p0; omega) j1)
  omega
theorem p_laid (hr : Ris l) (hb : ∀ x ∈ l, 0 ≤ x.1 /\ x.1 < 65536) (hl : l.length ≤ 1000000) (v0 : 0 ≤ v) (v1 : v < 65536) : z_overlay_laid l v wt via = some (insR (v, wt, via) l) := by
 refine T_eq.1 ?_
 unfold z_overlay_laid
 refine T_bindr _ (p_find hr hb hl (by omega) (by omega)) ?_
 rintro ⟨p, b⟩ f
 dsimp only at *
 obtain ⟨m, e, a1, a2, a3, a4⟩ := f.split hr v0 v1
 have p0 := f.p0
 have p1 := f.p1
 have hs : insR (v, wt, via) l = l.take p.toNat ++ ([(v, wt, via)] ++ l.drop (p.toNat + m.length)) := by
  conv => lhs; rw [e]
  exact insR_split a1 a2 a3
 rw [hs, T_ite]
 refine ⟨fun hb => ?_, fun hb => ?_⟩
 ·rw [if_pos hb] at a4
  have h1 := (f.yes hb).1
  simp only [T_G, T_some]
  refine ⟨⟨p0, h1⟩, ?_⟩
  rw [a4, List.set_eq_take_append_cons_drop, if_pos (by omega)]
  simp
 ·rw [if_neg hb] at a4
  simp only [T_G, T_some]
  refine ⟨⟨p0, p1, by omega⟩, ?_⟩
  rw [a4, Nat.add_zero]
theorem p_without (hr : Ris l) (hb : ∀ x ∈ l, 0 ≤ x.1 /\ x.1 < 65536) (hl : l.length ≤ 1000000) (v0 : 0 ≤ v) (v1 : v < 65536) : z_overlay_without l v = some (delR v l) := by
 refine T_eq.1 ?_
 unfold z_overlay_without
 refine T_bindr _ (p_find hr hb hl (by omega) (by omega)) ?_
 rintro ⟨p, b⟩ f
 dsimp only at *
 obtain ⟨m, e, a1, a2, a3, a4⟩ := f.split hr v0 v1
 have p0 := f.p0
 have p1 := f.p1
 have hs : delR v l = l.take p.toNat ++ l.drop (p.toNat + m.length) := by
  conv => lhs; rw [e]
  exact delR_split a1 a2 a3
 rw [T_ite]
 refine ⟨fun hb => ?_, fun hb => ?_⟩
 ·have hb' : b = false := by simpa using hb
  simp only [T_some]
  exact (delR_none (f.no hb')).symm
 ·have hb' : b = true := by simpa using hb
  rw [if_pos hb'] at a4
  have h1 := (f.yes hb').1
  simp only [T_G, T_some]
  refine ⟨by omega, by omega, ?_⟩
  rw [hs, a4, show (p + 1).toNat = p.toNat + 1 by omega]
end Go.Vd

/-! (OvD) -/

set_option linter.unusedVariables false
set_option linter.unusedSimpArgs false
namespace Go.Vd
variable {nodes nodes' : List Nod} {alive arcs : Int} {A : List Bool} {L : List OAr} {u v w wt via : Int}
def liveB (A : List Bool) (v : Int) : Prop := 0 ≤ v /\ v < (A.length : Int) /\ gt A v = true
instance : Decidable (liveB A v) := by unfold liveB; infer_instance
theorem KD.uniq (h : KD L) {a b : OAr} (ha : a ∈ L) (hb : b ∈ L) (e1 : a.1 = b.1) (e2 : a.2.1 = b.2.1) : a = b := by
 obtain ⟨i, hi, rfl⟩ := List.mem_iff_getElem.1 ha
 obtain ⟨j, hj, rfl⟩ := List.mem_iff_getElem.1 hb
 rcases Nat.lt_trichotomy i j with q | q | q
 ·exact absurd ⟨e1, e2⟩ (List.pairwise_iff_getElem.1 h i j hi hj q)
 ·subst q; rfl
 ·exact absurd ⟨e1.symm, e2.symm⟩ (List.pairwise_iff_getElem.1 h j i hj hi q)
theorem OvR.outB (h : OvR nodes alive arcs A L) (v : Int) : ∀ x ∈ outL L v, 0 ≤ x.1 /\ x.1 < 65536 := fun x hx => by
 have := h.en _ ((mem_outL h.kd).1 hx)
 have hs := h.sm
 dsimp only at this
 omega
theorem OvR.inB (h : OvR nodes alive arcs A L) (v : Int) : ∀ x ∈ inL L v, 0 ≤ x.1 /\ x.1 < 65536 := fun x hx => by
 have := h.en _ ((mem_inL h.kd).1 hx)
 have hs := h.sm
 dsimp only at this
 omega
theorem OvR.outLen (h : OvR nodes alive arcs A L) (v : Int) : (outL L v).length ≤ 1000000 := Nat.le_trans (outL_le h.kd v) h.lb
theorem OvR.inLen (h : OvR nodes alive arcs A L) (v : Int) : (inL L v).length ≤ 1000000 := Nat.le_trans (inL_le h.kd v) h.lb
theorem OvR.out0 (h : OvR nodes alive arcs A L) (hv : ¬ liveB A v) : outL L v = [] := by
 refine List.eq_nil_iff_forall_not_mem.2 fun x hx => hv ?_
 obtain ⟨a1, a2, a3, a4, a5, _⟩ := h.en _ ((mem_outL h.kd).1 hx)
 exact ⟨a1, a2, a5⟩
theorem OvR.in0 (h : OvR nodes alive arcs A L) (hv : ¬ liveB A v) : inL L v = [] := by
 refine List.eq_nil_iff_forall_not_mem.2 fun x hx => hv ?_
 obtain ⟨a1, a2, a3, a4, a5, a6, _⟩ := h.en _ ((mem_inL h.kd).1 hx)
 exact ⟨a3, a4, a6⟩
theorem p_Alive (h : OvR nodes alive arcs A L) {a b v : Int} : z_overlay_Overlay_Alive nodes a b v = some (decide (liveB A v)) := by
 unfold z_overlay_Overlay_Alive liveB
 have hl := h.ln
 by_cases h0 : v ≥ 0
 ·rw [if_pos h0]
  by_cases h1 : v < (nodes.length : Int)
  ·rw [if_pos h1]
   unfold G
   rw [if_pos h0, h.nd v h0 (by omega)]
   have : v < (A.length : Int) := by omega
   show some (!(!gt A v)) = _
   rw [Bool.not_not]
   congr 1
   have h0' : 0 ≤ v := h0
   rw [Bool.eq_iff_iff]; simp [h0', this]
  ·rw [if_neg h1]
   have : ¬ v < (A.length : Int) := by omega
   simp [this]
 ·rw [if_neg h0]
  have : ¬ 0 ≤ v := h0
  simp [this]
def Wt (L : List OAr) (u w x : Int) (b : Bool) : Prop := (b = true /\ ∃ a ∈ L, a.1 = u /\ a.2.1 = w /\ a.2.2.1 = x) ∨ (b = false /\ x = 0 /\ ∀ a ∈ L, ¬ (a.1 = u /\ a.2.1 = w))
theorem Wt.uniq (h : KD L) {x y : Int} {b c : Bool} (k : Wt L u w x b) (k' : Wt L u w y c) : x = y /\ b = c := by
 rcases k with ⟨rfl, a, a1, a2, a3, a4⟩ | ⟨rfl, rfl, n⟩ <;> rcases k' with ⟨rfl, a', b1, b2, b3, b4⟩ | ⟨rfl, rfl, n'⟩
 ·have := h.uniq a1 b1 (a2.trans b2.symm) (a3.trans b3.symm)
  subst this
  exact ⟨a4.symm.trans b4, rfl⟩
 ·exact absurd ⟨a2, a3⟩ (n' a a1)
 ·exact absurd ⟨b2, b3⟩ (n a' b1)
 ·exact ⟨rfl, rfl⟩
theorem p_Weight (h : OvR nodes alive arcs A L) {a b : Int} (w0 : -9223372036854775808 ≤ w) (w1 : w ≤ 9223372036854775807) : T (z_overlay_Overlay_Weight nodes a b u w) fun r => Wt L u w r.1 r.2 := by
 unfold z_overlay_Overlay_Weight
 rw [p_Alive h, Option.bind_some]
 by_cases hu : liveB A u
 ·rw [decide_eq_true hu, if_neg (by decide)]
  have hl := h.ln
  simp only [T_G]
  refine ⟨⟨hu.1, by have := hu.2.1; omega⟩, ?_⟩
  have hn := h.nd u hu.1 hu.2.1
  rw [hn]
  dsimp only
  refine T_bindr _ (p_find (outL_ris L u) (h.outB u) (h.outLen u) w0 w1) ?_
  rintro ⟨p, f⟩ hf
  dsimp only at *
  rw [T_ite]
  refine ⟨fun hb => ?_, fun hb => ?_⟩
  ·have hb' : f = false := by simpa using hb
   simp only [T_some]
   refine .inr ⟨rfl, rfl, fun x hx hk => ?_⟩
   have : x.2 ∈ outL L u := (mem_outL h.kd).2 (by rw [← hk.1]; exact hx)
   exact hf.no hb' _ this hk.2
  ·have hb' : f = true := by simpa using hb
   obtain ⟨q1, q2⟩ := hf.yes hb'
   simp only [T_G, T_some]
   refine ⟨⟨hf.p0, q1⟩, .inl ⟨rfl, _, (mem_outL h.kd).1 (gt_memO hf.p0 q1), rfl, q2, rfl⟩⟩
 ·rw [decide_eq_false hu, if_pos (by decide)]
  simp only [T_some]
  refine .inr ⟨rfl, rfl, fun x hx hk => hu ?_⟩
  obtain ⟨a1, a2, a3, a4, a5, _⟩ := h.en x hx
  rw [hk.1] at a1 a2 a5
  exact ⟨a1, a2, a5⟩
theorem p_cloneO {l : List Hf} (hl : l.length ≤ 1000000) : z_slices_Clone l = some l := by
 unfold z_slices_Clone G
 rw [if_pos (by simp; omega)]; simp
theorem p_Out (h : OvR nodes alive arcs A L) {a b : Int} : z_overlay_Overlay_Out nodes a b v = some (outL L v) := by
 unfold z_overlay_Overlay_Out
 rw [p_Alive h, Option.bind_some]
 by_cases hu : liveB A v
 ·have hl := h.ln
  have hn := h.nd v hu.1 hu.2.1
  rw [decide_eq_true hu, if_neg (by decide), hn]
  unfold G
  dsimp only
  rw [if_pos ⟨hu.1, by have := hu.2.1; omega⟩, p_cloneO (h.outLen v)]; rfl
 ·rw [decide_eq_false hu, if_pos (by decide), h.out0 hu]
def putNo (A : List Bool) (u w wt via : Int) : Int :=
 if ¬ (liveB A u /\ liveB A w) then 7 else if u = w then 1 else if wt > 140737488355328 then 8 else if via < -1 ∨ (A.length : Int) ≤ via ∨ (0 ≤ via /\ liveB A via) then 1 else 0
inductive PutR (nodes : List Nod) (alive arcs : Int) (A : List Bool) (L : List OAr) (u w wt via : Int) : Bool × Er × List Nod × Int -> Prop
 | bad : putNo A u w wt via ≠ 0 -> PutR nodes alive arcs A L u w wt via (false, .no (putNo A u w wt via), nodes, arcs)
 | less (a : OAr) : putNo A u w wt via = 0 -> a ∈ L -> a.1 = u -> a.2.1 = w -> a.2.2.1 ≤ wt -> PutR nodes alive arcs A L u w wt via (false, .nil, nodes, arcs)
 | put (nodes' : List Nod) (arcs' : Int) : putNo A u w wt via = 0 -> (∀ a ∈ L, a.1 = u -> a.2.1 = w -> wt < a.2.2.1) -> OvR nodes' alive arcs' A (putA L (u, w, wt, via)) -> PutR nodes alive arcs A L u w wt via (true, .nil, nodes', arcs')
theorem p_oPut (h : OvR nodes alive arcs A L) (hb : L.length < 1000000) (w0 : -9223372036854775808 ≤ w) (w1 : w ≤ 9223372036854775807) (t0 : 0 ≤ wt) : T (z_overlay_Overlay_Put nodes alive arcs u w wt via) (PutR nodes alive arcs A L u w wt via) := by
 unfold z_overlay_Overlay_Put
 rw [p_Alive h, Option.bind_some]
 have e1 : ((if decide (liveB A u) = true then ((z_overlay_Overlay_Alive nodes alive arcs w).bind fun y32 => some (!y32)) else (some true)) : Option Bool) = some (decide (¬ (liveB A u /\ liveB A w))) := by
  by_cases hu : liveB A u
  ·rw [decide_eq_true hu, if_pos rfl, p_Alive h, Option.bind_some]
   by_cases hw : liveB A w <;> simp [hu, hw]
  ·rw [decide_eq_false hu, if_neg (by decide)]; simp [hu]
 rw [e1, Option.bind_some]
 by_cases hl : ¬ (liveB A u /\ liveB A w)
 ·rw [if_pos (decide_eq_true hl)]
  simp only [T_some]
  have : putNo A u w wt via = 7 := if_pos hl
  exact this ▸ .bad (by rw [this]; decide)
 rw [if_neg (by simpa using hl)]
 have hl' : liveB A u /\ liveB A w := Classical.not_not.1 hl
 obtain ⟨hu, hw⟩ := hl'
 by_cases huw : u = w
 ·rw [if_pos huw]
  simp only [T_some]
  have : putNo A u w wt via = 1 := (if_neg hl).trans (if_pos huw)
  exact this ▸ .bad (by rw [this]; decide)
 rw [if_neg huw]
 by_cases hwt : wt > 140737488355328
 ·rw [if_pos hwt]
  simp only [T_some]
  have : putNo A u w wt via = 8 := (if_neg hl).trans ((if_neg huw).trans (if_pos hwt))
  exact this ▸ .bad (by rw [this]; decide)
 rw [if_neg hwt]
 have hln := h.ln
 have e2 : ((if via < (-1) then (some true) else (if via ≥ (nodes.length : Int) then (some true) else (if via ≥ 0 then (G (0 ≤ via /\ via < (nodes.length : Int)) (some (!(gt nodes via).1))) else (some false))) : Option Bool)) = some (decide (via < -1 ∨ (A.length : Int) ≤ via ∨ (0 ≤ via /\ liveB A via))) := by
  by_cases q1 : via < -1
  ·rw [if_pos q1]; simp [q1]
  rw [if_neg q1]
  by_cases q2 : via ≥ (nodes.length : Int)
  ·rw [if_pos q2]
   have q2' : (A.length : Int) ≤ via := by omega
   simp [q2']
  rw [if_neg q2]
  by_cases q3 : via ≥ 0
  ·rw [if_pos q3]
   unfold G
   have q2' : via < (A.length : Int) := by omega
   have q3' : 0 ≤ via := q3
   rw [if_pos ⟨q3, by omega⟩, h.nd via q3 q2']
   show some (!(!gt A via)) = _
   have q4 : ¬ (A.length : Int) ≤ via := by omega
   rw [Bool.not_not]
   congr 1
   rw [Bool.eq_iff_iff]; simp [liveB, q1, q4, q3', q2']
  ·rw [if_neg q3]
   have q3' : ¬ 0 ≤ via := q3
   have q4 : ¬ (A.length : Int) ≤ via := by omega
   simp [q1, q4, q3']
 rw [e2, Option.bind_some]
 by_cases hv : via < -1 ∨ (A.length : Int) ≤ via ∨ (0 ≤ via /\ liveB A via)
 ·rw [if_pos (decide_eq_true hv)]
  simp only [T_some]
  have : putNo A u w wt via = 1 := (if_neg hl).trans ((if_neg huw).trans ((if_neg hwt).trans (if_pos hv)))
  exact this ▸ .bad (by rw [this]; decide)
 rw [if_neg (by simpa using hv)]
 have hc : putNo A u w wt via = 0 := (if_neg hl).trans ((if_neg huw).trans ((if_neg hwt).trans (if_neg hv)))
 refine T_bindr _ (p_Weight h w0 w1) ?_
 rintro ⟨x, b⟩ hW
 dsimp only at *
 -- the two lists
 have hu1 := hu.2.1
 have hw1 := hw.2.1
 have hsm := h.sm
 have nu := h.nd u hu.1 hu1
 have nw := h.nd w hw.1 hw1
 have l1 := p_laid (l := (gt nodes u).2.1) (v := w) (wt := wt) (via := via) (by rw [nu]; exact outL_ris L u) (by rw [nu]; exact h.outB u) (by rw [nu]; exact h.outLen u) hw.1 (by omega)
 have l2 := p_laid (l := (gt nodes w).2.2) (v := u) (wt := wt) (via := via) (by rw [nw]; exact inL_ris L w) (by rw [nw]; exact h.inB w) (by rw [nw]; exact h.inLen w) hu.1 (by omega)
 have fin : ∀ ar' : Int, (ar' = if (∃ x ∈ L, x.1 = u /\ x.2.1 = w) then arcs else arcs + 1) -> (∀ a ∈ L, a.1 = u -> a.2.1 = w -> wt < a.2.2.1) ->
   T (G (0 ≤ u /\ u < (nodes.length : Int)) (((z_overlay_laid ((gt nodes u).2.1) w wt via).bind fun y148 => G (0 ≤ w /\ w < ((nodes.set u.toNat ((gt nodes u).1, y148, (gt nodes u).2.2)).length : Int)) (((z_overlay_laid ((gt (nodes.set u.toNat ((gt nodes u).1, y148, (gt nodes u).2.2)) w).2.2) u wt via).bind fun y192 => some (true, Er.nil, ((nodes.set u.toNat ((gt nodes u).1, y148, (gt nodes u).2.2)).set w.toNat ((gt (nodes.set u.toNat ((gt nodes u).1, y148, (gt nodes u).2.2)) w).1, (gt (nodes.set u.toNat ((gt nodes u).1, y148, (gt nodes u).2.2)) w).2.1, y192)), ar')))))) (PutR nodes alive arcs A L u w wt via) := by
  intro ar' har hless
  rw [l1, Option.bind_some]
  simp only [T_G, List.length_set]
  refine ⟨⟨hu.1, by omega⟩, ⟨hw.1, by omega⟩, ?_⟩
  rw [gt_setE hu.1 (by omega) hw.1, if_neg (Ne.symm huw), l2, Option.bind_some]
  simp only [T_some]
  refine .put _ _ hc hless ?_
  rw [har]
  refine h.put hu.1 hu1 hw.1 hw1 hu.2.2 hw.2.2 huw t0 (by omega) (by omega) (by omega) hb (by simp) fun x x0 x1 => ?_
  rw [gt_setE hw.1 (by rw [List.length_set]; omega) x0, gt_setE hu.1 (by omega) x0]
  by_cases q : x = w
  ·rw [if_pos q, if_pos q, if_neg (by omega), q]
  ·rw [if_neg q, if_neg q]
   by_cases q2 : x = u
   ·rw [if_pos q2, if_pos q2, q2]
   ·rw [if_neg q2, if_neg q2]
 rcases hW with ⟨rfl, a, a1, a2, a3, a4⟩ | ⟨rfl, rfl, hn⟩
 ·rw [if_pos rfl, Option.bind_some]
  by_cases hle : x ≤ wt
  ·rw [if_pos (decide_eq_true hle)]
   simp only [T_some]
   exact .less a hc a1 a2 a3 (by rw [a4]; exact hle)
  ·rw [if_neg (by simpa using hle)]
   dsimp only
   rw [if_neg (by decide), Option.bind_some]
   refine fin arcs (by rw [if_pos ⟨a, a1, a2, a3⟩]) fun b hb e1 e2 => ?_
   have := h.kd.uniq hb a1 (e1.trans a2.symm) (e2.trans a3.symm)
   rw [this, a4]; omega
 ·rw [if_neg (by decide), Option.bind_some, if_neg (by decide)]
  dsimp only
  rw [if_pos (by decide)]
  have hlb := h.lb
  have har := h.ar
  unfold G
  rw [if_pos (by omega), Option.bind_some]
  exact fin (arcs + 1) (by rw [if_neg (by rintro ⟨a, a1, a2, a3⟩; exact hn a a1 ⟨a2, a3⟩)]) fun b hb e1 e2 => absurd ⟨e1, e2⟩ (hn b hb)
end Go.Vd

/-! (WtC) -/

set_option linter.unusedVariables false
set_option linter.unusedSimpArgs false
set_option maxHeartbeats 1000000
namespace Go.Vd
variable {nodes : List Nod} {alive arcs : Int} {A : List Bool} {M : List OAr} {u v skip hops most settles c N : Int} {q : List (Int × Int)} {L : Lab} {ss : List Int}
def rowW (M : List OAr) (skip v : Int) : List (Int × Int) := ((outL M v).filter fun h => decide (h.1 ≠ skip)).map fun h => (h.1, h.2.1)
theorem OvR.rowOk (h : OvR nodes alive arcs A M) : RowOk (rowW M skip) A.length := fun v x hx => by
 unfold rowW at hx
 obtain ⟨y, hy, rfl⟩ := List.mem_map.1 hx
 have hm := (List.mem_filter.1 hy).1
 have := h.en _ ((mem_outL h.kd).1 hm)
 dsimp only at *
 omega
structure QI (L : Lab) (q : List (Int × Int)) (k : Int -> Prop) : Prop where
 ord : Hq q
 inn : ∀ v y, L v = some y -> y.2.2 = 0 -> ¬ k v -> (y.1, v) ∈ q
 out : ∀ e ∈ q, ∃ y, L e.2 = some y /\ y.1 ≤ e.1
theorem gt_mem0 {q : List (Int × Int)} {p : Int} (p0 : 0 ≤ p) (p1 : p < (q.length : Int)) : gt q p ∈ q := by
 unfold gt
 rw [List.getD_eq_getElem?_getD, List.getElem?_eq_getElem (by omega)]
 exact List.getElem_mem _
theorem mem_gt0 {q : List (Int × Int)} {x : Int × Int} (h : x ∈ q) : ∃ p, 0 ≤ p /\ p < (q.length : Int) /\ gt q p = x := by
 obtain ⟨i, hi, e⟩ := List.getElem_of_mem h
 refine ⟨i, by omega, by omega, ?_⟩
 unfold gt
 rw [List.getD_eq_getElem?_getD, Int.toNat_natCast, List.getElem?_eq_getElem hi]; exact e
inductive NxR (L : Lab) (q : List (Int × Int)) : Int × Int × Int × Int × Bool × List (Int × Int) -> Prop
 | no : WNo L -> NxR L q (0, 0, 0, 0, false, [])
 | ok (v : Int) (y : Int × Int × Int) (q' : List (Int × Int)) : WPick L v y -> QI L q' (fun x => x = v) -> q'.length < q.length -> NxR L q (v, y.1, y.2.1, y.2.2, true, q')
theorem p_next {a : List Nd3} {b1 b2 b3 b4 : Int} (hq : QI L q fun _ => False) (hl : q.length ≤ 100000000000) : T (z_witness_seek_next a b1 b2 b3 b4 q L) (NxR L q) := by
 unfold z_witness_seek_next
 refine T_binds (fun r => r = [] /\ WNo L) ?_ ?_
 ·refine T_loop (fun z => QI L z (fun _ => False) /\ z.length ≤ q.length) (fun z => z.length) ?_ ⟨hq, Nat.le_refl _⟩
  rintro s ⟨Q, hs⟩
  unfold z_witness_seek_next_l0
  rw [T_ite]
  refine ⟨fun h0 => ?_, fun h0 => ?_⟩
  ·refine T_bindr _ (p_hPop Q.ord (by omega) h0) ?_
   rintro ⟨d, v, _, q'⟩ ⟨e, hp, ho⟩
   dsimp only at *
   have hlen := hp.length_eq
   rw [List.length_cons] at hlen
   have hm : (d, v) ∈ s := by rw [e]; exact gt_mem0 (by omega) h0
   obtain ⟨y, hy, hle⟩ := Q.out _ hm
   dsimp only at hy hle
   rw [hy]
   dsimp only [Option.getD_some]
   have out' : ∀ x ∈ q', ∃ y, L x.2 = some y /\ y.1 ≤ x.1 := fun x hx => Q.out x (hp.mem_iff.1 (List.mem_cons_of_mem _ hx))
   have least : ∀ x ∈ s, ¬ Less x (d, v) := fun x hx => by
    obtain ⟨p, p0, p1, rfl⟩ := mem_gt0 hx
    rw [e]
    exact Ord2.top Q.ord p p0 p1
   have stale : ¬ (y.2.2 = 0 /\ y.1 = d) -> QI L q' fun _ => False := fun hn => ⟨ho, fun w z hz z0 _ => by
    have := Q.inn w z hz z0 (fun h => h)
    rw [← hp.mem_iff] at this
    rcases List.mem_cons.1 this with h | h
    ·rw [← e] at h
     cases h
     rw [hy] at hz; cases hz
     exact absurd ⟨z0, rfl⟩ hn
    ·exact h, out'⟩
   rw [T_ite]
   refine ⟨fun h1 => ?_, fun h1 => ?_⟩
   ·rw [T_ite]
    refine ⟨fun h2 => ?_, fun h2 => ?_⟩
    ·simp only [T_map, T_some, Sum.elim_inr, Sum.elim_inl]
     have hpick : WPick L v y := by
      refine ⟨hy, h1, fun w z hz z0 => ?_⟩
      have := least _ (Q.inn w z hz z0 (fun h => h))
      unfold Less at this
      dsimp only at this
      omega
     exact .ok v y q' hpick ⟨ho, fun w z hz z0 hw => by
      have := Q.inn w z hz z0 (fun h => h)
      rw [← hp.mem_iff] at this
      rcases List.mem_cons.1 this with h | h
      ·rw [← e] at h; cases h; exact absurd rfl hw
      ·exact h, out'⟩ (by omega)
    ·simp only [T_some, Sum.elim_inl]
     exact ⟨⟨stale fun k => h2 k.2, by omega⟩, by omega⟩
   ·simp only [T_some, Sum.elim_inl]
    exact ⟨⟨stale fun k => h1 k.1, by omega⟩, by omega⟩
  ·simp only [T_some, Sum.elim_inr]
   have : s = [] := List.eq_nil_of_length_eq_zero (by omega)
   subst this
   exact ⟨rfl, fun x z hz z0 => by have := Q.inn x z hz z0 (fun h => h); cases this⟩
 ·rintro _ ⟨rfl, hn⟩
  simp only [T_some]
  exact .no hn
theorem p_set {a : List Nd3} {b1 b2 b3 b4 d hp : Int} {k : Int -> Prop} (hq : QI L q k) (hl : q.length ≤ 100000000000) (hopn : opn L v d) : T (z_witness_seek_set a b1 b2 b3 b4 q L v d hp 0) fun r => r.1 = lup L v (d, hp, 0) /\ QI r.1 r.2 k /\ r.2.length = q.length + 1 := by
 unfold z_witness_seek_set
 refine T_bindr _ (p_hPush hq.ord hl) ?_
 rintro r ⟨h1, h2⟩
 simp only [T_some]
 refine ⟨rfl, ⟨h2, fun w z hz z0 hw => ?_, fun e he => ?_⟩, by rw [h1.length_eq, List.length_cons]⟩
 ·rw [h1.mem_iff]
  by_cases e : w = v
  ·subst e
   rw [if_pos rfl] at hz; cases hz
   simp
  ·rw [if_neg e] at hz
   exact List.mem_cons_of_mem _ (hq.inn w z hz z0 hw)
 ·rw [h1.mem_iff] at he
  rcases List.mem_cons.1 he with rfl | he
  ·exact ⟨(d, hp, 0), if_pos rfl, Int.le_refl _⟩
  ·obtain ⟨y, hy, hle⟩ := hq.out e he
   by_cases ev : e.2 = v
   ·refine ⟨(d, hp, 0), if_pos ev, ?_⟩
    unfold opn at hopn
    rw [← ev, hy] at hopn
    dsimp only at hopn ⊢
    omega
   ·exact ⟨y, by rw [if_neg ev]; exact hy, hle⟩
theorem p_settleW (h : OvR nodes alive arcs A M) {y : Int × Int × Int} (hW : WI A.length c L ss) (c0 : 0 ≤ c) (c1 : c < 65536) (hp : WPick L v y) (hq : QI L q fun x => x = v) (hl : q.length ≤ 10000000000 + 1000000 * c.toNat) :
  T (z_witness_seek_settle nodes alive arcs skip hops q L v y.1 y.2.1 y.2.2) fun r => r.1 = wset (rowW M skip) hops L v y /\ QI r.1 r.2 (fun _ => False) /\ r.2.length ≤ 10000000000 + 1000000 * (c.toNat + 1) := by
 unfold z_witness_seek_settle
 have hv := hW.val v y hp.1
 have hW1 := hW.settle hp.1 hp.2.1
 have e1 : (fun x => if x = v then some (y.1, y.2.1, (1 : Int)) else L x) = lup L v (y.1, y.2.1, 1) := rfl
 rw [e1]
 have Q1 : QI (lup L v (y.1, y.2.1, 1)) q fun _ => False := by
  refine ⟨hq.ord, fun w z hz z0 _ => ?_, fun e he => ?_⟩
  ·unfold lup at hz
   by_cases ew : w = v
   ·rw [if_pos ew] at hz; cases hz; cases z0
   ·rw [if_neg ew] at hz; exact hq.inn w z hz z0 ew
  ·obtain ⟨z, hz, hle⟩ := hq.out e he
   unfold lup
   by_cases ew : e.2 = v
   ·rw [if_pos ew]
    rw [ew, hp.1] at hz; cases hz
    exact ⟨_, rfl, hle⟩
   ·rw [if_neg ew]; exact ⟨z, hz, hle⟩
 rw [T_ite]
 refine ⟨fun hh => ?_, fun hh => ?_⟩
 ·simp only [T_some]
  refine ⟨by unfold wset; rw [if_pos hh], Q1, by omega⟩
 rw [p_Out h, Option.bind_some]
 have hmul : c * 140737488355328 ≤ 65535 * 140737488355328 := Int.mul_le_mul_of_nonneg_right (by omega) (by omega)
 have hol := h.outLen v
 refine T_bindr (fun r => r.1 = (rowW M skip v).foldl (wrel y.1 y.2.1) (lup L v (y.1, y.2.1, 1)) /\ QI r.1 r.2 (fun _ => False) /\ r.2.length ≤ 10000000000 + 1000000 * (c.toNat + 1)) ?_ ?_
 rotate_left
 ·rintro ⟨r1, r2⟩ ⟨e, k1, k2⟩
  simp only [T_some]
  exact ⟨by unfold wset; rw [if_neg hh]; exact e, k1, k2⟩
 refine T_loop (fun z => 0 ≤ z.2.2 /\ z.2.2 ≤ ((outL M v).length : Int) /\ z.2.1 = ((((outL M v).take z.2.2.toNat).filter fun h => decide (h.1 ≠ skip)).map fun h => (h.1, h.2.1)).foldl (wrel y.1 y.2.1) (lup L v (y.1, y.2.1, 1)) /\ QI z.2.1 z.1 (fun _ => False) /\ (z.1.length : Int) ≤ 10000000000 + 1000000 * c + z.2.2) (fun z => (((outL M v).length : Int) - z.2.2).toNat) ?_ ⟨by simp, by simp, rfl, Q1, by simp; omega⟩
 rintro ⟨s, l, i⟩ ⟨i0, i1, e, Q, hs⟩
 dsimp only at *
 unfold z_witness_seek_settle_l0
 rw [T_ite]
 refine ⟨fun hi => ?_, fun hi => ?_⟩
 rotate_left
 ·simp only [T_some, Sum.elim_inr]
  rw [List.take_of_length_le (by omega)] at e
  exact ⟨e, Q, by omega⟩
 have hm : gt (outL M v) i ∈ outL M v := by
  unfold gt
  rw [List.getD_eq_getElem?_getD, List.getElem?_eq_getElem (by omega)]
  exact List.getElem_mem _
 have hen := h.en _ ((mem_outL h.kd).1 hm)
 have htk := take_gtE i0 hi
 generalize gt (outL M v) i = a at *
 obtain ⟨x, w, via⟩ := a
 dsimp only at *
 simp only [T_G]
 refine ⟨i0, by omega, by omega, ?_⟩
 have hnext : ∀ l', l' = (if x = skip then l else wrel y.1 y.2.1 l (x, w)) -> l' = ((((outL M v).take (i + 1).toNat).filter fun h => decide (h.1 ≠ skip)).map fun h => (h.1, h.2.1)).foldl (wrel y.1 y.2.1) (lup L v (y.1, y.2.1, 1)) := by
  rintro _ rfl
  rw [htk, List.filter_append, List.map_append, List.foldl_append, ← e]
  by_cases es : x = skip
  ·rw [if_pos es, List.filter_cons, if_neg (by simp [es])]; rfl
  ·rw [if_neg es, List.filter_cons, if_pos (by simp [es])]; rfl
 refine T_bindr (fun o => o = decide (x = skip ∨ ¬ opn l x (y.1 + w))) ?_ ?_
 ·by_cases es : x = skip
  ·rw [if_pos es]; simp [es]
  rw [if_neg es]
  have hval : ∀ z, l x = some z -> z.2.2 = 0 ∨ z.2.2 = 1 := fun z hz => by
   have hI : WI A.length (c + 1) l (v :: ss) := by
    rw [e]
    refine WI.fold (by omega) (by omega) (by omega) (by omega) (hW1.mono (by omega)) fun a ha => ?_
    obtain ⟨b, hb, rfl⟩ := List.mem_map.1 ha
    have hb' := List.mem_of_mem_take (List.mem_filter.1 hb).1
    have := h.en _ ((mem_outL h.kd).1 hb')
    dsimp only at *
    omega
   exact (hI.val x z hz).2.2.2.2
  cases hz : l x with
  | none =>
   have ho : opn l x (y.1 + w) := by unfold opn; rw [hz]; trivial
   simp [es, ho]
  | some z =>
   have := hval z hz
   have ho : opn l x (y.1 + w) ↔ z.2.2 = 0 /\ y.1 + w < z.1 := by unfold opn; rw [hz]
   dsimp only [Option.getD_some]
   by_cases z0 : z.2.2 > 0
   ·rw [if_pos z0]
    have h1 : ¬ opn l x (y.1 + w) := fun k => by have := (ho.1 k).1; omega
    simp [h1]
   ·rw [if_neg z0, if_pos (show (some z).isSome = true from rfl)]
    have h0 : z.2.2 = 0 := by omega
    by_cases hd : z.1 ≤ y.1 + w
    ·have h1 : ¬ opn l x (y.1 + w) := fun k => by have := (ho.1 k).2; omega
     simp [h1, hd]
    ·have h1 : opn l x (y.1 + w) := ho.2 ⟨h0, by omega⟩
     simp [h1, hd, es]
 rintro _ rfl
 rw [T_ite]
 refine ⟨fun hk => ?_, fun hk => ?_⟩
 ·have hk' := of_decide_eq_true hk
  simp only [T_G, T_some, Sum.elim_inl]
  refine ⟨by omega, ⟨by omega, by omega, hnext _ ?_, Q, by omega⟩, by omega⟩
  rcases hk' with hk' | hk'
  ·rw [if_pos hk']
  ·unfold wrel; rw [if_neg hk']; split <;> rfl
 ·have hk' : ¬ x = skip /\ opn l x (y.1 + w) := by
   have : ¬ (x = skip ∨ ¬ opn l x (y.1 + w)) := fun k => hk (decide_eq_true k)
   exact ⟨fun k => this (.inl k), Classical.not_not.1 fun k => this (.inr k)⟩
  refine T_bindr _ (p_set (hp := y.2.1 + 1) Q (by omega) hk'.2) ?_
  rintro ⟨r1, r2⟩ ⟨k1, k2, k3⟩
  dsimp only at *
  simp only [T_G, T_some, Sum.elim_inl]
  refine ⟨by omega, ⟨by omega, by omega, hnext _ ?_, k2, by omega⟩, by omega⟩
  rw [if_neg hk'.1, k1]
  unfold wrel; rw [if_pos hk'.2]
theorem p_run (h : OvR nodes alive arcs A M) (u0 : 0 ≤ u) (u1 : u < (A.length : Int)) (hset : settles ≤ 9223372036854775807) :
  T (z_witness_seek_run nodes alive arcs skip hops [] (fun _ => none) u most settles) fun r => WR (rowW M skip) hops settles most 0 (lab0 u) r.1 := by
 have hsm := h.sm
 unfold z_witness_seek_run
 refine T_bindr _ (p_set (k := fun _ => False) (hp := 0) (d := 0) (v := u) (L := fun _ => none) (q := []) ⟨fun p p0 p1 => by simp at p1; omega, fun w z hz => (by cases hz), fun e he => (by cases he)⟩ (by simp) (by unfold opn; trivial)) ?_
 rintro ⟨l0, q0⟩ ⟨e0, Q0, hl0⟩
 dsimp only at *
 subst e0
 refine T_binds (fun r => WR (rowW M skip) hops settles most 0 (lab0 u) r.1) ?_ fun r hr => by simpa using hr
 refine T_loop (fun z => 0 ≤ z.2.2 /\ QI z.2.1 z.1 (fun _ => False) /\ (∃ ss, WI A.length z.2.2 z.2.1 ss /\ (ss.length : Int) = z.2.2) /\ z.1.length ≤ 10000000000 + 1000000 * z.2.2.toNat /\ ∀ Lf, WR (rowW M skip) hops settles most z.2.2 z.2.1 Lf -> WR (rowW M skip) hops settles most 0 (lab0 u) Lf) (fun z => ((A.length : Int) - z.2.2).toNat) ?_ ⟨by simp, Q0, ⟨[], WI.zero u0 u1, rfl⟩, by rw [hl0]; simp, fun _ k => k⟩
 rintro ⟨q, L, c⟩ ⟨c0, Q, ⟨ss, hW, hss⟩, hl, K⟩
 dsimp only at *
 have hcn := hW.len (by omega)
 unfold z_witness_seek_run_l0
 rw [T_ite]
 refine ⟨fun hlt => ?_, fun hge => ?_⟩
 rotate_left
 ·simp only [T_some, Sum.elim_inr]
  exact K _ (.full _ _ (by omega))
 have hlt' : c < settles := by omega
 refine T_bindr _ (p_next Q (by omega)) ?_
 intro r hr
 cases hr with
 | no hn =>
  dsimp only
  rw [if_pos (by decide), Option.bind_some, if_pos rfl]
  simp only [T_map, T_some, Sum.elim_inr, Sum.elim_inl]
  exact K _ (.none _ _ hlt' hn)
 | ok v y q' hp Q' hq' =>
  dsimp only
  rw [if_neg (by decide), Option.bind_some]
  by_cases hm : y.1 > most
  ·rw [decide_eq_true hm, if_pos rfl]
   simp only [T_map, T_some, Sum.elim_inr, Sum.elim_inl]
   exact K _ (.far _ _ v y hlt' hp hm)
  ·rw [decide_eq_false hm, if_neg (by decide)]
   have hWn := hW.set (hops := hops) (h.rowOk (skip := skip)) hp
   have hcn2 := hWn.len (by omega)
   rw [List.length_cons] at hcn2
   refine T_bindr _ (p_settleW (skip := skip) (hops := hops) h hW c0 (by omega) hp Q' (by omega)) ?_
   rintro ⟨r1, r2⟩ ⟨k1, k2, k3⟩
   dsimp only at *
   subst k1
   simp only [T_G, T_some, Sum.elim_inl]
   exact ⟨by omega, ⟨by omega, k2, ⟨_, hWn, by simp; omega⟩, by omega, fun Lf hL => K _ (.go _ _ v y _ hlt' hp hm hL)⟩, by omega⟩
end Go.Vd

/-! (WtD) -/

set_option linter.unusedVariables false
set_option linter.unusedSimpArgs false
set_option maxHeartbeats 1000000
namespace Go.Vd
variable {nodes : List Nod} {alive arcs : Int} {A : List Bool} {M : List OAr} {u v skip hops most settles c N : Int} {goals : List Int}
def far (L : Lab) (w : Int) : Int := if (L w).isSome = true then ((L w).getD (0, 0, 0)).1 else 18446744073709551615
inductive FdW (A : List Bool) (M : List OAr) (u skip : Int) (goals : List Int) (most hops settles : Int) : List Int × Er -> Prop
 | bad : ¬ liveB A u -> FdW A M u skip goals most hops settles ([], .no 7)
 | goal (i : Int) : liveB A u -> 0 ≤ i -> i < (goals.length : Int) -> ¬ liveB A (gt goals i) -> (∀ j, 0 ≤ j -> j < i -> liveB A (gt goals j)) -> FdW A M u skip goals most hops settles ([], .at 3 i (.no 7))
 | ok (Lf : Lab) : liveB A u -> (∀ j, 0 ≤ j -> j < (goals.length : Int) -> liveB A (gt goals j)) -> WR (rowW M skip) hops settles most 0 (lab0 u) Lf -> FdW A M u skip goals most hops settles (goals.map (far Lf), .nil)
theorem take_gtW {E : Type} [Inhabited E] {l : List E} {i : Int} (i0 : 0 ≤ i) (i1 : i < (l.length : Int)) : l.take (i + 1).toNat = l.take i.toNat ++ [gt l i] := by
 rw [show (i + 1).toNat = i.toNat + 1 from by omega, List.take_add_one]
 have : l[i.toNat]?.toList = [gt l i] := by
  unfold gt
  rw [List.getD_eq_getElem?_getD, List.getElem?_eq_getElem (by omega)]; rfl
 rw [this]
theorem p_Find (h : OvR nodes alive arcs A M) (hg : goals.length ≤ 10000000000000) (hset : settles ≤ 9223372036854775807) : T (z_witness_Find nodes alive arcs u skip goals most hops settles) (FdW A M u skip goals most hops settles) := by
 unfold z_witness_Find
 rw [p_Alive h, Option.bind_some]
 by_cases hu : liveB A u
 rotate_left
 ·rw [decide_eq_false hu, if_pos (by decide)]
  simp only [T_some]
  exact .bad hu
 rw [decide_eq_true hu, if_neg (by decide)]
 refine T_binds (fun _ => ∀ j, 0 ≤ j -> j < (goals.length : Int) -> liveB A (gt goals j)) ?_ ?_
 ·refine T_loop (fun i => 0 ≤ i /\ i ≤ (goals.length : Int) /\ ∀ j, 0 ≤ j -> j < i -> liveB A (gt goals j)) (fun i => ((goals.length : Int) - i).toNat) ?_ ⟨by simp, by simp, fun j j0 j1 => by omega⟩
  rintro i ⟨i0, i1, hi⟩
  unfold z_witness_Find_l0
  rw [T_ite]
  refine ⟨fun hlt => ?_, fun hge => ?_⟩
  ·rw [T_G]
   refine ⟨i0, ?_⟩
   rw [p_Alive h, Option.bind_some]
   by_cases hw : liveB A (gt goals i)
   ·rw [decide_eq_true hw, if_neg (by decide)]
    simp only [T_G, T_some, Sum.elim_inl]
    refine ⟨by omega, ⟨by omega, by omega, fun j j0 j1 => ?_⟩, by omega⟩
    by_cases e : j = i
    ·rw [e]; exact hw
    ·exact hi j j0 (by omega)
   ·rw [decide_eq_false hw, if_pos (by decide)]
    unfold z_fault_At
    rw [if_neg (by decide)]
    simp only [T_bind, T_map, T_some, Option.bind_some, Sum.elim_inr, Sum.elim_inl]
    exact .goal i hu i0 hlt hw hi
  ·simp only [T_some, Sum.elim_inr]
   exact fun j j0 j1 => hi j j0 (by omega)
 intro _ hgl
 refine T_bindr _ (p_run (skip := skip) (hops := hops) (most := most) (settles := settles) h hu.1 hu.2.1 hset) ?_
 rintro ⟨Lf, q⟩ hR
 dsimp only at hR
 refine T_bindr (fun l => l = goals.map (far Lf)) ?_ fun l e => by simp only [T_some]; rw [e]; exact .ok Lf hu hgl hR
 refine T_loop (fun z => 0 ≤ z.2 /\ z.2 ≤ (goals.length : Int) /\ z.1 = (goals.take z.2.toNat).map (far Lf)) (fun z => ((goals.length : Int) - z.2).toNat) ?_ ⟨by simp, by simp, by simp⟩
 rintro ⟨l, i⟩ ⟨i0, i1, e⟩
 dsimp only at *
 have hl : l.length ≤ goals.length := by rw [e, List.length_map, List.length_take]; omega
 unfold z_witness_Find_l1
 rw [T_ite]
 refine ⟨fun hlt => ?_, fun hge => ?_⟩
 ·have hs := take_gtW i0 hlt
  rw [T_G]
  refine ⟨i0, ?_⟩
  by_cases hx : (Lf (gt goals i)).isSome = true
  ·rw [if_pos hx]
   simp only [T_G, T_some, Sum.elim_inl, List.length_cons, List.length_nil]
   refine ⟨by omega, by omega, ⟨by omega, by omega, ?_⟩, by omega⟩
   rw [hs, List.map_append, e]
   unfold far
   simp [hx]
  ·rw [if_neg hx]
   simp only [T_G, T_some, Sum.elim_inl]
   refine ⟨by omega, by omega, ⟨by omega, by omega, ?_⟩, by omega⟩
   rw [hs, List.map_append, e]
   unfold far
   simp [hx]
 ·simp only [T_some, Sum.elim_inr]
  rw [e, List.take_of_length_le (by omega)]
end Go.Vd

/-! (OvI) -/

set_option linter.unusedVariables false
set_option linter.unusedSimpArgs false
set_option maxHeartbeats 1000000
namespace Go.Vd
variable {nodes nodes' : List Nod} {alive arcs : Int} {A : List Bool} {L : List OAr} {u v w wt via : Int}
theorem p_In (h : OvR nodes alive arcs A L) {a b : Int} : z_overlay_Overlay_In nodes a b v = some (inL L v) := by
 unfold z_overlay_Overlay_In
 rw [p_Alive h, Option.bind_some]
 by_cases hu : liveB A v
 ·have hl := h.ln
  have hn := h.nd v hu.1 hu.2.1
  rw [decide_eq_true hu, if_neg (by decide), hn]
  unfold G
  dsimp only
  rw [if_pos ⟨hu.1, by have := hu.2.1; omega⟩, p_cloneO (h.inLen v)]; rfl
 ·rw [decide_eq_false hu, if_pos (by decide), h.in0 hu]
end Go.Vd

/-! (ShA) -/

set_option linter.unusedVariables false
set_option linter.unusedSimpArgs false
set_option maxHeartbeats 1000000
namespace Go.Vd
variable {nodes : List Nod} {alive arcs : Int} {A : List Bool} {M : List OAr} {u v skip hops settles c N : Int} {a : Hf}
open Classical in
noncomputable def wfin (M : List OAr) (skip hops settles most u : Int) : Lab := if h : ∃ Lf, WR (rowW M skip) hops settles most 0 (lab0 u) Lf then Classical.choose h else fun _ => none
theorem WR.fin {most : Int} {Lf : Lab} (h : WR (rowW M skip) hops settles most 0 (lab0 u) Lf) : Lf = wfin M skip hops settles most u := by
 have hx : ∃ Lf, WR (rowW M skip) hops settles most 0 (lab0 u) Lf := ⟨Lf, h⟩
 unfold wfin
 rw [dif_pos hx]
 exact h.uniq (Classical.choose_spec hx)
def opens (a : Hf) (l : List Hf) : List (Int × Int × Int) := (l.filter fun b => decide (b.1 ≠ a.1)).map fun b => (a.1, b.1, a.2.1 + b.2.1)
def mostL (l : List (Int × Int × Int)) : Int := l.foldl (fun m s => max m s.2.2) 0
open Classical in
noncomputable def keepS (M : List OAr) (L : Lab) (s : Int × Int × Int) : Bool := decide (s.2.2 ≤ 140737488355328 /\ far L s.2.1 > s.2.2 /\ ¬ ∃ x ∈ M, x.1 = s.1 /\ x.2.1 = s.2.1 /\ x.2.2.1 ≤ s.2.2)
noncomputable def shFrom (M : List OAr) (v hops settles : Int) (a : Hf) : List (Int × Int × Int) :=
 (opens a (outL M v)).filter (keepS M (wfin M v hops settles (mostL (opens a (outL M v))) a.1))
noncomputable def needL (M : List OAr) (v hops settles : Int) : List (Int × Int × Int) := (inL M v).flatMap (shFrom M v hops settles)
theorem opens_snoc {l : List Hf} {b : Hf} : opens a (l ++ [b]) = opens a l ++ (if b.1 = a.1 then [] else [(a.1, b.1, a.2.1 + b.2.1)]) := by
 unfold opens
 rw [List.filter_append, List.map_append]
 by_cases e : b.1 = a.1
 ·rw [if_pos e, List.filter_cons, if_neg (by simp [e])]; rfl
 ·rw [if_neg e, List.filter_cons, if_pos (by simp [e])]; rfl
theorem mostL_snoc {l : List (Int × Int × Int)} {s : Int × Int × Int} : mostL (l ++ [s]) = max (mostL l) s.2.2 := by
 unfold mostL; rw [List.foldl_append]; rfl
theorem opens_len {l : List Hf} : (opens a l).length ≤ l.length := by
 unfold opens; rw [List.length_map]; exact List.length_filter_le _ _
theorem keep_wt {L : Lab} {s : Int × Int × Int} {x : Int} {b : Bool} (hM : KD M) (hW : Wt M s.1 s.2.1 x b) : keepS M L s = true ↔ (s.2.2 ≤ 140737488355328 /\ far L s.2.1 > s.2.2 /\ ¬ (b = true /\ x ≤ s.2.2)) := by
 unfold keepS
 rw [decide_eq_true_iff]
 have : (∃ x ∈ M, x.1 = s.1 /\ x.2.1 = s.2.1 /\ x.2.2.1 ≤ s.2.2) ↔ (b = true /\ x ≤ s.2.2) := by
  constructor
  ·rintro ⟨y, y1, y2, y3, y4⟩
   have hy : Wt M s.1 s.2.1 y.2.2.1 true := .inl ⟨rfl, y, y1, y2, y3, rfl⟩
   obtain ⟨rfl, rfl⟩ := hW.uniq hM hy
   exact ⟨rfl, y4⟩
  ·rintro ⟨rfl, h2⟩
   rcases hW with ⟨_, y, y1, y2, y3, y4⟩ | ⟨h, _⟩
   ·exact ⟨y, y1, y2, y3, by omega⟩
   ·cases h
 rw [this]
theorem gt_memG {E : Type} [Inhabited E] {l : List E} {i : Int} (h0 : 0 ≤ i) (h1 : i < (l.length : Int)) : gt l i ∈ l := by
 unfold gt
 rw [List.getD_eq_getElem?_getD, List.getElem?_eq_getElem (by omega)]
 exact List.getElem_mem _
theorem p_opens (h : OvR nodes alive arcs A M) (ha : a ∈ inL M v) :
  T (loopO (fun zz_ => z_shorts_from_l0 a.1 a.2.1 (outL M v) zz_.1 zz_.2.1 zz_.2.2.1 zz_.2.2.2) ([], [], 0, 0)) fun r => r = (opens a (outL M v), (opens a (outL M v)).map (fun s => s.2.1), mostL (opens a (outL M v))) := by
 have hol := h.outLen v
 have hae := h.en _ ((mem_inL h.kd).1 ha)
 dsimp only at hae
 refine T_loop (fun z => 0 ≤ z.2.2.2 /\ z.2.2.2 ≤ ((outL M v).length : Int) /\ z.1 = opens a ((outL M v).take z.2.2.2.toNat) /\ z.2.1 = z.1.map (fun s => s.2.1) /\ z.2.2.1 = mostL z.1) (fun z => (((outL M v).length : Int) - z.2.2.2).toNat) ?_ ⟨by simp, by simp, by simp [opens], by simp, by simp [mostL]⟩
 rintro ⟨op, gl, mo, i⟩ ⟨i0, i1, e1, e2, e3⟩
 dsimp only at *
 have hopl : op.length ≤ (outL M v).length := by rw [e1]; exact Nat.le_trans opens_len (by rw [List.length_take]; omega)
 unfold z_shorts_from_l0
 rw [T_ite]
 refine ⟨fun hlt => ?_, fun hge => ?_⟩
 rotate_left
 ·simp only [T_some, Sum.elim_inr]
  rw [List.take_of_length_le (by omega)] at e1
  rw [e3, e2, e1]
 have hm : gt (outL M v) i ∈ outL M v := by
  unfold gt
  rw [List.getD_eq_getElem?_getD, List.getElem?_eq_getElem (by omega)]
  exact List.getElem_mem _
 have hen := h.en _ ((mem_outL h.kd).1 hm)
 have hs := take_gtW i0 hlt
 generalize gt (outL M v) i = b at *
 dsimp only at hen
 have hsn := opens_snoc (a := a) (l := (outL M v).take i.toNat) (b := b)
 rw [← hs, ← e1] at hsn
 rw [T_G]
 refine ⟨i0, ?_⟩
 have hgl : gl.length = op.length := by rw [e2, List.length_map]
 rw [T_ite]
 refine ⟨fun he => ?_, fun he => ?_⟩
 ·rw [if_pos he, List.append_nil] at hsn
  simp only [T_G, T_some, Sum.elim_inl]
  exact ⟨by omega, ⟨by omega, by omega, hsn.symm, e2, e3⟩, by omega⟩
 ·rw [if_neg he] at hsn
  simp only [T_G, T_some, Sum.elim_inl]
  refine ⟨by omega, by omega, by omega, by omega, by omega, ⟨by omega, by omega, hsn.symm, ?_, ?_⟩, by omega⟩
  ·rw [e2]; simp
  ·rw [mostL_snoc, e3]
theorem p_keeps {O : List (Int × Int × Int)} {gl : List Int} {mo : Int} {L : Lab} (h : OvR nodes alive arcs A M) (hO : O.length ≤ 1000000) (hg : ∀ s ∈ O, 0 ≤ s.2.1 /\ s.2.1 < (A.length : Int)) :
  T (loopO (fun zz_ => z_shorts_from_l1 nodes alive arcs (O, gl, mo) ((O.map (fun s => s.2.1)).map (far L), Er.nil) zz_.1 zz_.2) ([], 0)) fun r => r = O.filter (keepS M L) := by
 have hsm := h.sm
 refine T_loop (fun z => 0 ≤ z.2 /\ z.2 ≤ (O.length : Int) /\ z.1 = (O.take z.2.toNat).filter (keepS M L)) (fun z => ((O.length : Int) - z.2).toNat) ?_ ⟨by simp, by simp, by simp⟩
 rintro ⟨l, i⟩ ⟨i0, i1, e⟩
 dsimp only at *
 have hll : l.length ≤ O.length := by rw [e]; exact Nat.le_trans (List.length_filter_le _ _) (by rw [List.length_take]; omega)
 unfold z_shorts_from_l1
 dsimp only
 rw [T_ite]
 refine ⟨fun hlt => ?_, fun hge => ?_⟩
 rotate_left
 ·simp only [T_some, Sum.elim_inr]
  rw [List.take_of_length_le (by omega)] at e
  exact e
 have hm : gt O i ∈ O := gt_memG i0 hlt
 have hfar : gt ((O.map (fun s => s.2.1)).map (far L)) i = far L (gt O i).2.1 := by
  unfold gt
  rw [List.getD_eq_getElem?_getD, List.getD_eq_getElem?_getD, List.getElem?_map, List.getElem?_map, List.getElem?_eq_getElem (by omega)]; rfl
 have hs := take_gtW i0 hlt
 rw [hfar]
 have hlm : ((O.map (fun s => s.2.1)).map (far L)).length = O.length := by rw [List.length_map, List.length_map]
 rw [hlm]
 obtain ⟨q0, q1⟩ := hg _ hm
 generalize gt O i = s at *
 rw [T_G]
 refine ⟨i0, ?_⟩
 refine T_bindr _ (p_Weight (u := s.1) (w := s.2.1) h (by omega) (by omega)) ?_
 rintro ⟨x, b⟩ hW
 have hk := keep_wt (L := L) h.kd hW
 dsimp only
 have yes : keepS M L s = true -> (O.take (i + 1).toNat).filter (keepS M L) = l ++ [(s.1, s.2.1, s.2.2)] := fun hy => by
  rw [hs, List.filter_append, List.filter_cons, if_pos hy, ← e]; rfl
 have no : ¬ keepS M L s = true -> (O.take (i + 1).toNat).filter (keepS M L) = l := fun hn => by
  rw [hs, List.filter_append, List.filter_cons, if_neg hn, ← e]; simp
 rw [T_ite]
 refine ⟨fun c1 => ?_, fun c1 => ?_⟩
 rotate_left
 ·simp only [T_G, T_some, Sum.elim_inl]
  exact ⟨by omega, ⟨by omega, by omega, (no fun k => c1 (hk.1 k).1).symm⟩, by omega⟩
 rw [T_G]
 refine ⟨by omega, ?_⟩
 rw [T_ite]
 refine ⟨fun c2 => ?_, fun c2 => ?_⟩
 rotate_left
 ·simp only [T_G, T_some, Sum.elim_inl]
  exact ⟨by omega, ⟨by omega, by omega, (no fun k => c2 (hk.1 k).2.1).symm⟩, by omega⟩
 rw [T_ite]
 refine ⟨fun c3 => ?_, fun c3 => ?_⟩
 rotate_left
 ·simp only [T_G, T_some, Sum.elim_inl]
  exact ⟨by omega, by omega, ⟨by omega, by omega, (yes (hk.2 ⟨c1, c2, fun k => c3 k.1⟩)).symm⟩, by omega⟩
 rw [T_ite]
 refine ⟨fun c4 => ?_, fun c4 => ?_⟩
 ·simp only [T_G, T_some, Sum.elim_inl]
  exact ⟨by omega, ⟨by omega, by omega, (no fun k => (hk.1 k).2.2 ⟨c3, c4⟩).symm⟩, by omega⟩
 ·simp only [T_G, T_some, Sum.elim_inl]
  exact ⟨by omega, by omega, ⟨by omega, by omega, (yes (hk.2 ⟨c1, c2, fun k => c4 k.2⟩)).symm⟩, by omega⟩
theorem opens_ok (h : OvR nodes alive arcs A M) {s : Int × Int × Int} (hs : s ∈ opens a (outL M v)) : liveB A s.2.1 /\ s.1 = a.1 := by
 unfold opens at hs
 obtain ⟨b, hb, rfl⟩ := List.mem_map.1 hs
 have hb' := h.en _ ((mem_outL h.kd).1 (List.mem_filter.1 hb).1)
 dsimp only at hb' ⊢
 exact ⟨⟨by omega, by omega, hb'.2.2.2.2.2.1⟩, rfl⟩
theorem p_from (h : OvR nodes alive arcs A M) (ha : a ∈ inL M v) (hset : settles ≤ 9223372036854775807) : z_shorts_from nodes alive arcs a.1 a.2.1 a.2.2 v (outL M v) hops settles = some (shFrom M v hops settles a) := by
 refine T_eq.1 ?_
 have hol := h.outLen v
 have hae := h.en _ ((mem_inL h.kd).1 ha)
 have hopl : (opens a (outL M v)).length ≤ (outL M v).length := opens_len
 have hok := fun s => opens_ok (a := a) (v := v) h (s := s)
 have hsh : shFrom M v hops settles a = (opens a (outL M v)).filter (keepS M (wfin M v hops settles (mostL (opens a (outL M v))) a.1)) := rfl
 unfold z_shorts_from
 refine T_bindr _ (p_opens h ha) ?_
 rintro _ rfl
 dsimp only
 generalize opens a (outL M v) = O at *
 rw [T_ite]
 refine ⟨fun he => ?_, fun he => ?_⟩
 ·simp only [T_some]
  have : O = [] := List.eq_nil_of_length_eq_zero (by rw [List.length_map] at he; omega)
  rw [hsh, this]; rfl
 have hua : liveB A a.1 := ⟨hae.1, hae.2.1, hae.2.2.2.2.1⟩
 refine T_bindr _ (p_Find (u := a.1) (skip := v) (hops := hops) (settles := settles) (goals := O.map (fun s => s.2.1)) (most := mostL O) h (by rw [List.length_map]; omega) hset) ?_
 intro r hr
 cases hr with
 | bad hn => exact absurd hua hn
 | goal k _ k0 k1 hk _ =>
  refine absurd ?_ hk
  obtain ⟨s, hs, e⟩ := List.mem_map.1 (gt_memG k0 k1)
  rw [← e]; exact (hok s hs).1
 | ok Lf _ _ hR =>
  have hfin := hR.fin
  dsimp only
  rw [if_pos rfl]
  rw [hsh, ← hfin]
  refine T_bindr _ (p_keeps (L := Lf) h (by omega) fun s hs => ⟨(hok s hs).1.1, (hok s hs).1.2.1⟩) ?_
  rintro _ rfl
  simp only [T_some]
def bnd (n : Int) : Int := min (max n 0) 1048576
theorem bnd_le {n : Int} : bnd n ≤ 9223372036854775807 := by unfold bnd; omega
theorem p_shNeeded (h : OvR nodes alive arcs A M) {x1 x2 x3 : Int} : T (z_shorts_Needed nodes alive arcs v hops settles x1 x2 x3) fun r => (¬ liveB A v /\ r = ([], .no 7)) ∨ (liveB A v /\ r = (needL M v (bnd hops) (bnd settles), Er.nil)) := by
 have hil := h.inLen v
 unfold z_shorts_Needed z_shorts_check
 rw [p_Alive h, Option.bind_some]
 by_cases hv : liveB A v
 rotate_left
 ·rw [decide_eq_false hv, if_pos (by decide), Option.bind_some, if_neg (by decide)]
  simp only [T_some]
  exact .inl ⟨hv, trivial⟩
 rw [decide_eq_true hv, if_neg (by decide), Option.bind_some, if_pos rfl]
 unfold z_witness_Bounds z_witness_Bounds_1
 simp only [Option.bind_some]
 rw [p_Out h, Option.bind_some, p_In h, Option.bind_some]
 refine T_bindr (fun l => l = needL M v (bnd hops) (bnd settles)) ?_ fun l e => by simp only [T_some]; rw [e]; exact .inr ⟨hv, rfl⟩
 have hfl : ∀ k, k ≤ (inL M v).length -> (((inL M v).take k).flatMap (shFrom M v (bnd hops) (bnd settles))).length ≤ k * 1000000 := fun k hk => by
  rw [List.length_flatMap]
  have : ∀ l : List Hf, ((l.map fun a => (shFrom M v (bnd hops) (bnd settles) a).length).sum) ≤ l.length * 1000000 := fun l => by
   induction l with
   | nil => simp
   | cons x l ih =>
    have : (shFrom M v (bnd hops) (bnd settles) x).length ≤ 1000000 := by
     unfold shFrom
     exact Nat.le_trans (List.length_filter_le _ _) (Nat.le_trans opens_len (h.outLen v))
    simp only [List.map_cons, List.sum_cons, List.length_cons]
    omega
  refine Nat.le_trans (this _) ?_
  rw [List.length_take]
  exact Nat.mul_le_mul_right _ (by omega)
 refine T_loop (fun z => 0 ≤ z.2 /\ z.2 ≤ ((inL M v).length : Int) /\ z.1 = ((inL M v).take z.2.toNat).flatMap (shFrom M v (bnd hops) (bnd settles))) (fun z => (((inL M v).length : Int) - z.2).toNat) ?_ ⟨by simp, by simp, by simp⟩
 rintro ⟨l, i⟩ ⟨i0, i1, e⟩
 dsimp only at *
 unfold z_shorts_Needed_l0
 dsimp only
 rw [T_ite]
 refine ⟨fun hlt => ?_, fun hge => ?_⟩
 rotate_left
 ·simp only [T_some, Sum.elim_inr]
  rw [List.take_of_length_le (by omega)] at e
  exact e
 have hm : gt (inL M v) i ∈ inL M v := by
  unfold gt
  rw [List.getD_eq_getElem?_getD, List.getElem?_eq_getElem (by omega)]
  exact List.getElem_mem _
 have hs := take_gtW i0 hlt
 have hl1 := hfl i.toNat (by omega)
 have hl2 := hfl (i + 1).toNat (by omega)
 rw [← e] at hl1
 have e2 : ((inL M v).take (i + 1).toNat).flatMap (shFrom M v (bnd hops) (bnd settles)) = l ++ shFrom M v (bnd hops) (bnd settles) (gt (inL M v) i) := by
  rw [hs, List.flatMap_append, ← e]; simp
 rw [e2, List.length_append] at hl2
 rw [T_G]
 refine ⟨i0, ?_⟩
 have hf := p_from (hops := bnd hops) (settles := bnd settles) h hm bnd_le
 unfold bnd at hf
 rw [hf, Option.bind_some]
 simp only [T_G, T_some, Sum.elim_inl]
 unfold bnd at hl2 e2
 exact ⟨by omega, by omega, ⟨by omega, by omega, e2.symm⟩, by omega⟩
end Go.Vd

/-! (OvE) -/

set_option linter.unusedVariables false
set_option linter.unusedSimpArgs false
set_option maxHeartbeats 1000000
namespace Go.Vd
variable {nodes nodes' : List Nod} {alive arcs : Int} {A : List Bool} {L : List OAr} {u v w wt via : Int}
inductive RemR (nodes : List Nod) (alive arcs : Int) (A : List Bool) (L : List OAr) (v : Int) : Er × List Nod × Int × Int -> Prop
 | bad : ¬ liveB A v -> RemR nodes alive arcs A L v (.no 7, nodes, alive, arcs)
 | ok (nodes' : List Nod) : liveB A v -> OvR nodes' (alive - 1) (arcs - (((outL L v).length : Int) + (inL L v).length)) (A.set v.toNat false) (remA L v) ->
   RemR nodes alive arcs A L v (.nil, nodes', alive - 1, arcs - (((outL L v).length : Int) + (inL L v).length))
theorem p_rem0 (h : OvR nodes alive arcs A L) (hv : liveB A v) : T (loopO (fun zz_ => z_overlay_Overlay_Remove_l0 nodes v zz_.1 zz_.2) (nodes, 0)) fun o =>
  o.length = nodes.length /\ ∀ x, 0 ≤ x -> x < (nodes.length : Int) -> gt o x = ((gt nodes x).1, (gt nodes x).2.1, delR v (gt nodes x).2.2) ∨ (x = v /\ gt o x = gt nodes x) := by
 have hln := h.ln
 have hsm := h.sm
 have hv1 := hv.2.1
 have nv := h.nd v hv.1 hv.2.1
 have eo : (gt nodes v).2.1 = outL L v := by rw [nv]
 have hol := h.outLen v
 refine T_loop (fun z => z.1.length = nodes.length /\ 0 ≤ z.2 /\ z.2 ≤ ((outL L v).length : Int) /\ ∀ x, 0 ≤ x -> x < (nodes.length : Int) -> (gt z.1 x).1 = (gt nodes x).1 /\ (gt z.1 x).2.1 = (gt nodes x).2.1 /\
   ((∃ k, 0 ≤ k /\ k < z.2 /\ (gt (outL L v) k).1 = x) -> (gt z.1 x).2.2 = delR v (gt nodes x).2.2) /\ ((∀ k, 0 ≤ k -> k < z.2 -> (gt (outL L v) k).1 ≠ x) -> (gt z.1 x).2.2 = (gt nodes x).2.2)) (fun z => (((outL L v).length : Int) - z.2).toNat) ?_
  ⟨rfl, by simp, by simp, fun x _ _ => ⟨rfl, rfl, fun ⟨k, k0, k1, _⟩ => by dsimp only at k1; omega, fun _ => rfl⟩⟩
 rintro ⟨o, i⟩ ⟨ol, i0, i1, ho⟩
 dsimp only at *
 unfold z_overlay_Overlay_Remove_l0
 rw [eo, T_ite]
 refine ⟨fun hlt => ?_, fun hge => ?_⟩
 ·have hm := gt_memO i0 hlt
  obtain ⟨a1, a2, a3, a4, a5, a6, a7, _⟩ := h.en _ ((mem_outL h.kd).1 hm)
  dsimp only at *
  obtain ⟨q1, q2, q3, q4⟩ := ho _ a3 (by omega)
  have nx := h.nd _ a3 a4
  have hnv : ∀ k, 0 ≤ k -> k < i -> (gt (outL L v) k).1 ≠ (gt (outL L v) i).1 := fun k k0 k1 => by have := (outL_ris L v).gt k0 k1 hlt; omega
  have e2 := q4 hnv
  have hwo := p_without (l := (gt o (gt (outL L v) i).1).2.2) (v := v) (by rw [e2, nx]; exact inL_ris L _) (by rw [e2, nx]; exact h.inB _) (by rw [e2, nx]; exact h.inLen _) hv.1 (by omega)
  simp only [T_G]
  refine ⟨i0, ⟨a3, by omega⟩, fun e => a7 e.symm, ?_⟩
  rw [hwo, Option.bind_some]
  simp only [T_G, T_some, Sum.elim_inl]
  refine ⟨by omega, ⟨by simpa using ol, by omega, by omega, fun x x0 x1 => ?_⟩, by omega⟩
  rw [gt_setE a3 (by omega) x0]
  by_cases e : x = (gt (outL L v) i).1
  ·rw [if_pos e, e]
   refine ⟨q1, q2, fun _ => by rw [e2], fun hn => absurd rfl (hn i i0 (by omega))⟩
  ·rw [if_neg e]
   obtain ⟨r1, r2, r3, r4⟩ := ho x x0 x1
   refine ⟨r1, r2, fun ⟨k, k0, k1, ke⟩ => r3 ⟨k, k0, ?_, ke⟩, fun hn => r4 fun k k0 k1 => hn k k0 (by omega)⟩
   by_cases q : k = i
   ·rw [q] at ke; exact absurd ke.symm e
   ·omega
 ·simp only [T_some, Sum.elim_inr]
  refine ⟨ol, fun x x0 x1 => ?_⟩
  obtain ⟨r1, r2, r3, r4⟩ := ho x x0 x1
  by_cases hk : ∃ k, 0 ≤ k /\ k < i /\ (gt (outL L v) k).1 = x
  ·exact .inl (Prod.ext r1 (Prod.ext r2 (r3 hk)))
  ·have e := r4 fun k k0 k1 ke => hk ⟨k, k0, k1, ke⟩
   refine .inl (Prod.ext r1 (Prod.ext r2 (e.trans ?_)))
   rw [h.nd x x0 (by omega)]
   refine (delR_none fun y hy hyv => hk ?_).symm
   have hm := (mem_inL h.kd).1 hy
   rw [hyv] at hm
   obtain ⟨k, k0, k1, ke⟩ := mem_gtE ((mem_outL h.kd).2 hm)
   exact ⟨k, k0, by omega, by rw [← ke]⟩
theorem p_rem1 (h : OvR nodes alive arcs A L) (hv : liveB A v) {o1 : List Nod} (l1 : o1.length = nodes.length) (h1 : ∀ x, 0 ≤ x -> x < (nodes.length : Int) -> (gt o1 x).2.1 = (gt nodes x).2.1) : T (loopO (fun zz_ => z_overlay_Overlay_Remove_l1 nodes v zz_.1 zz_.2) (o1, 0)) fun o =>
  o.length = nodes.length /\ ∀ x, 0 ≤ x -> x < (nodes.length : Int) -> gt o x = ((gt o1 x).1, delR v (gt nodes x).2.1, (gt o1 x).2.2) := by
 have hln := h.ln
 have hsm := h.sm
 have hv1 := hv.2.1
 have nv := h.nd v hv.1 hv.2.1
 have eo : (gt nodes v).2.2 = inL L v := by rw [nv]
 have hol := h.inLen v
 refine T_loop (fun z => z.1.length = nodes.length /\ 0 ≤ z.2 /\ z.2 ≤ ((inL L v).length : Int) /\ ∀ x, 0 ≤ x -> x < (nodes.length : Int) -> (gt z.1 x).1 = (gt o1 x).1 /\ (gt z.1 x).2.2 = (gt o1 x).2.2 /\
   ((∃ k, 0 ≤ k /\ k < z.2 /\ (gt (inL L v) k).1 = x) -> (gt z.1 x).2.1 = delR v (gt nodes x).2.1) /\ ((∀ k, 0 ≤ k -> k < z.2 -> (gt (inL L v) k).1 ≠ x) -> (gt z.1 x).2.1 = (gt nodes x).2.1)) (fun z => (((inL L v).length : Int) - z.2).toNat) ?_
  ⟨l1, by simp, by simp, fun x x0 x1 => ⟨rfl, rfl, fun ⟨k, k0, k1, _⟩ => by dsimp only at k1; omega, fun _ => h1 x x0 x1⟩⟩
 rintro ⟨o, i⟩ ⟨ol, i0, i1, ho⟩
 dsimp only at *
 unfold z_overlay_Overlay_Remove_l1
 rw [eo, T_ite]
 refine ⟨fun hlt => ?_, fun hge => ?_⟩
 ·have hm := gt_memO i0 hlt
  obtain ⟨a1, a2, a3, a4, a5, a6, a7, _⟩ := h.en _ ((mem_inL h.kd).1 hm)
  dsimp only at *
  obtain ⟨q1, q2, q3, q4⟩ := ho _ a1 (by omega)
  have nx := h.nd _ a1 a2
  have hnv : ∀ k, 0 ≤ k -> k < i -> (gt (inL L v) k).1 ≠ (gt (inL L v) i).1 := fun k k0 k1 => by have := (inL_ris L v).gt k0 k1 hlt; omega
  have e2 := q4 hnv
  have hwo := p_without (l := (gt o (gt (inL L v) i).1).2.1) (v := v) (by rw [e2, nx]; exact outL_ris L _) (by rw [e2, nx]; exact h.outB _) (by rw [e2, nx]; exact h.outLen _) hv.1 (by omega)
  simp only [T_G]
  refine ⟨i0, ⟨a1, by omega⟩, a7, ?_⟩
  rw [hwo, Option.bind_some]
  simp only [T_G, T_some, Sum.elim_inl]
  refine ⟨by omega, ⟨by simpa using ol, by omega, by omega, fun x x0 x1 => ?_⟩, by omega⟩
  rw [gt_setE a1 (by omega) x0]
  by_cases e : x = (gt (inL L v) i).1
  ·rw [if_pos e, e]
   refine ⟨q1, q2, fun _ => by rw [e2], fun hn => absurd rfl (hn i i0 (by omega))⟩
  ·rw [if_neg e]
   obtain ⟨r1, r2, r3, r4⟩ := ho x x0 x1
   refine ⟨r1, r2, fun ⟨k, k0, k1, ke⟩ => r3 ⟨k, k0, ?_, ke⟩, fun hn => r4 fun k k0 k1 => hn k k0 (by omega)⟩
   by_cases q : k = i
   ·rw [q] at ke; exact absurd ke.symm e
   ·omega
 ·simp only [T_some, Sum.elim_inr]
  refine ⟨ol, fun x x0 x1 => ?_⟩
  obtain ⟨r1, r2, r3, r4⟩ := ho x x0 x1
  by_cases hk : ∃ k, 0 ≤ k /\ k < i /\ (gt (inL L v) k).1 = x
  ·exact Prod.ext r1 (Prod.ext (r3 hk) r2)
  ·have e := r4 fun k k0 k1 ke => hk ⟨k, k0, k1, ke⟩
   refine Prod.ext r1 (Prod.ext (e.trans ?_) r2)
   rw [h.nd x x0 (by omega)]
   refine (delR_none fun y hy hyv => hk ?_).symm
   have hm := (mem_outL h.kd).1 hy
   have hm' : (x, v, y.2) ∈ L := by rw [← hyv]; exact hm
   obtain ⟨k, k0, k1, ke⟩ := mem_gtE ((mem_inL (x := (x, y.2)) h.kd).2 hm')
   exact ⟨k, k0, by omega, by rw [← ke]⟩
theorem p_Remove (h : OvR nodes alive arcs A L) : T (z_overlay_Overlay_Remove nodes alive arcs v) (RemR nodes alive arcs A L v) := by
 unfold z_overlay_Overlay_Remove
 rw [p_Alive h, Option.bind_some]
 by_cases hv : liveB A v
 ·rw [decide_eq_true hv, if_neg (by decide)]
  have hln := h.ln
  have hv1 := hv.2.1
  have nv := h.nd v hv.1 hv1
  have hsm := h.sm
  have har := h.ar
  have hal := h.al
  have hlb := h.lb
  have ho := h.outLen v
  have hi := h.inLen v
  have hfl : (A.filter id).length ≤ A.length := List.length_filter_le _ _
  simp only [T_G]
  refine ⟨⟨hv.1, by omega⟩, ?_⟩
  refine T_bindr _ (p_rem0 h hv) ?_
  rintro o1 ⟨l1, e1⟩
  refine T_bindr _ (p_rem1 h hv l1 fun x x0 x1 => ?_) ?_
  ·rcases e1 x x0 x1 with e | ⟨_, e⟩ <;> rw [e]
  rintro o2 ⟨l2, e2⟩
  have x1 : (gt nodes v).2.1 = outL L v := by rw [nv]
  have x2 : (gt nodes v).2.2 = inL L v := by rw [nv]
  rw [x1, x2]
  simp only [T_G, T_some]
  refine ⟨by omega, by omega, by omega, by omega, .ok _ hv (h.rem hv.1 hv1 hv.2.2 (by rw [List.length_set, l2]) fun x x0 x1 => ?_)⟩
  rw [gt_setE hv.1 (by omega) x0]
  by_cases q : x = v
  ·rw [if_pos q, if_pos q]
  ·rw [if_neg q, if_neg q, e2 x x0 (by omega)]
   rcases e1 x x0 (by omega) with e | ⟨e, _⟩
   ·rw [e]
   ·exact absurd e q
 ·rw [decide_eq_false hv, if_pos (by decide)]
  simp only [T_some]
  exact .bad hv
inductive NewR (N : Int) (Arcs : List A3) : Er ⊕ (List Nod × Int × Int) -> Prop
 | bad (er : Er) : GChk N Arcs er -> er ≠ .nil -> NewR N Arcs (.inl er)
 | ok (M : List A3) (nodes : List Nod) : GChk N Arcs .nil -> Nrm Arcs M -> M.length ≤ Arcs.length -> OvR nodes N (M.length : Int) (List.replicate N.toNat true) (M.map up4) -> NewR N Arcs (.inr (nodes, N, (M.length : Int)))
theorem gt_repO {n : Nat} {x : Int} (x0 : 0 ≤ x) (x1 : x < (n : Int)) {E : Type} [Inhabited E] {e : E} : gt (List.replicate n e) x = e := by
 unfold gt
 rw [List.getD_eq_getElem?_getD, List.getElem?_replicate, if_pos (by omega)]; rfl
theorem p_New {N : Int} {Arcs : List A3} : T (z_overlay_New N Arcs) (NewR N Arcs) := by
 unfold z_overlay_New
 refine T_bindr _ p_Of ?_
 rintro ⟨n, M, er⟩ hO
 dsimp only at *
 cases hO with
 | bad _ hc hne => rw [if_neg hne]; simp only [T_some]; exact .bad er hc hne
 | ok _ hc hM hMl =>
  rw [if_pos rfl]
  obtain ⟨n0, n1, n2⟩ := hc.small
  have hb : ∀ a ∈ M, 0 ≤ a.1 /\ a.1 < N /\ 0 ≤ a.2.1 /\ a.2.1 < N /\ 0 ≤ a.2.2 /\ a.2.2 ≤ 2147483647 /\ a.1 ≠ a.2.1 := fun a ha => by
   obtain ⟨s1, s2, _⟩ := hM.sub a ha
   have := hc.arcs a s1
   omega
  simp only [T_G]
  refine ⟨by omega, ?_⟩
  have hinc : ∀ i j : Int, 0 ≤ i -> i < j -> j < (M.length : Int) -> ltk (gt M i) (gt M j) := fun i j i0 ij j1 => by
   have := List.pairwise_iff_getElem.1 hM.inc i.toNat j.toNat (by omega) (by omega) (by omega)
   have e : ∀ {n : Int}, 0 ≤ n -> (h : n < (M.length : Int)) -> gt M n = M[n.toNat]'(by omega) := fun {n} q0 q1 => by
    unfold gt
    rw [List.getD_eq_getElem?_getD, List.getElem?_eq_getElem (by omega)]; rfl
   rw [e i0 (by omega), e (by omega) j1]; exact this
  refine T_bindr (fun o => o.length = N.toNat /\ ∀ x, 0 ≤ x -> x < N -> gt o x = (false, outL (M.map up4) x, inL (M.map up4) x)) ?_ ?_
  ·refine T_loop (fun z => 0 ≤ z.1 /\ z.1 ≤ (M.length : Int) /\ z.2.length = N.toNat /\ ∀ x, 0 ≤ x -> x < N -> gt z.2 x = (false, outL ((M.take z.1.toNat).map up4) x, inL ((M.take z.1.toNat).map up4) x)) (fun z => ((M.length : Int) - z.1).toNat) ?_
    ⟨by simp, by simp, by simp, fun x x0 x1 => by rw [gt_repO x0 (by omega)]; rfl⟩
   rintro ⟨i, o⟩ ⟨i0, i1, ol, ho⟩
   dsimp only at *
   unfold z_overlay_New_l0
   dsimp only
   rw [T_ite]
   refine ⟨fun hlt => ?_, fun hge => ?_⟩
   ·have hm : gt M i ∈ M := by
     unfold gt
     rw [List.getD_eq_getElem?_getD, List.getElem?_eq_getElem (by omega)]
     exact List.getElem_mem _
    obtain ⟨b1, b2, b3, b4, b5, b6, b7⟩ := hb _ hm
    have hkd : KD ((M.take i.toNat).map up4) := KD.up (hM.inc.sublist (List.take_sublist _ _))
    have lt1 : (outL ((M.take i.toNat).map up4) (gt M i).1).length ≤ 262144 := by
     have := outL_le hkd (gt M i).1
     rw [List.length_map, List.length_take] at this; omega
    have lt2 : (inL ((M.take i.toNat).map up4) (gt M i).2.1).length ≤ 262144 := by
     have := inL_le hkd (gt M i).2.1
     rw [List.length_map, List.length_take] at this; omega
    have hprev : ∀ a ∈ (M.take i.toNat).map up4, a.1 < (gt M i).1 ∨ (a.1 = (gt M i).1 /\ a.2.1 < (gt M i).2.1) := fun a ha => by
     obtain ⟨b, hb, rfl⟩ := List.mem_map.1 ha
     obtain ⟨j, j0, j1, rfl⟩ := mem_take_gt (l := M) i1 hb
     exact hinc j i j0 j1 hlt
    have eu := ho (gt M i).1 b1 b2
    have ew := ho (gt M i).2.1 b3 b4
    have hs : ∀ (z : Nod), gt (o.set ((gt M i).1).toNat z) (gt M i).2.1 = gt o (gt M i).2.1 := fun z => by rw [gt_setE b1 (by omega) b3, if_neg (fun e => b7 e.symm)]
    simp only [T_G, T_some, Sum.elim_inl, List.length_set, hs, eu, ew]
    refine ⟨i0, ⟨b1, by omega⟩, ⟨b5, by omega⟩, by omega, ⟨b3, by omega⟩, by omega, by omega, by omega, ⟨by omega, by omega, by simpa using ol, fun x x0 x1 => ?_⟩, by omega⟩
    have hnext : (M.take (i + 1).toNat).map up4 = (M.take i.toNat).map up4 ++ [up4 (gt M i)] := by rw [take_gtE i0 hlt, List.map_append]; rfl
    rw [hnext, outL_snoc, inL_snoc, gt_setE b3 (by rw [List.length_set]; omega) x0, gt_setE b1 (by omega) x0, ho x x0 x1]
    show _ = (false, (if x = (gt M i).1 then insR ((gt M i).2.1, (gt M i).2.2, -1) _ else _), (if x = (gt M i).2.1 then insR ((gt M i).1, (gt M i).2.2, -1) _ else _))
    by_cases q : x = (gt M i).2.1
    ·have q2 : ¬ x = (gt M i).1 := fun e => b7 (e.symm.trans q)
     rw [if_pos q, if_neg q2, if_pos q, ← q]
     rw [insR_end fun y hy => ?_]
     have := hprev _ ((mem_inL hkd).1 hy)
     dsimp only at this ⊢
     omega
    ·rw [if_neg q, if_neg q]
     by_cases q2 : x = (gt M i).1
     ·rw [if_pos q2, if_pos q2, ← q2]
      rw [insR_end fun y hy => ?_]
      have := hprev _ ((mem_outL hkd).1 hy)
      dsimp only at this ⊢
      omega
     ·rw [if_neg q2, if_neg q2]
   ·simp only [T_some, Sum.elim_inr]
    refine ⟨ol, fun x x0 x1 => ?_⟩
    rw [ho x x0 x1, List.take_of_length_le (by omega)]
  ·rintro o ⟨ol, ho⟩
   simp only [T_some]
   refine .ok M o hc hM hMl ⟨by rw [ol, List.length_replicate], by rw [List.length_replicate]; omega, KD.up hM.inc, fun a ha => ?_, fun x x0 x1 => ?_, ?_, by rw [List.length_map], by rw [List.length_map]; omega⟩
   ·obtain ⟨b, hb', rfl⟩ := List.mem_map.1 ha
    obtain ⟨b1, b2, b3, b4, b5, b6, b7⟩ := hb b hb'
    have hl : ((List.replicate N.toNat true).length : Int) = N := by rw [List.length_replicate]; omega
    rw [hl]
    show 0 ≤ b.1 /\ b.1 < N /\ 0 ≤ b.2.1 /\ b.2.1 < N /\ gt _ b.1 = true /\ gt _ b.2.1 = true /\ b.1 ≠ b.2.1 /\ 0 ≤ b.2.2 /\ b.2.2 ≤ _ /\ -1 ≤ (-1 : Int) /\ (-1 : Int) < N
    exact ⟨b1, b2, b3, b4, gt_repO b1 (by omega), gt_repO b3 (by omega), b7, b5, by omega, by omega, by omega⟩
   ·rw [List.length_replicate] at x1
    rw [ho x x0 (by omega), gt_repO x0 (by omega)]; rfl
   ·rw [List.filter_eq_self.2 fun x hx => by rw [(List.mem_replicate.1 hx).2]; rfl, List.length_replicate]; omega
end Go.Vd

/-! (ShC) -/

set_option linter.unusedVariables false
set_option linter.unusedSimpArgs false
set_option maxHeartbeats 1000000
namespace Go.Vd
variable {nodes : List Nod} {alive arcs : Int} {A : List Bool} {M : List OAr} {u v w skip hops settles c N : Int} {a : Hf}
open Classical in
noncomputable def putS (v : Int) (M : List OAr) (s : Int × Int × Int) : List OAr := if ∃ a ∈ M, a.1 = s.1 /\ a.2.1 = s.2.1 /\ a.2.2.1 ≤ s.2.2 then M else putA M (s.1, s.2.1, s.2.2, v)
noncomputable def ctrL (M : List OAr) (v hops settles : Int) : List OAr := (needL M v hops settles).foldl (putS v) (remA M v)
theorem OvR.few (h : OvR nodes alive arcs A M) : M.length ≤ A.length * A.length := by
 have hnd : (M.map fun a => a.1 * (A.length : Int) + a.2.1).Nodup := by
  rw [List.nodup_iff_pairwise_ne, List.pairwise_map]
  refine (List.pairwise_iff_forall_sublist.2 fun {x y} hs => ?_)
  have hk := List.pairwise_iff_forall_sublist.1 h.kd hs
  have hx := h.en x (hs.subset (by simp))
  have hy := h.en y (hs.subset (by simp))
  intro e
  apply hk
  have hN : (0 : Int) < A.length := by omega
  have e1 : x.1 = y.1 := by
   rcases Int.lt_trichotomy x.1 y.1 with q | q | q
   ·have : (x.1 + 1) * (A.length : Int) ≤ y.1 * (A.length : Int) := Int.mul_le_mul_of_nonneg_right (by omega) (by omega)
    rw [Int.add_mul, Int.one_mul] at this
    omega
   ·exact q
   ·have : (y.1 + 1) * (A.length : Int) ≤ x.1 * (A.length : Int) := Int.mul_le_mul_of_nonneg_right (by omega) (by omega)
    rw [Int.add_mul, Int.one_mul] at this
    omega
  rw [e1] at e
  exact ⟨e1, by omega⟩
 have := nodup_len (N := A.length * A.length) hnd fun z hz => by
  obtain ⟨x, hx, rfl⟩ := List.mem_map.1 hz
  have hx' := h.en x hx
  have h1 : (x.1 + 1) * (A.length : Int) ≤ (A.length : Int) * (A.length : Int) := Int.mul_le_mul_of_nonneg_right (by omega) (by omega)
  have h2 : 0 ≤ x.1 * (A.length : Int) := Int.mul_nonneg hx'.1 (by omega)
  rw [Int.add_mul, Int.one_mul] at h1
  push_cast
  omega
 rwa [List.length_map] at this
theorem need_ok (h : OvR nodes alive arcs A M) {s : Int × Int × Int} (hs : s ∈ needL M v hops settles) : ∃ a ∈ inL M v, ∃ b ∈ outL M v, b.1 ≠ a.1 /\ s = (a.1, b.1, a.2.1 + b.2.1) /\ s.2.2 ≤ 140737488355328 := by
 unfold needL at hs
 obtain ⟨a, ha, hs⟩ := List.mem_flatMap.1 hs
 unfold shFrom at hs
 obtain ⟨h1, h2⟩ := List.mem_filter.1 hs
 unfold opens at h1
 obtain ⟨b, hb, rfl⟩ := List.mem_map.1 h1
 obtain ⟨hb1, hb2⟩ := List.mem_filter.1 hb
 unfold keepS at h2
 exact ⟨a, ha, b, hb1, of_decide_eq_true hb2, rfl, (of_decide_eq_true h2).1⟩
theorem putR_ok {nd : List Nod} {al ar : Int} {B : List Bool} {M1 : List OAr} (h : OvR nd al ar B M1) {s : Int × Int × Int} (hc : putNo B s.1 s.2.1 s.2.2 v = 0) {r : Bool × Er × List Nod × Int} (hr : PutR nd al ar B M1 s.1 s.2.1 s.2.2 v r) : r.2.1 = .nil /\ OvR r.2.2.1 al r.2.2.2 B (putS v M1 s) := by
 cases hr with
 | bad hn => exact absurd hc hn
 | less x _ hx e1 e2 e3 =>
  refine ⟨rfl, ?_⟩
  unfold putS
  rw [if_pos ⟨x, hx, e1, e2, e3⟩]; exact h
 | put nd' ar' _ hn h' =>
  refine ⟨rfl, ?_⟩
  unfold putS
  rw [if_neg]
  ·exact h'
  ·rintro ⟨x, hx, e1, e2, e3⟩
   have := hn x hx e1 e2
   omega
inductive CtrR (nodes : List Nod) (alive arcs : Int) (A : List Bool) (M : List OAr) (v hops settles : Int) : List (Int × Int × Int) × Er × List Nod × Int × Int -> Prop
 | bad : ¬ liveB A v -> CtrR nodes alive arcs A M v hops settles ([], .no 7, nodes, alive, arcs)
 | ok (nd : List Nod) (al ar : Int) : liveB A v -> OvR nd al ar (A.set v.toNat false) (ctrL M v (bnd hops) (bnd settles)) -> CtrR nodes alive arcs A M v hops settles (needL M v (bnd hops) (bnd settles), .nil, nd, al, ar)
theorem p_Contract (h : OvR nodes alive arcs A M) (hN : A.length ≤ 900) {x1 x2 x3 : Int} : T (z_shorts_Contract nodes alive arcs v hops settles x1 x2 x3) (CtrR nodes alive arcs A M v hops settles) := by
 unfold z_shorts_Contract
 refine T_bindr _ (p_shNeeded h) ?_
 rintro r (⟨hv, rfl⟩ | ⟨hv, rfl⟩)
 ·dsimp only
  rw [if_neg (by decide)]
  simp only [T_some]
  exact .bad hv
 dsimp only
 rw [if_pos rfl]
 refine T_bindr _ (p_Remove (v := v) h) ?_
 intro r hr
 cases hr with
 | bad hn => exact absurd hv hn
 | ok o' hv' h' =>
  dsimp only
  rw [if_pos rfl]
  generalize hl : needL M v (bnd hops) (bnd settles) = l
  have hok : ∀ s ∈ l, putNo (A.set v.toNat false) s.1 s.2.1 s.2.2 v = 0 /\ 0 ≤ s.2.2 /\ -9223372036854775808 ≤ s.2.1 /\ s.2.1 ≤ 9223372036854775807 := fun s hs => by
   rw [← hl] at hs
   obtain ⟨a, ha, b, hb, hne, rfl, hle⟩ := need_ok h hs
   have ha' := h.en _ ((mem_inL h.kd).1 ha)
   have hb' := h.en _ ((mem_outL h.kd).1 hb)
   dsimp only at ha' hb' hle ⊢
   have hsm := h.sm
   have lv : ∀ x, 0 ≤ x -> x < (A.length : Int) -> gt A x = true -> x ≠ v -> liveB (A.set v.toNat false) x := fun x x0 x1 hx hxv => ⟨x0, by simpa using x1, by rw [gt_setB hv.1 hv.2.1 x0, if_neg hxv]; exact hx⟩
   have l1 := lv a.1 ha'.1 ha'.2.1 ha'.2.2.2.2.1 ha'.2.2.2.2.2.2.1
   have l2 := lv b.1 hb'.2.2.1 hb'.2.2.2.1 hb'.2.2.2.2.2.1 (fun e => hb'.2.2.2.2.2.2.1 e.symm)
   refine ⟨?_, by omega, by omega, by omega⟩
   unfold putNo
   rw [if_neg (fun k => k ⟨l1, l2⟩), if_neg (fun e => hne e.symm), if_neg (by omega), if_neg]
   rintro (q | q | ⟨q, q2⟩)
   ·have := hv.1; omega
   ·rw [List.length_set] at q; have := hv.2.1; omega
   ·have := q2.2.2
    rw [gt_setB hv.1 hv.2.1 hv.1, if_pos rfl] at this
    cases this
  have hll : l.length ≤ 1000000000000 := by
   rw [← hl]; unfold needL
   rw [List.length_flatMap]
   have : ∀ l : List Hf, ((l.map fun a => (shFrom M v (bnd hops) (bnd settles) a).length).sum) ≤ l.length * 1000000 := fun l => by
    induction l with
    | nil => simp
    | cons x l ih =>
     have : (shFrom M v (bnd hops) (bnd settles) x).length ≤ 1000000 := by
      unfold shFrom
      exact Nat.le_trans (List.length_filter_le _ _) (Nat.le_trans opens_len (h.outLen v))
     simp only [List.map_cons, List.sum_cons, List.length_cons]
     omega
   have := this (inL M v)
   have h2 := h.inLen v
   omega
  refine T_binds (fun r => OvR r.1 (alive - 1) r.2 (A.set v.toNat false) (l.foldl (putS v) (remA M v))) ?_ ?_
  ·refine T_loop (fun z => 0 ≤ z.2.2 /\ z.2.2 ≤ (l.length : Int) /\ OvR z.1 (alive - 1) z.2.1 (A.set v.toNat false) ((l.take z.2.2.toNat).foldl (putS v) (remA M v))) (fun z => ((l.length : Int) - z.2.2).toNat) ?_ ⟨by simp, by simp, h'⟩
   rintro ⟨o, ar, i⟩ ⟨i0, i1, ho⟩
   dsimp only at *
   unfold z_shorts_Contract_l0
   dsimp only
   rw [T_ite]
   refine ⟨fun hlt => ?_, fun hge => ?_⟩
   rotate_left
   ·simp only [T_some, Sum.elim_inr]
    rw [List.take_of_length_le (by omega)] at ho
    exact ho
   have hm : gt l i ∈ l := gt_memG i0 hlt
   have hs := take_gtW i0 hlt
   obtain ⟨k1, k2, k3, k4⟩ := hok _ hm
   generalize gt l i = s at *
   have hfew := ho.few
   have hsq : (A.set v.toNat false).length * (A.set v.toNat false).length ≤ 900 * 900 := by
    rw [List.length_set]; exact Nat.mul_le_mul hN hN
   rw [T_G]
   refine ⟨i0, ?_⟩
   refine T_bindr _ (p_oPut (u := s.1) (w := s.2.1) (wt := s.2.2) (via := v) ho (by omega) k3 k4 k2) ?_
   rintro ⟨b, er, o2, ar2⟩ hr
   obtain ⟨e1, e2⟩ := putR_ok ho k1 hr
   dsimp only at e1 e2 ⊢
   rw [if_pos e1]
   simp only [T_G, T_some, Sum.elim_inl]
   refine ⟨by omega, ⟨by omega, by omega, ?_⟩, by omega⟩
   rw [hs, List.foldl_append]; exact e2
  ·rintro ⟨o2, ar2⟩ h2
   simp only [T_some]
   have := CtrR.ok (nodes := nodes) (alive := alive) (arcs := arcs) (M := M) (hops := hops) (settles := settles) o2 (alive - 1) ar2 hv (by unfold ctrL; rw [hl]; exact h2)
   rw [hl] at this; exact this
end Go.Vd

/-! (ShD) -/

set_option linter.unusedVariables false
set_option linter.unusedSimpArgs false
set_option maxHeartbeats 1000000
namespace Go.Vd
variable {nodes : List Nod} {alive arcs : Int} {A : List Bool} {M : List OAr} {u v w x y d skip hops settles most c N W : Int} {L L' : Lab} {row : Int -> List (Int × Int)} {X : List A3}
def a3 (M : List OAr) : List A3 := M.map fun a => (a.1, a.2.1, a.2.2.1)
theorem mem_a3 {x y w : Int} : (x, y, w) ∈ a3 M ↔ ∃ a ∈ M, a.1 = x /\ a.2.1 = y /\ a.2.2.1 = w := by
 unfold a3
 rw [List.mem_map]
 constructor
 ·rintro ⟨a, ha, e⟩
  simp only [Prod.mk.injEq] at e
  exact ⟨a, ha, e.1, e.2.1, e.2.2⟩
 ·rintro ⟨a, ha, rfl, rfl, rfl⟩
  exact ⟨a, ha, rfl⟩
theorem WR.wk (h : WR row hops settles most c L L') (hr : ∀ x, x ≠ skip -> ∀ b ∈ row x, b.1 ≠ skip /\ (x, b.1, b.2) ∈ X) : (∀ x y, L x = some y -> x ≠ skip /\ Wk X u x y.1) -> ∀ x y, L' x = some y -> x ≠ skip /\ Wk X u x y.1 := by
 induction h with
 | full => exact fun k => k
 | none => exact fun k => k
 | far => exact fun k => k
 | go c L v y L' _ hp _ _ ih =>
  intro hL
  refine ih ?_
  obtain ⟨v1, v2⟩ := hL v y hp.1
  have h1 : ∀ x z, lup L v (y.1, y.2.1, 1) x = some z -> x ≠ skip /\ Wk X u x z.1 := fun x z hz => by
   unfold lup at hz
   by_cases e : x = v
   ·rw [if_pos e] at hz; cases hz; rw [e]; exact ⟨v1, v2⟩
   ·rw [if_neg e] at hz; exact hL x z hz
  have key : ∀ (l : List (Int × Int)) (K : Lab), (∀ b ∈ l, b.1 ≠ skip /\ (v, b.1, b.2) ∈ X) -> (∀ x z, K x = some z -> x ≠ skip /\ Wk X u x z.1) -> ∀ x z, l.foldl (wrel y.1 y.2.1) K x = some z -> x ≠ skip /\ Wk X u x z.1 := by
   intro l
   induction l with
   | nil => intro K _ hK; exact hK
   | cons b l ih2 =>
    intro K hl hK
    refine ih2 _ (fun b' hb' => hl b' (by simp [hb'])) fun x z hz => ?_
    unfold wrel at hz
    split at hz
    ·unfold lup at hz
     by_cases e : x = b.1
     ·rw [if_pos e] at hz; cases hz
      obtain ⟨b1, b2⟩ := hl b (by simp)
      rw [e]
      exact ⟨b1, v2.step _ _ _ _ _ b2⟩
     ·rw [if_neg e] at hz; exact hK x z hz
    ·exact hK x z hz
  unfold wset
  split
  ·exact h1
  ·exact key _ _ (hr v v1) h1
theorem rem_row (h : KD M) : ∀ x, x ≠ skip -> ∀ b ∈ rowW M skip x, b.1 ≠ skip /\ (x, b.1, b.2) ∈ a3 (remA M skip) := fun x hx b hb => by
 unfold rowW at hb
 obtain ⟨z, hz, rfl⟩ := List.mem_map.1 hb
 obtain ⟨h1, h2⟩ := List.mem_filter.1 hz
 have h3 := of_decide_eq_true h2
 exact ⟨h3, mem_a3.2 ⟨(x, z), mem_remA.2 ⟨(mem_outL h).1 h1, hx, h3⟩, rfl, rfl, rfl⟩⟩
theorem fin_wk (h : OvR nodes alive arcs A M) (hu : liveB A u) (hus : u ≠ skip) (hset : settles ≤ 9223372036854775807) {z : Int × Int × Int} (hz : wfin M skip hops settles most u x = some z) : x ≠ skip /\ Wk (a3 (remA M skip)) u x z.1 := by
 obtain ⟨r, _, hR⟩ := p_run (skip := skip) (hops := hops) (most := most) h hu.1 hu.2.1 hset
 have := hR.wk (u := u) (rem_row h.kd) fun x y hy => by
  unfold lab0 lup at hy
  by_cases e : x = u
  ·rw [if_pos e] at hy; cases hy; rw [e]; exact ⟨hus, .refl _⟩
  ·rw [if_neg e] at hy; cases hy
 rw [hR.fin] at this
 exact this x z hz
def Has3 (M : List OAr) (x y w : Int) : Prop := ∃ a ∈ M, a.1 = x /\ a.2.1 = y /\ a.2.2.1 ≤ w
theorem putS_le {s : Int × Int × Int} (h : Has3 M x y w) : Has3 (putS v M s) x y w := by
 unfold putS
 split
 ·exact h
 ·rename_i hn
  obtain ⟨a, ha, e1, e2, e3⟩ := h
  by_cases k : a.1 = s.1 /\ a.2.1 = s.2.1
  ·refine ⟨_, mem_putA.2 (.inl rfl), by rw [← e1, k.1], by rw [← e2, k.2], ?_⟩
   have : ¬ a.2.2.1 ≤ s.2.2 := fun q => hn ⟨a, ha, k.1, k.2, q⟩
   dsimp only; omega
  ·exact ⟨a, mem_putA.2 (.inr ⟨ha, k⟩), e1, e2, e3⟩
theorem putS_new {s : Int × Int × Int} : Has3 (putS v M s) s.1 s.2.1 s.2.2 := by
 unfold putS
 split
 ·rename_i h; exact h
 ·exact ⟨_, mem_putA.2 (.inl rfl), rfl, rfl, Int.le_refl _⟩
theorem putS_src {s : Int × Int × Int} {a : OAr} (h : a ∈ putS v M s) : a ∈ M ∨ (a.1 = s.1 /\ a.2.1 = s.2.1 /\ a.2.2.1 = s.2.2) := by
 unfold putS at h
 split at h
 ·exact .inl h
 ·rcases mem_putA.1 h with rfl | ⟨h, _⟩
  ·exact .inr ⟨rfl, rfl, rfl⟩
  ·exact .inl h
theorem fold_le : ∀ {l : List (Int × Int × Int)} {M : List OAr}, Has3 M x y w -> Has3 (l.foldl (putS v) M) x y w := by
 intro l
 induction l with
 | nil => intro M h; exact h
 | cons s l ih => intro M h; exact ih (putS_le h)
theorem fold_new : ∀ {l : List (Int × Int × Int)} {M : List OAr} {s : Int × Int × Int}, s ∈ l -> Has3 (l.foldl (putS v) M) s.1 s.2.1 s.2.2 := by
 intro l
 induction l with
 | nil => intro M s h; cases h
 | cons s0 l ih =>
  intro M s h
  rcases List.mem_cons.1 h with rfl | h
  ·show Has3 (l.foldl (putS v) (putS v M s)) s.1 s.2.1 s.2.2
   exact fold_le putS_new
  ·exact ih h
theorem fold_src : ∀ {l : List (Int × Int × Int)} {M : List OAr} {a : OAr}, a ∈ l.foldl (putS v) M -> a ∈ M ∨ ∃ s ∈ l, a.1 = s.1 /\ a.2.1 = s.2.1 /\ a.2.2.1 = s.2.2 := by
 intro l
 induction l with
 | nil => intro M a h; exact .inl h
 | cons s0 l ih =>
  intro M a h
  rcases ih h with h | ⟨s, hs, e⟩
  ·rcases putS_src h with h | h
   ·exact .inl h
   ·exact .inr ⟨s0, by simp, h⟩
  ·exact .inr ⟨s, by simp [hs], e⟩
theorem Has3.wk (h : Has3 M x y w) : ∃ e, Wk (a3 M) x y e /\ e ≤ w := by
 obtain ⟨a, ha, e1, e2, e3⟩ := h
 exact ⟨a.2.2.1, .one (mem_a3.2 ⟨a, ha, e1, e2, rfl⟩), e3⟩
theorem ctr_down (h : OvR nodes alive arcs A M) (k : Wk (a3 (ctrL M v hops settles)) x y d) : Wk (a3 M) x y d := by
 induction k with
 | refl => exact .refl _
 | step p e q t _ hm ih =>
  obtain ⟨a, ha, e1, e2, e3⟩ := mem_a3.1 hm
  rcases fold_src ha with ha | ⟨s, hs, f1, f2, f3⟩
  ·exact ih.step _ _ _ _ _ (mem_a3.2 ⟨a, (mem_remA.1 ha).1, e1, e2, e3⟩)
  ·obtain ⟨i, hi, o, ho, hne, rfl, _⟩ := need_ok h hs
   have h1 := ih.step _ _ _ v i.2.1 (mem_a3.2 ⟨(i.1, v, i.2), (mem_inL h.kd).1 hi, by rw [← e1, f1], rfl, rfl⟩)
   have h2 := h1.step _ _ _ q o.2.1 (mem_a3.2 ⟨(v, o), (mem_outL h.kd).1 ho, rfl, by rw [← e2, f2], rfl⟩)
   rw [← e3, f3, ← Int.add_assoc]; exact h2
theorem ctr_up (h : OvR nodes alive arcs A M) (hset : settles ≤ 9223372036854775807) (hW : ∀ a ∈ M, a.2.2.1 ≤ 70368744177664) (hx : x ≠ v) (k : Wk (a3 M) x y d) :
  (y ≠ v -> ∃ e, Wk (a3 (ctrL M v hops settles)) x y e /\ e ≤ d) /\ (y = v -> ∃ p e t, Wk (a3 (ctrL M v hops settles)) x p e /\ (p, v, t) ∈ a3 M /\ e + t ≤ d) := by
 have old : ∀ {p q t : Int}, p ≠ v -> q ≠ v -> (p, q, t) ∈ a3 M -> Has3 (ctrL M v hops settles) p q t := fun {p q t} hp hq hm => by
  obtain ⟨a, ha, e1, e2, e3⟩ := mem_a3.1 hm
  exact fold_le ⟨a, mem_remA.2 ⟨ha, by rw [e1]; exact hp, by rw [e2]; exact hq⟩, e1, e2, by omega⟩
 have oldW : ∀ {p q e : Int}, Wk (a3 (remA M v)) p q e -> ∃ f, Wk (a3 (ctrL M v hops settles)) p q f /\ f ≤ e := fun {p q e} kk => by
  induction kk with
  | refl => exact ⟨0, .refl _, Int.le_refl _⟩
  | step r e' s t _ hm ih =>
   obtain ⟨f, f1, f2⟩ := ih
   obtain ⟨a, ha, e1, e2, e3⟩ := mem_a3.1 hm
   obtain ⟨ha1, ha2, ha3⟩ := mem_remA.1 ha
   obtain ⟨g, g1, g2⟩ := (old (by rw [← e1]; exact ha2) (by rw [← e2]; exact ha3) (mem_a3.2 ⟨a, ha1, e1, e2, e3⟩)).wk
   exact ⟨f + g, f1.cat g1, by omega⟩
 induction k with
 | refl => exact ⟨fun _ => ⟨0, .refl _, Int.le_refl _⟩, fun e => absurd e hx⟩
 | step p d q t kk hm ih =>
  obtain ⟨a, ha, e1, e2, e3⟩ := mem_a3.1 hm
  have hen := h.en a ha
  by_cases hp : p = v
  ·obtain ⟨r, e, t1, r1, r2, r3⟩ := ih.2 hp
   have hqv : q ≠ v := fun e => hen.2.2.2.2.2.2.1 (by rw [e1, e2, hp, e])
   refine ⟨fun _ => ?_, fun e => absurd e hqv⟩
   obtain ⟨b, hb, f1, f2, f3⟩ := mem_a3.1 r2
   have hen2 := h.en b hb
   have hrv : r ≠ v := fun e => hen2.2.2.2.2.2.2.1 (by rw [f1, f2, e])
   have w1 := hW a ha
   have w2 := hW b hb
   by_cases hrq : r = q
   ·exact ⟨e, by rw [← hrq]; exact r1, by omega⟩
   ·have hbi : (b.1, b.2.2) ∈ inL M v := (mem_inL h.kd).2 (by
     have : ((b.1, b.2.2).1, v, (b.1, b.2.2).2) = b := Prod.ext rfl (Prod.ext f2.symm rfl)
     rw [this]; exact hb)
    have hao : a.2 ∈ outL M v := (mem_outL h.kd).2 (by
     have : (v, a.2) = a := Prod.ext (by rw [e1, hp]) rfl
     rw [this]; exact ha)
    have hso : (b.1, a.2.1, b.2.2.1 + a.2.2.1) ∈ opens (b.1, b.2.2) (outL M v) := by
     unfold opens
     exact List.mem_map.2 ⟨a.2, List.mem_filter.2 ⟨hao, decide_eq_true fun e => hrq (by rw [← f1, ← e2]; exact e.symm)⟩, rfl⟩
    have fin : Has3 (ctrL M v hops settles) b.1 a.2.1 (b.2.2.1 + a.2.2.1) ∨ ∃ g, Wk (a3 (ctrL M v hops settles)) b.1 a.2.1 g /\ g ≤ b.2.2.1 + a.2.2.1 := by
     by_cases hk : keepS M (wfin M v hops settles (mostL (opens (b.1, b.2.2) (outL M v))) b.1) (b.1, a.2.1, b.2.2.1 + a.2.2.1) = true
     ·have hs : (b.1, a.2.1, b.2.2.1 + a.2.2.1) ∈ needL M v hops settles := List.mem_flatMap.2 ⟨_, hbi, List.mem_filter.2 ⟨hso, hk⟩⟩
      exact .inl (fold_new hs)
     ·unfold keepS at hk
      rw [decide_eq_true_iff] at hk
      dsimp only at hk
      by_cases hfar : far (wfin M v hops settles (mostL (opens (b.1, b.2.2) (outL M v))) b.1) a.2.1 > b.2.2.1 + a.2.2.1
      ·have : ∃ z ∈ M, z.1 = b.1 /\ z.2.1 = a.2.1 /\ z.2.2.1 ≤ b.2.2.1 + a.2.2.1 := by
        refine Classical.not_not.1 fun q => hk ⟨by omega, hfar, q⟩
       obtain ⟨z, hz, g1, g2, g3⟩ := this
       exact .inl (fold_le ⟨z, mem_remA.2 ⟨hz, by rw [g1, f1]; exact hrv, by rw [g2, e2]; exact hqv⟩, g1, g2, g3⟩)
      ·unfold far at hfar
       split at hfar
       ·rename_i hs
        obtain ⟨z, hz⟩ := Option.isSome_iff_exists.1 hs
        rw [hz] at hfar
        obtain ⟨_, kw⟩ := fin_wk h ⟨hen2.1, hen2.2.1, hen2.2.2.2.2.1⟩ (by rw [f1]; exact hrv) hset hz
        obtain ⟨g, g1, g2⟩ := oldW kw
        exact .inr ⟨g, g1, by dsimp only [Option.getD_some] at hfar; omega⟩
       ·omega
    have fin2 : ∃ g, Wk (a3 (ctrL M v hops settles)) r q g /\ g ≤ t1 + t := by
     rw [f1, e2, f3, e3] at fin
     rcases fin with fin | fin
     ·exact fin.wk
     ·exact fin
    obtain ⟨g, g1, g2⟩ := fin2
    exact ⟨e + g, r1.cat g1, by omega⟩
  ·obtain ⟨e, r1, r2⟩ := ih.1 hp
   refine ⟨fun hq => ?_, fun hq => ⟨p, e, t, r1, by rw [← hq]; exact hm, by omega⟩⟩
   obtain ⟨g, g1, g2⟩ := (old hp hq hm).wk
   exact ⟨e + g, r1.cat g1, by omega⟩
theorem ctr_w (h : OvR nodes alive arcs A M) (hW : ∀ a ∈ M, a.2.2.1 ≤ W) (W0 : 0 ≤ W) : ∀ a ∈ ctrL M v hops settles, a.2.2.1 ≤ 2 * W := fun a ha => by
 rcases fold_src ha with ha | ⟨s, hs, f1, f2, f3⟩
 ·have := hW a (mem_remA.1 ha).1; omega
 ·obtain ⟨i, hi, o, ho, _, rfl, _⟩ := need_ok h hs
  have h1 := hW _ ((mem_inL h.kd).1 hi)
  have h2 := hW _ ((mem_outL h.kd).1 ho)
  dsimp only at h1 h2 f3
  omega
end Go.Vd

/-! (Fx) -/

set_option linter.unusedVariables false
set_option linter.unusedSimpArgs false
namespace Go.Vd
variable {N n k i j : Int} {A : List A3} {E E' : Int -> Int -> Int} {M : List (List Int)} {D : List Bool} {X : List OAr} {W : Int}
theorem thv_rowX (h : E k k = 0 ∨ E k k = 18446744073709551615) : thv E k k j = E k j := by unfold thv; split <;> omega
theorem thv_colX (h : E k k = 0 ∨ E k k = 18446744073709551615) : thv E k i k = E i k := by unfold thv; split <;> omega
def mskE (D : List Bool) (E : Int -> Int -> Int) (i j : Int) : Int := if i = j /\ ¬ gt D i = true then 18446744073709551615 else E i j
def DeadR (D : List Bool) (E : Int -> Int -> Int) : Prop := ∀ i j, i ≠ j -> (¬ gt D i = true ∨ ¬ gt D j = true) -> E i j = 18446744073709551615
theorem thv_msk (kk : E k k = 0) (h : DeadR D E) (hr : ∀ i j, 0 ≤ i -> i < N -> 0 ≤ j -> j < N -> E i j = 18446744073709551615 ∨ (0 ≤ E i j /\ E i j ≤ 9000000000000000000)) (i0 : 0 ≤ i) (i1 : i < N) (j0 : 0 ≤ j) (j1 : j < N) : thv (mskE D E) k i j = mskE D (thv E k) i j := by
 have hr := hr i j i0 i1 j0 j1
 by_cases hk : gt D k = true
 ·have e1 : mskE D E i k = E i k := by unfold mskE; rw [if_neg]; rintro ⟨rfl, q⟩; exact q hk
  have e2 : mskE D E k j = E k j := by unfold mskE; rw [if_neg]; rintro ⟨rfl, q⟩; exact q hk
  by_cases c : i = j /\ ¬ gt D i = true
  ·have hik : i ≠ k := fun e => c.2 (by rw [e]; exact hk)
   have := h i k hik (.inl c.2)
   unfold thv
   rw [e1, this]
   unfold mskE
   rw [if_pos c, if_pos c, if_neg (fun q => q.1 rfl)]
  ·have e3 : mskE D E i j = E i j := by unfold mskE; rw [if_neg c]
   unfold thv
   rw [e1, e2, e3]
   unfold mskE
   rw [if_neg c]
 ·have e1 : mskE D E i k = 18446744073709551615 := by
   unfold mskE
   by_cases e : i = k
   ·subst e; rw [if_pos ⟨rfl, hk⟩]
   ·rw [if_neg fun q => e q.1]; exact h i k e (.inr hk)
  have e4 : thv (mskE D E) k i j = mskE D E i j := by
   unfold thv; rw [e1, if_neg (fun q => q.1 rfl)]
  rw [e4]
  have e5 : (i = j /\ ¬ gt D i = true) ∨ thv E k i j = E i j := by
   by_cases e : i = k
   ·subst e
    by_cases f : j = i
    ·exact .inl ⟨f.symm, hk⟩
    ·refine .inr ?_
     have := h i j (fun q => f q.symm) (.inl hk)
     unfold thv; rw [this, if_neg (fun q => q.2 rfl)]
   ·refine .inr ?_
    have := h i k e (.inr hk)
    unfold thv; rw [this, if_neg (fun q => q.1 rfl)]
  unfold mskE
  rcases e5 with c | e5
  ·rw [if_pos c, if_pos c]
  ·rw [e5]
theorem DeadR.next (h : DeadR D E) (kk : E k k = 0) : DeadR D (thv E k) := fun i j hij hd => by
 have e := h i j hij hd
 have : ¬ (E i k ≠ 18446744073709551615 /\ E k j ≠ 18446744073709551615) := by
  rintro ⟨c1, c2⟩
  by_cases hik : i = k
  ·subst hik; exact c2 e
  ·by_cases hkj : k = j
   ·subst hkj; exact c1 e
   ·rcases hd with hd | hd
    ·exact c1 (h i k hik (.inl hd))
    ·exact c2 (h k j hkj (.inr hd))
 unfold thv; rw [if_neg this]; exact e
structure XOk (D : List Bool) (X : List OAr) (W : Int) : Prop where
 en : ∀ a ∈ X, 0 ≤ a.1 /\ a.1 < (D.length : Int) /\ 0 ≤ a.2.1 /\ a.2.1 < (D.length : Int) /\ gt D a.1 = true /\ gt D a.2.1 = true /\ a.1 ≠ a.2.1 /\ 0 ≤ a.2.2.1 /\ a.2.2.1 ≤ W
theorem p_fxInit (n1 : D.length ≤ 65536) : T (loopO (fun zz_ => z_viaductref11_Distances_l1 D zz_.1 zz_.2) (0, (List.replicate D.length ([] : List Int)))) fun M => IsM D.length M (mskE D E0f) := by
 have n0 : (0 : Int) ≤ (D.length : Int) := by omega
 have rl : ∀ {E0 : Type} {x : E0}, ((List.replicate D.length x).length : Int) = D.length := fun {E0 x} => by simp
 refine T_loop (fun z => 0 ≤ z.1 /\ z.1 ≤ (D.length : Int) /\ (z.2.length : Int) = D.length /\ ∀ a, 0 ≤ a -> a < z.1 -> ((gt z.2 a).length : Int) = D.length /\ ∀ b, 0 ≤ b -> b < (D.length : Int) -> gt (gt z.2 a) b = mskE D E0f a b) (fun z => ((D.length : Int) - z.1).toNat) ?_ ⟨by simp, n0, rl, fun a a0 a1 => by dsimp only at a1; omega⟩
 rintro ⟨x, d⟩ ⟨x0, x1, hl, hd⟩
 dsimp only at *
 unfold z_viaductref11_Distances_l1
 rw [rl, T_ite]
 refine ⟨fun hx => ?_, fun hx => ?_⟩
 rotate_left
 ·simp only [T_some, Sum.elim_inr]
  exact ⟨hl, fun a a0 a1 => hd a a0 (by omega)⟩
 rw [T_G, T_G, T_G]
 refine ⟨by omega, by omega, by simp; omega, ?_⟩
 have hg : gt (d.set x.toNat (List.replicate D.length (0 : Int))) x = List.replicate D.length 0 := by rw [gt_setE x0 (by omega) x0, if_pos rfl]
 refine T_bindr (fun r => (r.length : Int) = D.length /\ (∀ a, 0 ≤ a -> a ≠ x -> gt r a = gt d a) /\ ((gt r x).length : Int) = D.length /\ ∀ b, 0 ≤ b -> b < (D.length : Int) -> gt (gt r x) b = mskE D E0f x b) ?_ ?_
 ·refine T_loop (fun z => 0 ≤ z.1 /\ z.1 ≤ (D.length : Int) /\ (z.2.length : Int) = D.length /\ (∀ a, 0 ≤ a -> a ≠ x -> gt z.2 a = gt d a) /\ ((gt z.2 x).length : Int) = D.length /\ ∀ b, 0 ≤ b -> b < (D.length : Int) -> gt (gt z.2 x) b = if b < z.1 then mskE D E0f x b else 0) (fun z => ((D.length : Int) - z.1).toNat) ?_
   ⟨by simp, n0, by simpa using hl, fun a a0 ha => by (try dsimp only); rw [gt_setE x0 (by omega) a0, if_neg ha], by (try dsimp only); rw [hg]; exact rl, fun b b0 b1 => by (try dsimp only); rw [hg, gt_repI, if_neg (by omega)]⟩
  rintro ⟨y, r⟩ ⟨y0, y1, r1, r2, r3, r4⟩
  dsimp only at *
  unfold z_viaductref11_Distances_l0
  rw [hg, rl, T_ite]
  refine ⟨fun hy => ?_, fun hy => ?_⟩
  rotate_left
  ·simp only [T_some, Sum.elim_inr]
   exact ⟨r1, r2, r3, fun b b0 b1 => by rw [r4 b b0 b1, if_pos (by omega)]⟩
  refine T_bindr (fun o => o = decide (¬ (x = y /\ gt D x = true))) ?_ ?_
  ·by_cases e : x = y
   ·rw [if_pos e]; simp only [T_G, T_some]; exact ⟨by omega, by cases hD : gt D x <;> simp [e]⟩
   ·rw [if_neg e]; simp [e]
  rintro _ rfl
  rw [T_ite]
  refine ⟨fun e => ?_, fun e => ?_⟩
  ·have e' : ¬ (x = y /\ gt D x = true) := of_decide_eq_true e
   simp only [T_G, T_some, Sum.elim_inl]
   refine ⟨by omega, by omega, by omega, ⟨by omega, by omega, by simpa using r1, fun a a0 ha => ?_, ?_, fun b b0 b1 => ?_⟩, by omega⟩
   ·rw [gt_setE x0 (by omega) a0, if_neg ha]; exact r2 a a0 ha
   ·rw [gt_setE x0 (by omega) x0, if_pos rfl]; simpa using r3
   ·rw [gt_setE x0 (by omega) x0, if_pos rfl, gt_setE y0 (by omega) b0]
    by_cases g : b = y
    ·subst g; rw [if_pos rfl, if_pos (by omega)]
     unfold mskE E0f
     by_cases q : x = b
     ·rw [if_pos ⟨q, fun k => e' ⟨q, k⟩⟩]
     ·rw [if_neg (fun k => q k.1), if_neg q]
    ·rw [if_neg g, r4 b b0 b1]
     by_cases f : b < y
     ·rw [if_pos f, if_pos (by omega)]
     ·rw [if_neg f, if_neg (by omega)]
  ·have e' : x = y /\ gt D x = true := Classical.not_not.1 fun k => e (decide_eq_true k)
   simp only [T_G, T_some, Sum.elim_inl]
   refine ⟨by omega, ⟨by omega, by omega, r1, r2, r3, fun b b0 b1 => ?_⟩, by omega⟩
   rw [r4 b b0 b1]
   by_cases f : b < y
   ·rw [if_pos f, if_pos (by omega)]
   ·rw [if_neg f]
    by_cases g : b = y
    ·subst g; rw [if_pos (by omega)]; unfold mskE E0f; rw [if_neg (fun k => k.2 e'.2), if_pos e'.1]
    ·rw [if_neg (by omega)]
 ·rintro r ⟨r1, r2, r3, r4⟩
  simp only [T_G, T_some, Sum.elim_inl]
  refine ⟨by omega, ⟨by omega, by omega, r1, fun a a0 a1 => ?_⟩, by omega⟩
  by_cases e : a = x
  ·rw [e]; exact ⟨r3, r4⟩
  ·rw [r2 a a0 e]; exact hd a a0 (by omega)
theorem gt_memX {E : Type} [Inhabited E] {l : List E} {i : Int} (h0 : 0 ≤ i) (h1 : i < (l.length : Int)) : gt l i ∈ l := by
 unfold gt
 rw [List.getD_eq_getElem?_getD, List.getElem?_eq_getElem (by omega)]
 exact List.getElem_mem _
theorem mem_gtX {E : Type} [Inhabited E] {l : List E} {x : E} (h : x ∈ l) : ∃ p, 0 ≤ p /\ p < (l.length : Int) /\ gt l p = x := by
 obtain ⟨i, hi, e⟩ := List.getElem_of_mem h
 refine ⟨i, by omega, by omega, ?_⟩
 unfold gt
 rw [List.getD_eq_getElem?_getD, Int.toNat_natCast, List.getElem?_eq_getElem hi]; exact e
theorem p_fxArcs (ok : XOk D X W) (hW : W ≤ 140737488355328) (W0 : 0 ≤ W) (hX : X.length ≤ 1000000000) (h : IsM D.length M (mskE D E0f)) : T (loopO (fun zz_ => z_viaductref11_Distances_l2 X zz_.1 zz_.2) (M, 0)) fun M' => ∃ E, IsM D.length M' (mskE D E) /\ FwI D.length (a3 X) W 0 E /\ DeadR D E := by
 refine T_loop (fun z => 0 ≤ z.2 /\ z.2 ≤ (X.length : Int) /\ ∃ E, IsM D.length z.1 (mskE D E) /\ (∀ i j, 0 ≤ i -> i < (D.length : Int) -> 0 ≤ j -> j < (D.length : Int) -> E i j = 18446744073709551615 ∨ (0 ≤ E i j /\ E i j ≤ W)) /\
  (∀ i j, 0 ≤ i -> i < (D.length : Int) -> 0 ≤ j -> j < (D.length : Int) -> E i j ≠ 18446744073709551615 -> Wk (a3 X) i j (E i j)) /\ (∀ i, 0 ≤ i -> i < (D.length : Int) -> E i i = 0) /\ DeadR D E /\ ∀ q, 0 ≤ q -> q < z.2 -> E (gt X q).1 (gt X q).2.1 ≤ (gt X q).2.2.1) (fun z => ((X.length : Int) - z.2).toNat) ?_ ?_
 ·rintro ⟨d, x⟩ ⟨x0, x1, E, h1, h2, h3, h4, h6, h5⟩
  dsimp only at *
  unfold z_viaductref11_Distances_l2
  rw [T_ite]
  refine ⟨fun hx => ?_, fun hx => ?_⟩
  rotate_left
  ·simp only [T_some, Sum.elim_inr]
   refine ⟨E, h1, ⟨h2, h3, h4, fun a hA => ?_, fun m m0 m1 => by omega⟩, h6⟩
   obtain ⟨x', y', w'⟩ := a
   obtain ⟨b, hb, e1, e2, e3⟩ := mem_a3.1 hA
   obtain ⟨q, q0, q1, rfl⟩ := mem_gtX hb
   have := h5 q q0 (by omega)
   rw [e1, e2, e3] at this; exact this
  have hm := gt_memX x0 hx
  obtain ⟨a1, a2, b3, b4, l5, l6, a7, a8, a9⟩ := ok.en _ hm
  have hone : Wk (a3 X) (gt X x).1 (gt X x).2.1 (gt X x).2.2.1 := .one (mem_a3.2 ⟨_, hm, rfl, rfl, rfl⟩)
  obtain ⟨l1, l2⟩ := h1.2 _ a1 a2
  have hl := h1.1
  have hv := l2 _ b3 b4
  have hmk : mskE D E (gt X x).1 (gt X x).2.1 = E (gt X x).1 (gt X x).2.1 := by unfold mskE; rw [if_neg fun q => a7 q.1]
  rw [hmk] at hv
  have hup := h1.upd (v := min (gt (gt d (gt X x).1) (gt X x).2.1) (gt X x).2.2.1) a1 a2 b3 b4
  simp only [T_G, T_some, Sum.elim_inl]
  refine ⟨x0, by omega, by omega, by omega, ⟨by omega, by omega, fun i j => if i = (gt X x).1 /\ j = (gt X x).2.1 then min (gt (gt d (gt X x).1) (gt X x).2.1) (gt X x).2.2.1 else E i j, hup.congr fun i j _ _ _ _ => ?_, fun i j i0 i1 j0 j1 => ?_, fun i j i0 i1 j0 j1 => ?_, fun i i0 i1 => ?_, fun i j hij hd => ?_, fun q q0 q1 => ?_⟩, by omega⟩
  ·unfold mskE
   by_cases c : i = (gt X x).1 /\ j = (gt X x).2.1
   ·rw [if_pos c, if_neg]
    ·dsimp only; rw [if_pos c]
    rintro ⟨q, _⟩
    exact a7 (by rw [← c.1, ← c.2]; exact q)
   ·rw [if_neg c]; dsimp only; rw [if_neg c]
  ·try dsimp only
   have := h2 i j i0 i1 j0 j1
   have := h2 _ _ a1 a2 b3 b4
   split <;> omega
  ·try dsimp only
   split
   ·rename_i e
    obtain ⟨rfl, rfl⟩ := e
    rw [hv]
    intro hne
    by_cases q : E (gt X x).1 (gt X x).2.1 ≤ (gt X x).2.2.1
    ·rw [Int.min_eq_left q] at hne ⊢; exact h3 _ _ a1 a2 b3 b4 hne
    ·rw [Int.min_eq_right (by omega)]; exact hone
   ·exact h3 i j i0 i1 j0 j1
  ·try dsimp only
   have := h4 i i0 i1
   split
   ·rename_i e
    exact absurd (e.1.symm.trans e.2) a7
   ·exact this
  ·try dsimp only
   split
   ·rename_i e
    rcases hd with hd | hd
    ·exact absurd l5 (by rw [← e.1]; exact hd)
    ·exact absurd l6 (by rw [← e.2]; exact hd)
   ·exact h6 i j hij hd
  ·try dsimp only
   by_cases e : (gt X q).1 = (gt X x).1 /\ (gt X q).2.1 = (gt X x).2.1
   ·rw [if_pos e, hv]
    by_cases f : q = x
    ·subst f; omega
    ·have := h5 q q0 (by omega)
     rw [e.1, e.2] at this; omega
   ·rw [if_neg e]
    by_cases f : q = x
    ·subst f; exact absurd ⟨rfl, rfl⟩ e
    ·exact h5 q q0 (by omega)
 ·refine ⟨by simp, by simp, E0f, h, fun i j _ _ _ _ => ?_, fun i j i0 i1 j0 j1 => ?_, fun i _ _ => by unfold E0f; rw [if_pos rfl], fun i j hij _ => by unfold E0f; rw [if_neg hij], fun q q0 q1 => by dsimp only at q1; omega⟩
  ·unfold E0f; split
   ·right; omega
   ·left; rfl
  ·unfold E0f
   split
   ·rename_i e; subst e; intro _; exact .refl i
   ·intro q; exact absurd rfl q
theorem p_fxRow {B : Int} (hrng : ∀ i j, 0 ≤ i -> i < N -> 0 ≤ j -> j < N -> E i j = 18446744073709551615 ∨ (0 ≤ E i j /\ E i j ≤ B)) (kk : E k k = 0 ∨ E k k = 18446744073709551615) (hb : B ≤ 9000000000000000000) (k0 : 0 ≤ k) (k1 : k < N) (hN : N ≤ 65536) (i0 : 0 ≤ i) (i1 : i < N) {d : List (List Int)}
  (hd : IsM N d fun a b => if a < i then thv E k a b else E a b) :
  T (loopO (fun zz_ => z_viaductref11_Distances_l3 k d i zz_.1 zz_.2) (d, 0)) fun r => IsM N r fun a b => if a < i + 1 then thv E k a b else E a b := by
 have hl := hd.1
 refine T_loop (fun z => 0 ≤ z.2 /\ z.2 ≤ N /\ IsM N z.1 fun a b => if a < i ∨ (a = i /\ b < z.2) then thv E k a b else E a b) (fun z => (N - z.2).toNat) ?_ ⟨by simp, by (try dsimp only); omega, hd.congr fun a b _ _ b0 _ => by
  try dsimp only
  by_cases q : a < i
  ·rw [if_pos q, if_pos (.inl q)]
  ·rw [if_neg q, if_neg (by omega)]⟩
 rintro ⟨r, y⟩ ⟨y0, y1, hr⟩
 dsimp only at *
 unfold z_viaductref11_Distances_l3
 rw [hl, T_ite]
 refine ⟨fun hy => ?_, fun hy => ?_⟩
 rotate_left
 ·simp only [T_some, Sum.elim_inr]
  refine hr.congr fun a b _ _ b0 b1 => ?_
  try dsimp only
  by_cases q : a < i + 1
  ·rw [if_pos q, if_pos (by omega)]
  ·rw [if_neg q, if_neg (by omega)]
 have hrl := hr.1
 obtain ⟨ri1, ri2⟩ := hr.2 i i0 i1
 obtain ⟨rk1, rk2⟩ := hr.2 k k0 k1
 have eik : gt (gt r i) k = E i k := by
  rw [ri2 k k0 k1]; (try dsimp only); split
  ·exact thv_colX kk
  ·rfl
 have ekj : gt (gt r k) y = E k y := by
  rw [rk2 y y0 hy]; (try dsimp only); split
  ·exact thv_rowX kk
  ·rfl
 have eij : gt (gt r i) y = E i y := by
  rw [ri2 y y0 hy]; (try dsimp only); rw [if_neg (by omega)]
 have r1 := hrng i y i0 i1 y0 hy; have r2 := hrng i k i0 i1 k0 k1; have r3 := hrng k y k0 k1 y0 hy
 refine T_bindr (fun o => o = true ↔ (E i k ≠ 18446744073709551615 /\ E k y ≠ 18446744073709551615)) ?_ fun o ho => ?_
 ·rw [eik, ekj]
  simp only [T_G, T_ite, T_some]
  exact ⟨by omega, by omega, fun e => by simp [e], fun e => ⟨by omega, by omega, by simp [e]⟩⟩
 have next : ∀ v, v = thv E k i y -> ∀ q, IsM N q (fun a b => if a = i /\ b = y then v else if a < i ∨ (a = i /\ b < y) then thv E k a b else E a b) -> IsM N q fun a b => if a < i ∨ (a = i /\ b < y + 1) then thv E k a b else E a b := fun v hv q hq => hq.congr fun a b _ _ _ _ => by
  try dsimp only
  by_cases e : a = i /\ b = y
  ·obtain ⟨rfl, rfl⟩ := e
   rw [if_pos ⟨rfl, rfl⟩, if_pos (by omega), hv]
  ·rw [if_neg e]
   by_cases f : a < i ∨ (a = i /\ b < y)
   ·rw [if_pos f, if_pos (by omega)]
   ·rw [if_neg f, if_neg (by omega)]
 rw [T_ite]
 refine ⟨fun e => ?_, fun e => ?_⟩
 ·have c := ho.1 e
  rw [eik, ekj, eij]
  simp only [T_G, T_some, Sum.elim_inl]
  refine ⟨by omega, by omega, by omega, by omega, by omega, by omega, by omega, ⟨by omega, by omega, next _ ?_ _ (hr.upd i0 i1 y0 hy)⟩, by omega⟩
  unfold thv; rw [if_pos c]
 ·have c : ¬ (E i k ≠ 18446744073709551615 /\ E k y ≠ 18446744073709551615) := fun q => e (ho.2 q)
  simp only [T_G, T_some, Sum.elim_inl]
  refine ⟨by omega, ⟨by omega, by omega, hr.congr fun a b _ _ _ _ => ?_⟩, by omega⟩
  try dsimp only
  by_cases f : a = i /\ b = y
  ·obtain ⟨rfl, rfl⟩ := f
   rw [if_neg (by omega), if_pos (by omega)]
   unfold thv; rw [if_neg c]
  ·by_cases g : a < i ∨ (a = i /\ b < y)
   ·rw [if_pos g, if_pos (by omega)]
   ·rw [if_neg g, if_neg (by omega)]
def DistX (D : List Bool) (X : List OAr) (M : List (List Int)) : Prop := ∃ E B, B ≤ 9000000000000000000 /\ IsM D.length M (mskE D E) /\ FwI D.length (a3 X) B D.length E
theorem p_DistX (ok : XOk D X W) (hW : W ≤ 140737488355328) (W0 : 0 ≤ W) (hX : X.length ≤ 1000000000) (hN : D.length ≤ 12) : T (z_viaductref11_Distances D X) (DistX D X) := by
 have n0 : (0 : Int) ≤ (D.length : Int) := by omega
 unfold z_viaductref11_Distances
 rw [T_G]
 refine ⟨by omega, T_bindr _ (p_fxInit (by omega)) fun M0 h0 => T_bindr _ (p_fxArcs ok hW W0 hX h0) ?_⟩
 rintro M1 ⟨E1, h1, h2, h2d⟩
 have hl := h1.1
 refine T_bindr (DistX D X) ?_ fun r hr => by simpa using hr
 refine T_loop (fun z => 0 ≤ z.2 /\ z.2 ≤ (D.length : Int) /\ ∃ E, IsM D.length z.1 (mskE D E) /\ FwI D.length (a3 X) (W * 2 ^ z.2.toNat) z.2 E /\ DeadR D E) (fun z => ((D.length : Int) - z.2).toNat) ?_ ⟨by simp, n0, E1, h1, by simpa using h2, h2d⟩
 rintro ⟨d, x⟩ ⟨x0, x1, E, h3, h4, h5⟩
 dsimp only at *
 have hpow : (2 : Int) ^ x.toNat ≤ 2 ^ 12 := by
  have : (2 : Nat) ^ x.toNat ≤ 2 ^ 12 := Nat.pow_le_pow_right (by decide) (by omega)
  exact_mod_cast this
 have hpow0 : (0 : Int) < 2 ^ x.toNat := Int.pow_pos (by decide)
 have hB : W * 2 ^ x.toNat ≤ 140737488355328 * 2 ^ 12 := Int.le_trans (Int.mul_le_mul_of_nonneg_right hW (by omega)) (Int.mul_le_mul_of_nonneg_left hpow (by omega))
 have hB2 : (140737488355328 : Int) * 2 ^ 12 ≤ 9000000000000000000 := by decide
 unfold z_viaductref11_Distances_l5
 rw [hl, T_ite]
 refine ⟨fun hx => ?_, fun hx => ?_⟩
 rotate_left
 ·simp only [T_some, Sum.elim_inr]
  have : x = (D.length : Int) := by omega
  subst this
  exact ⟨E, _, by omega, h3, h4⟩
 have hdl := h3.1
 have kk := h4.dia x x0 hx
 have hrng : ∀ i j, 0 ≤ i -> i < (D.length : Int) -> 0 ≤ j -> j < (D.length : Int) -> mskE D E i j = 18446744073709551615 ∨ (0 ≤ mskE D E i j /\ mskE D E i j ≤ W * 2 ^ x.toNat) := fun i j i0 i1 j0 j1 => by
  unfold mskE
  split
  ·exact .inl rfl
  ·exact h4.rng i j i0 i1 j0 j1
 have kk2 : mskE D E x x = 0 ∨ mskE D E x x = 18446744073709551615 := by
  unfold mskE
  split
  ·exact .inr rfl
  ·exact .inl kk
 refine T_bindr (fun r => IsM D.length r (thv (mskE D E) x)) ?_ ?_
 ·refine T_loop (fun z => 0 ≤ z.2 /\ z.2 ≤ (D.length : Int) /\ IsM D.length z.1 fun a b => if a < z.2 then thv (mskE D E) x a b else mskE D E a b) (fun z => ((D.length : Int) - z.2).toNat) ?_ ⟨by simp, n0, h3.congr fun a b a0 _ _ _ => by (try dsimp only); rw [if_neg (by omega)]⟩
  rintro ⟨r, y⟩ ⟨y0, y1, hr⟩
  dsimp only at *
  unfold z_viaductref11_Distances_l4
  rw [hdl, T_ite]
  refine ⟨fun hy => ?_, fun hy => ?_⟩
  ·refine T_bindr _ (p_fxRow hrng kk2 (by omega) x0 hx (by omega) y0 hy hr) fun q hq => ?_
   simp only [T_G, T_some, Sum.elim_inl]
   exact ⟨by omega, ⟨by omega, by omega, hq⟩, by omega⟩
  ·simp only [T_some, Sum.elim_inr]
   exact hr.congr fun a b _ a1 _ _ => by (try dsimp only); rw [if_pos (by omega)]
 ·intro r hr
  simp only [T_G, T_some, Sum.elim_inl]
  refine ⟨by omega, ⟨by omega, by omega, thv E x, hr.congr fun i j i0 i1 j0 j1 => thv_msk (N := D.length) kk h5 (fun i j i0 i1 j0 j1 => by have := h4.rng i j i0 i1 j0 j1; omega) i0 i1 j0 j1, ?_, h5.next kk⟩, by omega⟩
  have := h4.next (by omega) x0 hx fun a hA => by
   obtain ⟨x', y', w'⟩ := a
   obtain ⟨b, hb, e1, e2, e3⟩ := mem_a3.1 hA
   obtain ⟨a1, a2, b3, b4, _⟩ := ok.en b hb
   dsimp only
   rw [← e1, ← e2]
   exact ⟨⟨a1, a2⟩, b3, b4⟩
  rw [show (x + 1).toNat = x.toNat + 1 from by omega, Int.pow_succ]
  have e : (W * (2 ^ x.toNat * 2) : Int) = W * 2 ^ x.toNat + W * 2 ^ x.toNat := by rw [← Int.mul_assoc]; omega
  rw [e]; exact this
theorem FwI.lowX {B : Int} (h : FwI N A B N E) (hb : B ≤ 9000000000000000000) (ha : ∀ a ∈ A, (0 ≤ a.1 /\ a.1 < N) /\ 0 ≤ a.2.1 /\ a.2.1 < N /\ 0 ≤ a.2.2 /\ a.2.2 ≤ 140737488355328) (i0 : 0 ≤ i) (i1 : i < N) {d : Int} (w : Wk A i j d) :
  (0 ≤ j /\ j < N) /\ (E i j ≤ d) /\ E i j ≠ 18446744073709551615 := by
 induction w with
 | refl => have := h.dia _ i0 i1; exact ⟨⟨i0, i1⟩, by omega, by omega⟩
 | step u e x w _ hm ih =>
  obtain ⟨⟨u0, u1⟩, h1, h2⟩ := ih
  obtain ⟨⟨_, _⟩, a3, a4, a5, a6⟩ := ha _ hm
  have h3 := h.arc _ hm
  dsimp only at *
  have r1 := h.rng _ x i0 i1 a3 a4
  have r2 := h.rng _ u i0 i1 u0 u1
  have r3 := h.rng u x u0 u1 a3 a4
  have := h.tri u u0 u1 _ x i0 i1 a3 a4 h2 (by omega)
  exact ⟨⟨a3, a4⟩, by omega, by omega⟩
end Go.Vd

/-! (PrShortsDistances) -/

set_option linter.unusedVariables false
set_option linter.unusedSimpArgs false
set_option maxHeartbeats 1000000
namespace Go.Vd
variable {nodes : List Nod} {alive arcs : Int} {A : List Bool} {M : List OAr} {N v hops settles x1 x2 x3 : Int} {Arcs : List A3} {list : List Int}
def SameD (Arcs : List A3) (A : List Bool) (M : List OAr) : Prop :=
 (∀ i j d, liveB A i -> liveB A j -> Wk Arcs i j d -> ∃ e, Wk (a3 M) i j e /\ e ≤ d) /\ ∀ i j d, Wk (a3 M) i j d -> ∃ e, Wk Arcs i j e /\ e ≤ d
structure KeepD (N : Int) (Arcs : List A3) (nodes : List Nod) (alive arcs : Int) (A : List Bool) (M : List OAr) : Prop where
 ov : OvR nodes alive arcs A M
 ln : (A.length : Int) = N
 sd : SameD Arcs A M
 wt : ∀ a ∈ M, a.2.2.1 ≤ 2147483647 * 2 ^ (N - alive).toNat
theorem a3_up (L : List A3) : a3 (L.map up4) = L := by
 unfold a3; rw [List.map_map]
 have : ((fun a : OAr => (a.1, a.2.1, a.2.2.1)) ∘ up4) = id := by funext a; rfl
 rw [this, List.map_id]
theorem KeepD.ctr (h : KeepD N Arcs nodes alive arcs A M) (hN : N ≤ 12) (hs : settles ≤ 9223372036854775807) {r : List (Int × Int × Int) × Er × List Nod × Int × Int} (hr : CtrR nodes alive arcs A M v hops settles r) :
  ∃ A' M', KeepD N Arcs r.2.2.1 r.2.2.2.1 r.2.2.2.2 A' M' /\ ¬ liveB A' v /\ (r.2.1 = .nil ↔ liveB A v) := by
 have hov := h.ov
 have hal := hov.al
 have hln := h.ln
 cases hr with
 | bad hn => exact ⟨A, M, h, hn, by simp, fun k => absurd k hn⟩
 | ok nd al ar hv h' =>
  have hdead : ¬ liveB (A.set v.toNat false) v := fun hh => by
   have := hh.2.2
   rw [gt_setB hv.1 hv.2.1 hv.1, if_pos rfl] at this
   cases this
  have hal' := h'.al
  have hvl : v.toNat < A.length := by have := hv.2.1; have := hv.1; omega
  have hcs := count_set hvl (by
   have := hv.2.2
   unfold gt at this
   rw [List.getD_eq_getElem?_getD, List.getElem?_eq_getElem hvl] at this
   exact this)
  have hfl : (A.filter id).length ≤ A.length := List.length_filter_le _ _
  dsimp only
  have hpw : (2 : Int) ^ (N - al).toNat = 2 * 2 ^ (N - alive).toNat := by
   rw [show (N - al).toNat = (N - alive).toNat + 1 from by omega, Int.pow_succ]; omega
  have hp11 : (2 : Int) ^ (N - alive).toNat ≤ 2 ^ 11 := by
   have : (2 : Nat) ^ (N - alive).toNat ≤ 2 ^ 11 := Nat.pow_le_pow_right (by decide) (by omega)
   exact_mod_cast this
  have hp0 : (0 : Int) < 2 ^ (N - alive).toNat := Int.pow_pos (by decide)
  have hsm : ∀ a ∈ M, a.2.2.1 ≤ 70368744177664 := fun a ha => by have := h.wt a ha; omega
  have lv : ∀ i, liveB (A.set v.toNat false) i -> liveB A i /\ i ≠ v := fun i hi => by
   have hne : i ≠ v := fun e => hdead (by subst e; exact hi)
   have h1 := hi.2.1
   rw [List.length_set] at h1
   have h2 := hi.2.2
   rw [gt_setB hv.1 hv.2.1 hi.1, if_neg hne] at h2
   exact ⟨⟨hi.1, h1, h2⟩, hne⟩
  refine ⟨_, _, ⟨h', by rw [List.length_set]; exact hln, ⟨fun i j d hi hj k => ?_, fun i j d k => h.sd.2 i j d (ctr_down hov k)⟩, fun a ha => ?_⟩, hdead, fun _ => hv, fun _ => rfl⟩
  ·obtain ⟨i1, i2⟩ := lv i hi
   obtain ⟨j1, j2⟩ := lv j hj
   obtain ⟨e, e1, e2⟩ := h.sd.1 i j d i1 j1 k
   obtain ⟨f, f1, f2⟩ := (ctr_up (hops := bnd hops) (settles := bnd settles) hov bnd_le hsm i2 e1).1 j2
   exact ⟨f, f1, by omega⟩
  ·have := ctr_w (W := 2147483647 * 2 ^ (N - alive).toNat) hov h.wt (by omega) a ha
   rw [hpw]; omega
theorem p_now (h : OvR nodes alive arcs A M) (hln : (A.length : Int) = N) (hN : N ≤ 12) {y138 : List (Int × Int × Int) × Er × List Nod × Int × Int} (e1 : y138.2.2 = (nodes, alive, arcs)) :
  T (loopO (fun zz_ => z_viaductlaw13_ShortsDistances_l1 N y138 zz_.1 zz_.2.1 zz_.2.2) ((List.replicate N.toNat (false : Bool)), [], 0)) fun r => ∃ X, r = .inr (A, X) /\ X.length ≤ 2000 /\ ∀ a, a ∈ X ↔ ∃ b ∈ M, a = (b.1, b.2.1, b.2.2.1, 0) := by
 obtain ⟨y1, y2, y3⟩ := y138
 dsimp only at e1
 subst e1
 have hfew := h.few
 have hsq : A.length * A.length ≤ 12 * 12 := Nat.mul_le_mul (by omega) (by omega)
 refine T_loop (fun z => 0 ≤ z.2.2 /\ z.2.2 ≤ N /\ (z.1.length : Int) = N /\ (∀ u, 0 ≤ u -> u < N -> gt z.1 u = if u < z.2.2 then gt A u else false) /\ (z.2.1.length : Int) ≤ 144 * z.2.2 /\ ∀ a, a ∈ z.2.1 ↔ ∃ b ∈ M, b.1 < z.2.2 /\ a = (b.1, b.2.1, b.2.2.1, 0)) (fun z => (N - z.2.2).toNat) ?_ ⟨by simp, by simp; omega, by simp; omega, fun u u0 u1 => by (try dsimp only); rw [if_neg (by omega)]; unfold gt; rw [List.getD_eq_getElem?_getD, List.getElem?_replicate]; split <;> rfl, by simp, fun a => by
  constructor
  ·intro k; cases k
  ·rintro ⟨b, hb, h1, _⟩
   have := (h.en b hb).1
   dsimp only at h1
   omega⟩
 rintro ⟨n2, n3, i⟩ ⟨i0, i1, l2, g2, l3, m3⟩
 dsimp only at *
 unfold z_viaductlaw13_ShortsDistances_l1
 dsimp only
 rw [T_ite]
 refine ⟨fun hlt => ?_, fun hge => ?_⟩
 rotate_left
 ·simp only [T_some, Sum.elim_inr]
  have hA : n2 = A := list_gtE (by omega) fun u u0 u1 => by rw [g2 u u0 (by omega), if_pos (by omega)]
  refine ⟨n3, by rw [hA], by omega, fun a => (m3 a).trans ⟨fun ⟨b, b1, b2, b3⟩ => ⟨b, b1, b3⟩, fun ⟨b, b1, b3⟩ => ⟨b, b1, ?_, b3⟩⟩⟩
  have := (h.en b b1).2.1
  omega
 rw [p_Alive h, Option.bind_some, T_G]
 refine ⟨by omega, ?_⟩
 rw [p_Out h, Option.bind_some]
 have hol : (outL M i).length ≤ 144 := Nat.le_trans (outL_le h.kd i) (by omega)
 refine T_binds (fun r => (r.length : Int) ≤ n3.length + (outL M i).length /\ ∀ a, a ∈ r ↔ (a ∈ n3 ∨ ∃ b ∈ outL M i, a = (i, b.1, b.2.1, 0))) ?_ ?_
 ·refine T_loop (fun z => 0 ≤ z.2 /\ z.2 ≤ ((outL M i).length : Int) /\ (z.1.length : Int) ≤ n3.length + z.2 /\ ∀ a, a ∈ z.1 ↔ (a ∈ n3 ∨ ∃ b ∈ (outL M i).take z.2.toNat, a = (i, b.1, b.2.1, 0))) (fun z => (((outL M i).length : Int) - z.2).toNat) ?_ ⟨by simp, by simp, by simp, fun a => by simp⟩
  rintro ⟨q, j⟩ ⟨j0, j1, q1, q2⟩
  dsimp only at *
  unfold z_viaductlaw13_ShortsDistances_l0
  rw [T_ite]
  refine ⟨fun hj => ?_, fun hj => ?_⟩
  rotate_left
  ·simp only [T_some, Sum.elim_inr]
   rw [List.take_of_length_le (by omega)] at q2
   exact ⟨by omega, q2⟩
  have hm : gt (outL M i) j ∈ outL M i := gt_memX j0 hj
  have hen := h.en _ ((mem_outL h.kd).1 hm)
  have hs := take_gtW j0 hj
  generalize gt (outL M i) j = b at *
  dsimp only at hen
  rw [T_G]
  refine ⟨j0, ?_⟩
  rw [if_neg (by omega), Option.bind_some, if_neg (by simp; omega)]
  simp only [T_G, T_some, Sum.elim_inl]
  refine ⟨by omega, by omega, ⟨by omega, by omega, by rw [List.length_append]; simp; omega, fun a => ?_⟩, by omega⟩
  rw [hs, List.mem_append, q2 a]
  constructor
  ·rintro ((k | ⟨b', k1, k2⟩) | k)
   ·exact .inl k
   ·exact .inr ⟨b', List.mem_append_left _ k1, k2⟩
   ·exact .inr ⟨b, by simp, List.mem_singleton.1 k⟩
  ·rintro (k | ⟨b', k1, k2⟩)
   ·exact .inl (.inl k)
   ·rcases List.mem_append.1 k1 with k1 | k1
    ·exact .inl (.inr ⟨b', k1, k2⟩)
    ·rw [List.mem_singleton.1 k1] at k2
     exact .inr (List.mem_singleton.2 k2)
 ·rintro q ⟨q1, q2⟩
  simp only [T_G, T_some, Sum.elim_inl]
  refine ⟨by omega, ⟨by omega, by omega, by simpa using l2, fun u u0 u1 => ?_, by omega, fun a => ?_⟩, by omega⟩
  ·rw [gt_setE i0 (by omega) u0]
   by_cases e : u = i
   ·rw [if_pos e, if_pos (by omega), e]
    cases hA : gt A i with
    | true => exact decide_eq_true ⟨i0, by omega, hA⟩
    | false => exact decide_eq_false fun k => by have := k.2.2; rw [hA] at this; cases this
   ·rw [if_neg e, g2 u u0 u1]
    by_cases f : u < i
    ·rw [if_pos f, if_pos (by omega)]
    ·rw [if_neg f, if_neg (by omega)]
  ·rw [q2 a, m3 a]
   constructor
   ·rintro (⟨b, b1, b2, b3⟩ | ⟨b, b1, b2⟩)
    ·exact ⟨b, b1, by omega, b3⟩
    ·exact ⟨(i, b), (mem_outL h.kd).1 b1, by (try dsimp only); omega, b2⟩
   ·rintro ⟨b, b1, b2, b3⟩
    by_cases e : b.1 = i
    ·refine .inr ⟨b.2, (mem_outL h.kd).2 (by rw [← e]; exact b1), by rw [b3, e]⟩
    ·exact .inl ⟨b, b1, by omega, b3⟩
theorem p_ShortsDistances (hl0 : settles ≤ 9223372036854775807) : z_viaductlaw13_ShortsDistances N Arcs list hops settles x1 x2 x3 = some true := by
 refine T_eq.1 ?_
 unfold z_viaductlaw13_ShortsDistances
 refine T_bindr (fun b => b = false -> (GChk N Arcs .nil /\ N ≤ 12 /\ (Arcs.length : Int) ≤ 2000) /\ (list.length : Int) ≤ 40) ?_ ?_
 ·refine T_bindr _ p_Few fun f hf => ?_
  rw [T_ite]
  refine ⟨fun h => ?_, fun h => ?_⟩
  ·simp only [T_some]
   intro hd
   exact ⟨hf.1 h, by simpa using hd⟩
  ·simp only [T_some]
   intro hd; cases hd
 intro b hb
 rw [T_ite]
 refine ⟨fun _ => by simp, fun hb' => ?_⟩
 obtain ⟨⟨hc, hN, ha⟩, hl⟩ := hb (by simpa using hb')
 obtain ⟨n0, _, _⟩ := hc.small
 refine T_bindr _ p_New ?_
 intro r hr
 cases hr with
 | bad er c n => exact absurd (c.uniq hc) n
 | ok M nodes _ k l h =>
 rw [Sum.elim_inr]
 have hin := arcs_in hc
 refine T_bindr _ (p_Distances hc hN) ?_
 rintro Y ⟨E0, B0, hB0, hY, hF⟩
 have hK0 : KeepD N Arcs nodes N (M.length : Int) (List.replicate N.toNat true) (M.map up4) := by
  refine ⟨h, by simp; omega, ?_, fun a ha => ?_⟩
  ·unfold SameD
   rw [a3_up]
   exact ⟨fun i j d _ _ w => w.nrm k fun a ha => (hin a ha).2.2.2.1, fun i j d w => ⟨d, w.sub fun a ha => (k.sub a ha).1, Int.le_refl _⟩⟩
  ·obtain ⟨b, hb, rfl⟩ := List.mem_map.1 ha
   have := (hin _ (k.sub b hb).1).2.2.2.2
   rw [Int.sub_self]
   unfold up4
   simpa using this
 refine T_binds (fun _ => True) ?_ fun _ _ => by simp
 refine T_loop (fun z => 0 ≤ z.1 /\ z.1 ≤ (list.length : Int) /\ ∃ A M, KeepD N Arcs z.2.1 z.2.2.1 z.2.2.2 A M) (fun z => ((list.length : Int) - z.1).toNat) ?_ ⟨by simp, by simp, _, _, hK0⟩
 rintro ⟨i, o, al, ar⟩ ⟨i0, i1, A, M', hK⟩
 dsimp only at *
 clear hK0 h
 unfold z_viaductlaw13_ShortsDistances_l4
 rw [T_ite]
 refine ⟨fun hlt => ?_, fun hge => by simp⟩
 rw [T_G]
 refine ⟨i0, ?_⟩
 generalize gt list i = v
 have hln := hK.ln
 rw [p_Alive hK.ov, Option.bind_some]
 refine T_bindr _ (p_Contract (v := v) (hops := hops) (settles := settles) hK.ov (by omega)) ?_
 intro r hr
 obtain ⟨A2, M2, hK2, hdead, hiff⟩ := hK.ctr hN hl0 hr
 obtain ⟨l1, er, o2, al2, ar2⟩ := r
 clear hr
 dsimp only at hK2 hdead hiff ⊢
 refine T_bindr (fun o => o = false) ?_ ?_
 ·by_cases he : er = .nil
  ·rw [if_pos he, if_pos (decide_eq_true (hiff.1 he)).symm, p_Alive hK2.ov, Option.bind_some]
   simp only [T_some]
   exact decide_eq_false hdead
  ·rw [if_neg he, if_pos (decide_eq_false fun k => he (hiff.2 k)).symm, p_Alive hK2.ov, Option.bind_some]
   simp only [T_some]
   exact decide_eq_false hdead
 rintro _ rfl
 have hln2 := hK2.ln
 rw [if_neg (by decide), T_G]
 refine ⟨by omega, ?_⟩
 refine T_bindr _ (p_now hK2.ov hln2 hN rfl) ?_
 rintro _ ⟨X, rfl, hXl, hX⟩
 rw [Sum.elim_inr]
 dsimp only
 have hok : XOk A2 X 140737488355328 := ⟨fun a ha => by
  obtain ⟨b, hb, rfl⟩ := (hX a).1 ha
  obtain ⟨q1, q2, q3, q4, q5, q6, q7, q8, q9, _⟩ := hK2.ov.en b hb
  exact ⟨q1, q2, q3, q4, q5, q6, q7, q8, q9⟩⟩
 have hXa : ∀ a, a ∈ a3 X ↔ a ∈ a3 M2 := fun a => by
  obtain ⟨x, y, w⟩ := a
  rw [mem_a3, mem_a3]
  constructor
  ·rintro ⟨c, hc, e1, e2, e3⟩
   obtain ⟨b, hb, rfl⟩ := (hX c).1 hc
   exact ⟨b, hb, e1, e2, e3⟩
  ·rintro ⟨b, hb, e1, e2, e3⟩
   exact ⟨_, (hX _).2 ⟨b, hb, rfl⟩, e1, e2, e3⟩
 refine T_bindr _ (p_DistX hok (Int.le_refl _) (by decide) (by omega) (by omega)) ?_
 rintro Z ⟨E1, B1, hB1, hZ, hG⟩
 have hZl := hZ.1
 have hYl := hY.1
 have hin1 : ∀ a ∈ a3 X, (0 ≤ a.1 /\ a.1 < (A2.length : Int)) /\ 0 ≤ a.2.1 /\ a.2.1 < (A2.length : Int) /\ 0 ≤ a.2.2 /\ a.2.2 ≤ 140737488355328 := fun a ha => by
  obtain ⟨x, y, w⟩ := a
  obtain ⟨c, hc, e1, e2, e3⟩ := mem_a3.1 ha
  have := hok.en c hc
  dsimp only
  omega
 have eq : ∀ i j, 0 ≤ i -> i < N -> 0 ≤ j -> j < N -> gt A2 i = true -> gt A2 j = true -> gt (gt Z i) j = gt (gt Y i) j := fun i j i0 i1 j0 j1 hi hj => by
  rw [(hZ.2 i i0 (by omega)).2 j j0 (by omega), (hY.2 i i0 i1).2 j j0 j1]
  have e1 : mskE A2 E1 i j = E1 i j := by unfold mskE; rw [if_neg fun q => q.2 hi]
  rw [e1]
  have r1 := hG.rng i j i0 (by omega) j0 (by omega)
  have r0 := hF.rng i j i0 i1 j0 j1
  have li : liveB A2 i := ⟨i0, by omega, hi⟩
  have lj : liveB A2 j := ⟨j0, by omega, hj⟩
  have u1 : E0 i j ≤ E1 i j := by
   by_cases e : E1 i j = 18446744073709551615
   ·omega
   ·obtain ⟨f, f1, f2⟩ := hK2.sd.2 i j _ ((hG.snd i j i0 (by omega) j0 (by omega) e).sub fun a ha => (hXa a).1 ha)
    have := (hF.low hB0 hin i0 i1 f1).2.1
    omega
  have u2 : E1 i j ≤ E0 i j := by
   by_cases e : E0 i j = 18446744073709551615
   ·omega
   ·obtain ⟨f, f1, f2⟩ := hK2.sd.1 i j _ li lj (hF.snd i j i0 i1 j0 j1 e)
    have := (hG.lowX hB1 hin1 i0 (by omega) (f1.sub fun a ha => (hXa a).2 ha)).2.1
    omega
  omega
 refine T_binds (fun _ => True) ?_ fun _ _ => ?_
 rotate_left
 ·simp only [T_G, T_some, Sum.elim_inl]
  exact ⟨by omega, ⟨by omega, by omega, A2, M2, hK2⟩, by omega⟩
 refine T_loop (fun x => 0 ≤ x /\ x ≤ N) (fun x => (N - x).toNat) ?_ ⟨by simp, n0⟩
 rintro x ⟨x0, x1⟩
 unfold z_viaductlaw13_ShortsDistances_l3
 rw [hZl, T_ite]
 refine ⟨fun hx => ?_, fun hx => by simp⟩
 refine T_binds (fun _ => True) ?_ fun _ _ => ?_
 rotate_left
 ·simp only [T_G, T_some, Sum.elim_inl]
  exact ⟨by omega, ⟨by omega, by omega⟩, by omega⟩
 refine T_loop (fun y => 0 ≤ y /\ y ≤ N) (fun y => (N - y).toNat) ?_ ⟨by simp, n0⟩
 rintro y ⟨y0, y1⟩
 unfold z_viaductlaw13_ShortsDistances_l2
 dsimp only
 rw [hZl, T_ite]
 refine ⟨fun hy => ?_, fun hy => by simp⟩
 have z1 := (hZ.2 x x0 (by omega)).1
 have y1' := (hY.2 x x0 (by omega)).1
 simp only [T_G, T_ite, T_map, T_some, Sum.elim_inl, Sum.elim_inr]
 exact ⟨by omega, fun hx1 => ⟨by omega, fun hy1 => ⟨by omega, by omega, by omega, fun _ => ⟨by omega, ⟨by omega, by omega⟩, by omega⟩, fun hn => absurd (eq x y x0 (by omega) y0 (by omega) hx1 hy1) hn⟩, fun _ => ⟨by omega, ⟨by omega, by omega⟩, by omega⟩⟩, fun _ => ⟨by omega, ⟨by omega, by omega⟩, by omega⟩⟩
end Go.Vd
