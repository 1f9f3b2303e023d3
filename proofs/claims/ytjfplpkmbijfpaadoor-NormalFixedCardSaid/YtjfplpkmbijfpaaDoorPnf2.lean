/- Lists and places. Plain Lean: no program here. -/
import Derived.Test.YtjfplpkmbijfpaaDoorPnf1
import Derived.Test.YtjfplpkmbijfpaaDoorSo0
import Derived.Test.YtjfplpkmbijfpaaDoorVdQ
import Derived.Test.YtjfplpkmbijfpaaDoorINf
import Derived.Test.YtjfplpkmbijfpaaDoorVpB
set_option linter.unusedVariables false
set_option linter.unusedSimpArgs false
set_option linter.unusedSectionVars false
/-! (Mo0) -/

namespace Go.Vd
theorem take_gtE {E : Type} [Inhabited E] {l : List E} {i : Int} (h0 : 0 ≤ i) (h1 : i < (l.length : Int)) : l.take (i + 1).toNat = l.take i.toNat ++ [gt l i] := by
  have hi : i.toNat < l.length := by omega
  rw [show (i + 1).toNat = i.toNat + 1 from by omega, List.take_add_one, List.getElem?_eq_getElem hi]
  have : gt l i = l[i.toNat] := by simp [gt, List.getD_eq_getElem?_getD, hi]
  rw [this]; rfl
theorem gt_setE {E : Type} [Inhabited E] {l : List E} {i j : Int} {v : E} (i0 : 0 ≤ i) (i1 : i < (l.length : Int)) (j0 : 0 ≤ j) : gt (l.set i.toNat v) j = if j = i then v else gt l j := by
  unfold gt
  rw [List.getD_eq_getElem?_getD, List.getD_eq_getElem?_getD, List.getElem?_set]
  by_cases h : j = i
  · subst h; rw [if_pos rfl, if_pos rfl, if_pos (by omega)]; rfl
  · rw [if_neg h, if_neg (by omega)]
theorem list_gtE {E : Type} [Inhabited E] {l m : List E} (hl : l.length = m.length) (h : ∀ j : Int, 0 ≤ j → j < (l.length : Int) → gt l j = gt m j) : l = m := by
  refine List.ext_getElem hl fun j h1 h2 => ?_
  have := h (j : Int) (by omega) (by omega)
  rwa [gt_nat h1, gt_nat h2] at this
end Go.Vd

/-! (So1) -/

set_option linter.unusedVariables false
set_option linter.unusedSimpArgs false
namespace Go.Vd

theorem p_Compare {x y : Int} : z_cmp_Compare x y = some (if x < y then -1 else if x > y then 1 else 0) := by
  unfold z_cmp_Compare z_cmp_isNaN
  simp only [Option.bind_some]
  simp
  by_cases h1 : x < y
  · simp [h1]
  · by_cases h2 : y < x <;> simp [h1, h2]
theorem p_Or3 {a b c : Int} : z_cmp_Or [a, b, c] = some (if a ≠ 0 then a else if b ≠ 0 then b else c) := by
  unfold z_cmp_Or
  have h3 : z_cmp_Or_l0 [a, b, c] 3 = some (Sum.inr (Sum.inr ())) := by unfold z_cmp_Or_l0; rw [if_neg (by simp)]
  have step : ∀ i : Int, 0 ≤ i → i < 3 → z_cmp_Or_l0 [a, b, c] i = if gt [a, b, c] i = 0 then some (Sum.inl (i + 1)) else some (Sum.inr (Sum.inl (gt [a, b, c] i))) := fun i i0 i1 => by
    unfold z_cmp_Or_l0 G
    rw [if_pos (by simp; omega), if_pos i0]
    split
    · rw [if_pos (by omega)]
    · rfl
  have g0 : gt [a, b, c] 0 = a := rfl
  have g1 : gt [a, b, c] 1 = b := rfl
  have g2 : gt [a, b, c] 2 = c := rfl
  rw [loopO_eq, step 0 (by omega) (by omega), g0]
  by_cases ha : a = 0
  · rw [if_pos ha, if_neg (by simp [ha]), Option.bind_some, Sum.elim_inl, show (0 : Int) + 1 = 1 from rfl, loopO_eq, step 1 (by omega) (by omega), g1]
    by_cases hb : b = 0
    · rw [if_pos hb, if_neg (by simp [hb]), Option.bind_some, Sum.elim_inl, show (1 : Int) + 1 = 2 from rfl, loopO_eq, step 2 (by omega) (by omega), g2]
      by_cases hc : c = 0
      · rw [if_pos hc, Option.bind_some, Sum.elim_inl, show (2 : Int) + 1 = 3 from rfl, loopO_eq, h3]
        simp [hc]
      · rw [if_neg hc]; simp
    · rw [if_neg hb, if_pos hb]; simp
  · rw [if_neg ha, if_pos ha]; simp

/-- Three numbers in order. -/
def lt3 (x y : Int × Int × Int) : Prop := x.1 < y.1 ∨ (x.1 = y.1 ∧ (x.2.1 < y.2.1 ∨ (x.2.1 = y.2.1 ∧ x.2.2 < y.2.2)))
instance (x y : Int × Int × Int) : Decidable (lt3 x y) := by unfold lt3; infer_instance
noncomputable abbrev ord3 : Int × Int × Int → Int × Int × Int → Option Int := fun a_ b_ => z_normal_order a_.1 a_.2.1 a_.2.2 b_.1 b_.2.1 b_.2.2

theorem p_order (x y : Int × Int × Int) : ∃ r, ord3 x y = some r ∧ (r < 0 ↔ lt3 x y) := by
  unfold ord3 z_normal_order
  simp only [p_Compare, Option.bind_some, p_Or3]
  refine ⟨_, rfl, ?_⟩
  unfold lt3
  by_cases a1 : x.1 < y.1
  · simp [a1]
  · by_cases a2 : x.1 > y.1
    · have : ¬ x.1 = y.1 := by omega
      simp [a1, a2, this]
    · have e : x.1 = y.1 := by omega
      by_cases b1 : x.2.1 < y.2.1
      · simp [e, b1]
      · by_cases b2 : x.2.1 > y.2.1
        · have : ¬ x.2.1 = y.2.1 := by omega
          simp [e, b1, b2, this]
        · have e2 : x.2.1 = y.2.1 := by omega
          by_cases c1 : x.2.2 < y.2.2
          · simp [e, e2, c1]
          · by_cases c2 : x.2.2 > y.2.2 <;> simp [e, e2, c1, c2]
theorem ord3_lt (x y : Int × Int × Int) : (ord3 x y).getD 0 < 0 ↔ lt3 x y := by
  obtain ⟨r, h1, h2⟩ := p_order x y
  rw [h1]; exact h2
theorem ord3_ok : SortOk ord3 :=
  { ans := fun x y => let ⟨r, h, _⟩ := p_order x y; ⟨r, h⟩
    irr := fun x => by rw [ord3_lt]; unfold lt3; omega
    trn := fun x y z => by rw [ord3_lt, ord3_lt, ord3_lt]; unfold lt3; omega
    ntr := fun x y z => by rw [ord3_lt, ord3_lt, ord3_lt]; unfold lt3; omega
    tot := fun x y h1 h2 => by
      rw [ord3_lt] at h1 h2
      obtain ⟨x1, x2, x3⟩ := x
      obtain ⟨y1, y2, y3⟩ := y
      unfold lt3 at h1 h2
      dsimp only at h1 h2
      simp only [Prod.mk.injEq]
      omega }
theorem p_sort (xs : List (Int × Int × Int)) : sortO (fun (a_ b_ : Int × Int × Int) => z_normal_order a_.1 a_.2.1 a_.2.2 b_.1 b_.2.1 b_.2.2) xs = some (sortL ord3 xs) := sortO_ok ord3_ok xs
theorem sort_rise (xs : List (Int × Int × Int)) : (sortL ord3 xs).Pairwise fun x y => ¬ lt3 y x := (sortL_sorted ord3_ok xs).imp fun h => by rwa [ord3_lt] at h

/-- Of the same two nodes. -/
def key2 (x y : Int × Int × Int) : Prop := x.1 = y.1 ∧ x.2.1 = y.2.1
instance (x y : Int × Int × Int) : Decidable (key2 x y) := by unfold key2; infer_instance
theorem p_like {x y : Int × Int × Int} : z_normal_Of_1 x.1 x.2.1 x.2.2 y.1 y.2.1 y.2.2 = some (decide (key2 x y)) := by
  unfold z_normal_Of_1 key2
  by_cases h : x.1 = y.1 <;> simp [h]

/-- What is left of the first k, when of neighbours that are alike the first stays. -/
def cpt (s : List (Int × Int × Int)) : Nat → List (Int × Int × Int)
  | 0 => []
  | k + 1 => cpt s k ++ if k ≠ 0 ∧ key2 (gt s (k : Int)) (gt s ((k : Int) - 1)) then [] else [gt s (k : Int)]
theorem cpt_len (s : List (Int × Int × Int)) (k : Nat) : (cpt s k).length ≤ k := by
  induction k with
  | zero => simp [cpt]
  | succ k ih =>
    simp only [cpt, List.length_append]
    split <;> simp <;> omega
theorem cpt_next {s : List (Int × Int × Int)} {i : Int} (i0 : 0 ≤ i) : cpt s (i + 1).toNat = cpt s i.toNat ++ if i ≠ 0 ∧ key2 (gt s i) (gt s (i - 1)) then [] else [gt s i] := by
  rw [show (i + 1).toNat = i.toNat + 1 from by omega]
  simp only [cpt]
  rw [show ((i.toNat : Nat) : Int) = i from by omega]
  have : i.toNat ≠ 0 ↔ i ≠ 0 := by omega
  simp only [ne_eq, this]

theorem gt_drop {E : Type} [Inhabited E] {l : List E} {k j : Int} (k0 : 0 ≤ k) (j0 : 0 ≤ j) : gt (l.drop k.toNat) j = gt l (k + j) := by
  unfold gt
  rw [List.getD_eq_getElem?_getD, List.getD_eq_getElem?_getD, List.getElem?_drop, show k.toNat + j.toNat = (k + j).toNat from by omega]

theorem p_Compact {s : List (Int × Int × Int)} (hl : s.length ≤ 1000000000000) : T (z_slices_CompactFunc s) fun r => r.1 = cpt s s.length := by
  unfold z_slices_CompactFunc
  rw [T_ite]
  have c1 : 0 < s.length → cpt s 1 = s.take 1 := fun h => by
    simp only [cpt]
    have := take_gtE (l := s) (i := 0) (by omega) (by omega)
    simpa using this.symm
  refine ⟨fun h => ?_, fun h => ?_⟩
  · simp only [T_some]
    by_cases h0 : s.length = 0
    · rw [h0]; exact List.eq_nil_of_length_eq_zero h0
    · have : s.length = 1 := by omega
      have h2 := c1 (by omega)
      rw [this, h2, List.take_of_length_le (by omega)]
  refine T_binds (fun _ => cpt s s.length = s) ?_ fun _ h => by simp only [T_some]; exact h.symm
  refine T_loop (fun k => 1 ≤ k ∧ k ≤ (s.length : Int) ∧ cpt s k.toNat = s.take k.toNat) (fun k => ((s.length : Int) - k).toNat) ?_ ⟨by omega, by omega, c1 (by omega)⟩
  rintro k ⟨k0, k1, hk⟩
  unfold z_slices_CompactFunc_l1
  rw [T_ite]
  refine ⟨fun hlt => ?_, fun hge => ?_⟩
  rotate_left
  · simp only [T_some, Sum.elim_inr]
    have : k = s.length := by omega
    subst this
    simpa using hk
  simp only [T_G]
  refine ⟨by omega, by omega, by omega, ?_⟩
  rw [p_like, Option.bind_some, T_ite]
  refine ⟨fun heq => ?_, fun hne => ?_⟩
  rotate_left
  · have hne' : ¬ key2 (gt s k) (gt s (k - 1)) := by simpa using hne
    simp only [T_G, T_some, Sum.elim_inl]
    refine ⟨by omega, ⟨by omega, by omega, ?_⟩, by omega⟩
    rw [cpt_next (by omega), if_neg (fun h => hne' h.2), hk]
    exact (take_gtE (by omega) hlt).symm
  have heq' : key2 (gt s k) (gt s (k - 1)) := by simpa using heq
  simp only [T_G]
  refine ⟨by omega, ?_⟩
  refine T_bindr (fun r => (r.1.length : Int) = s.length ∧ 0 ≤ r.2 ∧ r.2 ≤ (s.length : Int) ∧ cpt s s.length = r.1.take r.2.toNat) ?_ ?_
  · refine T_loop (fun z => 1 ≤ z.2.2 ∧ z.2.2 ≤ (s.length : Int) - k ∧ k ≤ z.2.1 ∧ z.2.1 ≤ k + z.2.2 - 1 ∧ (z.1.length : Int) = s.length ∧ cpt s (k + z.2.2).toNat = z.1.take z.2.1.toNat ∧ ∀ j, k + z.2.2 - 1 ≤ j → gt z.1 j = gt s j) (fun z => ((s.length : Int) - k - z.2.2).toNat) ?_ ⟨by simp, by dsimp only; omega, by simp, by dsimp only; omega, rfl, ?_, fun _ _ => rfl⟩
    rotate_left
    · dsimp only
      rw [cpt_next (by omega), if_pos ⟨by omega, heq'⟩, hk, List.append_nil]
    rintro ⟨s0, k1', k2⟩ ⟨a0, a1, a2, a3, a4, a5, a6⟩
    dsimp only at *
    have hdl : ((s0.drop k.toNat).length : Int) = s.length - k := by rw [List.length_drop]; omega
    unfold z_slices_CompactFunc_l0
    rw [hdl, T_ite]
    refine ⟨fun hlt2 => ?_, fun hge2 => ?_⟩
    rotate_left
    · simp only [T_some, Sum.elim_inr]
      have : k + k2 = s.length := by omega
      rw [this] at a5
      exact ⟨a4, by omega, by omega, by simpa using a5⟩
    have e1 : gt (s0.drop k.toNat) k2 = gt s (k + k2) := by rw [gt_drop (by omega) (by omega)]; exact a6 _ (by omega)
    have e2 : gt (s0.drop k.toNat) (k2 - 1) = gt s (k + k2 - 1) := by rw [gt_drop (by omega) (by omega), show k + (k2 - 1) = k + k2 - 1 from by omega]; exact a6 _ (by omega)
    simp only [T_G]
    refine ⟨by omega, by omega, by omega, ?_⟩
    rw [p_like, e1, e2, Option.bind_some, T_ite]
    have nx : (k + (k2 + 1)).toNat = (k + k2 + 1).toNat := by omega
    refine ⟨fun hn => ?_, fun hy => ?_⟩
    · have hn' : ¬ key2 (gt s (k + k2)) (gt s (k + k2 - 1)) := by simpa using hn
      simp only [T_G, T_some, Sum.elim_inl]
      refine ⟨by omega, by omega, by omega, ⟨by omega, by omega, by omega, by omega, by simpa using a4, ?_, fun j hj => ?_⟩, by omega⟩
      · rw [nx, cpt_next (by omega), if_neg (fun h => hn' h.2), a5]
        have h1 := take_gtE (l := s0.set k1'.toNat (gt s (k + k2))) (i := k1') (by omega) (by simp; omega)
        rw [h1, gt_setE (by omega) (by omega) (by omega), if_pos rfl, List.take_set_of_le (Nat.le_refl _)]
      · rw [gt_setE (by omega) (by omega) (by omega), if_neg (by omega)]; exact a6 j (by omega)
    · have hy' : key2 (gt s (k + k2)) (gt s (k + k2 - 1)) := by simpa using hy
      simp only [T_G, T_some, Sum.elim_inl]
      refine ⟨by omega, ⟨by omega, by omega, by omega, by omega, a4, ?_, fun j hj => a6 j (by omega)⟩, by omega⟩
      rw [nx, cpt_next (by omega), if_pos ⟨by omega, hy'⟩, a5, List.append_nil]
  · rintro ⟨r, q⟩ ⟨b1, b2, b3, b4⟩
    dsimp only at *
    have hlen : ((r.take q.toNat ++ List.replicate (r.length - q.toNat) ((0, 0, 0) : Int × Int × Int)).length : Int) = r.length := by simp; omega
    simp only [T_G, T_map, T_some, Sum.elim_inr, Sum.elim_inl]
    refine ⟨by omega, by omega, by omega, ?_⟩
    rw [List.take_left' (by rw [List.length_take]; omega)]
    exact b4.symm
end Go.Vd

/-! (Gb) -/

set_option linter.unusedVariables false
set_option linter.unusedSimpArgs false
namespace Go.Vd
abbrev A3 := Int × Int × Int
theorem eq3 {x y : A3} (h1 : x.1 = y.1) (h2 : x.2.1 = y.2.1) (h3 : x.2.2 = y.2.2) : x = y := by
  obtain ⟨a, b, c⟩ := x; obtain ⟨a', b', c'⟩ := y
  simp only at h1 h2 h3
  subst h1; subst h2; subst h3; rfl

theorem mem_gtE {E : Type} [Inhabited E] {l : List E} {x : E} (h : x ∈ l) : ∃ i : Int, 0 ≤ i ∧ i < (l.length : Int) ∧ x = gt l i := by
  obtain ⟨i, hi, rfl⟩ := List.getElem_of_mem h
  exact ⟨i, by omega, by omega, (gt_nat hi).symm⟩

end Go.Vd

/-! (PrSa) -/

set_option linter.unusedVariables false
set_option linter.unusedSimpArgs false
namespace Go.Vd
theorem same_nextE {E : Type} [Inhabited E] {l m : List E} {i : Int} (h : ∀ j : Int, 0 ≤ j → j < i → gt l j = gt m j) (k : gt l i = gt m i) : ∀ j : Int, 0 ≤ j → j < i + 1 → gt l j = gt m j := by
  intro j h0 h1
  by_cases e : j = i
  · rw [e]; exact k
  · exact h j h0 (by omega)
theorem same_neE {E : Type} [DecidableEq E] {l m : List E} (h : ¬ (l.length : Int) = (m.length : Int)) : decide (l = m) = false := by
  apply decide_eq_false; rintro rfl; exact h rfl
theorem same_atE {E : Type} [DecidableEq E] [Inhabited E] {l m : List E} {i : Int} (h : ¬ gt l i = gt m i) : decide (l = m) = false := by
  apply decide_eq_false; rintro rfl; exact h rfl
theorem same_allE {E : Type} [DecidableEq E] [Inhabited E] {l m : List E} {i : Int} (h : ∀ j : Int, 0 ≤ j → j < i → gt l j = gt m j) (hl : (l.length : Int) = m.length) (hi : (l.length : Int) ≤ i) : decide (l = m) = true :=
  decide_eq_true (list_gtE (by omega) fun j h0 h1 => h j h0 (by omega))
theorem p_gSameArcs {a b : List A3} (h : a.length ≤ 1152921504606846976) : z_viaductref03_SameArcs a b = some (decide (a = b)) := by
  refine T_eq.1 ?_
  unfold z_viaductref03_SameArcs
  simp only [T_ite, T_bind, T_some]
  refine ⟨fun hl => ?_, fun hl => (same_neE hl).symm⟩
  refine T_loop (fun i => 0 ≤ i ∧ i ≤ (a.length : Int) ∧ ∀ j : Int, 0 ≤ j → j < i → gt a j = gt b j) (fun i => ((a.length : Int) - i).toNat) ?_ ⟨by omega, by omega, fun j _ _ => by omega⟩
  rintro i ⟨h0, h1, h2⟩
  simp only [z_viaductref03_SameArcs_l0, T_ite, T_G, T_some, T_map, Sum.elim_inl, Sum.elim_inr]
  refine ⟨fun hi => ⟨h0, by omega, fun he => ⟨by omega, ⟨by omega, by omega, same_nextE h2 (eq3 he.1 he.2.1 he.2.2)⟩, by omega⟩, fun he => (same_atE fun k => he (by rw [k]; exact ⟨rfl, rfl, rfl⟩)).symm⟩, fun hi => (same_allE h2 hl (by omega)).symm⟩

theorem p_gSame {n m : Int} {a b : List A3} (h : a.length ≤ 1152921504606846976) : z_viaductref03_Same n a m b = some (decide (n = m ∧ a = b)) := by
  unfold z_viaductref03_Same
  by_cases e : n = m
  · rw [if_pos e, p_gSameArcs h]; simp [e]
  · rw [if_neg e]; simp [e]
end Go.Vd

/-! (PrSe) -/

set_option linter.unusedVariables false
set_option linter.unusedSimpArgs false
namespace Go.Vd
theorem p_Equal {a b : List A3} (h : a.length ≤ 1152921504606846976) : z_slices_Equal a b = some (decide (a = b)) := by
  refine T_eq.1 ?_
  unfold z_slices_Equal
  simp only [T_ite, T_bind, T_some]
  refine ⟨fun hl => ?_, fun hl => (same_neE hl).symm⟩
  refine T_loop (fun i => 0 ≤ i ∧ i ≤ (a.length : Int) ∧ ∀ j : Int, 0 ≤ j → j < i → gt a j = gt b j) (fun i => ((a.length : Int) - i).toNat) ?_ ⟨by omega, by omega, fun j _ _ => by omega⟩
  rintro i ⟨h0, h1, h2⟩
  simp only [z_slices_Equal_l0, T_ite, T_G, T_some, T_map, Sum.elim_inl, Sum.elim_inr]
  refine ⟨fun hi => ⟨h0, by omega, fun he => ⟨by omega, ⟨by omega, by omega, same_nextE h2 (eq3 he.1 he.2.1 he.2.2)⟩, by omega⟩, fun he => (same_atE fun k => he (by rw [k]; exact ⟨rfl, rfl, rfl⟩)).symm⟩, fun hi => (same_allE h2 hl (by omega)).symm⟩
end Go.Vd

/-! (So2) -/

set_option linter.unusedVariables false
set_option linter.unusedSectionVars false
set_option linter.unusedSimpArgs false
namespace Go.Vd

def ltk (x y : A3) : Prop := x.1 < y.1 ∨ (x.1 = y.1 ∧ x.2.1 < y.2.1)

/-- L is the normal list of A's arcs. -/
structure Nrm (A L : List A3) : Prop where
  inc : L.Pairwise ltk
  sub : ∀ a ∈ L, a ∈ A ∧ a.1 ≠ a.2.1 ∧ ∀ b ∈ A, key2 b a → a.2.2 ≤ b.2.2
  sup : ∀ a ∈ A, a.1 ≠ a.2.1 → ∃ b ∈ L, key2 b a

theorem sorted_eq : ∀ {L M : List A3}, L.Pairwise ltk → M.Pairwise ltk → (∀ x, x ∈ L ↔ x ∈ M) → L = M := by
  intro L
  induction L with
  | nil =>
    intro M _ _ h
    cases M with
    | nil => rfl
    | cons b M => have := (h b).2 (List.mem_cons_self ..); cases this
  | cons a L ih =>
    intro M hL hM h
    cases M with
    | nil => have := (h a).1 (List.mem_cons_self ..); cases this
    | cons b M =>
      have hab : a = b := by
        rcases List.mem_cons.1 ((h a).1 (List.mem_cons_self ..)) with h1 | h1
        · exact h1
        · rcases List.mem_cons.1 ((h b).2 (List.mem_cons_self ..)) with h2 | h2
          · exact h2.symm
          · have k1 := (List.pairwise_cons.1 hM).1 a h1
            have k2 := (List.pairwise_cons.1 hL).1 b h2
            unfold ltk at k1 k2
            omega
      subst hab
      rw [ih (List.pairwise_cons.1 hL).2 (List.pairwise_cons.1 hM).2 fun x => ⟨fun hx => ?_, fun hx => ?_⟩]
      · rcases List.mem_cons.1 ((h x).1 (List.mem_cons_of_mem _ hx)) with rfl | h1
        · have := (List.pairwise_cons.1 hL).1 x hx
          unfold ltk at this; omega
        · exact h1
      · rcases List.mem_cons.1 ((h x).2 (List.mem_cons_of_mem _ hx)) with rfl | h1
        · have := (List.pairwise_cons.1 hM).1 x hx
          unfold ltk at this; omega
        · exact h1

theorem inc_tri {L : List A3} (h : L.Pairwise ltk) : ∀ x ∈ L, ∀ y ∈ L, x = y ∨ ltk x y ∨ ltk y x := by
  induction L with
  | nil => intro x hx; cases hx
  | cons a L ih =>
    intro x hx y hy
    obtain ⟨h1, h2⟩ := List.pairwise_cons.1 h
    rcases List.mem_cons.1 hx with ex | hx'
    · rcases List.mem_cons.1 hy with ey | hy'
      · exact .inl (ex.trans ey.symm)
      · rw [ex]; exact .inr (.inl (h1 y hy'))
    · rcases List.mem_cons.1 hy with ey | hy'
      · rw [ey]; exact .inr (.inr (h1 x hx'))
      · exact ih h2 x hx' y hy'
theorem inc_key {L : List A3} (h : L.Pairwise ltk) {x y : A3} (hx : x ∈ L) (hy : y ∈ L) (k : key2 x y) : x = y := by
  rcases inc_tri h x hx y hy with h | h | h
  · exact h
  · unfold ltk at h; unfold key2 at k; omega
  · unfold ltk at h; unfold key2 at k; omega

theorem Nrm.mem {A L M : List A3} (h : Nrm A L) (k : Nrm A M) {x : A3} (hx : x ∈ L) : x ∈ M := by
  obtain ⟨h1, h2, h3⟩ := h.sub x hx
  obtain ⟨b, b1, b2⟩ := k.sup x h1 h2
  obtain ⟨k1, k2, k3⟩ := k.sub b b1
  have e1 := h3 b k1 b2
  have e2 := k3 x h1 ⟨b2.1.symm, b2.2.symm⟩
  have : x = b := eq3 b2.1.symm b2.2.symm (by omega)
  rw [this]; exact b1
theorem Nrm.uniq {A L M : List A3} (h : Nrm A L) (k : Nrm A M) : L = M :=
  sorted_eq h.inc k.inc fun x => ⟨h.mem k, k.mem h⟩
/-- Only what is in the list counts. -/
theorem Nrm.of_mem {A B L : List A3} (h : Nrm A L) (e : ∀ x, x ∈ A ↔ x ∈ B) : Nrm B L :=
  ⟨h.inc, fun a ha => let ⟨h1, h2, h3⟩ := h.sub a ha; ⟨(e a).1 h1, h2, fun b hb => h3 b ((e b).2 hb)⟩, fun a ha hn => h.sup a ((e a).2 ha) hn⟩
/-- A normal list's own is itself. -/
theorem Nrm.self {A L : List A3} (h : Nrm A L) : Nrm L L :=
  ⟨h.inc, fun a ha => ⟨ha, (h.sub a ha).2.1, fun b hb k => by rw [inc_key h.inc hb ha k]; exact Int.le_refl _⟩, fun a ha _ => ⟨a, ha, rfl, rfl⟩⟩

/-! ### Sorted, and of neighbours that are alike the first -/
section
variable {s : List A3} (hs : ∀ i j : Int, 0 ≤ i → i < j → j < (s.length : Int) → ¬ lt3 (gt s j) (gt s i))
include hs
theorem rise2 {i j : Int} (i0 : 0 ≤ i) (ij : i < j) (j1 : j < (s.length : Int)) : ltk (gt s i) (gt s j) ∨ (key2 (gt s i) (gt s j) ∧ (gt s i).2.2 ≤ (gt s j).2.2) := by
  have := hs i j i0 ij j1
  unfold lt3 at this; unfold ltk key2
  omega
theorem cpt_mem {k : Nat} (hk : k ≤ s.length) : ∀ x ∈ cpt s k, ∃ i : Int, 0 ≤ i ∧ i < k ∧ x = gt s i := by
  induction k with
  | zero => intro x hx; cases hx
  | succ k ih =>
    intro x hx
    simp only [cpt] at hx
    rcases List.mem_append.1 hx with hx | hx
    · obtain ⟨i, i0, i1, e⟩ := ih (by omega) x hx
      exact ⟨i, i0, by omega, e⟩
    · split at hx
      · cases hx
      · exact ⟨k, by omega, by omega, List.mem_singleton.1 hx⟩
theorem cpt_inc {k : Nat} (hk : k ≤ s.length) : (cpt s k).Pairwise ltk := by
  induction k with
  | zero => exact .nil
  | succ k ih =>
    simp only [cpt]
    split
    · rw [List.append_nil]; exact ih (by omega)
    · rename_i hn
      rw [List.pairwise_append]
      refine ⟨ih (by omega), List.pairwise_singleton _ _, fun x hx y hy => ?_⟩
      obtain rfl := List.mem_singleton.1 hy
      obtain ⟨i, i0, i1, rfl⟩ := cpt_mem hs (by omega) x hx
      have hk0 : k ≠ 0 := by omega
      have hn' : ¬ key2 (gt s (k : Int)) (gt s ((k : Int) - 1)) := fun q => hn ⟨hk0, q⟩
      have h1 := rise2 hs (i := (k : Int) - 1) (j := k) (by omega) (by omega) (by omega)
      by_cases e : i = (k : Int) - 1
      · subst e
        unfold ltk key2 at *; omega
      · have h2 := rise2 hs (i := i) (j := (k : Int) - 1) i0 (by omega) (by omega)
        unfold ltk key2 at *; omega
theorem cpt_has {k : Nat} (hk : k ≤ s.length) : ∀ i : Int, 0 ≤ i → i < k → ∃ x ∈ cpt s k, key2 x (gt s i) ∧ x.2.2 ≤ (gt s i).2.2 := by
  induction k with
  | zero => intro i i0 i1; simp at i1; omega
  | succ k ih =>
    intro i i0 i1
    by_cases e : i = (k : Int)
    · subst e
      by_cases hn : k ≠ 0 ∧ key2 (gt s (k : Int)) (gt s ((k : Int) - 1))
      · obtain ⟨x, h1, h2, h3⟩ := ih (by omega) ((k : Int) - 1) (by omega) (by omega)
        refine ⟨x, by simp only [cpt]; exact List.mem_append_left _ h1, ?_, ?_⟩
        · have := hn.2; unfold key2 at *; omega
        · have h4 := rise2 hs (i := (k : Int) - 1) (j := k) (by omega) (by omega) (by omega)
          have := hn.2; unfold ltk key2 at *; omega
      · refine ⟨gt s (k : Int), ?_, ⟨rfl, rfl⟩, Int.le_refl _⟩
        simp only [cpt]
        rw [if_neg hn]
        exact List.mem_append_right _ (List.mem_singleton.2 rfl)
    · obtain ⟨x, h1, h2⟩ := ih (by omega) i i0 (by omega)
      exact ⟨x, by simp only [cpt]; exact List.mem_append_left _ h1, h2⟩
end

def noLp (a : A3) : Bool := !decide (a.1 = a.2.1)
theorem nrm_of {A F s : List A3} (hF : F = A.filter noLp) (hp : s.Perm F) (hs : s.Pairwise fun x y => ¬ lt3 y x) : Nrm A (cpt s s.length) := by
  have hs' : ∀ i j : Int, 0 ≤ i → i < j → j < (s.length : Int) → ¬ lt3 (gt s j) (gt s i) := fun i j i0 ij j1 => by
    obtain ⟨i, rfl⟩ := Int.eq_ofNat_of_zero_le i0
    obtain ⟨j, rfl⟩ := Int.eq_ofNat_of_zero_le (show 0 ≤ j by omega)
    rw [gt_nat (show i < s.length by omega), gt_nat (show j < s.length by omega)]
    exact List.pairwise_iff_getElem.1 hs i j (by omega) (by omega) (by omega)
  have mem : ∀ x, x ∈ s ↔ (x ∈ A ∧ x.1 ≠ x.2.1) := fun x => by
    rw [hp.mem_iff, hF, List.mem_filter]; simp [noLp]
  have inc := cpt_inc hs' (Nat.le_refl _)
  refine ⟨inc, fun a ha => ?_, fun a ha hn => ?_⟩
  · obtain ⟨i, i0, i1, e⟩ := cpt_mem hs' (Nat.le_refl _) a ha
    have hm := (mem a).1 (by rw [e]; exact gt_mem i0 i1)
    refine ⟨hm.1, hm.2, fun b hb hk => ?_⟩
    have hbn : b.1 ≠ b.2.1 := by have := hm.2; unfold key2 at hk; omega
    obtain ⟨j, j0, j1, rfl⟩ := mem_gtE ((mem b).2 ⟨hb, hbn⟩)
    obtain ⟨x, x1, x2, x3⟩ := cpt_has hs' (Nat.le_refl _) j j0 j1
    have : x = a := inc_key inc x1 ha (by unfold key2 at *; omega)
    rw [← this]; exact x3
  · obtain ⟨j, j0, j1, rfl⟩ := mem_gtE ((mem a).2 ⟨ha, hn⟩)
    obtain ⟨x, x1, x2, _⟩ := cpt_has hs' (Nat.le_refl _) j j0 j1
    exact ⟨x, x1, x2⟩

end Go.Vd

/-! (Gc) -/

set_option linter.unusedVariables false
set_option linter.unusedSimpArgs false
namespace Go.Vd
variable {N : Int} {A L : List A3}

/-- The number of what is wrong with an arc; 0: nothing. -/
def arcG (N : Int) (a : A3) : Int := if a.1 < 0 ∨ a.1 ≥ N ∨ a.2.1 < 0 ∨ a.2.1 ≥ N then 7 else if a.2.2 < 0 ∨ a.2.2 > 2147483647 then 8 else 0
def BigG (N : Int) (A : List A3) : Prop := N < 0 ∨ N > 65536 ∨ (A.length : Int) > 262144

/-- What a graph's check tells. -/
inductive GChk (N : Int) (A : List A3) : Er → Prop
  | limit : BigG N A → GChk N A (.no 9)
  | arc (i : Int) : ¬ BigG N A → 0 ≤ i → i < (A.length : Int) → arcG N (gt A i) ≠ 0 → (∀ j, 0 ≤ j → j < i → arcG N (gt A j) = 0) → GChk N A (.at 4 i (.no (arcG N (gt A i))))
  | ok : ¬ BigG N A → (∀ j, 0 ≤ j → j < (A.length : Int) → arcG N (gt A j) = 0) → GChk N A .nil

theorem arcG_7 {a : A3} (h : a.1 < 0 ∨ a.1 ≥ N ∨ a.2.1 < 0 ∨ a.2.1 ≥ N) : arcG N a = 7 := by unfold arcG; rw [if_pos h]
theorem arcG_8 {a : A3} (h : ¬ (a.1 < 0 ∨ a.1 ≥ N ∨ a.2.1 < 0 ∨ a.2.1 ≥ N)) (k : a.2.2 < 0 ∨ a.2.2 > 2147483647) : arcG N a = 8 := by unfold arcG; rw [if_neg h, if_pos k]
theorem arcG_0 {a : A3} (h : ¬ (a.1 < 0 ∨ a.1 ≥ N ∨ a.2.1 < 0 ∨ a.2.1 ≥ N)) (k : ¬ (a.2.2 < 0 ∨ a.2.2 > 2147483647)) : arcG N a = 0 := by unfold arcG; rw [if_neg h, if_neg k]
theorem arcG_ok {a : A3} (h : arcG N a = 0) : 0 ≤ a.1 ∧ a.1 < N ∧ 0 ≤ a.2.1 ∧ a.2.1 < N ∧ 0 ≤ a.2.2 ∧ a.2.2 ≤ 2147483647 := by
  unfold arcG at h
  split at h
  · cases h
  · split at h
    · cases h
    · omega

theorem GChk.uniq {er er' : Er} (h : GChk N A er) (k : GChk N A er') : er = er' := by
  cases h with
  | limit h1 =>
    cases k with
    | limit _ => rfl
    | arc _ k1 => exact absurd h1 k1
    | ok k1 _ => exact absurd h1 k1
  | arc i h1 h2 h3 h4 h5 =>
    cases k with
    | limit k1 => exact absurd k1 h1
    | arc j _ k2 k3 k4 k5 =>
      have : i = j := by
        rcases Int.lt_trichotomy i j with q | q | q
        · exact absurd (k5 i h2 q) h4
        · exact q
        · exact absurd (h5 j k2 q) k4
      rw [this]
    | ok _ k2 => exact absurd (k2 i h2 h3) h4
  | ok h1 h2 =>
    cases k with
    | limit k1 => exact absurd k1 h1
    | arc j _ k2 k3 k4 _ => exact absurd (h2 j k2 k3) k4
    | ok _ _ => rfl
theorem GChk.bad {er : Er} (h : GChk N A er) : (er.code ≠ 0 ∨ er.pls ≠ []) ↔ er ≠ .nil := by
  cases h with
  | limit _ => simp [Er.code]
  | arc i _ _ _ h4 _ => simp [Er.pls]
  | ok _ _ => simp [Er.code, Er.pls]
theorem GChk.small (h : GChk N A .nil) : 0 ≤ N ∧ N ≤ 65536 ∧ (A.length : Int) ≤ 262144 := by
  cases h with
  | ok h1 _ => unfold BigG at h1; omega
theorem GChk.arcs (h : GChk N A .nil) : ∀ a ∈ A, 0 ≤ a.1 ∧ a.1 < N ∧ 0 ≤ a.2.1 ∧ a.2.1 < N ∧ 0 ≤ a.2.2 ∧ a.2.2 ≤ 2147483647 := by
  cases h with
  | ok h1 h2 =>
    intro a ha
    obtain ⟨i, i0, i1, rfl⟩ := mem_gtE ha
    exact arcG_ok (h2 i i0 i1)
theorem GChk.of_arcs (n0 : 0 ≤ N) (n1 : N ≤ 65536) (n2 : (A.length : Int) ≤ 262144) (h : ∀ a ∈ A, 0 ≤ a.1 ∧ a.1 < N ∧ 0 ≤ a.2.1 ∧ a.2.1 < N ∧ 0 ≤ a.2.2 ∧ a.2.2 ≤ 2147483647) : GChk N A .nil :=
  .ok (by unfold BigG; omega) fun j j0 j1 => by have := h _ (gt_mem j0 j1); exact arcG_0 (by omega) (by omega)

theorem p_garc {a : A3} : z_gtext_arc a.1 a.2.1 a.2.2 N = some (if arcG N a = 0 then .nil else .no (arcG N a)) := by
  refine T_eq.1 ?_
  unfold z_gtext_arc
  refine T_bindr (fun o => o = decide (a.1 < 0 ∨ a.1 ≥ N ∨ a.2.1 < 0 ∨ a.2.1 ≥ N)) ?_ ?_
  · unfold z_gtext_within
    simp only [T_bind, T_ite, T_some]
    refine ⟨fun h1 => ⟨fun h2 => ⟨fun h3 => ?_, fun h3 => ?_⟩, fun h2 => ?_⟩, fun h1 => ⟨fun h2 => ?_, fun h2 => ?_⟩⟩
    · have h2' : a.1 < N := by simpa using h2
      by_cases h4 : a.2.1 < N
      · simp [h4]; omega
      · simp [h4]; omega
    · simp; omega
    · have h2' : ¬ a.1 < N := by simpa using h2
      simp; omega
    · simp at h2
    · simp; omega
  · rintro _ rfl
    by_cases h : a.1 < 0 ∨ a.1 ≥ N ∨ a.2.1 < 0 ∨ a.2.1 ≥ N
    · rw [arcG_7 h]; simp [h]
    · rw [decide_eq_false h, if_neg (by decide)]
      by_cases k1 : a.2.2 < 0
      · rw [if_pos k1, arcG_8 h (.inl k1)]; simp
      · rw [if_neg k1]
        by_cases k2 : a.2.2 > 2147483647
        · rw [if_pos k2, arcG_8 h (.inr k2)]; simp
        · rw [if_neg k2, arcG_0 h (by omega)]; simp
theorem p_fAtG {k i : Int} {e : Er} (h : e ≠ .nil) : z_fault_At k i e = some (.at k i e) := by
  unfold z_fault_At; rw [if_neg h]

theorem p_big : T (if N < 0 then (some true) else (if N > 65536 then (some true) else (some (decide ((A.length : Int) > 262144)))) : Option Bool) fun o => o = true ↔ BigG N A := by
  unfold BigG
  simp only [T_ite, T_some]
  exact ⟨fun h => by simp [h], fun h => ⟨fun h2 => by simp [h2], fun h2 => by simp; omega⟩⟩

theorem p_gCheck : T (z_gtext_Check N A) (GChk N A) := by
  unfold z_gtext_Check
  refine T_bindr _ p_big fun o ho => ?_
  rw [T_ite]
  refine ⟨fun h => by simp only [T_some]; exact .limit (ho.1 h), fun h => ?_⟩
  have hb : ¬ BigG N A := fun k => h (ho.2 k)
  have hl : (A.length : Int) ≤ 262144 := by unfold BigG at hb; omega
  refine T_binds (fun _ => ∀ j, 0 ≤ j → j < (A.length : Int) → arcG N (gt A j) = 0) ?_ fun _ h => by simp only [T_some]; exact .ok hb h
  refine T_loop (fun i => 0 ≤ i ∧ i ≤ (A.length : Int) ∧ ∀ j, 0 ≤ j → j < i → arcG N (gt A j) = 0) (fun i => ((A.length : Int) - i).toNat) ?_ ⟨by simp, by simp, fun j j0 j1 => by omega⟩
  rintro i ⟨i0, i1, hi⟩
  unfold z_gtext_Check_l0
  rw [T_ite]
  refine ⟨fun hlt => ?_, fun hge => by simp only [T_some, Sum.elim_inr]; exact fun j j0 j1 => hi j j0 (by omega)⟩
  rw [T_G, p_garc, Option.bind_some]
  refine ⟨i0, ?_⟩
  by_cases h0 : arcG N (gt A i) = 0
  · rw [if_pos h0, if_pos rfl]
    simp only [T_G, T_some, Sum.elim_inl]
    refine ⟨by omega, ⟨by omega, by omega, fun j j0 j1 => ?_⟩, by omega⟩
    by_cases e : j = i
    · rw [e]; exact h0
    · exact hi j j0 (by omega)
  · rw [if_neg h0, if_neg (by simp), p_fAtG (by simp), Option.bind_some]
    simp only [T_map, T_some, Sum.elim_inr, Sum.elim_inl]
    exact .arc i hb i0 hlt h0 hi

/-- An arc turned about. -/
def swp3 (a : A3) : A3 := (a.2.1, a.1, a.2.2)
inductive RevA (N : Int) (A : List A3) : Int → List A3 → Er → Prop
  | bad (er : Er) : GChk N A er → er ≠ .nil → RevA N A 0 [] er
  | ok : GChk N A .nil → RevA N A N (A.map swp3) .nil
theorem GChk.rev (h : GChk N A .nil) : GChk N (A.map swp3) .nil := by
  obtain ⟨n0, n1, n2⟩ := h.small
  refine .of_arcs n0 n1 (by simpa using n2) fun a ha => ?_
  obtain ⟨b, hb, rfl⟩ := List.mem_map.1 ha
  have := h.arcs b hb
  unfold swp3; dsimp only; omega
end Go.Vd

/-! (PrGg) -/

set_option linter.unusedVariables false
set_option linter.unusedSimpArgs false
namespace Go.Vd
variable {N : Int} {A L : List A3}
theorem GChk.good {er : Er} (h : GChk N A er) : er.good ∧ er.pls.length ≤ 1 := by
  cases h with
  | limit _ => exact ⟨by simp [Er.good], by simp [Er.pls]⟩
  | arc i _ _ _ h0 _ => exact ⟨⟨by simp, h0⟩, by simp [Er.pls]⟩
  | ok _ _ => exact ⟨trivial, by simp [Er.pls]⟩

end Go.Vd

/-! (So3) -/

set_option linter.unusedVariables false
set_option linter.unusedSimpArgs false
namespace Go.Vd
variable {N : Int} {A L : List A3}

/-- What the normal graph of a graph is. -/
inductive OfA (N : Int) (A : List A3) : Int → List A3 → Er → Prop
  | bad (er : Er) : GChk N A er → er ≠ .nil → OfA N A 0 [] er
  | ok (L : List A3) : GChk N A .nil → Nrm A L → L.length ≤ A.length → OfA N A N L .nil

theorem p_Of : T (z_normal_Of N A) fun r => OfA N A r.1 r.2.1 r.2.2 := by
  unfold z_normal_Of
  refine T_bindr _ p_gCheck fun er hc => ?_
  rw [T_ite]
  refine ⟨fun he => ?_, fun he => by simp only [T_some]; exact .bad er hc he⟩
  subst he
  obtain ⟨n0, n1, n2⟩ := hc.small
  refine T_bindr (fun c => c = A.filter noLp) ?_ ?_
  · refine T_loop (fun z => 0 ≤ z.1 ∧ z.1 ≤ (A.length : Int) ∧ z.2 = (A.take z.1.toNat).filter noLp) (fun z => ((A.length : Int) - z.1).toNat) ?_ ⟨by simp, by simp, by simp⟩
    rintro ⟨i, c⟩ ⟨i0, i1, e⟩
    dsimp only at *
    subst e
    unfold z_normal_Of_l0
    rw [T_ite]
    refine ⟨fun hlt => ?_, fun hge => ?_⟩
    rotate_left
    · simp only [T_some, Sum.elim_inr]
      rw [List.take_of_length_le (by omega)]
    have hll := List.length_filter_le noLp (A.take i.toNat)
    have hlt2 : (A.take i.toNat).length ≤ A.length := by rw [List.length_take]; omega
    have next : (A.take (i + 1).toNat).filter noLp = (A.take i.toNat).filter noLp ++ if (gt A i).1 = (gt A i).2.1 then [] else [gt A i] := by
      rw [take_gtE i0 hlt, List.filter_append]
      congr 1
      by_cases h : (gt A i).1 = (gt A i).2.1 <;> simp [List.filter, noLp, h]
    simp only [T_G, T_ite, T_some, Sum.elim_inl]
    refine ⟨i0, fun h => ⟨by omega, ⟨by omega, by omega, ?_⟩, by omega⟩, fun h => ⟨by omega, by omega, ⟨by omega, by omega, ?_⟩, by omega⟩⟩
    · rw [next, if_pos h, List.append_nil]
    · rw [next, if_neg h]
  · rintro _ rfl
    have hll := List.length_filter_le noLp A
    rw [T_G, p_sort, Option.bind_some]
    refine ⟨by omega, ?_⟩
    have hp := sortL_perm ord3 (A.filter noLp)
    have hlen := hp.length_eq
    refine T_bindr _ (p_Compact (by omega)) fun r hr => ?_
    simp only [T_some]
    rw [hr]
    refine .ok _ hc (nrm_of rfl hp (sort_rise _)) ?_
    have := cpt_len (sortL ord3 (A.filter noLp)) (sortL ord3 (A.filter noLp)).length
    omega

theorem GChk.nrm (h : GChk N A .nil) (k : Nrm A L) (hl : L.length ≤ A.length) : GChk N L .nil := by
  obtain ⟨n0, n1, n2⟩ := h.small
  exact .of_arcs n0 n1 (by omega) fun a ha => h.arcs a (k.sub a ha).1
end Go.Vd

/-! (So3r) -/

set_option linter.unusedVariables false
set_option linter.unusedSectionVars false
set_option linter.unusedSimpArgs false
namespace Go.Vd
variable {N : Int} {A L : List A3}
theorem p_Rev : T (z_normal_Reverse N A) fun r => RevA N A r.1 r.2.1 r.2.2 := by
  unfold z_normal_Reverse
  refine T_bindr _ p_gCheck fun er hc => ?_
  rw [T_ite]
  refine ⟨fun he => ?_, fun he => by simp only [T_some]; exact .bad er hc he⟩
  subst he
  obtain ⟨n0, n1, n2⟩ := hc.small
  refine T_bindr (fun c => c = A.map swp3) ?_ ?_
  · refine T_loop (fun z => 0 ≤ z.1 ∧ z.1 ≤ (A.length : Int) ∧ z.2 = (A.take z.1.toNat).map swp3) (fun z => ((A.length : Int) - z.1).toNat) ?_ ⟨by simp, by simp, by simp⟩
    rintro ⟨i, c⟩ ⟨i0, i1, e⟩
    dsimp only at *
    subst e
    unfold z_normal_Reverse_l0
    rw [T_ite]
    refine ⟨fun hlt => ?_, fun hge => ?_⟩
    rotate_left
    · simp only [T_some, Sum.elim_inr]
      rw [List.take_of_length_le (by omega)]
    simp only [T_G, T_some, Sum.elim_inl, List.length_map, List.length_take]
    refine ⟨i0, by omega, by omega, ⟨by omega, by omega, ?_⟩, by omega⟩
    rw [take_gtE i0 hlt, List.map_append]; rfl
  · rintro _ rfl
    simp only [T_some]
    exact .ok hc
end Go.Vd

/-! (PrNormalFixed) -/

set_option linter.unusedVariables false
set_option linter.unusedSimpArgs false
set_option maxRecDepth 10000
namespace Go.Vd
variable {N M : Int} {A B L : List A3}
theorem chk_eq {er : Er} (h : GChk N A er) : z_gtext_Check N A = some er := by
  obtain ⟨e, q, c⟩ := p_gCheck (N := N) (A := A)
  rw [q, c.uniq h]
theorem rev_eq (h : GChk N A .nil) : z_normal_Reverse N A = some (N, A.map swp3, .nil) := by
  obtain ⟨⟨n, l, e⟩, q, c⟩ := p_Rev (N := N) (A := A)
  rw [q]
  cases c with
  | bad _ c n => exact absurd (c.uniq h) n
  | ok _ => rfl
theorem of_bad {er : Er} (h : GChk N A er) (hn : er ≠ .nil) : z_normal_Of N A = some (0, [], er) := by
  obtain ⟨⟨n, l, e⟩, q, c⟩ := p_Of (N := N) (A := A)
  rw [q]
  cases c with
  | bad _ c n =>
    obtain rfl : e = er := c.uniq h
    rfl
  | ok _ c _ _ => exact absurd (h.uniq c) hn
theorem of_loops (h : GChk N A .nil) (hz : ∀ a ∈ A, a.1 = a.2.1) : z_normal_Of N A = some (N, [], .nil) := by
  obtain ⟨⟨n, l, e⟩, q, c⟩ := p_Of (N := N) (A := A)
  rw [q]
  cases c with
  | bad _ c n => exact absurd (c.uniq h) n
  | ok _ c k _ =>
    cases l with
    | nil => rfl
    | cons x l =>
      obtain ⟨x1, x2, _⟩ := k.sub x (List.mem_cons_self ..)
      exact absurd (hz x x1) x2
theorem is_no (h : GChk N A .nil) (hl : A.length ≤ 1000) (hp : ¬ A.Pairwise ltk) : z_normal_Is N A = some (false, .nil) := by
  obtain ⟨⟨n, l, e⟩, q, c⟩ := p_Of (N := N) (A := A)
  unfold z_normal_Is
  rw [q, Option.bind_some]
  cases c with
  | bad _ c n => exact absurd (c.uniq h) n
  | ok _ c k e =>
    dsimp only at *
    have : l ≠ A := fun q => hp (by rw [← q]; exact k.inc)
    rw [if_pos rfl, p_Equal (by omega), Option.bind_some, decide_eq_false this]
theorem f_Grow {n : Int} (n0 : 0 ≤ n) (n1 : n ≤ 262144) : z_slices_Grow n = some [] := by
  unfold z_slices_Grow G
  rw [if_neg (by omega), if_pos (by omega)]
  by_cases h : n - 0 > 0
  · rw [if_pos h, if_pos (by omega), if_pos ⟨by omega, by omega⟩]; simp
  · rw [if_neg h]
theorem f_Concat (hl : (A.length : Int) + (B.length : Int) ≤ 262144) : z_slices_Concat A B = some (A ++ B) := by
  unfold z_slices_Concat G
  rw [if_pos (by omega), if_neg (by omega), if_pos (by omega), if_neg (by omega), f_Grow (by omega) (by omega), Option.bind_some, if_pos (by simp; omega), if_pos (by simp; omega)]
  simp
theorem mg_left {er : Er} (h : GChk N A er) (n : er ≠ .nil) : z_normal_Merge N A M B = some (0, [], er) := by
  unfold z_normal_Merge
  rw [chk_eq h, Option.bind_some, if_neg n]
theorem mg_right {er : Er} (c : GChk N A .nil) (h : GChk M B er) (n : er ≠ .nil) : z_normal_Merge N A M B = some (0, [], er) := by
  unfold z_normal_Merge
  rw [chk_eq c, Option.bind_some, if_pos rfl, chk_eq h, Option.bind_some, if_neg n]
theorem mg_ok (c : GChk N A .nil) (d : GChk M B .nil) : z_normal_Merge N A M B = if N = M then (if ((A.length : Int) + (B.length : Int)) > 262144 then (some (0, [], (Er.no 9))) else (some (N, A ++ B, Er.nil))) else (some (0, [], (Er.no 1))) := by
  have s1 := c.small; have s2 := d.small
  have gg : -9223372036854775808 ≤ ((A.length : Int) + (B.length : Int)) ∧ ((A.length : Int) + (B.length : Int)) ≤ 9223372036854775807 := by omega
  unfold z_normal_Merge G
  rw [chk_eq c, Option.bind_some, if_pos rfl, chk_eq d, Option.bind_some, if_pos rfl, if_pos gg]
  by_cases k : N = M
  · rw [if_pos k, if_pos k]
    by_cases k2 : (A.length : Int) + (B.length : Int) > 262144
    · rw [if_pos k2, if_pos k2]
    · rw [if_neg k2, if_neg k2, f_Concat (by omega), Option.bind_some]
  · rw [if_neg k, if_neg k]

abbrev twoA : List A3 := [(0, 1, 4), (1, 1, 2)]
theorem g_two : GChk 2 twoA .nil := .of_arcs (by decide) (by decide) (by decide) fun a ha => by
  simp [twoA] at ha
  rcases ha with rfl | rfl <;> decide
theorem g_back : GChk 2 [(1, 0, 1), (0, 1, 1)] .nil := .of_arcs (by decide) (by decide) (by decide) fun a ha => by
  simp at ha
  rcases ha with rfl | rfl <;> decide
theorem g_none {n : Int} (n0 : 0 ≤ n) (n1 : n ≤ 65536) : GChk n [] .nil := .of_arcs n0 n1 (by simp) fun a ha => by cases ha
theorem g_bad : GChk 1 [(0, 1, 0)] (.at 4 0 (.no 7)) := by
  have h7 : arcG 1 (gt ([(0, 1, 0)] : List A3) 0) = 7 := by decide
  have := GChk.arc (N := 1) (A := [(0, 1, 0)]) 0 (by unfold BigG; simp) (by decide) (by simp) (by rw [h7]; decide) (fun j j0 j1 => by omega)
  rw [h7] at this; exact this
theorem deg_two : z_normal_Degrees 2 twoA = some ([1, 1], [0, 2], .nil) := by
  have s0 : z_normal_Degrees_l0 twoA 0 [0, 0] [0, 0] = some (.inl (1, [1, 0], [0, 1])) := by first | rfl | simp [z_normal_Degrees_l0, gt, G, twoA]
  have s1 : z_normal_Degrees_l0 twoA 1 [1, 0] [0, 1] = some (.inl (2, [1, 1], [0, 2])) := by first | rfl | simp [z_normal_Degrees_l0, gt, G, twoA]
  have s2 : z_normal_Degrees_l0 twoA 2 [1, 1] [0, 2] = some (.inr ([1, 1], [0, 2])) := by first | rfl | simp [z_normal_Degrees_l0, gt, G, twoA]
  have lp : loopO (fun zz_ => z_normal_Degrees_l0 twoA zz_.1 zz_.2.1 zz_.2.2) (0, [0, 0], [0, 0]) = some ([1, 1], [0, 2]) := by
    rw [loopO_eq]; simp only [s0, Option.bind_some, Sum.elim_inl]
    rw [loopO_eq]; simp only [s1, Option.bind_some, Sum.elim_inl]
    rw [loopO_eq]; simp only [s2, Option.bind_some, Sum.elim_inr]
  unfold z_normal_Degrees G
  rw [chk_eq g_two, Option.bind_some, if_pos rfl, if_pos (by decide), show List.replicate (2 : Int).toNat (0 : Int) = [0, 0] from rfl, lp]
  rfl

theorem p_NormalFixed : z_viaductlaw04_NormalFixed = some true := by
  unfold z_viaductlaw04_NormalFixed
  have hl : (List.replicate (262144 : Int).toNat ((0, 0, 0) : Int × Int × Int)).length = 262144 := by rw [List.length_replicate]; rfl
  have hz : ∀ a ∈ List.replicate (262144 : Int).toNat ((0, 0, 0) : Int × Int × Int), a = (0, 0, 0) := fun a ha => List.eq_of_mem_replicate ha
  generalize List.replicate (262144 : Int).toNat ((0, 0, 0) : Int × Int × Int) = big at hl hz ⊢
  have gB : GChk 2 big .nil := .of_arcs (by decide) (by decide) (by omega) fun a ha => by rw [hz a ha]; decide
  have r1 : z_normal_Reverse 2 [(0, 1, 4), (1, 1, 2)] = some (2, [(1, 0, 4), (1, 1, 2)], .nil) := rev_eq g_two
  have r2 : z_normal_Degrees 2 [(0, 1, 4), (1, 1, 2)] = some ([1, 1], [0, 2], .nil) := deg_two
  have r3 : z_normal_Is 2 [(1, 0, 1), (0, 1, 1)] = some (false, .nil) := is_no g_back (by simp) (by simp [ltk])
  have m1 : z_normal_Merge 2 [(0, 1, 4), (1, 1, 2)] 3 [] = some (0, [], .no 1) := by rw [mg_ok g_two (g_none (by decide) (by decide)), if_neg (by decide)]
  have m2 : z_normal_Merge 2 [(0, 1, 4), (1, 1, 2)] 1 [(0, 1, 0)] = some (0, [], .at 4 0 (.no 7)) := mg_right g_two g_bad (by simp)
  have m3 : z_normal_Merge 1 [(0, 1, 0)] (-1) [] = some (0, [], .at 4 0 (.no 7)) := mg_left g_bad (by simp)
  have m4 : z_normal_Merge 2 big 2 [(0, 1, 4), (1, 1, 2)] = some (0, [], .no 9) := by rw [mg_ok gB g_two, if_pos rfl, if_pos (by simp; omega)]
  have m5 : z_normal_Merge 2 big 2 [] = some (2, big, .nil) := by rw [mg_ok gB (g_none (by decide) (by decide)), if_pos rfl, if_neg (by simp; omega), List.append_nil]
  have o1 : z_normal_Of 2 big = some (2, [], .nil) := of_loops gB fun a ha => by rw [hz a ha]
  have o2 : z_normal_Of 1 [(0, 1, 0)] = some (0, [], .at 4 0 (.no 7)) := of_bad g_bad (by simp)
  have t1 : z_viaductseen_Same (.no 1) 1 [] = some true := p_SameT (er := .no 1) (by simp [Er.good]) (by simp [Er.pls])
  have t9 : z_viaductseen_Same (.no 9) 9 [] = some true := p_SameT (er := .no 9) (by simp [Er.good]) (by simp [Er.pls])
  have t7 : z_viaductseen_Same (.at 4 0 (.no 7)) 7 [(4, 0)] = some true := p_SameT (er := .at 4 0 (.no 7)) (by simp [Er.good]) (by simp [Er.pls])
  have a7 : z_viaductref01_At 4 0 7 [] = some (7, [(4, 0)]) := p_At (by simp)
  have g1 : z_viaductref03_Same 2 [(1, 0, 4), (1, 1, 2)] 2 [(1, 0, 4), (1, 1, 2)] = some true := by rw [p_gSame (by simp), decide_eq_true ⟨rfl, rfl⟩]
  have i1 : z_viaductref02_SameInts [1, 1] [1, 1] = some true := by rw [p_SameInts (by simp), decide_eq_true rfl]
  have i2 : z_viaductref02_SameInts [0, 2] [0, 2] = some true := by rw [p_SameInts (by simp), decide_eq_true rfl]
  have hlI : (big.length : Int) = 262144 := by omega
  simp only [r1, r2, r3, m1, m2, m3, m4, m5, o1, o2, t1, t7, t9, a7, g1, i1, i2, p_E, Option.bind_some, if_true, Bool.false_eq_true, if_false, Bool.not_true, hlI, List.length_nil, decide_true]
  simp
end Go.Vd
