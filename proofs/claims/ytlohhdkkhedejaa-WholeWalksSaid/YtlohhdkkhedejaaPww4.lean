/- Lists and places. Plain Lean: no program here. -/
import Derived.Test.YtlohhdkkhedejaaPww3
import Derived.Test.YtlohhdkkhedejaaPwwSo0
import Derived.Test.YtlohhdkkhedejaaPwwVdQ
import Derived.Test.YtlohhdkkhedejaaPwwIWw
import Derived.Test.YtlohhdkkhedejaaPwwVpB
set_option linter.unusedVariables false
set_option linter.unusedSimpArgs false
set_option linter.unusedSectionVars false
/-! (Mo0) -/

namespace Go.Vd
theorem take_gtE {E : Type} [Inhabited E] {l : List E} {i : Int} (h0 : 0 ≤ i) (h1 : i < (l.length : Int)) : l.take (i + 1).toNat = l.take i.toNat ++ [gt l i] := by
  have hi : i.toNat < l.length := by omega
  rw [show (i + 1).toNat = i.toNat + 1 from by omega, List.take_add_one, List.getElem?_eq_getElem hi]
  have : gt l i = l[i.toNat] := by simp [gt, List.getD_eq_getElem?_getD, hi]
  rw [this]; rfl
theorem gt_setE {E : Type} [Inhabited E] {l : List E} {i j : Int} {v : E} (i0 : 0 ≤ i) (i1 : i < (l.length : Int)) (j0 : 0 ≤ j) : gt (l.set i.toNat v) j = if j = i then v else gt l j := by
  unfold gt
  rw [List.getD_eq_getElem?_getD, List.getD_eq_getElem?_getD, List.getElem?_set]
  by_cases h : j = i
  · subst h; rw [if_pos rfl, if_pos rfl, if_pos (by omega)]; rfl
  · rw [if_neg h, if_neg (by omega)]
theorem list_gtE {E : Type} [Inhabited E] {l m : List E} (hl : l.length = m.length) (h : ∀ j : Int, 0 ≤ j → j < (l.length : Int) → gt l j = gt m j) : l = m := by
  refine List.ext_getElem hl fun j h1 h2 => ?_
  have := h (j : Int) (by omega) (by omega)
  rwa [gt_nat h1, gt_nat h2] at this
end Go.Vd

/-! (So1) -/

set_option linter.unusedVariables false
set_option linter.unusedSimpArgs false
namespace Go.Vd

theorem p_Compare {x y : Int} : z_cmp_Compare x y = some (if x < y then -1 else if x > y then 1 else 0) := by
  unfold z_cmp_Compare z_cmp_isNaN
  simp only [Option.bind_some]
  simp
  by_cases h1 : x < y
  · simp [h1]
  · by_cases h2 : y < x <;> simp [h1, h2]
theorem p_Or3 {a b c : Int} : z_cmp_Or [a, b, c] = some (if a ≠ 0 then a else if b ≠ 0 then b else c) := by
  unfold z_cmp_Or
  have h3 : z_cmp_Or_l0 [a, b, c] 3 = some (Sum.inr (Sum.inr ())) := by unfold z_cmp_Or_l0; rw [if_neg (by simp)]
  have step : ∀ i : Int, 0 ≤ i → i < 3 → z_cmp_Or_l0 [a, b, c] i = if gt [a, b, c] i = 0 then some (Sum.inl (i + 1)) else some (Sum.inr (Sum.inl (gt [a, b, c] i))) := fun i i0 i1 => by
    unfold z_cmp_Or_l0 G
    rw [if_pos (by simp; omega), if_pos i0]
    split
    · rw [if_pos (by omega)]
    · rfl
  have g0 : gt [a, b, c] 0 = a := rfl
  have g1 : gt [a, b, c] 1 = b := rfl
  have g2 : gt [a, b, c] 2 = c := rfl
  rw [loopO_eq, step 0 (by omega) (by omega), g0]
  by_cases ha : a = 0
  · rw [if_pos ha, if_neg (by simp [ha]), Option.bind_some, Sum.elim_inl, show (0 : Int) + 1 = 1 from rfl, loopO_eq, step 1 (by omega) (by omega), g1]
    by_cases hb : b = 0
    · rw [if_pos hb, if_neg (by simp [hb]), Option.bind_some, Sum.elim_inl, show (1 : Int) + 1 = 2 from rfl, loopO_eq, step 2 (by omega) (by omega), g2]
      by_cases hc : c = 0
      · rw [if_pos hc, Option.bind_some, Sum.elim_inl, show (2 : Int) + 1 = 3 from rfl, loopO_eq, h3]
        simp [hc]
      · rw [if_neg hc]; simp
    · rw [if_neg hb, if_pos hb]; simp
  · rw [if_neg ha, if_pos ha]; simp

/-- Three numbers in order. -/
def lt3 (x y : Int × Int × Int) : Prop := x.1 < y.1 ∨ (x.1 = y.1 ∧ (x.2.1 < y.2.1 ∨ (x.2.1 = y.2.1 ∧ x.2.2 < y.2.2)))
instance (x y : Int × Int × Int) : Decidable (lt3 x y) := by unfold lt3; infer_instance
noncomputable abbrev ord3 : Int × Int × Int → Int × Int × Int → Option Int := fun a_ b_ => z_normal_order a_.1 a_.2.1 a_.2.2 b_.1 b_.2.1 b_.2.2

theorem p_order (x y : Int × Int × Int) : ∃ r, ord3 x y = some r ∧ (r < 0 ↔ lt3 x y) := by
  unfold ord3 z_normal_order
  simp only [p_Compare, Option.bind_some, p_Or3]
  refine ⟨_, rfl, ?_⟩
  unfold lt3
  by_cases a1 : x.1 < y.1
  · simp [a1]
  · by_cases a2 : x.1 > y.1
    · have : ¬ x.1 = y.1 := by omega
      simp [a1, a2, this]
    · have e : x.1 = y.1 := by omega
      by_cases b1 : x.2.1 < y.2.1
      · simp [e, b1]
      · by_cases b2 : x.2.1 > y.2.1
        · have : ¬ x.2.1 = y.2.1 := by omega
          simp [e, b1, b2, this]
        · have e2 : x.2.1 = y.2.1 := by omega
          by_cases c1 : x.2.2 < y.2.2
          · simp [e, e2, c1]
          · by_cases c2 : x.2.2 > y.2.2 <;> simp [e, e2, c1, c2]
theorem ord3_lt (x y : Int × Int × Int) : (ord3 x y).getD 0 < 0 ↔ lt3 x y := by
  obtain ⟨r, h1, h2⟩ := p_order x y
  rw [h1]; exact h2
theorem ord3_ok : SortOk ord3 :=
  { ans := fun x y => let ⟨r, h, _⟩ := p_order x y; ⟨r, h⟩
    irr := fun x => by rw [ord3_lt]; unfold lt3; omega
    trn := fun x y z => by rw [ord3_lt, ord3_lt, ord3_lt]; unfold lt3; omega
    ntr := fun x y z => by rw [ord3_lt, ord3_lt, ord3_lt]; unfold lt3; omega
    tot := fun x y h1 h2 => by
      rw [ord3_lt] at h1 h2
      obtain ⟨x1, x2, x3⟩ := x
      obtain ⟨y1, y2, y3⟩ := y
      unfold lt3 at h1 h2
      dsimp only at h1 h2
      simp only [Prod.mk.injEq]
      omega }
theorem p_sort (xs : List (Int × Int × Int)) : sortO (fun (a_ b_ : Int × Int × Int) => z_normal_order a_.1 a_.2.1 a_.2.2 b_.1 b_.2.1 b_.2.2) xs = some (sortL ord3 xs) := sortO_ok ord3_ok xs
theorem sort_rise (xs : List (Int × Int × Int)) : (sortL ord3 xs).Pairwise fun x y => ¬ lt3 y x := (sortL_sorted ord3_ok xs).imp fun h => by rwa [ord3_lt] at h

/-- Of the same two nodes. -/
def key2 (x y : Int × Int × Int) : Prop := x.1 = y.1 ∧ x.2.1 = y.2.1
instance (x y : Int × Int × Int) : Decidable (key2 x y) := by unfold key2; infer_instance
theorem p_like {x y : Int × Int × Int} : z_normal_Of_1 x.1 x.2.1 x.2.2 y.1 y.2.1 y.2.2 = some (decide (key2 x y)) := by
  unfold z_normal_Of_1 key2
  by_cases h : x.1 = y.1 <;> simp [h]

/-- What is left of the first k, when of neighbours that are alike the first stays. -/
def cpt (s : List (Int × Int × Int)) : Nat → List (Int × Int × Int)
  | 0 => []
  | k + 1 => cpt s k ++ if k ≠ 0 ∧ key2 (gt s (k : Int)) (gt s ((k : Int) - 1)) then [] else [gt s (k : Int)]
theorem cpt_len (s : List (Int × Int × Int)) (k : Nat) : (cpt s k).length ≤ k := by
  induction k with
  | zero => simp [cpt]
  | succ k ih =>
    simp only [cpt, List.length_append]
    split <;> simp <;> omega
theorem cpt_next {s : List (Int × Int × Int)} {i : Int} (i0 : 0 ≤ i) : cpt s (i + 1).toNat = cpt s i.toNat ++ if i ≠ 0 ∧ key2 (gt s i) (gt s (i - 1)) then [] else [gt s i] := by
  rw [show (i + 1).toNat = i.toNat + 1 from by omega]
  simp only [cpt]
  rw [show ((i.toNat : Nat) : Int) = i from by omega]
  have : i.toNat ≠ 0 ↔ i ≠ 0 := by omega
  simp only [ne_eq, this]

theorem gt_drop {E : Type} [Inhabited E] {l : List E} {k j : Int} (k0 : 0 ≤ k) (j0 : 0 ≤ j) : gt (l.drop k.toNat) j = gt l (k + j) := by
  unfold gt
  rw [List.getD_eq_getElem?_getD, List.getD_eq_getElem?_getD, List.getElem?_drop, show k.toNat + j.toNat = (k + j).toNat from by omega]

theorem p_Compact {s : List (Int × Int × Int)} (hl : s.length ≤ 1000000000000) : T (z_slices_CompactFunc s) fun r => r.1 = cpt s s.length := by
  unfold z_slices_CompactFunc
  rw [T_ite]
  have c1 : 0 < s.length → cpt s 1 = s.take 1 := fun h => by
    simp only [cpt]
    have := take_gtE (l := s) (i := 0) (by omega) (by omega)
    simpa using this.symm
  refine ⟨fun h => ?_, fun h => ?_⟩
  · simp only [T_some]
    by_cases h0 : s.length = 0
    · rw [h0]; exact List.eq_nil_of_length_eq_zero h0
    · have : s.length = 1 := by omega
      have h2 := c1 (by omega)
      rw [this, h2, List.take_of_length_le (by omega)]
  refine T_binds (fun _ => cpt s s.length = s) ?_ fun _ h => by simp only [T_some]; exact h.symm
  refine T_loop (fun k => 1 ≤ k ∧ k ≤ (s.length : Int) ∧ cpt s k.toNat = s.take k.toNat) (fun k => ((s.length : Int) - k).toNat) ?_ ⟨by omega, by omega, c1 (by omega)⟩
  rintro k ⟨k0, k1, hk⟩
  unfold z_slices_CompactFunc_l1
  rw [T_ite]
  refine ⟨fun hlt => ?_, fun hge => ?_⟩
  rotate_left
  · simp only [T_some, Sum.elim_inr]
    have : k = s.length := by omega
    subst this
    simpa using hk
  simp only [T_G]
  refine ⟨by omega, by omega, by omega, ?_⟩
  rw [p_like, Option.bind_some, T_ite]
  refine ⟨fun heq => ?_, fun hne => ?_⟩
  rotate_left
  · have hne' : ¬ key2 (gt s k) (gt s (k - 1)) := by simpa using hne
    simp only [T_G, T_some, Sum.elim_inl]
    refine ⟨by omega, ⟨by omega, by omega, ?_⟩, by omega⟩
    rw [cpt_next (by omega), if_neg (fun h => hne' h.2), hk]
    exact (take_gtE (by omega) hlt).symm
  have heq' : key2 (gt s k) (gt s (k - 1)) := by simpa using heq
  simp only [T_G]
  refine ⟨by omega, ?_⟩
  refine T_bindr (fun r => (r.1.length : Int) = s.length ∧ 0 ≤ r.2 ∧ r.2 ≤ (s.length : Int) ∧ cpt s s.length = r.1.take r.2.toNat) ?_ ?_
  · refine T_loop (fun z => 1 ≤ z.2.2 ∧ z.2.2 ≤ (s.length : Int) - k ∧ k ≤ z.2.1 ∧ z.2.1 ≤ k + z.2.2 - 1 ∧ (z.1.length : Int) = s.length ∧ cpt s (k + z.2.2).toNat = z.1.take z.2.1.toNat ∧ ∀ j, k + z.2.2 - 1 ≤ j → gt z.1 j = gt s j) (fun z => ((s.length : Int) - k - z.2.2).toNat) ?_ ⟨by simp, by dsimp only; omega, by simp, by dsimp only; omega, rfl, ?_, fun _ _ => rfl⟩
    rotate_left
    · dsimp only
      rw [cpt_next (by omega), if_pos ⟨by omega, heq'⟩, hk, List.append_nil]
    rintro ⟨s0, k1', k2⟩ ⟨a0, a1, a2, a3, a4, a5, a6⟩
    dsimp only at *
    have hdl : ((s0.drop k.toNat).length : Int) = s.length - k := by rw [List.length_drop]; omega
    unfold z_slices_CompactFunc_l0
    rw [hdl, T_ite]
    refine ⟨fun hlt2 => ?_, fun hge2 => ?_⟩
    rotate_left
    · simp only [T_some, Sum.elim_inr]
      have : k + k2 = s.length := by omega
      rw [this] at a5
      exact ⟨a4, by omega, by omega, by simpa using a5⟩
    have e1 : gt (s0.drop k.toNat) k2 = gt s (k + k2) := by rw [gt_drop (by omega) (by omega)]; exact a6 _ (by omega)
    have e2 : gt (s0.drop k.toNat) (k2 - 1) = gt s (k + k2 - 1) := by rw [gt_drop (by omega) (by omega), show k + (k2 - 1) = k + k2 - 1 from by omega]; exact a6 _ (by omega)
    simp only [T_G]
    refine ⟨by omega, by omega, by omega, ?_⟩
    rw [p_like, e1, e2, Option.bind_some, T_ite]
    have nx : (k + (k2 + 1)).toNat = (k + k2 + 1).toNat := by omega
    refine ⟨fun hn => ?_, fun hy => ?_⟩
    · have hn' : ¬ key2 (gt s (k + k2)) (gt s (k + k2 - 1)) := by simpa using hn
      simp only [T_G, T_some, Sum.elim_inl]
      refine ⟨by omega, by omega, by omega, ⟨by omega, by omega, by omega, by omega, by simpa using a4, ?_, fun j hj => ?_⟩, by omega⟩
      · rw [nx, cpt_next (by omega), if_neg (fun h => hn' h.2), a5]
        have h1 := take_gtE (l := s0.set k1'.toNat (gt s (k + k2))) (i := k1') (by omega) (by simp; omega)
        rw [h1, gt_setE (by omega) (by omega) (by omega), if_pos rfl, List.take_set_of_le (Nat.le_refl _)]
      · rw [gt_setE (by omega) (by omega) (by omega), if_neg (by omega)]; exact a6 j (by omega)
    · have hy' : key2 (gt s (k + k2)) (gt s (k + k2 - 1)) := by simpa using hy
      simp only [T_G, T_some, Sum.elim_inl]
      refine ⟨by omega, ⟨by omega, by omega, by omega, by omega, a4, ?_, fun j hj => a6 j (by omega)⟩, by omega⟩
      rw [nx, cpt_next (by omega), if_pos ⟨by omega, hy'⟩, a5, List.append_nil]
  · rintro ⟨r, q⟩ ⟨b1, b2, b3, b4⟩
    dsimp only at *
    have hlen : ((r.take q.toNat ++ List.replicate (r.length - q.toNat) ((0, 0, 0) : Int × Int × Int)).length : Int) = r.length := by simp; omega
    simp only [T_G, T_map, T_some, Sum.elim_inr, Sum.elim_inl]
    refine ⟨by omega, by omega, by omega, ?_⟩
    rw [List.take_left' (by rw [List.length_take]; omega)]
    exact b4.symm
end Go.Vd

/-! (Gb) -/

set_option linter.unusedVariables false
set_option linter.unusedSimpArgs false
namespace Go.Vd
abbrev A3 := Int × Int × Int
theorem eq3 {x y : A3} (h1 : x.1 = y.1) (h2 : x.2.1 = y.2.1) (h3 : x.2.2 = y.2.2) : x = y := by
  obtain ⟨a, b, c⟩ := x; obtain ⟨a', b', c'⟩ := y
  simp only at h1 h2 h3
  subst h1; subst h2; subst h3; rfl

theorem mem_gtE {E : Type} [Inhabited E] {l : List E} {x : E} (h : x ∈ l) : ∃ i : Int, 0 ≤ i ∧ i < (l.length : Int) ∧ x = gt l i := by
  obtain ⟨i, hi, rfl⟩ := List.getElem_of_mem h
  exact ⟨i, by omega, by omega, (gt_nat hi).symm⟩

end Go.Vd

/-! (So2) -/

set_option linter.unusedVariables false
set_option linter.unusedSectionVars false
set_option linter.unusedSimpArgs false
namespace Go.Vd

def ltk (x y : A3) : Prop := x.1 < y.1 ∨ (x.1 = y.1 ∧ x.2.1 < y.2.1)

/-- L is the normal list of A's arcs. -/
structure Nrm (A L : List A3) : Prop where
  inc : L.Pairwise ltk
  sub : ∀ a ∈ L, a ∈ A ∧ a.1 ≠ a.2.1 ∧ ∀ b ∈ A, key2 b a → a.2.2 ≤ b.2.2
  sup : ∀ a ∈ A, a.1 ≠ a.2.1 → ∃ b ∈ L, key2 b a

theorem sorted_eq : ∀ {L M : List A3}, L.Pairwise ltk → M.Pairwise ltk → (∀ x, x ∈ L ↔ x ∈ M) → L = M := by
  intro L
  induction L with
  | nil =>
    intro M _ _ h
    cases M with
    | nil => rfl
    | cons b M => have := (h b).2 (List.mem_cons_self ..); cases this
  | cons a L ih =>
    intro M hL hM h
    cases M with
    | nil => have := (h a).1 (List.mem_cons_self ..); cases this
    | cons b M =>
      have hab : a = b := by
        rcases List.mem_cons.1 ((h a).1 (List.mem_cons_self ..)) with h1 | h1
        · exact h1
        · rcases List.mem_cons.1 ((h b).2 (List.mem_cons_self ..)) with h2 | h2
          · exact h2.symm
          · have k1 := (List.pairwise_cons.1 hM).1 a h1
            have k2 := (List.pairwise_cons.1 hL).1 b h2
            unfold ltk at k1 k2
            omega
      subst hab
      rw [ih (List.pairwise_cons.1 hL).2 (List.pairwise_cons.1 hM).2 fun x => ⟨fun hx => ?_, fun hx => ?_⟩]
      · rcases List.mem_cons.1 ((h x).1 (List.mem_cons_of_mem _ hx)) with rfl | h1
        · have := (List.pairwise_cons.1 hL).1 x hx
          unfold ltk at this; omega
        · exact h1
      · rcases List.mem_cons.1 ((h x).2 (List.mem_cons_of_mem _ hx)) with rfl | h1
        · have := (List.pairwise_cons.1 hM).1 x hx
          unfold ltk at this; omega
        · exact h1

theorem inc_tri {L : List A3} (h : L.Pairwise ltk) : ∀ x ∈ L, ∀ y ∈ L, x = y ∨ ltk x y ∨ ltk y x := by
  induction L with
  | nil => intro x hx; cases hx
  | cons a L ih =>
    intro x hx y hy
    obtain ⟨h1, h2⟩ := List.pairwise_cons.1 h
    rcases List.mem_cons.1 hx with ex | hx'
    · rcases List.mem_cons.1 hy with ey | hy'
      · exact .inl (ex.trans ey.symm)
      · rw [ex]; exact .inr (.inl (h1 y hy'))
    · rcases List.mem_cons.1 hy with ey | hy'
      · rw [ey]; exact .inr (.inr (h1 x hx'))
      · exact ih h2 x hx' y hy'
theorem inc_key {L : List A3} (h : L.Pairwise ltk) {x y : A3} (hx : x ∈ L) (hy : y ∈ L) (k : key2 x y) : x = y := by
  rcases inc_tri h x hx y hy with h | h | h
  · exact h
  · unfold ltk at h; unfold key2 at k; omega
  · unfold ltk at h; unfold key2 at k; omega

theorem Nrm.mem {A L M : List A3} (h : Nrm A L) (k : Nrm A M) {x : A3} (hx : x ∈ L) : x ∈ M := by
  obtain ⟨h1, h2, h3⟩ := h.sub x hx
  obtain ⟨b, b1, b2⟩ := k.sup x h1 h2
  obtain ⟨k1, k2, k3⟩ := k.sub b b1
  have e1 := h3 b k1 b2
  have e2 := k3 x h1 ⟨b2.1.symm, b2.2.symm⟩
  have : x = b := eq3 b2.1.symm b2.2.symm (by omega)
  rw [this]; exact b1
theorem Nrm.uniq {A L M : List A3} (h : Nrm A L) (k : Nrm A M) : L = M :=
  sorted_eq h.inc k.inc fun x => ⟨h.mem k, k.mem h⟩
/-- A normal list's own is itself. -/
theorem Nrm.self {A L : List A3} (h : Nrm A L) : Nrm L L :=
  ⟨h.inc, fun a ha => ⟨ha, (h.sub a ha).2.1, fun b hb k => by rw [inc_key h.inc hb ha k]; exact Int.le_refl _⟩, fun a ha _ => ⟨a, ha, rfl, rfl⟩⟩

/-! ### Sorted, and of neighbours that are alike the first -/
section
variable {s : List A3} (hs : ∀ i j : Int, 0 ≤ i → i < j → j < (s.length : Int) → ¬ lt3 (gt s j) (gt s i))
include hs
theorem rise2 {i j : Int} (i0 : 0 ≤ i) (ij : i < j) (j1 : j < (s.length : Int)) : ltk (gt s i) (gt s j) ∨ (key2 (gt s i) (gt s j) ∧ (gt s i).2.2 ≤ (gt s j).2.2) := by
  have := hs i j i0 ij j1
  unfold lt3 at this; unfold ltk key2
  omega
theorem cpt_mem {k : Nat} (hk : k ≤ s.length) : ∀ x ∈ cpt s k, ∃ i : Int, 0 ≤ i ∧ i < k ∧ x = gt s i := by
  induction k with
  | zero => intro x hx; cases hx
  | succ k ih =>
    intro x hx
    simp only [cpt] at hx
    rcases List.mem_append.1 hx with hx | hx
    · obtain ⟨i, i0, i1, e⟩ := ih (by omega) x hx
      exact ⟨i, i0, by omega, e⟩
    · split at hx
      · cases hx
      · exact ⟨k, by omega, by omega, List.mem_singleton.1 hx⟩
theorem cpt_inc {k : Nat} (hk : k ≤ s.length) : (cpt s k).Pairwise ltk := by
  induction k with
  | zero => exact .nil
  | succ k ih =>
    simp only [cpt]
    split
    · rw [List.append_nil]; exact ih (by omega)
    · rename_i hn
      rw [List.pairwise_append]
      refine ⟨ih (by omega), List.pairwise_singleton _ _, fun x hx y hy => ?_⟩
      obtain rfl := List.mem_singleton.1 hy
      obtain ⟨i, i0, i1, rfl⟩ := cpt_mem hs (by omega) x hx
      have hk0 : k ≠ 0 := by omega
      have hn' : ¬ key2 (gt s (k : Int)) (gt s ((k : Int) - 1)) := fun q => hn ⟨hk0, q⟩
      have h1 := rise2 hs (i := (k : Int) - 1) (j := k) (by omega) (by omega) (by omega)
      by_cases e : i = (k : Int) - 1
      · subst e
        unfold ltk key2 at *; omega
      · have h2 := rise2 hs (i := i) (j := (k : Int) - 1) i0 (by omega) (by omega)
        unfold ltk key2 at *; omega
theorem cpt_has {k : Nat} (hk : k ≤ s.length) : ∀ i : Int, 0 ≤ i → i < k → ∃ x ∈ cpt s k, key2 x (gt s i) ∧ x.2.2 ≤ (gt s i).2.2 := by
  induction k with
  | zero => intro i i0 i1; simp at i1; omega
  | succ k ih =>
    intro i i0 i1
    by_cases e : i = (k : Int)
    · subst e
      by_cases hn : k ≠ 0 ∧ key2 (gt s (k : Int)) (gt s ((k : Int) - 1))
      · obtain ⟨x, h1, h2, h3⟩ := ih (by omega) ((k : Int) - 1) (by omega) (by omega)
        refine ⟨x, by simp only [cpt]; exact List.mem_append_left _ h1, ?_, ?_⟩
        · have := hn.2; unfold key2 at *; omega
        · have h4 := rise2 hs (i := (k : Int) - 1) (j := k) (by omega) (by omega) (by omega)
          have := hn.2; unfold ltk key2 at *; omega
      · refine ⟨gt s (k : Int), ?_, ⟨rfl, rfl⟩, Int.le_refl _⟩
        simp only [cpt]
        rw [if_neg hn]
        exact List.mem_append_right _ (List.mem_singleton.2 rfl)
    · obtain ⟨x, h1, h2⟩ := ih (by omega) i i0 (by omega)
      exact ⟨x, by simp only [cpt]; exact List.mem_append_left _ h1, h2⟩
end

def noLp (a : A3) : Bool := !decide (a.1 = a.2.1)
theorem nrm_of {A F s : List A3} (hF : F = A.filter noLp) (hp : s.Perm F) (hs : s.Pairwise fun x y => ¬ lt3 y x) : Nrm A (cpt s s.length) := by
  have hs' : ∀ i j : Int, 0 ≤ i → i < j → j < (s.length : Int) → ¬ lt3 (gt s j) (gt s i) := fun i j i0 ij j1 => by
    obtain ⟨i, rfl⟩ := Int.eq_ofNat_of_zero_le i0
    obtain ⟨j, rfl⟩ := Int.eq_ofNat_of_zero_le (show 0 ≤ j by omega)
    rw [gt_nat (show i < s.length by omega), gt_nat (show j < s.length by omega)]
    exact List.pairwise_iff_getElem.1 hs i j (by omega) (by omega) (by omega)
  have mem : ∀ x, x ∈ s ↔ (x ∈ A ∧ x.1 ≠ x.2.1) := fun x => by
    rw [hp.mem_iff, hF, List.mem_filter]; simp [noLp]
  have inc := cpt_inc hs' (Nat.le_refl _)
  refine ⟨inc, fun a ha => ?_, fun a ha hn => ?_⟩
  · obtain ⟨i, i0, i1, e⟩ := cpt_mem hs' (Nat.le_refl _) a ha
    have hm := (mem a).1 (by rw [e]; exact gt_mem i0 i1)
    refine ⟨hm.1, hm.2, fun b hb hk => ?_⟩
    have hbn : b.1 ≠ b.2.1 := by have := hm.2; unfold key2 at hk; omega
    obtain ⟨j, j0, j1, rfl⟩ := mem_gtE ((mem b).2 ⟨hb, hbn⟩)
    obtain ⟨x, x1, x2, x3⟩ := cpt_has hs' (Nat.le_refl _) j j0 j1
    have : x = a := inc_key inc x1 ha (by unfold key2 at *; omega)
    rw [← this]; exact x3
  · obtain ⟨j, j0, j1, rfl⟩ := mem_gtE ((mem a).2 ⟨ha, hn⟩)
    obtain ⟨x, x1, x2, _⟩ := cpt_has hs' (Nat.le_refl _) j j0 j1
    exact ⟨x, x1, x2⟩

end Go.Vd

/-! (Gc) -/

set_option linter.unusedVariables false
set_option linter.unusedSimpArgs false
namespace Go.Vd
variable {N : Int} {A L : List A3}

/-- The number of what is wrong with an arc; 0: nothing. -/
def arcG (N : Int) (a : A3) : Int := if a.1 < 0 ∨ a.1 ≥ N ∨ a.2.1 < 0 ∨ a.2.1 ≥ N then 7 else if a.2.2 < 0 ∨ a.2.2 > 2147483647 then 8 else 0
def BigG (N : Int) (A : List A3) : Prop := N < 0 ∨ N > 65536 ∨ (A.length : Int) > 262144

/-- What a graph's check tells. -/
inductive GChk (N : Int) (A : List A3) : Er → Prop
  | limit : BigG N A → GChk N A (.no 9)
  | arc (i : Int) : ¬ BigG N A → 0 ≤ i → i < (A.length : Int) → arcG N (gt A i) ≠ 0 → (∀ j, 0 ≤ j → j < i → arcG N (gt A j) = 0) → GChk N A (.at 4 i (.no (arcG N (gt A i))))
  | ok : ¬ BigG N A → (∀ j, 0 ≤ j → j < (A.length : Int) → arcG N (gt A j) = 0) → GChk N A .nil

theorem arcG_7 {a : A3} (h : a.1 < 0 ∨ a.1 ≥ N ∨ a.2.1 < 0 ∨ a.2.1 ≥ N) : arcG N a = 7 := by unfold arcG; rw [if_pos h]
theorem arcG_8 {a : A3} (h : ¬ (a.1 < 0 ∨ a.1 ≥ N ∨ a.2.1 < 0 ∨ a.2.1 ≥ N)) (k : a.2.2 < 0 ∨ a.2.2 > 2147483647) : arcG N a = 8 := by unfold arcG; rw [if_neg h, if_pos k]
theorem arcG_0 {a : A3} (h : ¬ (a.1 < 0 ∨ a.1 ≥ N ∨ a.2.1 < 0 ∨ a.2.1 ≥ N)) (k : ¬ (a.2.2 < 0 ∨ a.2.2 > 2147483647)) : arcG N a = 0 := by unfold arcG; rw [if_neg h, if_neg k]
theorem arcG_ok {a : A3} (h : arcG N a = 0) : 0 ≤ a.1 ∧ a.1 < N ∧ 0 ≤ a.2.1 ∧ a.2.1 < N ∧ 0 ≤ a.2.2 ∧ a.2.2 ≤ 2147483647 := by
  unfold arcG at h
  split at h
  · cases h
  · split at h
    · cases h
    · omega

theorem GChk.uniq {er er' : Er} (h : GChk N A er) (k : GChk N A er') : er = er' := by
  cases h with
  | limit h1 =>
    cases k with
    | limit _ => rfl
    | arc _ k1 => exact absurd h1 k1
    | ok k1 _ => exact absurd h1 k1
  | arc i h1 h2 h3 h4 h5 =>
    cases k with
    | limit k1 => exact absurd k1 h1
    | arc j _ k2 k3 k4 k5 =>
      have : i = j := by
        rcases Int.lt_trichotomy i j with q | q | q
        · exact absurd (k5 i h2 q) h4
        · exact q
        · exact absurd (h5 j k2 q) k4
      rw [this]
    | ok _ k2 => exact absurd (k2 i h2 h3) h4
  | ok h1 h2 =>
    cases k with
    | limit k1 => exact absurd k1 h1
    | arc j _ k2 k3 k4 _ => exact absurd (h2 j k2 k3) k4
    | ok _ _ => rfl
theorem GChk.bad {er : Er} (h : GChk N A er) : (er.code ≠ 0 ∨ er.pls ≠ []) ↔ er ≠ .nil := by
  cases h with
  | limit _ => simp [Er.code]
  | arc i _ _ _ h4 _ => simp [Er.pls]
  | ok _ _ => simp [Er.code, Er.pls]
theorem GChk.small (h : GChk N A .nil) : 0 ≤ N ∧ N ≤ 65536 ∧ (A.length : Int) ≤ 262144 := by
  cases h with
  | ok h1 _ => unfold BigG at h1; omega
theorem GChk.arcs (h : GChk N A .nil) : ∀ a ∈ A, 0 ≤ a.1 ∧ a.1 < N ∧ 0 ≤ a.2.1 ∧ a.2.1 < N ∧ 0 ≤ a.2.2 ∧ a.2.2 ≤ 2147483647 := by
  cases h with
  | ok h1 h2 =>
    intro a ha
    obtain ⟨i, i0, i1, rfl⟩ := mem_gtE ha
    exact arcG_ok (h2 i i0 i1)
theorem GChk.of_arcs (n0 : 0 ≤ N) (n1 : N ≤ 65536) (n2 : (A.length : Int) ≤ 262144) (h : ∀ a ∈ A, 0 ≤ a.1 ∧ a.1 < N ∧ 0 ≤ a.2.1 ∧ a.2.1 < N ∧ 0 ≤ a.2.2 ∧ a.2.2 ≤ 2147483647) : GChk N A .nil :=
  .ok (by unfold BigG; omega) fun j j0 j1 => by have := h _ (gt_mem j0 j1); exact arcG_0 (by omega) (by omega)

theorem p_garc {a : A3} : z_gtext_arc a.1 a.2.1 a.2.2 N = some (if arcG N a = 0 then .nil else .no (arcG N a)) := by
  refine T_eq.1 ?_
  unfold z_gtext_arc
  refine T_bindr (fun o => o = decide (a.1 < 0 ∨ a.1 ≥ N ∨ a.2.1 < 0 ∨ a.2.1 ≥ N)) ?_ ?_
  · unfold z_gtext_within
    simp only [T_bind, T_ite, T_some]
    refine ⟨fun h1 => ⟨fun h2 => ⟨fun h3 => ?_, fun h3 => ?_⟩, fun h2 => ?_⟩, fun h1 => ⟨fun h2 => ?_, fun h2 => ?_⟩⟩
    · have h2' : a.1 < N := by simpa using h2
      by_cases h4 : a.2.1 < N
      · simp [h4]; omega
      · simp [h4]; omega
    · simp; omega
    · have h2' : ¬ a.1 < N := by simpa using h2
      simp; omega
    · simp at h2
    · simp; omega
  · rintro _ rfl
    by_cases h : a.1 < 0 ∨ a.1 ≥ N ∨ a.2.1 < 0 ∨ a.2.1 ≥ N
    · rw [arcG_7 h]; simp [h]
    · rw [decide_eq_false h, if_neg (by decide)]
      by_cases k1 : a.2.2 < 0
      · rw [if_pos k1, arcG_8 h (.inl k1)]; simp
      · rw [if_neg k1]
        by_cases k2 : a.2.2 > 2147483647
        · rw [if_pos k2, arcG_8 h (.inr k2)]; simp
        · rw [if_neg k2, arcG_0 h (by omega)]; simp
theorem p_fAtG {k i : Int} {e : Er} (h : e ≠ .nil) : z_fault_At k i e = some (.at k i e) := by
  unfold z_fault_At; rw [if_neg h]

theorem p_big : T (if N < 0 then (some true) else (if N > 65536 then (some true) else (some (decide ((A.length : Int) > 262144)))) : Option Bool) fun o => o = true ↔ BigG N A := by
  unfold BigG
  simp only [T_ite, T_some]
  exact ⟨fun h => by simp [h], fun h => ⟨fun h2 => by simp [h2], fun h2 => by simp; omega⟩⟩

theorem p_gCheck : T (z_gtext_Check N A) (GChk N A) := by
  unfold z_gtext_Check
  refine T_bindr _ p_big fun o ho => ?_
  rw [T_ite]
  refine ⟨fun h => by simp only [T_some]; exact .limit (ho.1 h), fun h => ?_⟩
  have hb : ¬ BigG N A := fun k => h (ho.2 k)
  have hl : (A.length : Int) ≤ 262144 := by unfold BigG at hb; omega
  refine T_binds (fun _ => ∀ j, 0 ≤ j → j < (A.length : Int) → arcG N (gt A j) = 0) ?_ fun _ h => by simp only [T_some]; exact .ok hb h
  refine T_loop (fun i => 0 ≤ i ∧ i ≤ (A.length : Int) ∧ ∀ j, 0 ≤ j → j < i → arcG N (gt A j) = 0) (fun i => ((A.length : Int) - i).toNat) ?_ ⟨by simp, by simp, fun j j0 j1 => by omega⟩
  rintro i ⟨i0, i1, hi⟩
  unfold z_gtext_Check_l0
  rw [T_ite]
  refine ⟨fun hlt => ?_, fun hge => by simp only [T_some, Sum.elim_inr]; exact fun j j0 j1 => hi j j0 (by omega)⟩
  rw [T_G, p_garc, Option.bind_some]
  refine ⟨i0, ?_⟩
  by_cases h0 : arcG N (gt A i) = 0
  · rw [if_pos h0, if_pos rfl]
    simp only [T_G, T_some, Sum.elim_inl]
    refine ⟨by omega, ⟨by omega, by omega, fun j j0 j1 => ?_⟩, by omega⟩
    by_cases e : j = i
    · rw [e]; exact h0
    · exact hi j j0 (by omega)
  · rw [if_neg h0, if_neg (by simp), p_fAtG (by simp), Option.bind_some]
    simp only [T_map, T_some, Sum.elim_inr, Sum.elim_inl]
    exact .arc i hb i0 hlt h0 hi

/-- An arc turned about. -/
def swp3 (a : A3) : A3 := (a.2.1, a.1, a.2.2)
inductive RevA (N : Int) (A : List A3) : Int → List A3 → Er → Prop
  | bad (er : Er) : GChk N A er → er ≠ .nil → RevA N A 0 [] er
  | ok : GChk N A .nil → RevA N A N (A.map swp3) .nil
theorem GChk.rev (h : GChk N A .nil) : GChk N (A.map swp3) .nil := by
  obtain ⟨n0, n1, n2⟩ := h.small
  refine .of_arcs n0 n1 (by simpa using n2) fun a ha => ?_
  obtain ⟨b, hb, rfl⟩ := List.mem_map.1 ha
  have := h.arcs b hb
  unfold swp3; dsimp only; omega
end Go.Vd

/-! (PrGd) -/

set_option linter.unusedVariables false
set_option linter.unusedSimpArgs false
namespace Go.Vd
variable {N : Int} {A L : List A3}

theorem p_gDocCheck : T (z_viaductref03_DocCheck N A) fun r => ∃ er, GChk N A er ∧ r = (er.code, er.pls) := by
  unfold z_viaductref03_DocCheck
  refine T_bindr _ p_big fun o ho => ?_
  rw [T_ite]
  refine ⟨fun h => by rw [p_E, Option.bind_some]; simp only [T_some]; exact ⟨.no 9, .limit (ho.1 h), rfl⟩, fun h => ?_⟩
  have hb : ¬ BigG N A := fun k => h (ho.2 k)
  have hl : (A.length : Int) ≤ 262144 := by unfold BigG at hb; omega
  refine T_binds (fun _ => ∀ j, 0 ≤ j → j < (A.length : Int) → arcG N (gt A j) = 0) ?_ fun _ h => by simp only [T_some]; exact ⟨.nil, .ok hb h, rfl⟩
  refine T_loop (fun i => 0 ≤ i ∧ i ≤ (A.length : Int) ∧ ∀ j, 0 ≤ j → j < i → arcG N (gt A j) = 0) (fun i => ((A.length : Int) - i).toNat) ?_ ⟨by simp, by simp, fun j j0 j1 => by omega⟩
  rintro i ⟨i0, i1, hi⟩
  unfold z_viaductref03_DocCheck_l0
  rw [T_ite]
  refine ⟨fun hlt => ?_, fun hge => by simp only [T_some, Sum.elim_inr]; exact fun j j0 j1 => hi j j0 (by omega)⟩
  rw [T_G]
  refine ⟨i0, T_bindr (fun o => o = true ↔ ((gt A i).1 < 0 ∨ (gt A i).1 ≥ N ∨ (gt A i).2.1 < 0 ∨ (gt A i).2.1 ≥ N)) ?_ fun o ho => ?_⟩
  · simp only [T_ite, T_some]
    refine ⟨fun h => by simp [h], fun h1 => ⟨fun h => by simp; omega, fun h2 => ⟨fun h => by simp [h], fun h3 => by simp; omega⟩⟩⟩
  rw [T_ite]
  refine ⟨fun h => ?_, fun h => ?_⟩
  · have h7 := arcG_7 (ho.1 h)
    rw [p_E, Option.bind_some, p_At (by simp), Option.bind_some]
    simp only [T_map, T_some, Sum.elim_inr, Sum.elim_inl]
    refine ⟨_, .arc i hb i0 hlt (by rw [h7]; decide) hi, ?_⟩
    rw [h7]; rfl
  · have hn : ¬ ((gt A i).1 < 0 ∨ (gt A i).1 ≥ N ∨ (gt A i).2.1 < 0 ∨ (gt A i).2.1 ≥ N) := fun k => h (ho.2 k)
    refine T_bindr (fun o => o = true ↔ ((gt A i).2.2 < 0 ∨ (gt A i).2.2 > 2147483647)) ?_ fun o ho => ?_
    · simp only [T_ite, T_some]
      exact ⟨fun h => by simp [h], fun h => by simp; omega⟩
    rw [T_ite]
    refine ⟨fun h => ?_, fun h => ?_⟩
    · have h8 := arcG_8 hn (ho.1 h)
      rw [p_E, Option.bind_some, p_At (by simp), Option.bind_some]
      simp only [T_map, T_some, Sum.elim_inr, Sum.elim_inl]
      refine ⟨_, .arc i hb i0 hlt (by rw [h8]; decide) hi, ?_⟩
      rw [h8]; rfl
    · have h0 := arcG_0 hn fun k => h (ho.2 k)
      simp only [T_G, T_some, Sum.elim_inl]
      refine ⟨by omega, ⟨by omega, by omega, fun j j0 j1 => ?_⟩, by omega⟩
      by_cases e : j = i
      · rw [e]; exact h0
      · exact hi j j0 (by omega)

end Go.Vd

/-! (PrGf) -/

set_option linter.unusedVariables false
set_option linter.unusedSimpArgs false
namespace Go.Vd
variable {N : Int} {A L : List A3}
theorem p_Few {most : Int} : T (z_viaductref04_Few N A most) fun b => b = true ↔ (GChk N A .nil ∧ N ≤ most ∧ (A.length : Int) ≤ 2000) := by
  unfold z_viaductref04_Few
  refine T_bindr _ p_gDocCheck ?_
  rintro _ ⟨er, hc, rfl⟩
  dsimp only
  rw [p_Bad, Option.bind_some, T_ite]
  refine ⟨fun h => ?_, fun h => ?_⟩
  · have hne := hc.bad.1 (by simpa using h)
    simp only [T_some]
    simp; exact fun k => absurd (hc.uniq k) hne
  · have he : er = .nil := Classical.not_not.1 fun k => h (by simpa using hc.bad.2 k)
    subst he
    rw [T_ite]
    simp only [T_some]
    exact ⟨fun h => by simp [hc, h], fun h => by simp; intro _ k; omega⟩
end Go.Vd

/-! (So3) -/

set_option linter.unusedVariables false
set_option linter.unusedSimpArgs false
namespace Go.Vd
variable {N : Int} {A L : List A3}

/-- What the normal graph of a graph is. -/
inductive OfA (N : Int) (A : List A3) : Int → List A3 → Er → Prop
  | bad (er : Er) : GChk N A er → er ≠ .nil → OfA N A 0 [] er
  | ok (L : List A3) : GChk N A .nil → Nrm A L → L.length ≤ A.length → OfA N A N L .nil

theorem p_Of : T (z_normal_Of N A) fun r => OfA N A r.1 r.2.1 r.2.2 := by
  unfold z_normal_Of
  refine T_bindr _ p_gCheck fun er hc => ?_
  rw [T_ite]
  refine ⟨fun he => ?_, fun he => by simp only [T_some]; exact .bad er hc he⟩
  subst he
  obtain ⟨n0, n1, n2⟩ := hc.small
  refine T_bindr (fun c => c = A.filter noLp) ?_ ?_
  · refine T_loop (fun z => 0 ≤ z.1 ∧ z.1 ≤ (A.length : Int) ∧ z.2 = (A.take z.1.toNat).filter noLp) (fun z => ((A.length : Int) - z.1).toNat) ?_ ⟨by simp, by simp, by simp⟩
    rintro ⟨i, c⟩ ⟨i0, i1, e⟩
    dsimp only at *
    subst e
    unfold z_normal_Of_l0
    rw [T_ite]
    refine ⟨fun hlt => ?_, fun hge => ?_⟩
    rotate_left
    · simp only [T_some, Sum.elim_inr]
      rw [List.take_of_length_le (by omega)]
    have hll := List.length_filter_le noLp (A.take i.toNat)
    have hlt2 : (A.take i.toNat).length ≤ A.length := by rw [List.length_take]; omega
    have next : (A.take (i + 1).toNat).filter noLp = (A.take i.toNat).filter noLp ++ if (gt A i).1 = (gt A i).2.1 then [] else [gt A i] := by
      rw [take_gtE i0 hlt, List.filter_append]
      congr 1
      by_cases h : (gt A i).1 = (gt A i).2.1 <;> simp [List.filter, noLp, h]
    simp only [T_G, T_ite, T_some, Sum.elim_inl]
    refine ⟨i0, fun h => ⟨by omega, ⟨by omega, by omega, ?_⟩, by omega⟩, fun h => ⟨by omega, by omega, ⟨by omega, by omega, ?_⟩, by omega⟩⟩
    · rw [next, if_pos h, List.append_nil]
    · rw [next, if_neg h]
  · rintro _ rfl
    have hll := List.length_filter_le noLp A
    rw [T_G, p_sort, Option.bind_some]
    refine ⟨by omega, ?_⟩
    have hp := sortL_perm ord3 (A.filter noLp)
    have hlen := hp.length_eq
    refine T_bindr _ (p_Compact (by omega)) fun r hr => ?_
    simp only [T_some]
    rw [hr]
    refine .ok _ hc (nrm_of rfl hp (sort_rise _)) ?_
    have := cpt_len (sortL ord3 (A.filter noLp)) (sortL ord3 (A.filter noLp)).length
    omega

theorem GChk.nrm (h : GChk N A .nil) (k : Nrm A L) (hl : L.length ≤ A.length) : GChk N L .nil := by
  obtain ⟨n0, n1, n2⟩ := h.small
  exact .of_arcs n0 n1 (by omega) fun a ha => h.arcs a (k.sub a ha).1
end Go.Vd

/-! (Fw) -/

set_option linter.unusedVariables false
set_option linter.unusedSimpArgs false
namespace Go.Vd
variable {N n k i j : Int} {A L : List A3} {E E' : Int → Int → Int} {M : List (List Int)}

/-- A walk along arcs, and its length. -/
inductive Wk (A : List A3) : Int → Int → Int → Prop
  | refl (i : Int) : Wk A i i 0
  | step (i u d x w : Int) : Wk A i u d → (u, x, w) ∈ A → Wk A i x (d + w)
theorem Wk.cat {i u v d e : Int} (h : Wk A i u d) (k : Wk A u v e) : Wk A i v (d + e) := by
  induction k with
  | refl => simpa using h
  | step u e x w _ ha ih =>
    have := ih.step _ _ _ _ w ha
    rwa [Int.add_assoc] at this
theorem Wk.one {i j w : Int} (h : (i, j, w) ∈ A) : Wk A i j w := by
  have := (Wk.refl i).step _ _ _ j w h
  simpa using this

/-- A matrix as a function. -/
def IsM (n : Int) (M : List (List Int)) (E : Int → Int → Int) : Prop := (M.length : Int) = n ∧ ∀ i, 0 ≤ i → i < n → ((gt M i).length : Int) = n ∧ ∀ j, 0 ≤ j → j < n → gt (gt M i) j = E i j
theorem IsM.congr (h : IsM n M E) (k : ∀ i j, 0 ≤ i → i < n → 0 ≤ j → j < n → E i j = E' i j) : IsM n M E' :=
  ⟨h.1, fun i i0 i1 => ⟨(h.2 i i0 i1).1, fun j j0 j1 => ((h.2 i i0 i1).2 j j0 j1).trans (k i j i0 i1 j0 j1)⟩⟩
theorem IsM.upd (h : IsM n M E) (i0 : 0 ≤ i) (i1 : i < n) (j0 : 0 ≤ j) (j1 : j < n) {v : Int} : IsM n (M.set i.toNat ((gt M i).set j.toNat v)) (fun a b => if a = i ∧ b = j then v else E a b) := by
  have hl := h.1
  refine ⟨by simpa using h.1, fun a a0 a1 => ?_⟩
  rw [gt_setE i0 (by omega) a0]
  by_cases e : a = i
  · subst e
    rw [if_pos rfl]
    obtain ⟨h1, h2⟩ := h.2 a a0 a1
    refine ⟨by simpa using h1, fun b b0 b1 => ?_⟩
    rw [gt_setE j0 (by omega) b0]
    by_cases f : b = j
    · rw [if_pos f]; dsimp only; rw [if_pos ⟨rfl, f⟩]
    · rw [if_neg f]; dsimp only; rw [if_neg (fun q => f q.2)]; exact h2 b b0 b1
  · rw [if_neg e]
    obtain ⟨h1, h2⟩ := h.2 a a0 a1
    exact ⟨h1, fun b b0 b1 => by dsimp only; rw [if_neg (fun q => e q.1)]; exact h2 b b0 b1⟩

/-- What is known when the middle nodes below k have been gone through. -/
structure FwI (N : Int) (A : List A3) (B k : Int) (E : Int → Int → Int) : Prop where
  rng : ∀ i j, 0 ≤ i → i < N → 0 ≤ j → j < N → E i j = 18446744073709551615 ∨ (0 ≤ E i j ∧ E i j ≤ B)
  snd : ∀ i j, 0 ≤ i → i < N → 0 ≤ j → j < N → E i j ≠ 18446744073709551615 → Wk A i j (E i j)
  dia : ∀ i, 0 ≤ i → i < N → E i i = 0
  arc : ∀ a ∈ A, E a.1 a.2.1 ≤ a.2.2
  tri : ∀ m, 0 ≤ m → m < k → ∀ i j, 0 ≤ i → i < N → 0 ≤ j → j < N → E i m ≠ 18446744073709551615 → E m j ≠ 18446744073709551615 → E i j ≤ E i m + E m j

/-- The way through k. -/
def thv (E : Int → Int → Int) (k i j : Int) : Int := if E i k ≠ 18446744073709551615 ∧ E k j ≠ 18446744073709551615 then min (E i j) (E i k + E k j) else E i j
theorem thv_row (h : E k k = 0) : thv E k k j = E k j := by unfold thv; split <;> omega
theorem thv_col (h : E k k = 0) : thv E k i k = E i k := by unfold thv; split <;> omega
theorem thv_le {B : Int} (h : E i j = 18446744073709551615 ∨ (0 ≤ E i j ∧ E i j ≤ B)) (hb : B ≤ 9000000000000000000) : thv E k i j ≤ E i j := by unfold thv; split <;> omega

theorem FwI.next {B : Int} (h : FwI N A B k E) (hb : B ≤ 9000000000000000000) (k0 : 0 ≤ k) (k1 : k < N) (ha : ∀ a ∈ A, (0 ≤ a.1 ∧ a.1 < N) ∧ 0 ≤ a.2.1 ∧ a.2.1 < N) : FwI N A (B + B) (k + 1) (thv E k) := by
  have kk := h.dia k k0 k1
  refine ⟨fun i j i0 i1 j0 j1 => ?_, fun i j i0 i1 j0 j1 hne => ?_, fun i i0 i1 => ?_, fun a haA => ?_, fun m m0 m1 i j i0 i1 j0 j1 n1 n2 => ?_⟩
  · have r1 := h.rng i j i0 i1 j0 j1; have r2 := h.rng i k i0 i1 k0 k1; have r3 := h.rng k j k0 k1 j0 j1
    unfold thv; split <;> omega
  · have r1 := h.rng i j i0 i1 j0 j1; have r2 := h.rng i k i0 i1 k0 k1; have r3 := h.rng k j k0 k1 j0 j1
    by_cases c : E i k ≠ 18446744073709551615 ∧ E k j ≠ 18446744073709551615
    · have e : thv E k i j = min (E i j) (E i k + E k j) := by unfold thv; rw [if_pos c]
      rw [e] at hne ⊢
      by_cases q : E i j ≤ E i k + E k j
      · rw [Int.min_eq_left q] at hne ⊢; exact h.snd i j i0 i1 j0 j1 hne
      · rw [Int.min_eq_right (by omega)]; exact (h.snd i k i0 i1 k0 k1 c.1).cat (h.snd k j k0 k1 j0 j1 c.2)
    · have e : thv E k i j = E i j := by unfold thv; rw [if_neg c]
      rw [e] at hne ⊢
      exact h.snd i j i0 i1 j0 j1 hne
  · have r2 := h.rng i k i0 i1 k0 k1; have r3 := h.rng k i k0 k1 i0 i1
    have := h.dia i i0 i1
    unfold thv; split <;> omega
  · obtain ⟨⟨a1, a2⟩, a3, a4⟩ := ha a haA
    have := h.arc a haA
    have := thv_le (k := k) (h.rng a.1 a.2.1 a1 a2 a3 a4) hb
    omega
  · have m2 : m < N := by omega
    by_cases e : m = k
    · subst e
      rw [thv_col kk] at n1 ⊢
      rw [thv_row kk] at n2 ⊢
      unfold thv; rw [if_pos ⟨n1, n2⟩]; omega
    · have mk : m < k := by omega
      have tr : ∀ a b, 0 ≤ a → a < N → 0 ≤ b → b < N → E a m = 18446744073709551615 ∨ E m b = 18446744073709551615 ∨ E a b ≤ E a m + E m b := fun a b a0 a1 b0 b1 => by
        by_cases c1 : E a m = 18446744073709551615
        · exact .inl c1
        · by_cases c2 : E m b = 18446744073709551615
          · exact .inr (.inl c2)
          · exact .inr (.inr (h.tri m m0 mk a b a0 a1 b0 b1 c1 c2))
      have t1 := tr i j i0 i1 j0 j1; have t2 := tr i k i0 i1 k0 k1; have t3 := tr k j k0 k1 j0 j1; have t4 := tr k k k0 k1 k0 k1
      have r1 := h.rng i j i0 i1 j0 j1; have r2 := h.rng i k i0 i1 k0 k1; have r3 := h.rng k j k0 k1 j0 j1
      have r4 := h.rng i m i0 i1 m0 m2; have r5 := h.rng m j m0 m2 j0 j1; have r6 := h.rng k m k0 k1 m0 m2; have r7 := h.rng m k m0 m2 k0 k1
      unfold thv at n1 n2 ⊢
      clear h
      generalize E i j = x1 at *; generalize E i k = x2 at *; generalize E k j = x3 at *; generalize E i m = x4 at *; generalize E m j = x5 at *; generalize E k m = x6 at *; generalize E m k = x7 at *
      by_cases c1 : x2 = 18446744073709551615 <;> by_cases c2 : x3 = 18446744073709551615 <;> by_cases c3 : x6 = 18446744073709551615 <;> by_cases c4 : x7 = 18446744073709551615 <;> simp only [c1, c2, c3, c4, ne_eq, not_true_eq_false, not_false_eq_true, and_true, and_false, true_and, false_and, false_or, true_or, or_true, or_false, if_true, if_false] at n1 n2 t1 t2 t3 t4 r1 r2 r3 r4 r5 r6 r7 ⊢ <;> omega

/-- No walk is shorter. -/
theorem FwI.low {B : Int} (h : FwI N A B N E) (hb : B ≤ 9000000000000000000) (ha : ∀ a ∈ A, (0 ≤ a.1 ∧ a.1 < N) ∧ 0 ≤ a.2.1 ∧ a.2.1 < N ∧ 0 ≤ a.2.2 ∧ a.2.2 ≤ 2147483647) (i0 : 0 ≤ i) (i1 : i < N) {d : Int} (w : Wk A i j d) :
    (0 ≤ j ∧ j < N) ∧ (E i j ≤ d) ∧ E i j ≠ 18446744073709551615 := by
  induction w with
  | refl => have := h.dia _ i0 i1; exact ⟨⟨i0, i1⟩, by omega, by omega⟩
  | step u e x w _ hm ih =>
    obtain ⟨⟨u0, u1⟩, h1, h2⟩ := ih
    obtain ⟨⟨_, _⟩, a3, a4, a5, a6⟩ := ha _ hm
    have h3 := h.arc _ hm
    dsimp only at *
    have r1 := h.rng _ x i0 i1 a3 a4
    have r2 := h.rng _ u i0 i1 u0 u1
    have r3 := h.rng u x u0 u1 a3 a4
    have := h.tri u u0 u1 _ x i0 i1 a3 a4 h2 (by omega)
    exact ⟨⟨a3, a4⟩, by omega, by omega⟩

/-- What a matrix of distances is. -/
def DistM (N : Int) (A : List A3) (M : List (List Int)) : Prop := ∃ E B, B ≤ 9000000000000000000 ∧ IsM N M E ∧ FwI N A B N E
theorem FwI.le_of {B B' : Int} {A' : List A3} (h : FwI N A B N E) (h' : FwI N A' B' N E') (hb : B' ≤ 9000000000000000000)
    (ha' : ∀ a ∈ A', (0 ≤ a.1 ∧ a.1 < N) ∧ 0 ≤ a.2.1 ∧ a.2.1 < N ∧ 0 ≤ a.2.2 ∧ a.2.2 ≤ 2147483647) {i' j' : Int} (w : ∀ d, Wk A i j d → ∃ e, Wk A' i' j' e ∧ e ≤ d)
    (i0 : 0 ≤ i) (i1 : i < N) (j0 : 0 ≤ j) (j1 : j < N) (i0' : 0 ≤ i') (i1' : i' < N) (j0' : 0 ≤ j') (j1' : j' < N) : E' i' j' ≤ E i j := by
  have r := h.rng i j i0 i1 j0 j1
  have r' := h'.rng i' j' i0' i1' j0' j1'
  by_cases e : E i j = 18446744073709551615
  · omega
  · obtain ⟨d, h1, h2⟩ := w _ (h.snd i j i0 i1 j0 j1 e)
    have := (h'.low hb ha' i0' i1' h1).2.1
    omega

/-! ### The code -/
theorem rep_len {E0 : Type} {m : Int} {x : E0} (h : 0 ≤ m) : ((List.replicate m.toNat x).length : Int) = m := by simp; omega
theorem gt_repI {m : Nat} {x : Int} : gt (List.replicate m (0 : Int)) x = 0 := by
  unfold gt
  rw [List.getD_eq_getElem?_getD, List.getElem?_replicate]
  split <;> rfl
def E0f : Int → Int → Int := fun a b => if a = b then 0 else 18446744073709551615

theorem p_fwInit (n0 : 0 ≤ N) (n1 : N ≤ 65536) : T (loopO (fun zz_ => z_viaductref04_Distances_l1 N zz_.1 zz_.2) (0, (List.replicate N.toNat ([] : List Int)))) fun M => IsM N M E0f := by
  refine T_loop (fun z => 0 ≤ z.1 ∧ z.1 ≤ N ∧ (z.2.length : Int) = N ∧ ∀ a, 0 ≤ a → a < z.1 → ((gt z.2 a).length : Int) = N ∧ ∀ b, 0 ≤ b → b < N → gt (gt z.2 a) b = E0f a b) (fun z => (N - z.1).toNat) ?_ ⟨by simp, n0, rep_len n0, fun a a0 a1 => by dsimp only at a1; omega⟩
  rintro ⟨x, d⟩ ⟨x0, x1, hl, hd⟩
  dsimp only at *
  unfold z_viaductref04_Distances_l1
  rw [rep_len n0, T_ite]
  refine ⟨fun hx => ?_, fun hx => ?_⟩
  rotate_left
  · simp only [T_some, Sum.elim_inr]
    exact ⟨hl, fun a a0 a1 => hd a a0 (by omega)⟩
  rw [T_G, T_G, T_G]
  refine ⟨by omega, by omega, by simp; omega, ?_⟩
  have hg : gt (d.set x.toNat (List.replicate N.toNat (0 : Int))) x = List.replicate N.toNat 0 := by rw [gt_setE x0 (by omega) x0, if_pos rfl]
  refine T_bindr (fun r => (r.length : Int) = N ∧ (∀ a, 0 ≤ a → a ≠ x → gt r a = gt d a) ∧ ((gt r x).length : Int) = N ∧ ∀ b, 0 ≤ b → b < N → gt (gt r x) b = E0f x b) ?_ ?_
  · refine T_loop (fun z => 0 ≤ z.2 ∧ z.2 ≤ N ∧ (z.1.length : Int) = N ∧ (∀ a, 0 ≤ a → a ≠ x → gt z.1 a = gt d a) ∧ ((gt z.1 x).length : Int) = N ∧ ∀ b, 0 ≤ b → b < N → gt (gt z.1 x) b = if b < z.2 then E0f x b else 0) (fun z => (N - z.2).toNat) ?_
      ⟨by simp, n0, by simpa using hl, fun a a0 ha => by (try dsimp only); rw [gt_setE x0 (by omega) a0, if_neg ha], by (try dsimp only); rw [hg]; exact rep_len n0, fun b b0 b1 => by (try dsimp only); rw [hg, gt_repI, if_neg (by omega)]⟩
    rintro ⟨r, y⟩ ⟨y0, y1, r1, r2, r3, r4⟩
    dsimp only at *
    unfold z_viaductref04_Distances_l0
    rw [hg, rep_len n0, T_ite]
    refine ⟨fun hy => ?_, fun hy => ?_⟩
    rotate_left
    · simp only [T_some, Sum.elim_inr]
      exact ⟨r1, r2, r3, fun b b0 b1 => by rw [r4 b b0 b1, if_pos (by omega)]⟩
    rw [T_ite]
    refine ⟨fun e => ?_, fun e => ?_⟩
    · simp only [T_G, T_some, Sum.elim_inl]
      refine ⟨by omega, ⟨by omega, by omega, r1, r2, r3, fun b b0 b1 => ?_⟩, by omega⟩
      rw [r4 b b0 b1]
      by_cases f : b < y
      · rw [if_pos f, if_pos (by omega)]
      · rw [if_neg f]
        by_cases g : b = y
        · subst g; rw [if_pos (by omega)]; unfold E0f; rw [if_pos e]
        · rw [if_neg (by omega)]
    · simp only [T_G, T_some, Sum.elim_inl]
      refine ⟨by omega, by omega, by omega, ⟨by omega, by omega, by simpa using r1, fun a a0 ha => ?_, ?_, fun b b0 b1 => ?_⟩, by omega⟩
      · rw [gt_setE x0 (by omega) a0, if_neg ha]; exact r2 a a0 ha
      · rw [gt_setE x0 (by omega) x0, if_pos rfl]; simpa using r3
      · rw [gt_setE x0 (by omega) x0, if_pos rfl, gt_setE y0 (by omega) b0]
        by_cases g : b = y
        · subst g; rw [if_pos rfl, if_pos (by omega)]; unfold E0f; rw [if_neg e]
        · rw [if_neg g, r4 b b0 b1]
          by_cases f : b < y
          · rw [if_pos f, if_pos (by omega)]
          · rw [if_neg f, if_neg (by omega)]
  · rintro r ⟨r1, r2, r3, r4⟩
    simp only [T_G, T_some, Sum.elim_inl]
    refine ⟨by omega, ⟨by omega, by omega, r1, fun a a0 a1 => ?_⟩, by omega⟩
    by_cases e : a = x
    · rw [e]; exact ⟨r3, r4⟩
    · rw [r2 a a0 e]; exact hd a a0 (by omega)

theorem p_fwArcs (hg : GChk N A .nil) (h : IsM N M E0f) : T (loopO (fun zz_ => z_viaductref04_Distances_l2 A zz_.1 zz_.2) (M, 0)) fun M' => ∃ E, IsM N M' E ∧ FwI N A 2147483647 0 E := by
  obtain ⟨n0, n1, n2⟩ := hg.small
  have ha := hg.arcs
  refine T_loop (fun z => 0 ≤ z.2 ∧ z.2 ≤ (A.length : Int) ∧ ∃ E, IsM N z.1 E ∧ (∀ i j, 0 ≤ i → i < N → 0 ≤ j → j < N → E i j = 18446744073709551615 ∨ (0 ≤ E i j ∧ E i j ≤ 2147483647)) ∧
    (∀ i j, 0 ≤ i → i < N → 0 ≤ j → j < N → E i j ≠ 18446744073709551615 → Wk A i j (E i j)) ∧ (∀ i, 0 ≤ i → i < N → E i i = 0) ∧ ∀ q, 0 ≤ q → q < z.2 → E (gt A q).1 (gt A q).2.1 ≤ (gt A q).2.2) (fun z => ((A.length : Int) - z.2).toNat) ?_ ?_
  · rintro ⟨d, x⟩ ⟨x0, x1, E, h1, h2, h3, h4, h5⟩
    dsimp only at *
    unfold z_viaductref04_Distances_l2
    rw [T_ite]
    refine ⟨fun hx => ?_, fun hx => ?_⟩
    rotate_left
    · simp only [T_some, Sum.elim_inr]
      exact ⟨E, h1, h2, h3, h4, fun a hA => by obtain ⟨q, q0, q1, rfl⟩ := mem_gtE hA; exact h5 q q0 (by omega), fun m m0 m1 => by omega⟩
    obtain ⟨a1, a2, a3, a4, a5, a6⟩ := ha _ (gt_mem x0 hx)
    obtain ⟨l1, l2⟩ := h1.2 _ a1 a2
    have hl := h1.1
    have hv := l2 _ a3 a4
    simp only [T_G, T_some, Sum.elim_inl]
    refine ⟨x0, by omega, by omega, by omega, by omega, ⟨by omega, by omega, _, h1.upd a1 a2 a3 a4, fun i j i0 i1 j0 j1 => ?_, fun i j i0 i1 j0 j1 => ?_, fun i i0 i1 => ?_, fun q q0 q1 => ?_⟩, by omega⟩
    · try dsimp only
      have := h2 i j i0 i1 j0 j1
      have := h2 _ _ a1 a2 a3 a4
      split <;> omega
    · try dsimp only
      split
      · rename_i e
        obtain ⟨rfl, rfl⟩ := e
        rw [hv]
        intro hne
        by_cases q : E (gt A x).1 (gt A x).2.1 ≤ (gt A x).2.2
        · rw [Int.min_eq_left q] at hne ⊢; exact h3 _ _ a1 a2 a3 a4 hne
        · rw [Int.min_eq_right (by omega)]; exact .one (gt_mem x0 hx)
      · exact h3 i j i0 i1 j0 j1
    · try dsimp only
      have := h4 i i0 i1
      split
      · rename_i e
        rw [hv, ← e.1, ← e.2]
        omega
      · exact this
    · try dsimp only
      by_cases e : (gt A q).1 = (gt A x).1 ∧ (gt A q).2.1 = (gt A x).2.1
      · rw [if_pos e, hv]
        by_cases f : q = x
        · subst f; omega
        · have := h5 q q0 (by omega)
          rw [e.1, e.2] at this; omega
      · rw [if_neg e]
        by_cases f : q = x
        · subst f; exact absurd ⟨rfl, rfl⟩ e
        · exact h5 q q0 (by omega)
  · refine ⟨by simp, by simp, E0f, h, fun i j _ _ _ _ => ?_, fun i j i0 i1 j0 j1 => ?_, fun i _ _ => by unfold E0f; rw [if_pos rfl], fun q q0 q1 => by dsimp only at q1; omega⟩
    · unfold E0f; split <;> simp
    · unfold E0f
      split
      · rename_i e; subst e; intro _; exact .refl i
      · intro q; exact absurd rfl q

theorem p_fwRow {B : Int} (h : FwI N A B k E) (hb : B ≤ 9000000000000000000) (k0 : 0 ≤ k) (k1 : k < N) (hN : N ≤ 65536) (i0 : 0 ≤ i) (i1 : i < N) {d : List (List Int)}
    (hd : IsM N d fun a b => if a < i then thv E k a b else E a b) :
    T (loopO (fun zz_ => z_viaductref04_Distances_l3 k d i zz_.1 zz_.2) (d, 0)) fun r => IsM N r fun a b => if a < i + 1 then thv E k a b else E a b := by
  have kk := h.dia k k0 k1
  have hl := hd.1
  refine T_loop (fun z => 0 ≤ z.2 ∧ z.2 ≤ N ∧ IsM N z.1 fun a b => if a < i ∨ (a = i ∧ b < z.2) then thv E k a b else E a b) (fun z => (N - z.2).toNat) ?_ ⟨by simp, by (try dsimp only); omega, hd.congr fun a b _ _ b0 _ => by
    try dsimp only
    by_cases q : a < i
    · rw [if_pos q, if_pos (.inl q)]
    · rw [if_neg q, if_neg (by omega)]⟩
  rintro ⟨r, y⟩ ⟨y0, y1, hr⟩
  dsimp only at *
  unfold z_viaductref04_Distances_l3
  rw [hl, T_ite]
  refine ⟨fun hy => ?_, fun hy => ?_⟩
  rotate_left
  · simp only [T_some, Sum.elim_inr]
    refine hr.congr fun a b _ _ b0 b1 => ?_
    try dsimp only
    by_cases q : a < i + 1
    · rw [if_pos q, if_pos (by omega)]
    · rw [if_neg q, if_neg (by omega)]
  have hrl := hr.1
  obtain ⟨ri1, ri2⟩ := hr.2 i i0 i1
  obtain ⟨rk1, rk2⟩ := hr.2 k k0 k1
  have eik : gt (gt r i) k = E i k := by
    rw [ri2 k k0 k1]; (try dsimp only); split
    · exact thv_col kk
    · rfl
  have ekj : gt (gt r k) y = E k y := by
    rw [rk2 y y0 hy]; (try dsimp only); split
    · exact thv_row kk
    · rfl
  have eij : gt (gt r i) y = E i y := by
    rw [ri2 y y0 hy]; (try dsimp only); rw [if_neg (by omega)]
  have r1 := h.rng i y i0 i1 y0 hy; have r2 := h.rng i k i0 i1 k0 k1; have r3 := h.rng k y k0 k1 y0 hy
  refine T_bindr (fun o => o = true ↔ (E i k ≠ 18446744073709551615 ∧ E k y ≠ 18446744073709551615)) ?_ fun o ho => ?_
  · rw [eik, ekj]
    simp only [T_G, T_ite, T_some]
    exact ⟨by omega, by omega, fun e => by simp [e], fun e => ⟨by omega, by omega, by simp [e]⟩⟩
  have next : ∀ v, v = thv E k i y → ∀ q, IsM N q (fun a b => if a = i ∧ b = y then v else if a < i ∨ (a = i ∧ b < y) then thv E k a b else E a b) → IsM N q fun a b => if a < i ∨ (a = i ∧ b < y + 1) then thv E k a b else E a b := fun v hv q hq => hq.congr fun a b _ _ _ _ => by
    try dsimp only
    by_cases e : a = i ∧ b = y
    · obtain ⟨rfl, rfl⟩ := e
      rw [if_pos ⟨rfl, rfl⟩, if_pos (by omega), hv]
    · rw [if_neg e]
      by_cases f : a < i ∨ (a = i ∧ b < y)
      · rw [if_pos f, if_pos (by omega)]
      · rw [if_neg f, if_neg (by omega)]
  rw [T_ite]
  refine ⟨fun e => ?_, fun e => ?_⟩
  · have c := ho.1 e
    rw [eik, ekj, eij]
    simp only [T_G, T_some, Sum.elim_inl]
    refine ⟨by omega, by omega, by omega, by omega, by omega, by omega, by omega, ⟨by omega, by omega, next _ ?_ _ (hr.upd i0 i1 y0 hy)⟩, by omega⟩
    unfold thv; rw [if_pos c]
  · have c : ¬ (E i k ≠ 18446744073709551615 ∧ E k y ≠ 18446744073709551615) := fun q => e (ho.2 q)
    simp only [T_G, T_some, Sum.elim_inl]
    refine ⟨by omega, ⟨by omega, by omega, hr.congr fun a b _ _ _ _ => ?_⟩, by omega⟩
    try dsimp only
    by_cases f : a = i ∧ b = y
    · obtain ⟨rfl, rfl⟩ := f
      rw [if_neg (by omega), if_pos (by omega)]
      unfold thv; rw [if_neg c]
    · by_cases g : a < i ∨ (a = i ∧ b < y)
      · rw [if_pos g, if_pos (by omega)]
      · rw [if_neg g, if_neg (by omega)]

theorem p_Distances (hg : GChk N A .nil) (hN : N ≤ 12) : T (z_viaductref04_Distances N A) (DistM N A) := by
  obtain ⟨n0, n1, n2⟩ := hg.small
  unfold z_viaductref04_Distances
  rw [T_G]
  refine ⟨by omega, T_bindr _ (p_fwInit n0 n1) fun M0 h0 => T_bindr _ (p_fwArcs hg h0) ?_⟩
  rintro M1 ⟨E1, h1, h2⟩
  have hl := h1.1
  refine T_bindr (DistM N A) ?_ fun r hr => by simpa using hr
  refine T_loop (fun z => 0 ≤ z.2 ∧ z.2 ≤ N ∧ ∃ E, IsM N z.1 E ∧ FwI N A (2147483647 * 2 ^ z.2.toNat) z.2 E) (fun z => (N - z.2).toNat) ?_ ⟨by simp, n0, E1, h1, by simpa using h2⟩
  rintro ⟨d, x⟩ ⟨x0, x1, E, h3, h4⟩
  dsimp only at *
  have hpow : (2 : Int) ^ x.toNat ≤ 2 ^ 12 := by
    have : (2 : Nat) ^ x.toNat ≤ 2 ^ 12 := Nat.pow_le_pow_right (by decide) (by omega)
    exact_mod_cast this
  have hpow0 : (0 : Int) < 2 ^ x.toNat := Int.pow_pos (by decide)
  unfold z_viaductref04_Distances_l5
  rw [hl, T_ite]
  refine ⟨fun hx => ?_, fun hx => ?_⟩
  rotate_left
  · simp only [T_some, Sum.elim_inr]
    have : x = N := by omega
    subst this
    exact ⟨E, _, by omega, h3, h4⟩
  have hdl := h3.1
  refine T_bindr (fun r => IsM N r (thv E x)) ?_ ?_
  · refine T_loop (fun z => 0 ≤ z.2 ∧ z.2 ≤ N ∧ IsM N z.1 fun a b => if a < z.2 then thv E x a b else E a b) (fun z => (N - z.2).toNat) ?_ ⟨by simp, n0, h3.congr fun a b a0 _ _ _ => by (try dsimp only); rw [if_neg (by omega)]⟩
    rintro ⟨r, y⟩ ⟨y0, y1, hr⟩
    dsimp only at *
    unfold z_viaductref04_Distances_l4
    rw [hdl, T_ite]
    refine ⟨fun hy => ?_, fun hy => ?_⟩
    · refine T_bindr _ (p_fwRow h4 (by omega) x0 hx n1 y0 hy hr) fun q hq => ?_
      simp only [T_G, T_some, Sum.elim_inl]
      exact ⟨by omega, ⟨by omega, by omega, hq⟩, by omega⟩
    · simp only [T_some, Sum.elim_inr]
      exact hr.congr fun a b _ a1 _ _ => by (try dsimp only); rw [if_pos (by omega)]
  · intro r hr
    simp only [T_G, T_some, Sum.elim_inl]
    refine ⟨by omega, ⟨by omega, by omega, _, hr, ?_⟩, by omega⟩
    have := h4.next (by omega) x0 hx fun a hA => by obtain ⟨a1, a2, a3, a4, _⟩ := hg.arcs a hA; exact ⟨⟨a1, a2⟩, a3, a4⟩
    rw [show (x + 1).toNat = x.toNat + 1 from by omega, Int.pow_succ]
    have e : (2147483647 * (2 ^ x.toNat * 2) : Int) = 2147483647 * 2 ^ x.toNat + 2147483647 * 2 ^ x.toNat := by omega
    rw [e]; exact this
end Go.Vd

/-! (Fw2) -/

set_option linter.unusedVariables false
set_option linter.unusedSimpArgs false
namespace Go.Vd
variable {N M i j d : Int} {A B L : List A3}

theorem Wk.nrm (k : Nrm A L) (ha : ∀ a ∈ A, 0 ≤ a.2.2) (h : Wk A i j d) : ∃ e, Wk L i j e ∧ e ≤ d := by
  induction h with
  | refl => exact ⟨0, .refl _, Int.le_refl _⟩
  | step u e x w _ hm ih =>
    obtain ⟨f, h1, h2⟩ := ih
    have := ha _ hm
    dsimp only at this
    by_cases q : u = x
    · subst q; exact ⟨f, h1, by omega⟩
    · obtain ⟨b, b1, b2⟩ := k.sup _ hm q
      have b3 := (k.sub b b1).2.2 _ hm ⟨b2.1.symm, b2.2.symm⟩
      have eb : (u, x, b.2.2) = b := eq3 b2.1.symm b2.2.symm rfl
      exact ⟨f + b.2.2, h1.step _ _ _ _ _ (by rw [eb]; exact b1), by dsimp only at b3; omega⟩
theorem Wk.sub (k : ∀ a ∈ L, a ∈ A) (h : Wk L i j d) : Wk A i j d := by
  induction h with
  | refl => exact .refl _
  | step u e x w _ hm ih => exact ih.step _ _ _ _ _ (k _ hm)
theorem Wk.rev (h : Wk A i j d) : Wk (A.map swp3) j i d := by
  induction h with
  | refl => exact .refl _
  | step u e x w _ hm ih =>
    have h1 : Wk (A.map swp3) x u w := .one (List.mem_map.2 ⟨_, hm, rfl⟩)
    rw [Int.add_comm]; exact h1.cat ih
theorem arcs_in (h : GChk N A .nil) : ∀ a ∈ A, (0 ≤ a.1 ∧ a.1 < N) ∧ 0 ≤ a.2.1 ∧ a.2.1 < N ∧ 0 ≤ a.2.2 ∧ a.2.2 ≤ 2147483647 := fun a ha => by
  obtain ⟨a1, a2, a3, a4, a5, a6⟩ := h.arcs a ha; exact ⟨⟨a1, a2⟩, a3, a4, a5, a6⟩
theorem DistM.same {X Y : List (List Int)} (h : DistM N A X) (k : DistM N B Y) (ga : GChk N A .nil) (gb : GChk N B .nil) (w1 : ∀ i j d, Wk A i j d → ∃ e, Wk B i j e ∧ e ≤ d) (w2 : ∀ i j d, Wk B i j d → ∃ e, Wk A i j e ∧ e ≤ d) : X = Y := by
  obtain ⟨E, b, hb, h1, h2⟩ := h
  obtain ⟨E', b', hb', k1, k2⟩ := k
  have l1 := h1.1; have l2 := k1.1
  refine list_gtE (by omega) fun i i0 i1 => ?_
  obtain ⟨r1, r2⟩ := h1.2 i i0 (by omega)
  obtain ⟨s1, s2⟩ := k1.2 i i0 (by omega)
  refine list_gtE (by omega) fun j j0 j1 => ?_
  rw [r2 j j0 (by omega), s2 j j0 (by omega)]
  have a1 := h2.le_of k2 hb' (arcs_in gb) (w1 i j) i0 (by omega) j0 (by omega) i0 (by omega) j0 (by omega)
  have a2 := k2.le_of h2 hb (arcs_in ga) (w2 i j) i0 (by omega) j0 (by omega) i0 (by omega) j0 (by omega)
  omega
end Go.Vd

/-! (So4) -/

set_option linter.unusedVariables false
set_option linter.unusedSectionVars false
set_option linter.unusedSimpArgs false
namespace Go.Vd
variable {N : Int} {A L : List A3} {F T' W : List Int}

def cnt (L : List A3) (v : Int) : Int := ((L.filter fun a => decide (a.1 < v)).length : Int)
def cq (L : List A3) (v : Int) : Int := ((L.filter fun a => decide (a.1 = v)).length : Int)
theorem cnt_succ (L : List A3) (v : Int) : cnt L (v + 1) = cnt L v + cq L v := by
  unfold cnt cq
  induction L with
  | nil => rfl
  | cons a L ih =>
    simp only [List.filter_cons]
    by_cases h1 : a.1 < v
    · rw [if_pos (by simp; omega), if_pos (by simpa using h1), if_neg (by simp; omega)]
      simp only [List.length_cons]; omega
    · by_cases h2 : a.1 = v
      · rw [if_pos (by simp; omega), if_neg (by simpa using h1), if_pos (by simpa using h2)]
        simp only [List.length_cons]; omega
      · rw [if_neg (by simp; omega), if_neg (by simpa using h1), if_neg (by simpa using h2)]; exact ih
theorem cnt_le (L : List A3) (v : Int) : 0 ≤ cnt L v ∧ cnt L v ≤ L.length := by
  unfold cnt; have := List.length_filter_le (fun a : A3 => decide (a.1 < v)) L; omega
theorem cq_le (L : List A3) (v : Int) : 0 ≤ cq L v ∧ cq L v ≤ L.length := by
  unfold cq; have := List.length_filter_le (fun a : A3 => decide (a.1 = v)) L; omega
theorem cnt_none {v : Int} (h : ∀ a ∈ L, v ≤ a.1) : cnt L v = 0 := by
  unfold cnt
  rw [List.filter_eq_nil_iff.2 fun a ha => by have := h a ha; simp; omega]; rfl
theorem cnt_all {v : Int} (h : ∀ a ∈ L, a.1 < v) : cnt L v = L.length := by
  unfold cnt
  rw [List.filter_eq_self.2 fun a ha => by have := h a ha; simpa using this]
theorem cq_snoc (l : List A3) (a : A3) (v : Int) : cq (l ++ [a]) v = cq l v + if a.1 = v then 1 else 0 := by
  unfold cq
  rw [List.filter_append, List.length_append]
  by_cases h : a.1 = v <;> simp [List.filter, h]

theorem idx_nat : ∀ {L : List A3} {v : Int}, L.Pairwise (fun a b => a.1 ≤ b.1) → ∀ (i : Nat) (h : i < L.length), (L[i].1 < v ↔ (i : Int) < cnt L v) := by
  intro L v
  induction L with
  | nil => intro _ i h; simp at h
  | cons a L ih =>
    intro hp i h
    obtain ⟨h1, h2⟩ := List.pairwise_cons.1 hp
    by_cases ha : a.1 < v
    · have hc : cnt (a :: L) v = cnt L v + 1 := by
        unfold cnt; rw [List.filter_cons, if_pos (by simpa using ha)]; simp
      cases i with
      | zero => simp only [List.getElem_cons_zero]; have := (cnt_le L v).1; constructor <;> intro <;> omega
      | succ i =>
        simp only [List.getElem_cons_succ]
        have := ih h2 i (by simpa using h)
        rw [this, hc]; omega
    · have hz : cnt (a :: L) v = 0 := cnt_none fun b hb => by
        rcases List.mem_cons.1 hb with rfl | hb
        · omega
        · have := h1 b hb; omega
      rw [hz]
      constructor
      · intro hi
        cases i with
        | zero => simp only [List.getElem_cons_zero] at hi; omega
        | succ i =>
          simp only [List.getElem_cons_succ] at hi
          have := h1 _ (List.getElem_mem (show i < L.length by simpa using h)); omega
      · intro hi; omega
theorem inc_le (h : L.Pairwise ltk) : L.Pairwise (fun a b => a.1 ≤ b.1) := h.imp fun h => by unfold ltk at h; omega
theorem idx_cnt (h : L.Pairwise ltk) {i v : Int} (i0 : 0 ≤ i) (i1 : i < (L.length : Int)) : (gt L i).1 < v ↔ i < cnt L v := by
  obtain ⟨i, rfl⟩ := Int.eq_ofNat_of_zero_le i0
  rw [gt_nat (by omega)]
  exact idx_nat (inc_le h) i (by omega)

/-- The arrays of a list of arcs. -/
structure Flat (N : Int) (L : List A3) (F T' W : List Int) : Prop where
  lf : (F.length : Int) = N + 1
  lt : T'.length = L.length
  lw : W.length = L.length
  ft : ∀ v, 0 ≤ v → v ≤ N → gt F v = cnt L v
  tw : ∀ i, 0 ≤ i → i < (L.length : Int) → gt T' i = (gt L i).2.1 ∧ gt W i = (gt L i).2.2

theorem gt_mapE {E : Type} [Inhabited E] {l : List E} {f : E → Int} {i : Int} (i0 : 0 ≤ i) (i1 : i < (l.length : Int)) : gt (l.map f) i = f (gt l i) := by
  obtain ⟨i, rfl⟩ := Int.eq_ofNat_of_zero_le i0
  rw [gt_nat (show i < (l.map f).length by simp; omega), gt_nat (by omega)]; simp
theorem gt_rep0 {m : Nat} {x : Int} : gt (List.replicate m (0 : Int)) x = 0 := by
  simp [gt, List.getD_eq_getElem?_getD, List.getElem?_replicate]
  split <;> rfl

theorem p_flat (hg : GChk N L .nil) : T (z_csr_flat N L) fun r => Flat N L r.1 r.2.1 r.2.2 := by
  obtain ⟨n0, n1, n2⟩ := hg.small
  have ha := hg.arcs
  have hz : cnt L 0 = 0 := cnt_none fun a h => (ha a h).1
  unfold z_csr_flat
  simp only [T_G]
  refine ⟨by omega, by omega, ?_⟩
  refine T_bindr (fun r => (r.1.length : Int) = N + 1 ∧ gt r.1 0 = 0 ∧ (∀ u, 0 ≤ u → u < N → gt r.1 (u + 1) = cq L u) ∧ r.2.1 = L.map (fun a => a.2.1) ∧ r.2.2 = L.map (fun a => a.2.2)) ?_ ?_
  · refine T_loop (fun z => 0 ≤ z.1 ∧ z.1 ≤ (L.length : Int) ∧ (z.2.1.length : Int) = N + 1 ∧ gt z.2.1 0 = 0 ∧ (∀ u, 0 ≤ u → u < N → gt z.2.1 (u + 1) = cq (L.take z.1.toNat) u) ∧ z.2.2.1 = (L.take z.1.toNat).map (fun a => a.2.1) ∧ z.2.2.2 = (L.take z.1.toNat).map (fun a => a.2.2)) (fun z => ((L.length : Int) - z.1).toNat) ?_ ⟨by simp, by simp, by simp; omega, gt_rep0, fun u u0 u1 => by dsimp only; rw [gt_rep0]; simp [cq], by simp, by simp⟩
    rintro ⟨i, c1, c2, c3⟩ ⟨i0, i1, h1, h2, h3, h4, h5⟩
    dsimp only at *
    subst h4; subst h5
    unfold z_csr_flat_l0
    rw [T_ite]
    refine ⟨fun hlt => ?_, fun hge => ?_⟩
    rotate_left
    · simp only [T_some, Sum.elim_inr]
      rw [List.take_of_length_le (by omega)] at *
      exact ⟨h1, h2, h3, rfl, rfl⟩
    obtain ⟨a1, a2, a3, a4, a5, a6⟩ := ha _ (gt_mem i0 hlt)
    have hq := h3 (gt L i).1 a1 a2
    have hq2 := cq_le (L.take i.toNat) (gt L i).1
    have htl : (L.take i.toNat).length = i.toNat := by rw [List.length_take]; omega
    have nx := take_gtE i0 hlt
    simp only [T_G, T_some, Sum.elim_inl, List.length_map, htl]
    refine ⟨i0, by omega, by omega, by omega, by omega, by omega, by omega, ⟨by omega, by omega, by simpa using h1, ?_, fun u u0 u1 => ?_, ?_, ?_⟩, by omega⟩
    · rw [gt_setE (by omega) (by omega) (by omega), if_neg (by omega)]; exact h2
    · rw [gt_setE (by omega) (by omega) (by omega), nx, cq_snoc]
      by_cases e : u = (gt L i).1
      · rw [if_pos (by omega), if_pos e.symm, e, hq]
      · rw [if_neg (by omega), if_neg (fun q => e q.symm), h3 u u0 u1]; omega
    · rw [nx, List.map_append]; rfl
    · rw [nx, List.map_append]; rfl
  · rintro ⟨c1, c2, c3⟩ ⟨h1, h2, h3, h4, h5⟩
    dsimp only at *
    subst h4; subst h5
    refine T_bindr (fun r => (r.length : Int) = N + 1 ∧ ∀ v, 0 ≤ v → v ≤ N → gt r v = cnt L v) ?_ ?_
    · refine T_loop (fun z => 0 ≤ z.2 ∧ z.2 ≤ N ∧ (z.1.length : Int) = N + 1 ∧ (∀ v, 0 ≤ v → v ≤ z.2 → gt z.1 v = cnt L v) ∧ ∀ v, z.2 ≤ v → v < N → gt z.1 (v + 1) = cq L v) (fun z => (N - z.2).toNat) ?_ ⟨by simp, n0, h1, fun v v0 v1 => by dsimp only at v1 ⊢; rw [show v = 0 from by omega, h2, hz], fun v v0 v1 => h3 v v0 v1⟩
      rintro ⟨c, i⟩ ⟨i0, i1, g1, g2, g3⟩
      dsimp only at *
      unfold z_csr_flat_l1
      rw [T_ite]
      refine ⟨fun hlt => ?_, fun hge => ?_⟩
      rotate_left
      · simp only [T_some, Sum.elim_inr]
        exact ⟨g1, fun v v0 v1 => g2 v v0 (by omega)⟩
      have e1 := g2 i i0 (by omega)
      have e2 := g3 i (by omega) hlt
      have l1 := cnt_le L i; have l2 := cq_le L i
      have hs := cnt_succ L i
      simp only [T_G, T_some, Sum.elim_inl]
      refine ⟨by omega, by omega, by omega, by omega, by omega, ⟨by omega, by omega, by simpa using g1, fun v v0 v1 => ?_, fun v v0 v1 => ?_⟩, by omega⟩
      · rw [gt_setE (by omega) (by omega) v0]
        by_cases e : v = i + 1
        · rw [if_pos e, e]; omega
        · rw [if_neg e]; exact g2 v v0 (by omega)
      · rw [gt_setE (by omega) (by omega) (by omega), if_neg (by omega)]; exact g3 v (by omega) v1
    · rintro r ⟨g1, g2⟩
      simp only [T_some]
      exact ⟨g1, by simp, by simp, g2, fun i i0 i1 => ⟨gt_mapE i0 i1, gt_mapE i0 i1⟩⟩

section
variable (hf : Flat N L F T' W) (hi : L.Pairwise ltk) (hg : GChk N L .nil)
include hf hi hg
theorem Flat.row {u j : Int} (u0 : 0 ≤ u) (u1 : u < N) : In F u j ↔ (0 ≤ j ∧ j < (L.length : Int) ∧ (gt L j).1 = u) := by
  have lf := hf.lf
  have e1 := hf.ft u u0 (by omega)
  have e2 := hf.ft (u + 1) (by omega) (by omega)
  have l1 := cnt_le L u; have l2 := cnt_le L (u + 1)
  unfold In
  constructor
  · rintro ⟨_, _, h1, h2⟩
    have k1 := idx_cnt hi (i := j) (v := u) (by omega) (by omega)
    have k2 := idx_cnt hi (i := j) (v := u + 1) (by omega) (by omega)
    refine ⟨by omega, by omega, ?_⟩
    have a1 : ¬ (gt L j).1 < u := fun q => by have := k1.1 q; omega
    have a2 := k2.2 (by omega)
    omega
  · rintro ⟨h1, h2, h3⟩
    have k1 := idx_cnt hi (i := j) (v := u) h1 h2
    have k2 := idx_cnt hi (i := j) (v := u + 1) h1 h2
    have a1 : ¬ j < cnt L u := fun q => by have := k1.2 q; omega
    have a2 := k2.1 (by omega)
    exact ⟨u0, by omega, by omega, by omega⟩
theorem Flat.arcw {u x w : Int} : Arcw F T' W u x w ↔ (u, x, w) ∈ L := by
  have lf := hf.lf
  constructor
  · rintro ⟨j, hI, h1, h2⟩
    have u0 := hI.1; have u1 := hI.2.1
    obtain ⟨j0, j1, e⟩ := (hf.row hi hg u0 (by omega)).1 hI
    obtain ⟨t1, t2⟩ := hf.tw j j0 j1
    have : (u, x, w) = gt L j := eq3 e.symm (by dsimp only; omega) (by dsimp only; omega)
    rw [this]; exact gt_mem j0 j1
  · intro h
    obtain ⟨j, j0, j1, e⟩ := mem_gtE h
    have ha := hg.arcs _ h
    dsimp only at ha
    obtain ⟨t1, t2⟩ := hf.tw j j0 j1
    rw [← e] at t1 t2
    refine ⟨j, (hf.row hi hg ha.1 ha.2.1).2 ⟨j0, j1, by rw [← e]⟩, t1, t2.symm⟩
theorem Flat.chk (hn : ∀ a ∈ L, a.1 ≠ a.2.1) : Chk F T' W .nil := by
  obtain ⟨n0, n1, n2⟩ := hg.small
  have lf := hf.lf; have lt := hf.lt; have lw := hf.lw
  have ha := hg.arcs
  have e0 := hf.ft 0 (by omega) n0
  have en := hf.ft N n0 (by omega)
  rw [cnt_none fun a h => (ha a h).1] at e0
  rw [cnt_all fun a h => (ha a h).2.1] at en
  have hlast : (F.length : Int) - 1 = N := by omega
  refine .ok ⟨by omega, e0, by rw [hlast]; omega, by omega⟩ ⟨by omega, by omega⟩ (fun u u0 u1 => ?_) fun u j hI => ?_
  · rw [hf.ft u u0 (by omega), hf.ft (u + 1) (by omega) (by omega), cnt_succ]
    have := cq_le L u; omega
  · have u0 := hI.1; have u1 := hI.2.1
    obtain ⟨j0, j1, e⟩ := (hf.row hi hg u0 (by omega)).1 hI
    obtain ⟨t1, t2⟩ := hf.tw j j0 j1
    have hm := gt_mem j0 j1
    obtain ⟨a1, a2, a3, a4, a5, a6⟩ := ha _ hm
    have hne := hn _ hm
    refine arcNo_0 (by omega) (by omega) ?_ (by omega) (by omega)
    rintro (h | ⟨h1, h2⟩)
    · omega
    · have hI2 : In F u (j - 1) := ⟨u0, u1, by omega, by have := hI.2.2.2; omega⟩
      obtain ⟨q0, q1, q2⟩ := (hf.row hi hg u0 (by omega)).1 hI2
      obtain ⟨s1, s2⟩ := hf.tw (j - 1) q0 q1
      have hlt : ltk (gt L (j - 1)) (gt L j) := by
        obtain ⟨m, hm⟩ := Int.eq_ofNat_of_zero_le q0
        have hj : j = ((m + 1 : Nat) : Int) := by omega
        rw [hm, hj, gt_nat (show m < L.length by omega), gt_nat (show m + 1 < L.length by omega)]
        exact List.pairwise_iff_getElem.1 hi m (m + 1) (by omega) (by omega) (by omega)
      unfold ltk at hlt
      omega
end

/-- What the arrays of a graph are. -/
inductive BldA (N : Int) (A : List A3) : List Int → List Int → List Int → Er → Prop
  | bad (er : Er) : GChk N A er → er ≠ .nil → BldA N A [] [] [] er
  | ok (L : List A3) (F T' W : List Int) : GChk N A .nil → Nrm A L → L.length ≤ A.length → Flat N L F T' W → BldA N A F T' W .nil
theorem p_Build : T (z_csr_Build N A) fun r => BldA N A r.1 r.2.1 r.2.2.1 r.2.2.2 := by
  unfold z_csr_Build
  refine T_bindr _ p_Of ?_
  rintro ⟨n, l, er⟩ h
  dsimp only at *
  cases h with
  | bad _ h1 h2 => rw [if_neg h2]; simp only [T_some]; exact .bad er h1 h2
  | ok _ h1 h2 h3 =>
    rw [if_pos rfl]
    refine T_bindr _ (p_flat (h1.nrm h2 h3)) ?_
    rintro ⟨F, T', W⟩ hf
    simp only [T_some]
    exact .ok l F T' W h1 h2 h3 hf
/-- What the arrays of right graphs are good for. -/
theorem BldA.use {er : Er} (h : BldA N A F T' W er) (hg : GChk N A .nil) : er = .nil ∧ ∃ L, Nrm A L ∧ GChk N L .nil ∧ Flat N L F T' W ∧ Chk F T' W .nil ∧ (F.length : Int) = N + 1 ∧ ∀ u x w, Arcw F T' W u x w ↔ (u, x, w) ∈ L := by
  cases h with
  | bad _ h1 h2 => exact absurd (h1.uniq hg) h2
  | ok L _ _ _ h1 h2 h3 h4 =>
    have hgl := h1.nrm h2 h3
    exact ⟨rfl, L, h2, hgl, h4, h4.chk h2.inc hgl (fun a ha => (h2.sub a ha).2.1), h4.lf, fun u x w => h4.arcw h2.inc hgl⟩
end Go.Vd

/-! (Mp) -/

set_option linter.unusedVariables false
set_option linter.unusedSimpArgs false
namespace Go.Vd
variable {F T' W : List Int} {s : Int}

theorem gt_addE {E : Type} [Inhabited E] {l : List E} {y : E} {j : Int} (j0 : 0 ≤ j) (j1 : j < (l.length : Int) + 1) : gt (l ++ [y]) j = if j = l.length then y else gt l j := by
  obtain ⟨j, rfl⟩ := Int.eq_ofNat_of_zero_le j0
  by_cases h : (j : Int) = l.length
  · rw [if_pos h]
    have : j = l.length := by omega
    subst this
    simp [gt, List.getD_eq_getElem?_getD]
  · rw [if_neg h]
    have : j < l.length := by omega
    simp [gt, List.getD_eq_getElem?_getD, List.getElem?_append_left this]

/-- The first k rows of all distances. -/
def MatL (F T' W : List Int) (k : Int) (L : List (List Int)) : Prop := (L.length : Int) = k ∧ ∀ i, 0 ≤ i → i < k → DistL F T' W i (gt L i)
theorem MatL.next {k : Int} {L : List (List Int)} {l : List Int} (h : MatL F T' W k L) (k0 : 0 ≤ k) (hl : DistL F T' W k l) : MatL F T' W (k + 1) (L ++ [l]) := by
  refine ⟨by simp [h.1], fun i i0 i1 => ?_⟩
  rw [gt_addE i0 (by have := h.1; omega)]
  by_cases e : i = L.length
  · rw [if_pos e]; have := h.1; rwa [show i = k from by omega]
  · rw [if_neg e]; exact h.2 i i0 (by have := h.1; omega)

/-- What a matrix is. -/
inductive MatA (F T' W : List Int) : List (List Int) → Er → Prop
  | bad (er : Er) : Chk F T' W er → er ≠ .nil → MatA F T' W [] er
  | limit : Chk F T' W .nil → ((F.length : Int) - 1) * ((F.length : Int) - 1) > 1048576 → MatA F T' W [] (.no 9)
  | ok (L : List (List Int)) : Chk F T' W .nil → ¬ ((F.length : Int) - 1) * ((F.length : Int) - 1) > 1048576 → MatL F T' W ((F.length : Int) - 1) L → MatA F T' W L .nil

theorem p_runAll (hc : Chk F T' W .nil) (s0 : 0 ≤ s) (s1 : s < (F.length : Int) - 1) :
    T ((z_search_run F T' W s 4611686018427387904 4611686018427387904 18446744073709551615).bind fun y => z_search_state_all F T' W y.1 y.2.1 y.2.2.1 y.2.2.2.1 y.2.2.2.2.1 y.2.2.2.2.2.1 y.2.2.2.2.2.2) (DistL F T' W s) := by
  obtain ⟨m1, m2⟩ := hc.small
  obtain ⟨q1, _⟩ := hc.shp
  refine T_bindr _ (p_run hc s0 s1) ?_
  rintro _ ⟨h, a, cs, c, hp, S, rfl, lc, C, hb, _, _⟩
  dsimp only
  refine T_mono (p_all (by omega) (by omega) lc) fun l ⟨l1, l2⟩ => ⟨l1, ?_⟩
  have e : LD l = DC cs := by
    funext v
    unfold LD
    by_cases hv : 0 ≤ v ∧ v < (F.length : Int) - 1
    · rw [l2 v hv.1 hv.2]
      cases hd : DC cs v with
      | none => rw [if_neg (fun k => k.2.2 rfl)]
      | some k =>
        have := hb v k hd
        rw [if_pos ⟨hv.1, by omega, by simp; omega⟩]; rfl
    · rw [if_neg (by omega)]
      cases hd : DC cs v with
      | none => rfl
      | some k => have := DC_rng hd; omega
  rw [e]; exact C

theorem sq_small {n : Int} (n0 : 0 ≤ n) (n1 : n ≤ 65536) : 0 ≤ n * n ∧ n * n ≤ 4294967296 := by
  have h1 : n * n ≤ 65536 * 65536 := Int.mul_le_mul n1 n1 n0 (by omega)
  have h2 : 0 ≤ n * n := Int.mul_nonneg n0 n0
  omega

theorem p_Matrix (hl : F.length ≤ 17592186044160) (ht : T'.length ≤ 17592186044160) : T (z_search_Matrix F T' W) fun r => MatA F T' W r.1 r.2 := by
  unfold z_search_Matrix
  refine T_bindr _ (p_Check hl ht) fun er hc => ?_
  rw [T_ite]
  refine ⟨fun he => ?_, fun he => by simp only [T_some]; exact .bad _ hc he⟩
  subst he
  obtain ⟨m1, m2⟩ := hc.small
  obtain ⟨q1, _⟩ := hc.shp
  have hsq := sq_small (n := (F.length : Int) - 1) (by omega) (by omega)
  rw [p_nodes8 (by omega), Option.bind_some, T_G]
  refine ⟨by omega, ?_⟩
  rw [T_ite]
  refine ⟨fun h => by simp only [T_some]; exact .limit hc h, fun h => ?_⟩
  refine T_bindr (MatL F T' W ((F.length : Int) - 1)) ?_ fun L hL => by simp only [T_some]; exact .ok L hc h hL
  refine T_loop (fun z => 0 ≤ z.1 ∧ z.1 ≤ (F.length : Int) - 1 ∧ MatL F T' W z.1 z.2) (fun z => ((F.length : Int) - z.1).toNat) ?_ ⟨by simp, by simp; omega, rfl, fun i i0 i1 => by dsimp only at i1; omega⟩
  rintro ⟨i, l⟩ ⟨i0, i1, hM⟩
  dsimp only at *
  unfold z_search_Matrix_l0
  rw [T_ite]
  refine ⟨fun hi => ?_, fun hi => by simp only [T_some, Sum.elim_inr]; rwa [show (F.length : Int) - 1 = i from by omega]⟩
  rw [show z_search_free = some () from rfl, Option.bind_some]
  obtain ⟨x, hx, hD⟩ := p_runAll hc i0 hi
  obtain ⟨y, h1, h2⟩ := bind_some hx
  rw [h1, Option.bind_some, h2, Option.bind_some]
  have := hM.1
  simp only [T_G, T_some, Sum.elim_inl]
  exact ⟨by omega, by omega, ⟨by omega, by omega, hM.next i0 hD⟩, by omega⟩

end Go.Vd

/-! (MxB) -/

set_option linter.unusedVariables false
set_option linter.unusedSimpArgs false
namespace Go.Vd
variable {F T' W : List Int} {s : Int}

theorem p_runB48 (hc : Chk F T' W .nil) (s0 : 0 ≤ s) (s1 : s < (F.length : Int) - 1) :
    T ((z_search_run F T' W s 4611686018427387904 4611686018427387904 18446744073709551615).bind fun y => z_search_state_all F T' W y.1 y.2.1 y.2.2.1 y.2.2.2.1 y.2.2.2.2.1 y.2.2.2.2.2.1 y.2.2.2.2.2.2) fun l => DistL F T' W s l ∧ ∀ v k, LD l v = some k → 0 ≤ k ∧ k < 281474976710656 := by
  obtain ⟨m1, m2⟩ := hc.small
  obtain ⟨q1, _⟩ := hc.shp
  refine T_bindr _ (p_run hc s0 s1) ?_
  rintro _ ⟨h, a, cs, c, hp, S, rfl, lc, C, hb, _, _⟩
  dsimp only
  refine T_mono (p_all (by omega) (by omega) lc) fun l ⟨l1, l2⟩ => ?_
  have e : LD l = DC cs := by
    funext v
    unfold LD
    by_cases hv : 0 ≤ v ∧ v < (F.length : Int) - 1
    · rw [l2 v hv.1 hv.2]
      cases hd : DC cs v with
      | none => rw [if_neg (fun k => k.2.2 rfl)]
      | some k =>
        have := hb v k hd
        rw [if_pos ⟨hv.1, by omega, by simp; omega⟩]; rfl
    · rw [if_neg (by omega)]
      cases hd : DC cs v with
      | none => rfl
      | some k => have := DC_rng hd; omega
  exact ⟨⟨l1, by rw [e]; exact C⟩, fun v k hk => by rw [e] at hk; exact hb v k hk⟩
theorem DistL.small (hc : Chk F T' W .nil) (s0 : 0 ≤ s) (s1 : s < (F.length : Int) - 1) {l : List Int} (h : DistL F T' W s l) : ∀ v k, LD l v = some k → 0 ≤ k ∧ k < 281474976710656 := by
  obtain ⟨x, _, hx, hb⟩ := p_runB48 hc s0 s1
  rw [h.uniq hx]; exact hb
theorem LD_iff {l : List Int} {v k : Int} : LD l v = some k ↔ (0 ≤ v ∧ v < (l.length : Int) ∧ gt l v ≠ 18446744073709551615 ∧ gt l v = k) := by
  unfold LD
  constructor
  · intro h
    split at h
    · rename_i hh; exact ⟨hh.1, hh.2.1, hh.2.2, Option.some.inj h⟩
    · cases h
  · rintro ⟨h1, h2, h3, h4⟩
    rw [if_pos ⟨h1, h2, h3⟩, h4]
theorem Way.cat {u v d e : Int} (h : Way F T' W s u d) (k : Way F T' W u v e) : Way F T' W s v (d + e) := by
  induction k with
  | refl => simpa using h
  | step x e y w _ ha ih =>
    have := ih.step _ _ _ w ha
    rwa [Int.add_assoc] at this
end Go.Vd

/-! (ChkU) -/

namespace Go.Vd
variable {F T' W l : List Int}

theorem Chk.uniq {er er' : Er} (h : Chk F T' W er) (k : Chk F T' W er') : er = er' := by
  cases h with
  | shape h1 =>
    cases k with
    | shape _ => rfl
    | limit k1 _ => exact absurd k1 h1
    | mono v k1 => exact absurd k1 h1
    | arc v i k1 => exact absurd k1 h1
    | ok k1 => exact absurd k1 h1
  | limit h1 h2 =>
    cases k with
    | shape k1 => exact absurd h1 k1
    | limit _ _ => rfl
    | mono v _ k2 => exact absurd k2 h2
    | arc v i _ k2 => exact absurd k2 h2
    | ok _ k2 => exact absurd k2 h2
  | mono v h1 h2 h3 h4 h5 h6 =>
    cases k with
    | shape k1 => exact absurd h1 k1
    | limit _ k2 => exact absurd h2 k2
    | mono v' _ _ k3 k4 k5 k6 =>
      have : v = v' := by
        rcases Int.lt_trichotomy v v' with q | q | q
        · have := k6 v h3 q; omega
        · exact q
        · have := h6 v' k3 q; omega
      rw [this]
    | arc v' i _ _ k3 => have := k3 v h3 h4; omega
    | ok _ _ k3 => have := k3 v h3 h4; omega
  | arc v i h1 h2 h3 h4 h5 h6 =>
    cases k with
    | shape k1 => exact absurd h1 k1
    | limit _ k2 => exact absurd h2 k2
    | mono v' _ _ k3 k4 k5 k6 => have := h3 v' k3 k4; omega
    | arc v' i' _ _ _ k4 k5 k6 =>
      have e : i = i' := by
        rcases Int.lt_trichotomy i i' with q | q | q
        · exact absurd (k6 v i h4 q) h5
        · exact q
        · exact absurd (h6 v' i' k4 q) k5
      subst e
      rw [In.uniq h3 h4 k4]
    | ok _ _ _ k4 => exact absurd (k4 v i h4) h5
  | ok h1 h2 h3 h4 =>
    cases k with
    | shape k1 => exact absurd h1 k1
    | limit _ k2 => exact absurd h2 k2
    | mono v' _ _ k3 k4 k5 k6 => have := h3 v' k3 k4; omega
    | arc v' i' _ _ _ k4 k5 k6 => exact absurd (h4 v' i' k4) k5
    | ok => rfl

end Go.Vd

/-! (LenU) -/

set_option linter.unusedVariables false
set_option linter.unusedSimpArgs false
namespace Go.Vd
variable {F T' W l : List Int}
theorem WSum.arc {k s : Int} (h : WSum F T' W l k s) : ∀ j, 0 ≤ j → j < k → ∃ x, Arcw F T' W (gt l j) (gt l (j + 1)) x := by
  induction h with
  | zero => intro j h0 h1; omega
  | step k s x k0 _ ha ih =>
    intro j h0 h1
    by_cases e : j = k
    · subst e; exact ⟨x, ha⟩
    · exact ih j h0 (by omega)
theorem Len.uniq {n n' : Int} {er er' : Er} (h : Len F T' W l n er) (k : Len F T' W l n' er') : n = n' ∧ er = er' := by
  cases h with
  | bad _ h1 h2 =>
    cases k with
    | bad _ k1 k2 => exact ⟨rfl, h1.uniq k1⟩
    | missing k1 => exact absurd (h1.uniq k1) h2
    | node i k1 => exact absurd (h1.uniq k1) h2
    | nowalk i s k1 => exact absurd (h1.uniq k1) h2
    | ok s k1 => exact absurd (h1.uniq k1) h2
  | missing h1 h2 =>
    cases k with
    | bad _ k1 k2 => exact absurd (k1.uniq h1) k2
    | missing _ _ => exact ⟨rfl, rfl⟩
    | node i _ k2 k3 => omega
    | nowalk i s _ _ k2 k3 => omega
    | ok s _ _ k2 => omega
  | node i h1 h2 h3 h4 h5 =>
    cases k with
    | bad _ k1 k2 => exact absurd (k1.uniq h1) k2
    | missing _ k2 => omega
    | node i' _ k2 k3 k4 k5 =>
      have : i = i' := by
        rcases Int.lt_trichotomy i i' with q | q | q
        · have := k5 i h2 q; omega
        · exact q
        · have := h5 i' k2 q; omega
      rw [this]; exact ⟨rfl, rfl⟩
    | nowalk i' s _ kN => have := kN i h2 h3; omega
    | ok s _ kN => have := kN i h2 h3; omega
  | nowalk i s h1 hN h2 h3 h4 h5 =>
    cases k with
    | bad _ k1 k2 => exact absurd (k1.uniq h1) k2
    | missing _ k2 => omega
    | node i' _ k2 k3 k4 k5 => have := hN i' k2 k3; omega
    | nowalk i' s' _ kN k2 k3 k4 k5 =>
      have : i = i' := by
        rcases Int.lt_trichotomy i i' with q | q | q
        · obtain ⟨x, hx⟩ := k4.arc i h2 q; exact absurd hx (h5 x)
        · exact q
        · obtain ⟨x, hx⟩ := h4.arc i' k2 q; exact absurd hx (k5 x)
      rw [this]; exact ⟨rfl, rfl⟩
    | ok s' _ kN k2 k3 => obtain ⟨x, hx⟩ := k3.arc i h2 h3; exact absurd hx (h5 x)
  | ok s h1 hN h2 h3 =>
    cases k with
    | bad _ k1 k2 => exact absurd (k1.uniq h1) k2
    | missing _ k2 => omega
    | node i' _ k2 k3 k4 k5 => have := hN i' k2 k3; omega
    | nowalk i' s' _ kN k2 k3 k4 k5 => obtain ⟨x, hx⟩ := h3.arc i' k2 k3; exact absurd hx (k5 x)
    | ok s' _ _ _ k3 => exact ⟨h3.uniq h1 k3, rfl⟩

end Go.Vd

/-! (Mt) -/

set_option linter.unusedVariables false
set_option linter.unusedSimpArgs false
namespace Go.Vd
variable {F T' W : List Int} {N : Int} {A L : List A3} {M : List (List Int)}

/-- A matrix of distances: what the law asks of it. -/
structure Metric (N : Int) (A : List A3) (M : List (List Int)) : Prop where
  len : (M.length : Int) = N
  row : ∀ i, 0 ≤ i → i < N → ((gt M i).length : Int) = N
  self : ∀ i, 0 ≤ i → i < N → gt (gt M i) i = 0
  rng : ∀ i j, 0 ≤ i → i < N → 0 ≤ j → j < N → gt (gt M i) j ≠ 18446744073709551615 → 0 ≤ gt (gt M i) j ∧ gt (gt M i) j < 281474976710656
  arc : ∀ a ∈ A, gt (gt M a.1) a.2.1 ≤ a.2.2
  tri : ∀ i j k, 0 ≤ i → i < N → 0 ≤ j → j < N → 0 ≤ k → k < N → gt (gt M i) k ≠ 18446744073709551615 → gt (gt M k) j ≠ 18446744073709551615 → ¬ gt (gt M i) j > gt (gt M i) k + gt (gt M k) j
  last : ∀ i j, 0 ≤ i → i < N → 0 ≤ j → j < N → i ≠ j → gt (gt M i) j ≠ 18446744073709551615 → ∃ a ∈ A, a.2.1 = j ∧ a.1 ≠ j ∧ gt (gt M i) a.1 ≠ 18446744073709551615 ∧ gt (gt M i) a.1 + a.2.2 = gt (gt M i) j
  nodes : ∀ a ∈ A, 0 ≤ a.1 ∧ a.1 < N ∧ 0 ≤ a.2.1 ∧ a.2.1 < N ∧ 0 ≤ a.2.2 ∧ a.2.2 ≤ 2147483647

theorem metric_of (hc : Chk F T' W .nil) (lF : (F.length : Int) = N + 1) (hA : ∀ u x w, Arcw F T' W u x w ↔ (u, x, w) ∈ L) (hn : Nrm A L) (hg : GChk N A .nil) (hM : MatL F T' W ((F.length : Int) - 1) M) : Metric N A M := by
  have hrow : ∀ i, 0 ≤ i → i < N → DistL F T' W i (gt M i) := fun i i0 i1 => hM.2 i i0 (by omega)
  have len : ∀ i, 0 ≤ i → i < N → ((gt M i).length : Int) = N := fun i i0 i1 => by have := (hrow i i0 i1).len; omega
  have ha := hg.arcs
  refine ⟨by have := hM.1; omega, len, fun i i0 i1 => ?_, fun i j i0 i1 j0 j1 hj => ?_, fun a haA => ?_, fun i j k i0 i1 j0 j1 k0 k1 h1 h2 => ?_, fun i j i0 i1 j0 j1 hij hj => ?_, ha⟩
  · exact (LD_iff.1 (hrow i i0 i1).cd.src).2.2.2
  · exact (hrow i i0 i1).small hc i0 (by omega) j _ (LD_iff.2 ⟨j0, by rw [len i i0 i1]; exact j1, hj, rfl⟩)
  · obtain ⟨a1, a2, a3, a4, a5, a6⟩ := ha a haA
    have hs := (hrow a.1 a1 a2).cd.src
    by_cases e : a.1 = a.2.1
    · rw [← e, (LD_iff.1 hs).2.2.2]; exact a5
    · obtain ⟨b, b1, b2⟩ := hn.sup a haA e
      have hb := (hn.sub b b1).2.2 a haA ⟨b2.1.symm, b2.2.symm⟩
      have harc : Arcw F T' W a.1 a.2.1 b.2.2 := (hA _ _ _).2 (by
        have : (a.1, a.2.1, b.2.2) = b := eq3 b2.1.symm b2.2.symm rfl
        rw [this]; exact b1)
      obtain ⟨m, h1, h2⟩ := (hrow a.1 a1 a2).cd.arc a.1 0 a.2.1 b.2.2 hs harc
      have := (LD_iff.1 h1).2.2.2
      omega
  · have d1 := LD_iff.2 ⟨k0, by rw [len i i0 i1]; exact k1, h1, rfl⟩
    have d2 := LD_iff.2 ⟨j0, by rw [len k k0 k1]; exact j1, h2, rfl⟩
    have w := ((hrow i i0 i1).cd.way _ _ d1).cat ((hrow k k0 k1).cd.way _ _ d2)
    obtain ⟨m, e1, e2⟩ := (hrow i i0 i1).cd.low w
    have := (LD_iff.1 e1).2.2.2
    omega
  · have d := LD_iff.2 ⟨j0, by rw [len i i0 i1]; exact j1, hj, rfl⟩
    have w := (hrow i i0 i1).cd.way _ _ d
    generalize hx : gt (gt M i) j = x at w
    cases w with
    | refl => exact absurd rfl hij
    | step u e _ y hw hy =>
      obtain ⟨k, h1, h2⟩ := (hrow i i0 i1).cd.low hw
      obtain ⟨m, h3, h4⟩ := (hrow i i0 i1).cd.arc u k j y h1 hy
      have hm := (hA _ _ _).1 hy
      obtain ⟨s1, s2, _⟩ := hn.sub _ hm
      have g1 := LD_iff.1 h1
      have g3 := (LD_iff.1 h3).2.2.2
      rw [hx] at g3
      exact ⟨_, s1, rfl, s2, g1.2.2.1, by dsimp only; omega⟩

end Go.Vd

/-! (Ws) -/

set_option linter.unusedVariables false
set_option linter.unusedSimpArgs false
namespace Go.Vd
variable {F T' W l r y : List Int}
theorem Way.walk {s d : Int} {m s2 : Int} (h : WSum F T' W y m s2) (hw : Way F T' W s (gt y 0) d) : Way F T' W s (gt y m) (d + s2) := by
  induction h with
  | zero => simpa using hw
  | step k t x k0 _ ha ih =>
    have := ih.step _ _ _ x ha
    rwa [Int.add_assoc] at this

theorem Len.okW {n : Int} (h : Len F T' W l n .nil) : WSum F T' W l ((l.length : Int) - 1) n := by
  cases h with
  | bad _ _ h2 => exact absurd rfl h2
  | ok s _ _ _ h => exact h

theorem gt_appR {p r : List Int} {i : Int} (i0 : 0 ≤ i) : gt (p ++ r) ((p.length : Int) + i) = gt r i := by
  simp only [gt, List.getD_eq_getElem?_getD]
  rw [List.getElem?_append_right (by omega)]
  congr 2; omega
theorem WSum.app {p q : List Int} {k kq a b : Int} (h : WSum F T' W p k a) (g : WSum F T' W q kq b) (h1 : ∀ j, 0 ≤ j → j ≤ k → gt r j = gt p j) :
    (∀ j, 0 ≤ j → j ≤ kq → gt r (k + j) = gt q j) → WSum F T' W r (k + kq) (a + b) := by
  have k0 := h.nn
  induction g with
  | zero => intro _; simpa using h.congr fun j j0 j1 => (h1 j j0 j1).symm
  | step n s x n0 hn ha ih =>
    intro h2
    have := ih fun j j0 j1 => h2 j j0 (by omega)
    have := WSum.step (fi := F) (to := T') (wt := W) (l := r) (k + n) (a + s) x (by omega) this (by rw [h2 n n0 (by omega), show k + n + 1 = k + (n + 1) from by omega, h2 (n + 1) (by omega) (Int.le_refl _)]; exact ha)
    rw [show k + (n + 1) = k + n + 1 from by omega, ← Int.add_assoc]; exact this
end Go.Vd

/-! (Nd8) -/

set_option linter.unusedVariables false
set_option linter.unusedSimpArgs false
namespace Go.Vd
variable {F T' W : List Int} {s : Int}

theorem p_node8 (hl : F.length ≤ 17592186044160) (ht : T'.length ≤ 17592186044160) (pc : T (z_csr_Check F T' W) (Chk F T' W)) :
    T (z_search_node F T' W [s]) fun r => ∃ er, Chk F T' W er ∧ ((er ≠ .nil ∧ r = er) ∨ (er = .nil ∧ ¬ (0 ≤ s ∧ s < (F.length : Int) - 1) ∧ r = .no 7) ∨ (er = .nil ∧ 0 ≤ s ∧ s < (F.length : Int) - 1 ∧ r = .nil)) := by
  unfold z_search_node
  refine T_bindr _ pc fun er hc => ?_
  rw [T_ite]
  refine ⟨fun he => ?_, fun he => by simp only [T_some]; exact ⟨er, hc, .inl ⟨he, rfl⟩⟩⟩
  subst he
  refine T_binds (fun _ => 0 ≤ s ∧ s < (F.length : Int) - 1) ?_ fun _ h => by simp only [T_some]; exact ⟨.nil, hc, .inr (.inr ⟨rfl, h.1, h.2, trivial⟩)⟩
  refine T_loop (fun i => (i = 0 ∨ (i = 1 ∧ 0 ≤ s ∧ s < (F.length : Int) - 1))) (fun i => (1 - i).toNat) ?_ (.inl rfl)
  rintro i hi
  unfold z_search_node_l0
  have hg : gt [s] 0 = s := rfl
  rw [T_ite]
  refine ⟨fun h => ?_, fun h => ?_⟩
  · have : i = 0 := by simp at h; omega
    subst this
    rw [hg, p_nodes8 hl, Option.bind_some]
    simp only [T_G, T_ite, T_map, T_some, Sum.elim_inl, Sum.elim_inr]
    exact ⟨by omega, fun k => ⟨.nil, hc, .inr (.inl ⟨rfl, by omega, trivial⟩)⟩, fun k => ⟨fun k2 => ⟨.nil, hc, .inr (.inl ⟨rfl, by omega, trivial⟩)⟩, fun k2 => ⟨by omega, .inr ⟨rfl, by omega, by omega⟩, by omega⟩⟩⟩
  · simp only [T_some, Sum.elim_inr]
    rcases hi with rfl | hi
    · simp at h
    · exact hi.2

end Go.Vd

/-! (Ds6) -/

set_option linter.unusedVariables false
set_option linter.unusedSimpArgs false
namespace Go.Vd
variable {F T' W : List Int} {s : Int}

/-- What a search from a node answers. -/
inductive FromA (F T' W : List Int) (s : Int) : List Int → Er → Prop
  | bad (er : Er) : Chk F T' W er → er ≠ .nil → FromA F T' W s [] er
  | node : Chk F T' W .nil → ¬ (0 ≤ s ∧ s < (F.length : Int) - 1) → FromA F T' W s [] (.no 7)
  | ok (l : List Int) : Chk F T' W .nil → 0 ≤ s → s < (F.length : Int) - 1 → DistL F T' W s l → FromA F T' W s l .nil

theorem p_From (hl : F.length ≤ 17592186044160) (ht : T'.length ≤ 17592186044160) (pc : T (z_csr_Check F T' W) (Chk F T' W)) : T (z_search_From F T' W s) fun r => FromA F T' W s r.1 r.2 := by
  unfold z_search_From
  refine T_bindr _ (p_node8 hl ht pc) ?_
  rintro r ⟨er, hc, h⟩
  rw [T_ite]
  refine ⟨fun hr => ?_, fun hr => ?_⟩
  · subst hr
    rcases h with ⟨h1, h2⟩ | ⟨_, _, h2⟩ | ⟨h1, s0, s1, _⟩
    · exact absurd h2.symm h1
    · cases h2
    subst h1
    obtain ⟨m1, m2⟩ := hc.small
    obtain ⟨q1, _⟩ := hc.shp
    rw [show z_search_free = some () from rfl, Option.bind_some]
    refine T_bindr _ (p_run hc s0 s1) ?_
    rintro _ ⟨h, a, cs, c, hp, S, rfl, lc, C, hb, _, _⟩
    dsimp only
    refine T_bindr _ (p_all (by omega) (by omega) lc) fun l ⟨l1, l2⟩ => ?_
    simp only [T_some]
    refine .ok l hc s0 s1 ⟨l1, ?_⟩
    have e : LD l = DC cs := by
      funext v
      unfold LD
      by_cases hv : 0 ≤ v ∧ v < (F.length : Int) - 1
      · rw [l2 v hv.1 hv.2]
        cases hd : DC cs v with
        | none => rw [if_neg (fun k => k.2.2 rfl)]
        | some k =>
          have := hb v k hd
          rw [if_pos ⟨hv.1, by omega, by simp; omega⟩]; rfl
      · rw [if_neg (by omega)]
        cases hd : DC cs v with
        | none => rfl
        | some k => have := DC_rng hd; omega
    rw [e]; exact C
  · simp only [T_some]
    rcases h with ⟨h1, h2⟩ | ⟨h1, h3, h2⟩ | ⟨_, _, _, h2⟩
    · subst h2; exact .bad _ hc h1
    · subst h1; subst h2; exact .node hc h3
    · exact absurd h2 hr
end Go.Vd

/-! (PrSh) -/

set_option linter.unusedVariables false
set_option linter.unusedSimpArgs false
namespace Go.Vd
variable {F T' W l : List Int}
theorem Len.okD {n : Int} (h : Len F T' W l n .nil) : Chk F T' W .nil ∧ Nodes F l (l.length : Int) ∧ 0 < (l.length : Int) := by
  cases h with
  | bad _ _ h2 => exact absurd rfl h2
  | ok s h1 h2 h3 _ => exact ⟨h1, h2, h3⟩
/-- Whether a walk is shortest. -/
def Sho (F T' W l : List Int) (n : Int) (er : Er) (b : Bool) : Prop :=
  (er ≠ .nil ∧ b = false) ∨ (er = .nil ∧ ∃ L, DistL F T' W (gt l 0) L ∧ b = decide (gt L (gt l ((l.length : Int) - 1)) = n))
theorem Sho.uniq {n : Int} {er : Er} {b b' : Bool} (h : Sho F T' W l n er b) (k : Sho F T' W l n er b') : b = b' := by
  rcases h with ⟨h1, h2⟩ | ⟨h1, L, h2, h3⟩
  · rcases k with ⟨_, k2⟩ | ⟨k1, _⟩
    · rw [h2, k2]
    · exact absurd k1 h1
  · rcases k with ⟨k1, _⟩ | ⟨_, L', k2, k3⟩
    · exact absurd h1 k1
    · rw [h3, k3, h2.uniq k2]
theorem p_Shortest (hl : F.length ≤ 17592186044160) (ht : T'.length ≤ 17592186044160) (hll : l.length ≤ 4294967296) : T (z_walk_Shortest F T' W l) fun r => ∃ n, Len F T' W l n r.2 ∧ Sho F T' W l n r.2 r.1 := by
  unfold z_walk_Shortest
  refine T_bindr _ (p_Length hl ht hll) ?_
  rintro ⟨n, er⟩ hL
  dsimp only at *
  rw [T_ite]
  refine ⟨fun he => ?_, fun he => by simp only [T_some]; exact ⟨n, hL, .inl ⟨he, rfl⟩⟩⟩
  subst he
  obtain ⟨hc, hN, h0⟩ := hL.okD
  obtain ⟨n0, n1⟩ := hN 0 (by omega) h0
  obtain ⟨l0, l1⟩ := hN ((l.length : Int) - 1) (by omega) (by omega)
  rw [T_G]
  refine ⟨h0, T_bindr _ (p_From hl ht (p_Check hl ht)) ?_⟩
  rintro ⟨L, er⟩ hF
  dsimp only at *
  cases hF with
  | bad _ h1 h2 => exact absurd (h1.uniq hc) h2
  | node _ h => exact absurd ⟨n0, n1⟩ h
  | ok _ _ _ _ hD =>
    have := hD.len
    rw [if_pos rfl]
    simp only [T_G, T_some]
    exact ⟨by omega, by omega, by omega, n, hL, .inr ⟨rfl, L, hD, rfl⟩⟩

end Go.Vd

/-! (Sc) -/

set_option linter.unusedVariables false
set_option linter.unusedSimpArgs false
namespace Go.Vd
theorem same_nextE {E : Type} [Inhabited E] {l m : List E} {i : Int} (h : ∀ j : Int, 0 ≤ j → j < i → gt l j = gt m j) (k : gt l i = gt m i) : ∀ j : Int, 0 ≤ j → j < i + 1 → gt l j = gt m j := by
  intro j h0 h1
  by_cases e : j = i
  · rw [e]; exact k
  · exact h j h0 (by omega)
theorem same_neE {E : Type} [DecidableEq E] {l m : List E} (h : ¬ (l.length : Int) = (m.length : Int)) : decide (l = m) = false := by
  apply decide_eq_false; rintro rfl; exact h rfl
theorem same_atE {E : Type} [DecidableEq E] [Inhabited E] {l m : List E} {i : Int} (h : ¬ gt l i = gt m i) : decide (l = m) = false := by
  apply decide_eq_false; rintro rfl; exact h rfl
theorem same_allE {E : Type} [DecidableEq E] [Inhabited E] {l m : List E} {i : Int} (h : ∀ j : Int, 0 ≤ j → j < i → gt l j = gt m j) (hl : (l.length : Int) = m.length) (hi : (l.length : Int) ≤ i) : decide (l = m) = true :=
  decide_eq_true (list_gtE (by omega) fun j h0 h1 => h j h0 (by omega))
end Go.Vd

/-! (PrSm) -/

set_option linter.unusedVariables false
set_option linter.unusedSimpArgs false
namespace Go.Vd

theorem p_SameRow {a b : List Int} (ha : a.length ≤ 1000000000000) : z_viaductref04_SameRow a b = some (decide (a = b)) := by
  refine T_eq.1 ?_
  unfold z_viaductref04_SameRow
  rw [T_ite]
  refine ⟨fun hl => ?_, fun hl => by simp only [T_some]; exact (same_neE hl).symm⟩
  refine T_binds (fun _ => a = b) ?_ fun _ h => by simp [h]
  refine T_loop (fun i => 0 ≤ i ∧ i ≤ (a.length : Int) ∧ ∀ j : Int, 0 ≤ j → j < i → gt a j = gt b j) (fun i => ((a.length : Int) - i).toNat) ?_ ⟨by simp, by simp, fun j j0 j1 => by omega⟩
  rintro i ⟨i0, i1, h⟩
  unfold z_viaductref04_SameRow_l0
  simp only [T_ite, T_G, T_map, T_some, Sum.elim_inl, Sum.elim_inr]
  refine ⟨fun hi => ⟨i0, by omega, fun e => ⟨by omega, ⟨by omega, by omega, same_nextE h e⟩, by omega⟩, fun e => (same_atE e).symm⟩, fun hi => of_decide_eq_true (same_allE h hl (by omega))⟩

theorem list_gt' {E : Type} [Inhabited E] {l m : List E} (hl : l.length = m.length) (h : ∀ j : Int, 0 ≤ j → j < (l.length : Int) → gt l j = gt m j) : l = m := by
  refine List.ext_getElem hl fun j h1 h2 => ?_
  have := h (j : Int) (by omega) (by omega)
  rwa [gt_nat h1, gt_nat h2] at this

theorem p_SameMatrix {a b : List (List Int)} (ha : a.length ≤ 1000000000000) (hb : ∀ x ∈ a, x.length ≤ 1000000000000) : z_viaductref04_SameMatrix a b = some (decide (a = b)) := by
  refine T_eq.1 ?_
  unfold z_viaductref04_SameMatrix
  rw [T_ite]
  refine ⟨fun hl => ?_, fun hl => by simp only [T_some]; exact (decide_eq_false fun e => hl (by rw [e])).symm⟩
  refine T_binds (fun _ => a = b) ?_ fun _ h => by simp [h]
  refine T_loop (fun i => 0 ≤ i ∧ i ≤ (a.length : Int) ∧ ∀ j : Int, 0 ≤ j → j < i → gt a j = gt b j) (fun i => ((a.length : Int) - i).toNat) ?_ ⟨by simp, by simp, fun j j0 j1 => by omega⟩
  rintro i ⟨i0, i1, h⟩
  unfold z_viaductref04_SameMatrix_l0
  rw [T_ite]
  refine ⟨fun hi => ?_, fun hi => ?_⟩
  · rw [T_G, T_G, p_SameRow (hb _ (gt_mem i0 hi)), Option.bind_some, T_ite]
    simp only [T_G, T_map, T_some, Sum.elim_inl, Sum.elim_inr]
    refine ⟨i0, by omega, fun e => ?_, fun e => ⟨by omega, ⟨by omega, by omega, fun j j0 j1 => ?_⟩, by omega⟩⟩
    · have e' : ¬ gt a i = gt b i := by simpa using e
      exact (decide_eq_false fun k => e' (by rw [k])).symm
    · by_cases hj : j = i
      · subst hj; simpa using e
      · exact h j j0 (by omega)
  · simp only [T_some, Sum.elim_inr]
    exact list_gt' (by omega) fun j j0 j1 => h j j0 (by omega)

end Go.Vd

/-! (PrWholeWalks) -/

set_option linter.unusedVariables false
set_option linter.unusedSimpArgs false
namespace Go.Vd
variable {F T' W p q : List Int} {N s m t : Int} {A L : List A3} {X : List (List Int)} {D : Int → Option Int}

theorem top_two : ∃ F T' W, z_csr_Build 2 [(0, 1, 6)] = some (F, T', W, .nil) ∧ z_walk_Length F T' W [0, 1] = some (6, .nil) := by
  obtain ⟨⟨F, T', W, er⟩, e, hB⟩ := p_Build (N := 2) (A := [(0, 1, 6)])
  have g2 : GChk 2 [(0, 1, 6)] .nil := .of_arcs (by decide) (by decide) (by decide) fun a ha => by
    simp at ha; rcases ha with rfl; decide
  dsimp only at hB
  obtain ⟨rfl, L, hn, _, _, hc, lF, hA⟩ := hB.use g2
  obtain ⟨b, b1, b2⟩ := hn.sup (0, 1, 6) (by simp) (by decide)
  have b3 : b = (0, 1, 6) := by simpa using (hn.sub b b1).1
  have harc : Arcw F T' W 0 1 6 := (hA 0 1 6).2 (b3 ▸ b1)
  obtain ⟨m1, m2⟩ := hc.small
  have W1 : WSum F T' W [0, 1] (0 + 1) (0 + 6) := .step (l := [0, 1]) 0 0 6 (Int.le_refl _) .zero harc
  have Lk : Len F T' W [0, 1] 6 .nil := .ok 6 hc (fun j j0 j1 => by
    have : j = 0 ∨ j = 1 := by simp at j1; omega
    rcases this with rfl | rfl
    · exact ⟨by decide, by rw [lF]; decide⟩
    · exact ⟨by decide, by rw [lF]; decide⟩) (by simp) W1
  obtain ⟨⟨n, er⟩, e2, hL⟩ := p_Length (F := F) (T' := T') (W := W) (l := [0, 1]) (by omega) (by omega) (by simp)
  obtain ⟨rfl, rfl⟩ := hL.uniq Lk
  exact ⟨F, T', W, e, e2⟩

theorem p_small {most : Int} : T (z_viaducttop_small N A most) fun b => b = true → (GChk N A .nil ∧ N ≤ most ∧ (A.length : Int) ≤ 200) := by
  unfold z_viaducttop_small
  refine T_bindr _ p_Few fun f hf => ?_
  simp only [T_ite, T_some, decide_eq_true_eq]
  exact ⟨fun h k => ⟨(hf.1 h).1, (hf.1 h).2.1, k⟩, fun _ k => by cases k⟩

/-- A shortest path is a walk of that length. -/
theorem SP.len (hc : Chk F T' W .nil) (P : SP F T' W s t D p) (C : Cd F T' W s D) {d : Int} (hd : D t = some d) : Len F T' W p d .nil := by
  have key : ∀ k : Nat, (k : Int) < (p.length : Int) → ∃ v, WSum F T' W p k v ∧ D (gt p k) = some v := by
    intro k
    induction k with
    | zero => intro _; exact ⟨0, .zero, by rw [show ((0 : Nat) : Int) = 0 from rfl, P.fst]; exact C.src⟩
    | succ k ih =>
      intro hk
      obtain ⟨v, h1, h2⟩ := ih (by omega)
      obtain ⟨a, w, h3, h4, h5⟩ := P.con ((k : Int) + 1) (by omega) (by omega)
      rw [show (k : Int) + 1 - 1 = k from by omega] at h3 h4
      rw [h2] at h3; cases h3
      exact ⟨v + w, .step k v w (by omega) h1 h4, h5⟩
  have hp := P.pos
  obtain ⟨v, h1, h2⟩ := key (p.length - 1) (by omega)
  rw [show ((p.length - 1 : Nat) : Int) = (p.length : Int) - 1 from by omega] at h1 h2
  rw [P.lst, hd] at h2; cases h2
  exact .ok d hc (fun j j0 j1 => P.rng _ (gt_mem j0 j1)) hp h1

theorem p_WholeWalks {list : List Int} (hl : list.length ≤ 17592186043904) : z_viaducttop_WholeWalks N A list s m t = some true := by
  obtain ⟨F0, T0, W0, t1, t2⟩ := top_two
  refine T_eq.1 ?_
  unfold z_viaducttop_WholeWalks
  rw [t1, Option.bind_some]
  dsimp only
  rw [t2, Option.bind_some]
  dsimp only
  rw [if_pos rfl, if_pos rfl, Option.bind_some, if_neg (by decide)]
  refine T_bindr (fun o => o = true ∨ (GChk N A .nil ∧ N ≤ 10 ∧ (list.length : Int) ≤ 60)) ?_ fun o ho => ?_
  · refine T_bindr _ p_small fun f hf => ?_
    simp only [T_ite, T_some]
    refine ⟨fun h => ?_, fun h => by simp⟩
    obtain ⟨h1, h2, _⟩ := hf h
    by_cases k : (list.length : Int) > 60
    · simp [k]
    · exact .inr ⟨h1, h2, by omega⟩
  rw [T_ite]
  refine ⟨fun _ => by simp, fun h => ?_⟩
  obtain ⟨hg, hN, hll⟩ := ho.resolve_left h
  obtain ⟨n0, n1, n2⟩ := hg.small
  refine T_bindr _ p_Build ?_
  rintro ⟨F, T', W, er⟩ hB
  dsimp only at *
  obtain ⟨rfl, L, hn, hgl, hfl, hc, lF, hA⟩ := hB.use hg
  obtain ⟨m1, m2⟩ := hc.small
  refine T_bindr _ (p_Matrix (by omega) (by omega)) ?_
  rintro ⟨X, er⟩ hM
  dsimp only at *
  have hsq : ((F.length : Int) - 1) * ((F.length : Int) - 1) ≤ 12 * 12 := Int.mul_le_mul (by omega) (by omega) (by omega) (by omega)
  cases hM with
  | bad _ c1 c2 => exact absurd (c1.uniq hc) c2
  | limit _ c2 => omega
  | ok _ _ _ hL =>
  have me := metric_of hc lF hA hn hg hL
  have hrow : ∀ i, 0 ≤ i → i < N → DistL F T' W i (gt X i) := fun i i0 i1 => hL.2 i i0 (by omega)
  have ml := me.len
  have wk : ∀ i v d, Way F T' W i v d → Wk A i v d := fun i v d h => by
    induction h with
    | refl => exact .refl _
    | step u e x w _ ha ih => exact ih.step _ _ _ _ w (hn.sub _ ((hA _ _ _).1 ha)).1
  -- what a distance in the matrix is
  have ld : ∀ i j, 0 ≤ i → i < N → 0 ≤ j → j < N → gt (gt X i) j ≠ 18446744073709551615 → LD (gt X i) j = some (gt (gt X i) j) := fun i j i0 i1 j0 j1 h => LD_iff.2 ⟨j0, by have := me.row i i0 i1; omega, h, rfl⟩
  have low : ∀ i j d, 0 ≤ i → i < N → Way F T' W i j d → gt (gt X i) j ≤ d ∧ gt (gt X i) j ≠ 18446744073709551615 := fun i j d i0 i1 h => by
    obtain ⟨e, e1, e2⟩ := (hrow i i0 i1).cd.low h
    obtain ⟨_, _, g3, g4⟩ := LD_iff.1 e1
    exact ⟨by omega, g3⟩
  have hX : DistM N A X := by
    refine ⟨fun i j => gt (gt X i) j, 281474976710656, by omega, ⟨ml, fun i i0 i1 => ⟨me.row i i0 i1, fun j _ _ => rfl⟩⟩, fun i j i0 i1 j0 j1 => ?_, fun i j i0 i1 j0 j1 h => ?_, me.self, me.arc, fun k k0 k1 i j i0 i1 j0 j1 h1 h2 => ?_⟩
    · by_cases e : gt (gt X i) j = 18446744073709551615
      · exact .inl e
      · have := me.rng i j i0 i1 j0 j1 e; exact .inr ⟨by omega, by omega⟩
    · exact wk _ _ _ ((hrow i i0 i1).cd.way _ _ (ld i j i0 i1 j0 j1 h))
    · have := me.tri i j k i0 i1 j0 j1 k0 k1 h1 h2
      omega
  refine T_bindr (fun o => o = false) ?_ fun o ho => ?_
  · rw [if_pos rfl, if_pos rfl]
    refine T_bindr _ (p_Distances hg (by omega)) fun Y hY => ?_
    have hXY : X = Y := hX.same hY hg hg (fun i j d w => ⟨d, w, Int.le_refl _⟩) (fun i j d w => ⟨d, w, Int.le_refl _⟩)
    rw [p_SameMatrix (by omega) (fun x hx => by obtain ⟨k, k0, k1, rfl⟩ := mem_gtE hx; have := me.row k k0 (by omega); omega), Option.bind_some, decide_eq_true hXY]
    simp
  subst ho
  rw [if_neg (by decide), T_G]
  refine ⟨by simp; omega, T_binds (fun _ => ∀ v ∈ [s, m, t] ++ list, 0 ≤ v ∧ v < N) ?_ fun _ hin => ?_⟩
  · refine T_loop (fun i => 0 ≤ i ∧ i ≤ (([s, m, t] ++ list).length : Int) ∧ ∀ j, 0 ≤ j → j < i → 0 ≤ gt ([s, m, t] ++ list) j ∧ gt ([s, m, t] ++ list) j < N) (fun i => ((([s, m, t] ++ list).length : Int) - i).toNat) ?_ ⟨by simp, by omega, fun j j0 j1 => by omega⟩
    rintro i ⟨i0, i1, hi⟩
    have hlen : (([s, m, t] ++ list).length : Int) = 3 + list.length := by simp; omega
    unfold z_viaducttop_WholeWalks_l0
    rw [T_ite]
    refine ⟨fun hlt => ?_, fun hge => ?_⟩
    · simp only [T_G, T_ite, T_map, T_some, Sum.elim_inl, Sum.elim_inr]
      refine ⟨i0, fun _ => trivial, fun h1 => ⟨fun _ => trivial, fun h2 => ⟨by omega, ⟨by omega, by omega, fun j j0 j1 => ?_⟩, by omega⟩⟩⟩
      by_cases e : j = i
      · subst e; omega
      · exact hi j j0 (by omega)
    · simp only [T_some, Sum.elim_inr]
      intro v hv
      obtain ⟨j, j0, j1, rfl⟩ := mem_gtE hv
      exact hi j j0 (by omega)
  obtain ⟨s0, s1⟩ := hin s (by simp)
  obtain ⟨c0, c1⟩ := hin m (by simp)
  obtain ⟨d0, d1⟩ := hin t (by simp)
  have hin2 : ∀ v ∈ list, 0 ≤ v ∧ v < N := fun v hv => hin v (List.mem_append_right _ hv)
  rw [p_TwinInts hl, Option.bind_some]
  refine T_bindr _ (p_Length (by omega) (by omega) (by omega)) ?_
  rintro ⟨n, er⟩ hLl
  dsimp only at *
  refine T_bindr (fun o => o = false) ?_ fun o ho => ?_
  · rw [T_ite]
    refine ⟨fun he => ?_, fun _ => by simp⟩
    subst he
    obtain ⟨_, _, l0⟩ := hLl.okD
    have hw := Way.walk (s := gt list 0) (d := 0) hLl.okW .refl
    obtain ⟨a0, a1⟩ := hin2 _ (gt_mem (by omega) l0)
    obtain ⟨b0, b1⟩ := hin2 _ (gt_mem (i := (list.length : Int) - 1) (by omega) (by omega))
    have := (low _ _ _ a0 a1 hw).1
    have := me.row _ a0 a1
    rw [if_neg (by omega)]
    simp only [T_G, T_some]
    refine ⟨by omega, by omega, by omega, by omega, by omega, decide_eq_false (by omega)⟩
  subst ho
  rw [if_neg (by decide)]
  have rs := me.row s s0 s1
  have rm := me.row m c0 c1
  refine T_bindr (fun o => o = true ∨ (gt (gt X s) m ≠ 18446744073709551615 ∧ gt (gt X m) t ≠ 18446744073709551615)) ?_ fun o ho => ?_
  · simp only [T_G, T_ite, T_some]
    refine ⟨by omega, by omega, fun _ => .inl trivial, fun h1 => ⟨by omega, by omega, ?_⟩⟩
    by_cases h2 : gt (gt X m) t = 18446744073709551615
    · simp [h2]
    · exact .inr ⟨h1, h2⟩
  rw [T_ite]
  refine ⟨fun _ => by simp, fun h => ?_⟩
  obtain ⟨f1, f2⟩ := ho.resolve_left h
  have path : ∀ a b, 0 ≤ a → a < N → 0 ≤ b → b < N → gt (gt X a) b ≠ 18446744073709551615 → T (z_search_Path F T' W a b) fun r => r.2 = .nil ∧ ∃ D, SP F T' W a b D r.1 ∧ Cd F T' W a D ∧ D b = some (gt (gt X a) b) := fun a b a0 a1 b0 b1 h => by
    refine T_mono (p_Path (by omega) (by omega) fun l hl => p_Reverse hl) ?_
    rintro ⟨p, er⟩ hp
    dsimp only at *
    cases hp with
    | bad _ k1 k2 => exact absurd (k1.uniq hc) k2
    | node _ k => exact absurd ⟨⟨a0, by omega⟩, b0, by omega⟩ k
    | none D _ _ _ C k =>
      have := C.uniq (hrow a a0 a1).cd b
      rw [k, ld a b a0 a1 b0 b1 h] at this; cases this
    | ok D p d _ _ _ C _ k P =>
      have := C.uniq (hrow a a0 a1).cd b
      rw [ld a b a0 a1 b0 b1 h] at this
      exact ⟨rfl, D, P, C, this⟩
  refine T_bindr _ (path s m s0 s1 c0 c1 f1) ?_
  rintro ⟨p, er⟩ ⟨rfl, D1, P, C1, e1⟩
  refine T_bindr _ (path m t c0 c1 d0 d1 f2) ?_
  rintro ⟨q, er⟩ ⟨rfl, D2, Q, C2, e2⟩
  dsimp only at *
  rw [if_pos rfl, if_pos rfl, Option.bind_some, if_neg (by decide)]
  have lp := P.len hc C1 e1
  have lq := Q.len hc C2 e2
  have hpp := P.pos; have hqp := Q.pos; have hps := P.small; have hqs := Q.small
  have wp := lp.okW; have wq := lq.okW
  have hpe : gt p ((p.length : Int) - 1) = gt q 0 := P.lst.trans Q.fst.symm
  have hj : joined p q = (p ++ q.drop 1, .nil) := joined_0 (by omega) hpe
  have g1 : ∀ j, 0 ≤ j → j ≤ (p.length : Int) - 1 → gt (p ++ q.drop 1) j = gt p j := fun j j0 j1 => gt_app j0 (by omega)
  have g2 : ∀ j, 0 ≤ j → j ≤ (q.length : Int) - 1 → gt (p ++ q.drop 1) ((p.length : Int) - 1 + j) = gt q j := fun j j0 j1 => by
    by_cases e : j = 0
    · subst e; rw [Int.add_zero, g1 _ (by omega) (by omega)]; exact hpe
    · rw [show (p.length : Int) - 1 + j = (p.length : Int) + (j - 1) from by omega, gt_appR (by omega)]
      have := gt_drop (l := q) (k := 1) (j := j - 1) (by omega) (by omega)
      rw [show (1 : Int).toNat = 1 from rfl] at this
      rw [this]; congr 1; omega
  have ljl : ((p ++ q.drop 1).length : Int) = (p.length : Int) - 1 + ((q.length : Int) - 1) + 1 := by rw [List.length_append, List.length_drop]; omega
  have wj := (wp.app (r := p ++ q.drop 1) wq g1 g2).cast (show (p.length : Int) - 1 + ((q.length : Int) - 1) = ((p ++ q.drop 1).length : Int) - 1 from by omega)
  have nj : Nodes F (p ++ q.drop 1) ((p ++ q.drop 1).length : Int) := fun j j0 j1 => by
    rcases List.mem_append.1 (gt_mem (xs := p ++ q.drop 1) j0 j1) with h | h
    · exact P.rng _ h
    · exact Q.rng _ (List.mem_of_mem_drop h)
  have lj : Len F T' W (p ++ q.drop 1) (gt (gt X s) m + gt (gt X m) t) .nil := .ok _ hc nj (by omega) wj
  refine T_bindr _ (p_Length (by omega) (by omega) (by omega)) ?_
  rintro ⟨a, er⟩ h1
  dsimp only at *
  obtain ⟨rfl, rfl⟩ := h1.uniq lp
  refine T_bindr _ (p_Length (by omega) (by omega) (by omega)) ?_
  rintro ⟨b, er⟩ h2
  dsimp only at *
  obtain ⟨rfl, rfl⟩ := h2.uniq lq
  rw [p_Join (by omega) (by omega), hj, Option.bind_some]
  dsimp only
  refine T_bindr _ (p_Length (by omega) (by omega) (by omega)) ?_
  rintro ⟨c, er⟩ h3
  dsimp only at *
  obtain ⟨rfl, rfl⟩ := h3.uniq lj
  have hxl := simple_len (p ++ q.drop 1)
  rw [p_Simple (by omega), Option.bind_some]
  refine T_bindr _ (p_Length (by omega) (by omega) (by omega)) ?_
  rintro ⟨k, er⟩ h4
  dsimp only at *
  obtain ⟨rfl, hk⟩ := simple_len_walk lj h4
  refine T_bindr _ (p_Shortest (by omega) (by omega) (by omega)) ?_
  rintro ⟨is, er⟩ ⟨n', h5, h6⟩
  dsimp only at *
  obtain ⟨rfl, rfl⟩ := h5.uniq lp
  have his : is = true := by
    rcases h6 with ⟨q1, _⟩ | ⟨_, Z, hZ, rfl⟩
    · exact absurd rfl q1
    · rw [P.fst] at hZ
      rw [hZ.uniq (hrow s s0 s1), P.lst]
      exact decide_eq_true rfl
  subst his
  -- the list made simple
  have hx0 : gt (simple (p ++ q.drop 1)) 0 = s := by
    rcases sl_first (p ++ q.drop 1) with h | h
    · omega
    · rw [h, g1 0 (by omega) (by omega)]; exact P.fst
  have hx1 : gt (simple (p ++ q.drop 1)) (((simple (p ++ q.drop 1)).length : Int) - 1) = t := by
    rcases sl_last (p ++ q.drop 1) with h | h
    · omega
    · rw [h, show ((p ++ q.drop 1).length : Int) - 1 = (p.length : Int) - 1 + ((q.length : Int) - 1) from by omega, g2 _ (by omega) (by omega)]; exact Q.lst
  have hw := Way.walk (s := gt (simple (p ++ q.drop 1)) 0) (d := 0) h4.okW .refl
  rw [hx0, hx1] at hw
  have hst := (low s t _ s0 s1 hw).1
  have b1 := me.rng s m s0 s1 c0 c1 f1
  have b2 := me.rng m t c0 c1 d0 d1 f2
  refine T_bindr (fun o => o = false) ?_ fun o ho => ?_
  · simp only [if_true, Bool.not_true, Bool.false_eq_true, if_false, T_G, T_ite, T_some]
    refine ⟨by omega, by omega, by omega, by omega, by omega, ⟨fun q => absurd q (by omega), fun _ => ⟨by omega, decide_eq_false (by omega)⟩⟩⟩
  subst ho
  rw [if_neg (by decide), p_Simple (by omega), Option.bind_some, simple_self P.nd, p_SameInts (by omega), Option.bind_some, decide_eq_true rfl, if_pos rfl, p_Simple (by omega), Option.bind_some, simple_self Q.nd, p_SameInts (by omega), Option.bind_some, decide_eq_true rfl]
  simp
end Go.Vd
