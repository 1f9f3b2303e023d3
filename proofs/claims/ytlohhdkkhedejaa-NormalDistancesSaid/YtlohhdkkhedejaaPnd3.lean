/- Lists and places. Plain Lean: no program here. -/
import Derived.Test.YtlohhdkkhedejaaPnd2
import Derived.Test.YtlohhdkkhedejaaSo0
import Derived.Test.YtlohhdkkhedejaaVdQ
import Derived.Test.YtlohhdkkhedejaaINd
import Derived.Test.YtlohhdkkhedejaaVpB
set_option linter.unusedVariables false
set_option linter.unusedSimpArgs false
set_option linter.unusedSectionVars false
/-! (Mo0) -/

namespace Go.Vd
theorem take_gtE {E : Type} [Inhabited E] {l : List E} {i : Int} (h0 : 0 ≤ i) (h1 : i < (l.length : Int)) : l.take (i + 1).toNat = l.take i.toNat ++ [gt l i] := by
  have hi : i.toNat < l.length := by omega
  rw [show (i + 1).toNat = i.toNat + 1 from by omega, List.take_add_one, List.getElem?_eq_getElem hi]
  have : gt l i = l[i.toNat] := by simp [gt, List.getD_eq_getElem?_getD, hi]
  rw [this]; rfl
theorem gt_setE {E : Type} [Inhabited E] {l : List E} {i j : Int} {v : E} (i0 : 0 ≤ i) (i1 : i < (l.length : Int)) (j0 : 0 ≤ j) : gt (l.set i.toNat v) j = if j = i then v else gt l j := by
  unfold gt
  rw [List.getD_eq_getElem?_getD, List.getD_eq_getElem?_getD, List.getElem?_set]
  by_cases h : j = i
  · subst h; rw [if_pos rfl, if_pos rfl, if_pos (by omega)]; rfl
  · rw [if_neg h, if_neg (by omega)]
theorem list_gtE {E : Type} [Inhabited E] {l m : List E} (hl : l.length = m.length) (h : ∀ j : Int, 0 ≤ j → j < (l.length : Int) → gt l j = gt m j) : l = m := by
  refine List.ext_getElem hl fun j h1 h2 => ?_
  have := h (j : Int) (by omega) (by omega)
  rwa [gt_nat h1, gt_nat h2] at this
end Go.Vd

/-! (So1) -/

set_option linter.unusedVariables false
set_option linter.unusedSimpArgs false
namespace Go.Vd

theorem p_Compare {x y : Int} : z_cmp_Compare x y = some (if x < y then -1 else if x > y then 1 else 0) := by
  unfold z_cmp_Compare z_cmp_isNaN
  simp only [Option.bind_some]
  simp
  by_cases h1 : x < y
  · simp [h1]
  · by_cases h2 : y < x <;> simp [h1, h2]
theorem p_Or3 {a b c : Int} : z_cmp_Or [a, b, c] = some (if a ≠ 0 then a else if b ≠ 0 then b else c) := by
  unfold z_cmp_Or
  have h3 : z_cmp_Or_l0 [a, b, c] 3 = some (Sum.inr (Sum.inr ())) := by unfold z_cmp_Or_l0; rw [if_neg (by simp)]
  have step : ∀ i : Int, 0 ≤ i → i < 3 → z_cmp_Or_l0 [a, b, c] i = if gt [a, b, c] i = 0 then some (Sum.inl (i + 1)) else some (Sum.inr (Sum.inl (gt [a, b, c] i))) := fun i i0 i1 => by
    unfold z_cmp_Or_l0 G
    rw [if_pos (by simp; omega), if_pos i0]
    split
    · rw [if_pos (by omega)]
    · rfl
  have g0 : gt [a, b, c] 0 = a := rfl
  have g1 : gt [a, b, c] 1 = b := rfl
  have g2 : gt [a, b, c] 2 = c := rfl
  rw [loopO_eq, step 0 (by omega) (by omega), g0]
  by_cases ha : a = 0
  · rw [if_pos ha, if_neg (by simp [ha]), Option.bind_some, Sum.elim_inl, show (0 : Int) + 1 = 1 from rfl, loopO_eq, step 1 (by omega) (by omega), g1]
    by_cases hb : b = 0
    · rw [if_pos hb, if_neg (by simp [hb]), Option.bind_some, Sum.elim_inl, show (1 : Int) + 1 = 2 from rfl, loopO_eq, step 2 (by omega) (by omega), g2]
      by_cases hc : c = 0
      · rw [if_pos hc, Option.bind_some, Sum.elim_inl, show (2 : Int) + 1 = 3 from rfl, loopO_eq, h3]
        simp [hc]
      · rw [if_neg hc]; simp
    · rw [if_neg hb, if_pos hb]; simp
  · rw [if_neg ha, if_pos ha]; simp

/-- Three numbers in order. -/
def lt3 (x y : Int × Int × Int) : Prop := x.1 < y.1 ∨ (x.1 = y.1 ∧ (x.2.1 < y.2.1 ∨ (x.2.1 = y.2.1 ∧ x.2.2 < y.2.2)))
instance (x y : Int × Int × Int) : Decidable (lt3 x y) := by unfold lt3; infer_instance
noncomputable abbrev ord3 : Int × Int × Int → Int × Int × Int → Option Int := fun a_ b_ => z_normal_order a_.1 a_.2.1 a_.2.2 b_.1 b_.2.1 b_.2.2

theorem p_order (x y : Int × Int × Int) : ∃ r, ord3 x y = some r ∧ (r < 0 ↔ lt3 x y) := by
  unfold ord3 z_normal_order
  simp only [p_Compare, Option.bind_some, p_Or3]
  refine ⟨_, rfl, ?_⟩
  unfold lt3
  by_cases a1 : x.1 < y.1
  · simp [a1]
  · by_cases a2 : x.1 > y.1
    · have : ¬ x.1 = y.1 := by omega
      simp [a1, a2, this]
    · have e : x.1 = y.1 := by omega
      by_cases b1 : x.2.1 < y.2.1
      · simp [e, b1]
      · by_cases b2 : x.2.1 > y.2.1
        · have : ¬ x.2.1 = y.2.1 := by omega
          simp [e, b1, b2, this]
        · have e2 : x.2.1 = y.2.1 := by omega
          by_cases c1 : x.2.2 < y.2.2
          · simp [e, e2, c1]
          · by_cases c2 : x.2.2 > y.2.2 <;> simp [e, e2, c1, c2]
theorem ord3_lt (x y : Int × Int × Int) : (ord3 x y).getD 0 < 0 ↔ lt3 x y := by
  obtain ⟨r, h1, h2⟩ := p_order x y
  rw [h1]; exact h2
theorem ord3_ok : SortOk ord3 :=
  { ans := fun x y => let ⟨r, h, _⟩ := p_order x y; ⟨r, h⟩
    irr := fun x => by rw [ord3_lt]; unfold lt3; omega
    trn := fun x y z => by rw [ord3_lt, ord3_lt, ord3_lt]; unfold lt3; omega
    ntr := fun x y z => by rw [ord3_lt, ord3_lt, ord3_lt]; unfold lt3; omega
    tot := fun x y h1 h2 => by
      rw [ord3_lt] at h1 h2
      obtain ⟨x1, x2, x3⟩ := x
      obtain ⟨y1, y2, y3⟩ := y
      unfold lt3 at h1 h2
      dsimp only at h1 h2
      simp only [Prod.mk.injEq]
      omega }
theorem p_sort (xs : List (Int × Int × Int)) : sortO (fun (a_ b_ : Int × Int × Int) => z_normal_order a_.1 a_.2.1 a_.2.2 b_.1 b_.2.1 b_.2.2) xs = some (sortL ord3 xs) := sortO_ok ord3_ok xs
theorem sort_rise (xs : List (Int × Int × Int)) : (sortL ord3 xs).Pairwise fun x y => ¬ lt3 y x := (sortL_sorted ord3_ok xs).imp fun h => by rwa [ord3_lt] at h

/-- Of the same two nodes. -/
def key2 (x y : Int × Int × Int) : Prop := x.1 = y.1 ∧ x.2.1 = y.2.1
instance (x y : Int × Int × Int) : Decidable (key2 x y) := by unfold key2; infer_instance
theorem p_like {x y : Int × Int × Int} : z_normal_Of_1 x.1 x.2.1 x.2.2 y.1 y.2.1 y.2.2 = some (decide (key2 x y)) := by
  unfold z_normal_Of_1 key2
  by_cases h : x.1 = y.1 <;> simp [h]

/-- What is left of the first k, when of neighbours that are alike the first stays. -/
def cpt (s : List (Int × Int × Int)) : Nat → List (Int × Int × Int)
  | 0 => []
  | k + 1 => cpt s k ++ if k ≠ 0 ∧ key2 (gt s (k : Int)) (gt s ((k : Int) - 1)) then [] else [gt s (k : Int)]
theorem cpt_len (s : List (Int × Int × Int)) (k : Nat) : (cpt s k).length ≤ k := by
  induction k with
  | zero => simp [cpt]
  | succ k ih =>
    simp only [cpt, List.length_append]
    split <;> simp <;> omega
theorem cpt_next {s : List (Int × Int × Int)} {i : Int} (i0 : 0 ≤ i) : cpt s (i + 1).toNat = cpt s i.toNat ++ if i ≠ 0 ∧ key2 (gt s i) (gt s (i - 1)) then [] else [gt s i] := by
  rw [show (i + 1).toNat = i.toNat + 1 from by omega]
  simp only [cpt]
  rw [show ((i.toNat : Nat) : Int) = i from by omega]
  have : i.toNat ≠ 0 ↔ i ≠ 0 := by omega
  simp only [ne_eq, this]

theorem gt_drop {E : Type} [Inhabited E] {l : List E} {k j : Int} (k0 : 0 ≤ k) (j0 : 0 ≤ j) : gt (l.drop k.toNat) j = gt l (k + j) := by
  unfold gt
  rw [List.getD_eq_getElem?_getD, List.getD_eq_getElem?_getD, List.getElem?_drop, show k.toNat + j.toNat = (k + j).toNat from by omega]

theorem p_Compact {s : List (Int × Int × Int)} (hl : s.length ≤ 1000000000000) : T (z_slices_CompactFunc s) fun r => r.1 = cpt s s.length := by
  unfold z_slices_CompactFunc
  rw [T_ite]
  have c1 : 0 < s.length → cpt s 1 = s.take 1 := fun h => by
    simp only [cpt]
    have := take_gtE (l := s) (i := 0) (by omega) (by omega)
    simpa using this.symm
  refine ⟨fun h => ?_, fun h => ?_⟩
  · simp only [T_some]
    by_cases h0 : s.length = 0
    · rw [h0]; exact List.eq_nil_of_length_eq_zero h0
    · have : s.length = 1 := by omega
      have h2 := c1 (by omega)
      rw [this, h2, List.take_of_length_le (by omega)]
  refine T_binds (fun _ => cpt s s.length = s) ?_ fun _ h => by simp only [T_some]; exact h.symm
  refine T_loop (fun k => 1 ≤ k ∧ k ≤ (s.length : Int) ∧ cpt s k.toNat = s.take k.toNat) (fun k => ((s.length : Int) - k).toNat) ?_ ⟨by omega, by omega, c1 (by omega)⟩
  rintro k ⟨k0, k1, hk⟩
  unfold z_slices_CompactFunc_l1
  rw [T_ite]
  refine ⟨fun hlt => ?_, fun hge => ?_⟩
  rotate_left
  · simp only [T_some, Sum.elim_inr]
    have : k = s.length := by omega
    subst this
    simpa using hk
  simp only [T_G]
  refine ⟨by omega, by omega, by omega, ?_⟩
  rw [p_like, Option.bind_some, T_ite]
  refine ⟨fun heq => ?_, fun hne => ?_⟩
  rotate_left
  · have hne' : ¬ key2 (gt s k) (gt s (k - 1)) := by simpa using hne
    simp only [T_G, T_some, Sum.elim_inl]
    refine ⟨by omega, ⟨by omega, by omega, ?_⟩, by omega⟩
    rw [cpt_next (by omega), if_neg (fun h => hne' h.2), hk]
    exact (take_gtE (by omega) hlt).symm
  have heq' : key2 (gt s k) (gt s (k - 1)) := by simpa using heq
  simp only [T_G]
  refine ⟨by omega, ?_⟩
  refine T_bindr (fun r => (r.1.length : Int) = s.length ∧ 0 ≤ r.2 ∧ r.2 ≤ (s.length : Int) ∧ cpt s s.length = r.1.take r.2.toNat) ?_ ?_
  · refine T_loop (fun z => 1 ≤ z.2.2 ∧ z.2.2 ≤ (s.length : Int) - k ∧ k ≤ z.2.1 ∧ z.2.1 ≤ k + z.2.2 - 1 ∧ (z.1.length : Int) = s.length ∧ cpt s (k + z.2.2).toNat = z.1.take z.2.1.toNat ∧ ∀ j, k + z.2.2 - 1 ≤ j → gt z.1 j = gt s j) (fun z => ((s.length : Int) - k - z.2.2).toNat) ?_ ⟨by simp, by dsimp only; omega, by simp, by dsimp only; omega, rfl, ?_, fun _ _ => rfl⟩
    rotate_left
    · dsimp only
      rw [cpt_next (by omega), if_pos ⟨by omega, heq'⟩, hk, List.append_nil]
    rintro ⟨s0, k1', k2⟩ ⟨a0, a1, a2, a3, a4, a5, a6⟩
    dsimp only at *
    have hdl : ((s0.drop k.toNat).length : Int) = s.length - k := by rw [List.length_drop]; omega
    unfold z_slices_CompactFunc_l0
    rw [hdl, T_ite]
    refine ⟨fun hlt2 => ?_, fun hge2 => ?_⟩
    rotate_left
    · simp only [T_some, Sum.elim_inr]
      have : k + k2 = s.length := by omega
      rw [this] at a5
      exact ⟨a4, by omega, by omega, by simpa using a5⟩
    have e1 : gt (s0.drop k.toNat) k2 = gt s (k + k2) := by rw [gt_drop (by omega) (by omega)]; exact a6 _ (by omega)
    have e2 : gt (s0.drop k.toNat) (k2 - 1) = gt s (k + k2 - 1) := by rw [gt_drop (by omega) (by omega), show k + (k2 - 1) = k + k2 - 1 from by omega]; exact a6 _ (by omega)
    simp only [T_G]
    refine ⟨by omega, by omega, by omega, ?_⟩
    rw [p_like, e1, e2, Option.bind_some, T_ite]
    have nx : (k + (k2 + 1)).toNat = (k + k2 + 1).toNat := by omega
    refine ⟨fun hn => ?_, fun hy => ?_⟩
    · have hn' : ¬ key2 (gt s (k + k2)) (gt s (k + k2 - 1)) := by simpa using hn
      simp only [T_G, T_some, Sum.elim_inl]
      refine ⟨by omega, by omega, by omega, ⟨by omega, by omega, by omega, by omega, by simpa using a4, ?_, fun j hj => ?_⟩, by omega⟩
      · rw [nx, cpt_next (by omega), if_neg (fun h => hn' h.2), a5]
        have h1 := take_gtE (l := s0.set k1'.toNat (gt s (k + k2))) (i := k1') (by omega) (by simp; omega)
        rw [h1, gt_setE (by omega) (by omega) (by omega), if_pos rfl, List.take_set_of_le (Nat.le_refl _)]
      · rw [gt_setE (by omega) (by omega) (by omega), if_neg (by omega)]; exact a6 j (by omega)
    · have hy' : key2 (gt s (k + k2)) (gt s (k + k2 - 1)) := by simpa using hy
      simp only [T_G, T_some, Sum.elim_inl]
      refine ⟨by omega, ⟨by omega, by omega, by omega, by omega, a4, ?_, fun j hj => a6 j (by omega)⟩, by omega⟩
      rw [nx, cpt_next (by omega), if_pos ⟨by omega, hy'⟩, a5, List.append_nil]
  · rintro ⟨r, q⟩ ⟨b1, b2, b3, b4⟩
    dsimp only at *
    have hlen : ((r.take q.toNat ++ List.replicate (r.length - q.toNat) ((0, 0, 0) : Int × Int × Int)).length : Int) = r.length := by simp; omega
    simp only [T_G, T_map, T_some, Sum.elim_inr, Sum.elim_inl]
    refine ⟨by omega, by omega, by omega, ?_⟩
    rw [List.take_left' (by rw [List.length_take]; omega)]
    exact b4.symm
end Go.Vd

/-! (Gb) -/

set_option linter.unusedVariables false
set_option linter.unusedSimpArgs false
namespace Go.Vd
abbrev A3 := Int × Int × Int
theorem eq3 {x y : A3} (h1 : x.1 = y.1) (h2 : x.2.1 = y.2.1) (h3 : x.2.2 = y.2.2) : x = y := by
  obtain ⟨a, b, c⟩ := x; obtain ⟨a', b', c'⟩ := y
  simp only at h1 h2 h3
  subst h1; subst h2; subst h3; rfl

theorem mem_gtE {E : Type} [Inhabited E] {l : List E} {x : E} (h : x ∈ l) : ∃ i : Int, 0 ≤ i ∧ i < (l.length : Int) ∧ x = gt l i := by
  obtain ⟨i, hi, rfl⟩ := List.getElem_of_mem h
  exact ⟨i, by omega, by omega, (gt_nat hi).symm⟩

end Go.Vd

/-! (So2) -/

set_option linter.unusedVariables false
set_option linter.unusedSectionVars false
set_option linter.unusedSimpArgs false
namespace Go.Vd

def ltk (x y : A3) : Prop := x.1 < y.1 ∨ (x.1 = y.1 ∧ x.2.1 < y.2.1)

/-- L is the normal list of A's arcs. -/
structure Nrm (A L : List A3) : Prop where
  inc : L.Pairwise ltk
  sub : ∀ a ∈ L, a ∈ A ∧ a.1 ≠ a.2.1 ∧ ∀ b ∈ A, key2 b a → a.2.2 ≤ b.2.2
  sup : ∀ a ∈ A, a.1 ≠ a.2.1 → ∃ b ∈ L, key2 b a

theorem sorted_eq : ∀ {L M : List A3}, L.Pairwise ltk → M.Pairwise ltk → (∀ x, x ∈ L ↔ x ∈ M) → L = M := by
  intro L
  induction L with
  | nil =>
    intro M _ _ h
    cases M with
    | nil => rfl
    | cons b M => have := (h b).2 (List.mem_cons_self ..); cases this
  | cons a L ih =>
    intro M hL hM h
    cases M with
    | nil => have := (h a).1 (List.mem_cons_self ..); cases this
    | cons b M =>
      have hab : a = b := by
        rcases List.mem_cons.1 ((h a).1 (List.mem_cons_self ..)) with h1 | h1
        · exact h1
        · rcases List.mem_cons.1 ((h b).2 (List.mem_cons_self ..)) with h2 | h2
          · exact h2.symm
          · have k1 := (List.pairwise_cons.1 hM).1 a h1
            have k2 := (List.pairwise_cons.1 hL).1 b h2
            unfold ltk at k1 k2
            omega
      subst hab
      rw [ih (List.pairwise_cons.1 hL).2 (List.pairwise_cons.1 hM).2 fun x => ⟨fun hx => ?_, fun hx => ?_⟩]
      · rcases List.mem_cons.1 ((h x).1 (List.mem_cons_of_mem _ hx)) with rfl | h1
        · have := (List.pairwise_cons.1 hL).1 x hx
          unfold ltk at this; omega
        · exact h1
      · rcases List.mem_cons.1 ((h x).2 (List.mem_cons_of_mem _ hx)) with rfl | h1
        · have := (List.pairwise_cons.1 hM).1 x hx
          unfold ltk at this; omega
        · exact h1

theorem inc_tri {L : List A3} (h : L.Pairwise ltk) : ∀ x ∈ L, ∀ y ∈ L, x = y ∨ ltk x y ∨ ltk y x := by
  induction L with
  | nil => intro x hx; cases hx
  | cons a L ih =>
    intro x hx y hy
    obtain ⟨h1, h2⟩ := List.pairwise_cons.1 h
    rcases List.mem_cons.1 hx with ex | hx'
    · rcases List.mem_cons.1 hy with ey | hy'
      · exact .inl (ex.trans ey.symm)
      · rw [ex]; exact .inr (.inl (h1 y hy'))
    · rcases List.mem_cons.1 hy with ey | hy'
      · rw [ey]; exact .inr (.inr (h1 x hx'))
      · exact ih h2 x hx' y hy'
theorem inc_key {L : List A3} (h : L.Pairwise ltk) {x y : A3} (hx : x ∈ L) (hy : y ∈ L) (k : key2 x y) : x = y := by
  rcases inc_tri h x hx y hy with h | h | h
  · exact h
  · unfold ltk at h; unfold key2 at k; omega
  · unfold ltk at h; unfold key2 at k; omega

theorem Nrm.mem {A L M : List A3} (h : Nrm A L) (k : Nrm A M) {x : A3} (hx : x ∈ L) : x ∈ M := by
  obtain ⟨h1, h2, h3⟩ := h.sub x hx
  obtain ⟨b, b1, b2⟩ := k.sup x h1 h2
  obtain ⟨k1, k2, k3⟩ := k.sub b b1
  have e1 := h3 b k1 b2
  have e2 := k3 x h1 ⟨b2.1.symm, b2.2.symm⟩
  have : x = b := eq3 b2.1.symm b2.2.symm (by omega)
  rw [this]; exact b1
theorem Nrm.uniq {A L M : List A3} (h : Nrm A L) (k : Nrm A M) : L = M :=
  sorted_eq h.inc k.inc fun x => ⟨h.mem k, k.mem h⟩
/-- Only what is in the list counts. -/
theorem Nrm.of_mem {A B L : List A3} (h : Nrm A L) (e : ∀ x, x ∈ A ↔ x ∈ B) : Nrm B L :=
  ⟨h.inc, fun a ha => let ⟨h1, h2, h3⟩ := h.sub a ha; ⟨(e a).1 h1, h2, fun b hb => h3 b ((e b).2 hb)⟩, fun a ha hn => h.sup a ((e a).2 ha) hn⟩
/-- A normal list's own is itself. -/
theorem Nrm.self {A L : List A3} (h : Nrm A L) : Nrm L L :=
  ⟨h.inc, fun a ha => ⟨ha, (h.sub a ha).2.1, fun b hb k => by rw [inc_key h.inc hb ha k]; exact Int.le_refl _⟩, fun a ha _ => ⟨a, ha, rfl, rfl⟩⟩

/-! ### Sorted, and of neighbours that are alike the first -/
section
variable {s : List A3} (hs : ∀ i j : Int, 0 ≤ i → i < j → j < (s.length : Int) → ¬ lt3 (gt s j) (gt s i))
include hs
theorem rise2 {i j : Int} (i0 : 0 ≤ i) (ij : i < j) (j1 : j < (s.length : Int)) : ltk (gt s i) (gt s j) ∨ (key2 (gt s i) (gt s j) ∧ (gt s i).2.2 ≤ (gt s j).2.2) := by
  have := hs i j i0 ij j1
  unfold lt3 at this; unfold ltk key2
  omega
theorem cpt_mem {k : Nat} (hk : k ≤ s.length) : ∀ x ∈ cpt s k, ∃ i : Int, 0 ≤ i ∧ i < k ∧ x = gt s i := by
  induction k with
  | zero => intro x hx; cases hx
  | succ k ih =>
    intro x hx
    simp only [cpt] at hx
    rcases List.mem_append.1 hx with hx | hx
    · obtain ⟨i, i0, i1, e⟩ := ih (by omega) x hx
      exact ⟨i, i0, by omega, e⟩
    · split at hx
      · cases hx
      · exact ⟨k, by omega, by omega, List.mem_singleton.1 hx⟩
theorem cpt_inc {k : Nat} (hk : k ≤ s.length) : (cpt s k).Pairwise ltk := by
  induction k with
  | zero => exact .nil
  | succ k ih =>
    simp only [cpt]
    split
    · rw [List.append_nil]; exact ih (by omega)
    · rename_i hn
      rw [List.pairwise_append]
      refine ⟨ih (by omega), List.pairwise_singleton _ _, fun x hx y hy => ?_⟩
      obtain rfl := List.mem_singleton.1 hy
      obtain ⟨i, i0, i1, rfl⟩ := cpt_mem hs (by omega) x hx
      have hk0 : k ≠ 0 := by omega
      have hn' : ¬ key2 (gt s (k : Int)) (gt s ((k : Int) - 1)) := fun q => hn ⟨hk0, q⟩
      have h1 := rise2 hs (i := (k : Int) - 1) (j := k) (by omega) (by omega) (by omega)
      by_cases e : i = (k : Int) - 1
      · subst e
        unfold ltk key2 at *; omega
      · have h2 := rise2 hs (i := i) (j := (k : Int) - 1) i0 (by omega) (by omega)
        unfold ltk key2 at *; omega
theorem cpt_has {k : Nat} (hk : k ≤ s.length) : ∀ i : Int, 0 ≤ i → i < k → ∃ x ∈ cpt s k, key2 x (gt s i) ∧ x.2.2 ≤ (gt s i).2.2 := by
  induction k with
  | zero => intro i i0 i1; simp at i1; omega
  | succ k ih =>
    intro i i0 i1
    by_cases e : i = (k : Int)
    · subst e
      by_cases hn : k ≠ 0 ∧ key2 (gt s (k : Int)) (gt s ((k : Int) - 1))
      · obtain ⟨x, h1, h2, h3⟩ := ih (by omega) ((k : Int) - 1) (by omega) (by omega)
        refine ⟨x, by simp only [cpt]; exact List.mem_append_left _ h1, ?_, ?_⟩
        · have := hn.2; unfold key2 at *; omega
        · have h4 := rise2 hs (i := (k : Int) - 1) (j := k) (by omega) (by omega) (by omega)
          have := hn.2; unfold ltk key2 at *; omega
      · refine ⟨gt s (k : Int), ?_, ⟨rfl, rfl⟩, Int.le_refl _⟩
        simp only [cpt]
        rw [if_neg hn]
        exact List.mem_append_right _ (List.mem_singleton.2 rfl)
    · obtain ⟨x, h1, h2⟩ := ih (by omega) i i0 (by omega)
      exact ⟨x, by simp only [cpt]; exact List.mem_append_left _ h1, h2⟩
end

def noLp (a : A3) : Bool := !decide (a.1 = a.2.1)
theorem nrm_of {A F s : List A3} (hF : F = A.filter noLp) (hp : s.Perm F) (hs : s.Pairwise fun x y => ¬ lt3 y x) : Nrm A (cpt s s.length) := by
  have hs' : ∀ i j : Int, 0 ≤ i → i < j → j < (s.length : Int) → ¬ lt3 (gt s j) (gt s i) := fun i j i0 ij j1 => by
    obtain ⟨i, rfl⟩ := Int.eq_ofNat_of_zero_le i0
    obtain ⟨j, rfl⟩ := Int.eq_ofNat_of_zero_le (show 0 ≤ j by omega)
    rw [gt_nat (show i < s.length by omega), gt_nat (show j < s.length by omega)]
    exact List.pairwise_iff_getElem.1 hs i j (by omega) (by omega) (by omega)
  have mem : ∀ x, x ∈ s ↔ (x ∈ A ∧ x.1 ≠ x.2.1) := fun x => by
    rw [hp.mem_iff, hF, List.mem_filter]; simp [noLp]
  have inc := cpt_inc hs' (Nat.le_refl _)
  refine ⟨inc, fun a ha => ?_, fun a ha hn => ?_⟩
  · obtain ⟨i, i0, i1, e⟩ := cpt_mem hs' (Nat.le_refl _) a ha
    have hm := (mem a).1 (by rw [e]; exact gt_mem i0 i1)
    refine ⟨hm.1, hm.2, fun b hb hk => ?_⟩
    have hbn : b.1 ≠ b.2.1 := by have := hm.2; unfold key2 at hk; omega
    obtain ⟨j, j0, j1, rfl⟩ := mem_gtE ((mem b).2 ⟨hb, hbn⟩)
    obtain ⟨x, x1, x2, x3⟩ := cpt_has hs' (Nat.le_refl _) j j0 j1
    have : x = a := inc_key inc x1 ha (by unfold key2 at *; omega)
    rw [← this]; exact x3
  · obtain ⟨j, j0, j1, rfl⟩ := mem_gtE ((mem a).2 ⟨ha, hn⟩)
    obtain ⟨x, x1, x2, _⟩ := cpt_has hs' (Nat.le_refl _) j j0 j1
    exact ⟨x, x1, x2⟩

end Go.Vd

/-! (Gc) -/

set_option linter.unusedVariables false
set_option linter.unusedSimpArgs false
namespace Go.Vd
variable {N : Int} {A L : List A3}

/-- The number of what is wrong with an arc; 0: nothing. -/
def arcG (N : Int) (a : A3) : Int := if a.1 < 0 ∨ a.1 ≥ N ∨ a.2.1 < 0 ∨ a.2.1 ≥ N then 7 else if a.2.2 < 0 ∨ a.2.2 > 2147483647 then 8 else 0
def BigG (N : Int) (A : List A3) : Prop := N < 0 ∨ N > 65536 ∨ (A.length : Int) > 262144

/-- What a graph's check tells. -/
inductive GChk (N : Int) (A : List A3) : Er → Prop
  | limit : BigG N A → GChk N A (.no 9)
  | arc (i : Int) : ¬ BigG N A → 0 ≤ i → i < (A.length : Int) → arcG N (gt A i) ≠ 0 → (∀ j, 0 ≤ j → j < i → arcG N (gt A j) = 0) → GChk N A (.at 4 i (.no (arcG N (gt A i))))
  | ok : ¬ BigG N A → (∀ j, 0 ≤ j → j < (A.length : Int) → arcG N (gt A j) = 0) → GChk N A .nil

theorem arcG_7 {a : A3} (h : a.1 < 0 ∨ a.1 ≥ N ∨ a.2.1 < 0 ∨ a.2.1 ≥ N) : arcG N a = 7 := by unfold arcG; rw [if_pos h]
theorem arcG_8 {a : A3} (h : ¬ (a.1 < 0 ∨ a.1 ≥ N ∨ a.2.1 < 0 ∨ a.2.1 ≥ N)) (k : a.2.2 < 0 ∨ a.2.2 > 2147483647) : arcG N a = 8 := by unfold arcG; rw [if_neg h, if_pos k]
theorem arcG_0 {a : A3} (h : ¬ (a.1 < 0 ∨ a.1 ≥ N ∨ a.2.1 < 0 ∨ a.2.1 ≥ N)) (k : ¬ (a.2.2 < 0 ∨ a.2.2 > 2147483647)) : arcG N a = 0 := by unfold arcG; rw [if_neg h, if_neg k]
theorem arcG_ok {a : A3} (h : arcG N a = 0) : 0 ≤ a.1 ∧ a.1 < N ∧ 0 ≤ a.2.1 ∧ a.2.1 < N ∧ 0 ≤ a.2.2 ∧ a.2.2 ≤ 2147483647 := by
  unfold arcG at h
  split at h
  · cases h
  · split at h
    · cases h
    · omega

theorem GChk.uniq {er er' : Er} (h : GChk N A er) (k : GChk N A er') : er = er' := by
  cases h with
  | limit h1 =>
    cases k with
    | limit _ => rfl
    | arc _ k1 => exact absurd h1 k1
    | ok k1 _ => exact absurd h1 k1
  | arc i h1 h2 h3 h4 h5 =>
    cases k with
    | limit k1 => exact absurd k1 h1
    | arc j _ k2 k3 k4 k5 =>
      have : i = j := by
        rcases Int.lt_trichotomy i j with q | q | q
        · exact absurd (k5 i h2 q) h4
        · exact q
        · exact absurd (h5 j k2 q) k4
      rw [this]
    | ok _ k2 => exact absurd (k2 i h2 h3) h4
  | ok h1 h2 =>
    cases k with
    | limit k1 => exact absurd k1 h1
    | arc j _ k2 k3 k4 _ => exact absurd (h2 j k2 k3) k4
    | ok _ _ => rfl
theorem GChk.bad {er : Er} (h : GChk N A er) : (er.code ≠ 0 ∨ er.pls ≠ []) ↔ er ≠ .nil := by
  cases h with
  | limit _ => simp [Er.code]
  | arc i _ _ _ h4 _ => simp [Er.pls]
  | ok _ _ => simp [Er.code, Er.pls]
theorem GChk.small (h : GChk N A .nil) : 0 ≤ N ∧ N ≤ 65536 ∧ (A.length : Int) ≤ 262144 := by
  cases h with
  | ok h1 _ => unfold BigG at h1; omega
theorem GChk.arcs (h : GChk N A .nil) : ∀ a ∈ A, 0 ≤ a.1 ∧ a.1 < N ∧ 0 ≤ a.2.1 ∧ a.2.1 < N ∧ 0 ≤ a.2.2 ∧ a.2.2 ≤ 2147483647 := by
  cases h with
  | ok h1 h2 =>
    intro a ha
    obtain ⟨i, i0, i1, rfl⟩ := mem_gtE ha
    exact arcG_ok (h2 i i0 i1)
theorem GChk.of_arcs (n0 : 0 ≤ N) (n1 : N ≤ 65536) (n2 : (A.length : Int) ≤ 262144) (h : ∀ a ∈ A, 0 ≤ a.1 ∧ a.1 < N ∧ 0 ≤ a.2.1 ∧ a.2.1 < N ∧ 0 ≤ a.2.2 ∧ a.2.2 ≤ 2147483647) : GChk N A .nil :=
  .ok (by unfold BigG; omega) fun j j0 j1 => by have := h _ (gt_mem j0 j1); exact arcG_0 (by omega) (by omega)

theorem p_garc {a : A3} : z_gtext_arc a.1 a.2.1 a.2.2 N = some (if arcG N a = 0 then .nil else .no (arcG N a)) := by
  refine T_eq.1 ?_
  unfold z_gtext_arc
  refine T_bindr (fun o => o = decide (a.1 < 0 ∨ a.1 ≥ N ∨ a.2.1 < 0 ∨ a.2.1 ≥ N)) ?_ ?_
  · unfold z_gtext_within
    simp only [T_bind, T_ite, T_some]
    refine ⟨fun h1 => ⟨fun h2 => ⟨fun h3 => ?_, fun h3 => ?_⟩, fun h2 => ?_⟩, fun h1 => ⟨fun h2 => ?_, fun h2 => ?_⟩⟩
    · have h2' : a.1 < N := by simpa using h2
      by_cases h4 : a.2.1 < N
      · simp [h4]; omega
      · simp [h4]; omega
    · simp; omega
    · have h2' : ¬ a.1 < N := by simpa using h2
      simp; omega
    · simp at h2
    · simp; omega
  · rintro _ rfl
    by_cases h : a.1 < 0 ∨ a.1 ≥ N ∨ a.2.1 < 0 ∨ a.2.1 ≥ N
    · rw [arcG_7 h]; simp [h]
    · rw [decide_eq_false h, if_neg (by decide)]
      by_cases k1 : a.2.2 < 0
      · rw [if_pos k1, arcG_8 h (.inl k1)]; simp
      · rw [if_neg k1]
        by_cases k2 : a.2.2 > 2147483647
        · rw [if_pos k2, arcG_8 h (.inr k2)]; simp
        · rw [if_neg k2, arcG_0 h (by omega)]; simp
theorem p_fAtG {k i : Int} {e : Er} (h : e ≠ .nil) : z_fault_At k i e = some (.at k i e) := by
  unfold z_fault_At; rw [if_neg h]

theorem p_big : T (if N < 0 then (some true) else (if N > 65536 then (some true) else (some (decide ((A.length : Int) > 262144)))) : Option Bool) fun o => o = true ↔ BigG N A := by
  unfold BigG
  simp only [T_ite, T_some]
  exact ⟨fun h => by simp [h], fun h => ⟨fun h2 => by simp [h2], fun h2 => by simp; omega⟩⟩

theorem p_gCheck : T (z_gtext_Check N A) (GChk N A) := by
  unfold z_gtext_Check
  refine T_bindr _ p_big fun o ho => ?_
  rw [T_ite]
  refine ⟨fun h => by simp only [T_some]; exact .limit (ho.1 h), fun h => ?_⟩
  have hb : ¬ BigG N A := fun k => h (ho.2 k)
  have hl : (A.length : Int) ≤ 262144 := by unfold BigG at hb; omega
  refine T_binds (fun _ => ∀ j, 0 ≤ j → j < (A.length : Int) → arcG N (gt A j) = 0) ?_ fun _ h => by simp only [T_some]; exact .ok hb h
  refine T_loop (fun i => 0 ≤ i ∧ i ≤ (A.length : Int) ∧ ∀ j, 0 ≤ j → j < i → arcG N (gt A j) = 0) (fun i => ((A.length : Int) - i).toNat) ?_ ⟨by simp, by simp, fun j j0 j1 => by omega⟩
  rintro i ⟨i0, i1, hi⟩
  unfold z_gtext_Check_l0
  rw [T_ite]
  refine ⟨fun hlt => ?_, fun hge => by simp only [T_some, Sum.elim_inr]; exact fun j j0 j1 => hi j j0 (by omega)⟩
  rw [T_G, p_garc, Option.bind_some]
  refine ⟨i0, ?_⟩
  by_cases h0 : arcG N (gt A i) = 0
  · rw [if_pos h0, if_pos rfl]
    simp only [T_G, T_some, Sum.elim_inl]
    refine ⟨by omega, ⟨by omega, by omega, fun j j0 j1 => ?_⟩, by omega⟩
    by_cases e : j = i
    · rw [e]; exact h0
    · exact hi j j0 (by omega)
  · rw [if_neg h0, if_neg (by simp), p_fAtG (by simp), Option.bind_some]
    simp only [T_map, T_some, Sum.elim_inr, Sum.elim_inl]
    exact .arc i hb i0 hlt h0 hi

/-- An arc turned about. -/
def swp3 (a : A3) : A3 := (a.2.1, a.1, a.2.2)
inductive RevA (N : Int) (A : List A3) : Int → List A3 → Er → Prop
  | bad (er : Er) : GChk N A er → er ≠ .nil → RevA N A 0 [] er
  | ok : GChk N A .nil → RevA N A N (A.map swp3) .nil
theorem GChk.rev (h : GChk N A .nil) : GChk N (A.map swp3) .nil := by
  obtain ⟨n0, n1, n2⟩ := h.small
  refine .of_arcs n0 n1 (by simpa using n2) fun a ha => ?_
  obtain ⟨b, hb, rfl⟩ := List.mem_map.1 ha
  have := h.arcs b hb
  unfold swp3; dsimp only; omega
end Go.Vd

/-! (PrGd) -/

set_option linter.unusedVariables false
set_option linter.unusedSimpArgs false
namespace Go.Vd
variable {N : Int} {A L : List A3}

theorem p_gDocCheck : T (z_viaductref03_DocCheck N A) fun r => ∃ er, GChk N A er ∧ r = (er.code, er.pls) := by
  unfold z_viaductref03_DocCheck
  refine T_bindr _ p_big fun o ho => ?_
  rw [T_ite]
  refine ⟨fun h => by rw [p_E, Option.bind_some]; simp only [T_some]; exact ⟨.no 9, .limit (ho.1 h), rfl⟩, fun h => ?_⟩
  have hb : ¬ BigG N A := fun k => h (ho.2 k)
  have hl : (A.length : Int) ≤ 262144 := by unfold BigG at hb; omega
  refine T_binds (fun _ => ∀ j, 0 ≤ j → j < (A.length : Int) → arcG N (gt A j) = 0) ?_ fun _ h => by simp only [T_some]; exact ⟨.nil, .ok hb h, rfl⟩
  refine T_loop (fun i => 0 ≤ i ∧ i ≤ (A.length : Int) ∧ ∀ j, 0 ≤ j → j < i → arcG N (gt A j) = 0) (fun i => ((A.length : Int) - i).toNat) ?_ ⟨by simp, by simp, fun j j0 j1 => by omega⟩
  rintro i ⟨i0, i1, hi⟩
  unfold z_viaductref03_DocCheck_l0
  rw [T_ite]
  refine ⟨fun hlt => ?_, fun hge => by simp only [T_some, Sum.elim_inr]; exact fun j j0 j1 => hi j j0 (by omega)⟩
  rw [T_G]
  refine ⟨i0, T_bindr (fun o => o = true ↔ ((gt A i).1 < 0 ∨ (gt A i).1 ≥ N ∨ (gt A i).2.1 < 0 ∨ (gt A i).2.1 ≥ N)) ?_ fun o ho => ?_⟩
  · simp only [T_ite, T_some]
    refine ⟨fun h => by simp [h], fun h1 => ⟨fun h => by simp; omega, fun h2 => ⟨fun h => by simp [h], fun h3 => by simp; omega⟩⟩⟩
  rw [T_ite]
  refine ⟨fun h => ?_, fun h => ?_⟩
  · have h7 := arcG_7 (ho.1 h)
    rw [p_E, Option.bind_some, p_At (by simp), Option.bind_some]
    simp only [T_map, T_some, Sum.elim_inr, Sum.elim_inl]
    refine ⟨_, .arc i hb i0 hlt (by rw [h7]; decide) hi, ?_⟩
    rw [h7]; rfl
  · have hn : ¬ ((gt A i).1 < 0 ∨ (gt A i).1 ≥ N ∨ (gt A i).2.1 < 0 ∨ (gt A i).2.1 ≥ N) := fun k => h (ho.2 k)
    refine T_bindr (fun o => o = true ↔ ((gt A i).2.2 < 0 ∨ (gt A i).2.2 > 2147483647)) ?_ fun o ho => ?_
    · simp only [T_ite, T_some]
      exact ⟨fun h => by simp [h], fun h => by simp; omega⟩
    rw [T_ite]
    refine ⟨fun h => ?_, fun h => ?_⟩
    · have h8 := arcG_8 hn (ho.1 h)
      rw [p_E, Option.bind_some, p_At (by simp), Option.bind_some]
      simp only [T_map, T_some, Sum.elim_inr, Sum.elim_inl]
      refine ⟨_, .arc i hb i0 hlt (by rw [h8]; decide) hi, ?_⟩
      rw [h8]; rfl
    · have h0 := arcG_0 hn fun k => h (ho.2 k)
      simp only [T_G, T_some, Sum.elim_inl]
      refine ⟨by omega, ⟨by omega, by omega, fun j j0 j1 => ?_⟩, by omega⟩
      by_cases e : j = i
      · rw [e]; exact h0
      · exact hi j j0 (by omega)

end Go.Vd

/-! (PrGf) -/

set_option linter.unusedVariables false
set_option linter.unusedSimpArgs false
namespace Go.Vd
variable {N : Int} {A L : List A3}
theorem p_Few {most : Int} : T (z_viaductref04_Few N A most) fun b => b = true ↔ (GChk N A .nil ∧ N ≤ most ∧ (A.length : Int) ≤ 2000) := by
  unfold z_viaductref04_Few
  refine T_bindr _ p_gDocCheck ?_
  rintro _ ⟨er, hc, rfl⟩
  dsimp only
  rw [p_Bad, Option.bind_some, T_ite]
  refine ⟨fun h => ?_, fun h => ?_⟩
  · have hne := hc.bad.1 (by simpa using h)
    simp only [T_some]
    simp; exact fun k => absurd (hc.uniq k) hne
  · have he : er = .nil := Classical.not_not.1 fun k => h (by simpa using hc.bad.2 k)
    subst he
    rw [T_ite]
    simp only [T_some]
    exact ⟨fun h => by simp [hc, h], fun h => by simp; intro _ k; omega⟩
end Go.Vd

/-! (PrMg) -/

set_option linter.unusedVariables false
set_option linter.unusedSimpArgs false
namespace Go.Vd
variable {N M : Int} {A B L : List A3}
theorem g_chk_eq {er : Er} (h : GChk N A er) : z_gtext_Check N A = some er := by
  obtain ⟨e, q, c⟩ := p_gCheck (N := N) (A := A)
  rw [q, c.uniq h]
theorem g_Grow {n : Int} (n0 : 0 ≤ n) (n1 : n ≤ 262144) : z_slices_Grow n = some [] := by
  unfold z_slices_Grow G
  rw [if_neg (by omega), if_pos (by omega)]
  by_cases h : n - 0 > 0
  · rw [if_pos h, if_pos (by omega), if_pos ⟨by omega, by omega⟩]; simp
  · rw [if_neg h]
theorem g_Concat (hl : (A.length : Int) + (B.length : Int) ≤ 262144) : z_slices_Concat A B = some (A ++ B) := by
  unfold z_slices_Concat G
  rw [if_pos (by omega), if_neg (by omega), if_pos (by omega), if_neg (by omega), g_Grow (by omega) (by omega), Option.bind_some, if_pos (by simp; omega), if_pos (by simp; omega)]
  simp
theorem g_mg_ok (c : GChk N A .nil) (d : GChk M B .nil) : z_normal_Merge N A M B = if N = M then (if ((A.length : Int) + (B.length : Int)) > 262144 then (some (0, [], (Er.no 9))) else (some (N, A ++ B, Er.nil))) else (some (0, [], (Er.no 1))) := by
  have s1 := c.small; have s2 := d.small
  have gg : -9223372036854775808 ≤ ((A.length : Int) + (B.length : Int)) ∧ ((A.length : Int) + (B.length : Int)) ≤ 9223372036854775807 := by omega
  unfold z_normal_Merge G
  rw [g_chk_eq c, Option.bind_some, if_pos rfl, g_chk_eq d, Option.bind_some, if_pos rfl, if_pos gg]
  by_cases k : N = M
  · rw [if_pos k, if_pos k]
    by_cases k2 : (A.length : Int) + (B.length : Int) > 262144
    · rw [if_pos k2, if_pos k2]
    · rw [if_neg k2, if_neg k2, g_Concat (by omega), Option.bind_some]
  · rw [if_neg k, if_neg k]

end Go.Vd

/-! (So3) -/

set_option linter.unusedVariables false
set_option linter.unusedSimpArgs false
namespace Go.Vd
variable {N : Int} {A L : List A3}

/-- What the normal graph of a graph is. -/
inductive OfA (N : Int) (A : List A3) : Int → List A3 → Er → Prop
  | bad (er : Er) : GChk N A er → er ≠ .nil → OfA N A 0 [] er
  | ok (L : List A3) : GChk N A .nil → Nrm A L → L.length ≤ A.length → OfA N A N L .nil

theorem p_Of : T (z_normal_Of N A) fun r => OfA N A r.1 r.2.1 r.2.2 := by
  unfold z_normal_Of
  refine T_bindr _ p_gCheck fun er hc => ?_
  rw [T_ite]
  refine ⟨fun he => ?_, fun he => by simp only [T_some]; exact .bad er hc he⟩
  subst he
  obtain ⟨n0, n1, n2⟩ := hc.small
  refine T_bindr (fun c => c = A.filter noLp) ?_ ?_
  · refine T_loop (fun z => 0 ≤ z.1 ∧ z.1 ≤ (A.length : Int) ∧ z.2 = (A.take z.1.toNat).filter noLp) (fun z => ((A.length : Int) - z.1).toNat) ?_ ⟨by simp, by simp, by simp⟩
    rintro ⟨i, c⟩ ⟨i0, i1, e⟩
    dsimp only at *
    subst e
    unfold z_normal_Of_l0
    rw [T_ite]
    refine ⟨fun hlt => ?_, fun hge => ?_⟩
    rotate_left
    · simp only [T_some, Sum.elim_inr]
      rw [List.take_of_length_le (by omega)]
    have hll := List.length_filter_le noLp (A.take i.toNat)
    have hlt2 : (A.take i.toNat).length ≤ A.length := by rw [List.length_take]; omega
    have next : (A.take (i + 1).toNat).filter noLp = (A.take i.toNat).filter noLp ++ if (gt A i).1 = (gt A i).2.1 then [] else [gt A i] := by
      rw [take_gtE i0 hlt, List.filter_append]
      congr 1
      by_cases h : (gt A i).1 = (gt A i).2.1 <;> simp [List.filter, noLp, h]
    simp only [T_G, T_ite, T_some, Sum.elim_inl]
    refine ⟨i0, fun h => ⟨by omega, ⟨by omega, by omega, ?_⟩, by omega⟩, fun h => ⟨by omega, by omega, ⟨by omega, by omega, ?_⟩, by omega⟩⟩
    · rw [next, if_pos h, List.append_nil]
    · rw [next, if_neg h]
  · rintro _ rfl
    have hll := List.length_filter_le noLp A
    rw [T_G, p_sort, Option.bind_some]
    refine ⟨by omega, ?_⟩
    have hp := sortL_perm ord3 (A.filter noLp)
    have hlen := hp.length_eq
    refine T_bindr _ (p_Compact (by omega)) fun r hr => ?_
    simp only [T_some]
    rw [hr]
    refine .ok _ hc (nrm_of rfl hp (sort_rise _)) ?_
    have := cpt_len (sortL ord3 (A.filter noLp)) (sortL ord3 (A.filter noLp)).length
    omega

theorem GChk.nrm (h : GChk N A .nil) (k : Nrm A L) (hl : L.length ≤ A.length) : GChk N L .nil := by
  obtain ⟨n0, n1, n2⟩ := h.small
  exact .of_arcs n0 n1 (by omega) fun a ha => h.arcs a (k.sub a ha).1
end Go.Vd

/-! (PrPu) -/

set_option linter.unusedVariables false
set_option linter.unusedSectionVars false
set_option linter.unusedSimpArgs false
namespace Go.Vd
variable {N : Int} {A L : List A3}

instance (x y : A3) : Decidable (ltk x y) := by unfold ltk; exact inferInstance
/-- An arc put into a normal list. -/
inductive PutA : List A3 → A3 → List A3 → Prop
  | hit (p q : List A3) (b a : A3) : key2 b a → PutA (p ++ b :: q) a (p ++ (a.1, a.2.1, min a.2.2 b.2.2) :: q)
  | new (p q : List A3) (a : A3) : (∀ x ∈ p, ltk x a) → (∀ x ∈ q, ltk a x) → PutA (p ++ q) a (p ++ a :: q)

theorem p_less {x a : A3} : z_viaductref04_less x.1 x.2.1 x.2.2 a.1 a.2.1 a.2.2 = some (decide (ltk x a)) := by
  unfold z_viaductref04_less ltk
  by_cases h : x.1 < a.1
  · rw [if_pos h]; simp [h]
  · rw [if_neg h]
    by_cases h2 : x.1 = a.1
    · rw [if_pos h2]; simp [h2]
    · rw [if_neg h2]; simp [h, h2]

theorem split_gt {o : Int} (o0 : 0 ≤ o) (o1 : o < (L.length : Int)) : L.drop o.toNat = gt L o :: L.drop (o + 1).toNat := by
  rw [List.drop_eq_getElem_cons (i := o.toNat) (by omega), show (o + 1).toNat = o.toNat + 1 from by omega]
  congr 1
  have h : gt L ((o.toNat : Nat) : Int) = L[o.toNat] := gt_nat (by omega)
  rw [← h]; congr 1; omega

theorem p_Put {a : A3} (hL : L.Pairwise ltk) (hl : L.length ≤ 300000) : T (z_viaductref04_Put L a.1 a.2.1 a.2.2) fun r => PutA L a r ∧ r.length ≤ L.length + 1 := by
  unfold z_viaductref04_Put
  refine T_bindr (fun o => 0 ≤ o ∧ o ≤ (L.length : Int) ∧ (∀ j, 0 ≤ j → j < o → ltk (gt L j) a) ∧ (o < (L.length : Int) → ¬ ltk (gt L o) a)) ?_ ?_
  · refine T_loop (fun i => 0 ≤ i ∧ i ≤ (L.length : Int) ∧ ∀ j, 0 ≤ j → j < i → ltk (gt L j) a) (fun i => ((L.length : Int) - i).toNat) ?_ ⟨by omega, by omega, fun j _ _ => by omega⟩
    rintro i ⟨i0, i1, hi⟩
    unfold z_viaductref04_Put_l0
    rw [p_less, Option.bind_some]
    simp only [T_ite, T_G, T_some, Sum.elim_inl, Sum.elim_inr, decide_eq_true_eq]
    refine ⟨fun h => ⟨i0, fun k => ⟨by omega, ⟨by omega, by omega, fun j j0 j1 => ?_⟩, by omega⟩, fun k => ⟨i0, i1, hi, fun _ => k⟩⟩, fun h => ⟨i0, i1, hi, fun k => absurd k h⟩⟩
    by_cases e : j = i
    · rw [e]; exact k
    · exact hi j j0 (by omega)
  · rintro o ⟨o0, o1, h1, h2⟩
    simp only [List.drop_zero, List.take_length, List.nil_append]
    rw [T_G, T_G]
    refine ⟨⟨o0, o1⟩, by rw [List.length_take]; omega, ?_⟩
    refine T_bindr (fun b => b = true ↔ (o < (L.length : Int) ∧ key2 (gt L o) a)) ?_ fun b hb => ?_
    · unfold key2
      simp only [T_ite, T_G, T_some, decide_eq_true_eq]
      exact ⟨fun h => ⟨o0, fun k => by simp [h, k], fun k => by simp [k]⟩, fun h => by simp; omega⟩
    have hp : ∀ x ∈ L.take o.toNat, ltk x a := fun x hx => by
      obtain ⟨j, j0, j1, rfl⟩ := mem_gtE hx
      rw [List.length_take] at j1
      have : gt (L.take o.toNat) j = gt L j := by
        unfold gt
        rw [List.getD_eq_getElem?_getD, List.getD_eq_getElem?_getD, List.getElem?_take, if_pos (by omega)]
      rw [this]
      exact h1 j j0 (by omega)
    have eL : L.take o.toNat ++ L.drop o.toNat = L := List.take_append_drop _ _
    rw [T_ite]
    refine ⟨fun h => ?_, fun h => ?_⟩
    · obtain ⟨k1, k2⟩ := hb.1 h
      simp only [T_G, T_some, List.length_append, List.length_take, List.length_drop, List.length_cons, List.length_nil]
      refine ⟨⟨o0, k1⟩, by omega, by omega, by omega, by omega, ?_, by omega⟩
      have := PutA.hit (L.take o.toNat) (L.drop (o + 1).toNat) (gt L o) a k2
      rw [← split_gt o0 k1, eL] at this
      simpa using this
    · have hn : ¬ (o < (L.length : Int) ∧ key2 (gt L o) a) := fun k => h (hb.2 k)
      simp only [T_G, T_some, List.length_append, List.length_take, List.length_drop, List.length_cons, List.length_nil]
      refine ⟨by omega, by omega, ?_, by omega⟩
      have hq : ∀ x ∈ L.drop o.toNat, ltk a x := by
        by_cases k : o < (L.length : Int)
        · have h3 := h2 k
          have h4 : ltk a (gt L o) := by
            have : ¬ key2 (gt L o) a := fun q => hn ⟨k, q⟩
            unfold ltk key2 at *; omega
          have h5 : (L.drop o.toNat).Pairwise ltk := hL.sublist (List.drop_sublist _ _)
          rw [split_gt o0 k] at h5 ⊢
          intro x hx
          rcases List.mem_cons.1 hx with rfl | hx
          · exact h4
          · have := (List.pairwise_cons.1 h5).1 x hx
            unfold ltk at *; omega
        · rw [List.drop_of_length_le (by omega)]; intro x hx; cases hx
      have := PutA.new (L.take o.toNat) (L.drop o.toNat) a hp hq
      rw [eL] at this
      simpa using this

theorem key2_m {a : A3} {m : Int} : key2 (a.1, a.2.1, m) a := ⟨rfl, rfl⟩
theorem PutA.nrm {A L r : List A3} {a : A3} (h : PutA L a r) (k : Nrm A L) (hn : a.1 ≠ a.2.1) : Nrm (A ++ [a]) r := by
  have mA : ∀ c, c ∈ A ++ [a] ↔ (c ∈ A ∨ c = a) := fun c => by simp
  cases h with
  | hit p q b _ kb =>
    have inc := k.inc
    obtain ⟨i1, i2, i3⟩ := List.pairwise_append.1 inc
    obtain ⟨i4, i5⟩ := List.pairwise_cons.1 i2
    have kab : b.1 = a.1 ∧ b.2.1 = a.2.1 := kb
    have hbL : b ∈ p ++ b :: q := by simp
    obtain ⟨b1, b2, b3⟩ := k.sub b hbL
    refine ⟨List.pairwise_append.2 ⟨i1, List.pairwise_cons.2 ⟨fun x hx => ?_, i5⟩, fun x hx y hy => ?_⟩, fun x hx => ?_, fun c hc hcn => ?_⟩
    · have := i4 x hx; unfold ltk at *; dsimp only; omega
    · rcases List.mem_cons.1 hy with rfl | hy
      · have := i3 x hx b (List.mem_cons_self ..); unfold ltk at *; dsimp only; omega
      · exact i3 x hx y (List.mem_cons_of_mem _ hy)
    · have old : x ∈ p ∨ x ∈ q → x ∈ A ++ [a] ∧ x.1 ≠ x.2.1 ∧ ∀ c ∈ A ++ [a], key2 c x → x.2.2 ≤ c.2.2 := fun hx => by
        have hxL : x ∈ p ++ b :: q := by rcases hx with h | h <;> simp [h]
        have hk : ¬ key2 a x := by
          intro hk
          rcases hx with h | h
          · have := i3 x h b (List.mem_cons_self ..); unfold ltk key2 at *; omega
          · have := i4 x h; unfold ltk key2 at *; omega
        obtain ⟨x1, x2, x3⟩ := k.sub x hxL
        refine ⟨(mA x).2 (.inl x1), x2, fun c hc hk2 => ?_⟩
        rcases (mA c).1 hc with hc | rfl
        · exact x3 c hc hk2
        · exact absurd hk2 hk
      rcases List.mem_append.1 hx with h | h
      · exact old (.inl h)
      · rcases List.mem_cons.1 h with rfl | h
        · refine ⟨(mA _).2 ?_, hn, fun c hc hk2 => ?_⟩
          · by_cases hle : a.2.2 ≤ b.2.2
            · right; rw [Int.min_eq_left hle]
            · left
              rw [Int.min_eq_right (by omega)]
              have : ((a.1, a.2.1, b.2.2) : A3) = b := eq3 kab.1.symm kab.2.symm rfl
              rw [this]; exact b1
          · rcases (mA c).1 hc with hc | rfl
            · have := b3 c hc (by unfold key2 at *; dsimp only at hk2; omega)
              dsimp only; omega
            · dsimp only; omega
        · exact old (.inr h)
    · have new : ∃ y ∈ p ++ (a.1, a.2.1, min a.2.2 b.2.2) :: q, key2 y a := ⟨(a.1, a.2.1, min a.2.2 b.2.2), List.mem_append.2 (.inr (List.mem_cons_self ..)), key2_m⟩
      rcases (mA c).1 hc with hc | rfl
      · obtain ⟨y, hy, hk⟩ := k.sup c hc hcn
        rcases List.mem_append.1 hy with h | h
        · exact ⟨y, by simp [h], hk⟩
        · rcases List.mem_cons.1 h with rfl | h
          · obtain ⟨z, hz, hz2⟩ := new
            exact ⟨z, hz, by unfold key2 at *; omega⟩
          · exact ⟨y, by simp [h], hk⟩
      · exact new
  | new p q _ h1 h2 =>
    have inc := k.inc
    obtain ⟨i1, i2, i3⟩ := List.pairwise_append.1 inc
    refine ⟨List.pairwise_append.2 ⟨i1, List.pairwise_cons.2 ⟨h2, i2⟩, fun x hx y hy => ?_⟩, fun x hx => ?_, fun c hc hcn => ?_⟩
    · rcases List.mem_cons.1 hy with rfl | hy
      · exact h1 x hx
      · exact i3 x hx y hy
    · have old : x ∈ p ∨ x ∈ q → x ∈ A ++ [a] ∧ x.1 ≠ x.2.1 ∧ ∀ c ∈ A ++ [a], key2 c x → x.2.2 ≤ c.2.2 := fun hx => by
        have hxL : x ∈ p ++ q := by rcases hx with h | h <;> simp [h]
        have hk : ¬ key2 a x := by
          intro hk
          rcases hx with h | h
          · have := h1 x h; unfold ltk key2 at *; omega
          · have := h2 x h; unfold ltk key2 at *; omega
        obtain ⟨x1, x2, x3⟩ := k.sub x hxL
        refine ⟨(mA x).2 (.inl x1), x2, fun c hc hk2 => ?_⟩
        rcases (mA c).1 hc with hc | rfl
        · exact x3 c hc hk2
        · exact absurd hk2 hk
      rcases List.mem_append.1 hx with h | h
      · exact old (.inl h)
      · rcases List.mem_cons.1 h with rfl | h
        · refine ⟨(mA _).2 (.inr rfl), hn, fun c hc hk2 => ?_⟩
          rcases (mA c).1 hc with hc | rfl
          · exfalso
            obtain ⟨y, hy, hk⟩ := k.sup c hc (by unfold key2 at hk2; omega)
            rcases List.mem_append.1 hy with h | h
            · have := h1 y h; unfold ltk key2 at *; omega
            · have := h2 y h; unfold ltk key2 at *; omega
          · omega
        · exact old (.inr h)
    · rcases (mA c).1 hc with hc | rfl
      · obtain ⟨y, hy, hk⟩ := k.sup c hc hcn
        rcases List.mem_append.1 hy with h | h
        · exact ⟨y, by simp [h], hk⟩
        · exact ⟨y, by simp [h], hk⟩
      · exact ⟨c, by simp, rfl, rfl⟩
theorem Nrm.loop {a : A3} (k : Nrm A L) (hn : a.1 = a.2.1) : Nrm (A ++ [a]) L := by
  have mA : ∀ c, c ∈ A ++ [a] ↔ (c ∈ A ∨ c = a) := fun c => by simp
  refine ⟨k.inc, fun x hx => ?_, fun c hc hcn => ?_⟩
  · obtain ⟨x1, x2, x3⟩ := k.sub x hx
    refine ⟨(mA x).2 (.inl x1), x2, fun c hc hk => ?_⟩
    rcases (mA c).1 hc with hc | rfl
    · exact x3 c hc hk
    · unfold key2 at hk; omega
  · rcases (mA c).1 hc with hc | rfl
    · exact k.sup c hc hcn
    · exact absurd hn hcn
theorem Nrm.zero : Nrm [] [] := { inc := .nil, sub := fun a h => (by cases h), sup := fun a h => (by cases h) }

end Go.Vd

/-! (Fw) -/

set_option linter.unusedVariables false
set_option linter.unusedSimpArgs false
namespace Go.Vd
variable {N n k i j : Int} {A L : List A3} {E E' : Int → Int → Int} {M : List (List Int)}

/-- A walk along arcs, and its length. -/
inductive Wk (A : List A3) : Int → Int → Int → Prop
  | refl (i : Int) : Wk A i i 0
  | step (i u d x w : Int) : Wk A i u d → (u, x, w) ∈ A → Wk A i x (d + w)
theorem Wk.cat {i u v d e : Int} (h : Wk A i u d) (k : Wk A u v e) : Wk A i v (d + e) := by
  induction k with
  | refl => simpa using h
  | step u e x w _ ha ih =>
    have := ih.step _ _ _ _ w ha
    rwa [Int.add_assoc] at this
theorem Wk.one {i j w : Int} (h : (i, j, w) ∈ A) : Wk A i j w := by
  have := (Wk.refl i).step _ _ _ j w h
  simpa using this

/-- A matrix as a function. -/
def IsM (n : Int) (M : List (List Int)) (E : Int → Int → Int) : Prop := (M.length : Int) = n ∧ ∀ i, 0 ≤ i → i < n → ((gt M i).length : Int) = n ∧ ∀ j, 0 ≤ j → j < n → gt (gt M i) j = E i j
theorem IsM.congr (h : IsM n M E) (k : ∀ i j, 0 ≤ i → i < n → 0 ≤ j → j < n → E i j = E' i j) : IsM n M E' :=
  ⟨h.1, fun i i0 i1 => ⟨(h.2 i i0 i1).1, fun j j0 j1 => ((h.2 i i0 i1).2 j j0 j1).trans (k i j i0 i1 j0 j1)⟩⟩
theorem IsM.upd (h : IsM n M E) (i0 : 0 ≤ i) (i1 : i < n) (j0 : 0 ≤ j) (j1 : j < n) {v : Int} : IsM n (M.set i.toNat ((gt M i).set j.toNat v)) (fun a b => if a = i ∧ b = j then v else E a b) := by
  have hl := h.1
  refine ⟨by simpa using h.1, fun a a0 a1 => ?_⟩
  rw [gt_setE i0 (by omega) a0]
  by_cases e : a = i
  · subst e
    rw [if_pos rfl]
    obtain ⟨h1, h2⟩ := h.2 a a0 a1
    refine ⟨by simpa using h1, fun b b0 b1 => ?_⟩
    rw [gt_setE j0 (by omega) b0]
    by_cases f : b = j
    · rw [if_pos f]; dsimp only; rw [if_pos ⟨rfl, f⟩]
    · rw [if_neg f]; dsimp only; rw [if_neg (fun q => f q.2)]; exact h2 b b0 b1
  · rw [if_neg e]
    obtain ⟨h1, h2⟩ := h.2 a a0 a1
    exact ⟨h1, fun b b0 b1 => by dsimp only; rw [if_neg (fun q => e q.1)]; exact h2 b b0 b1⟩

/-- What is known when the middle nodes below k have been gone through. -/
structure FwI (N : Int) (A : List A3) (B k : Int) (E : Int → Int → Int) : Prop where
  rng : ∀ i j, 0 ≤ i → i < N → 0 ≤ j → j < N → E i j = 18446744073709551615 ∨ (0 ≤ E i j ∧ E i j ≤ B)
  snd : ∀ i j, 0 ≤ i → i < N → 0 ≤ j → j < N → E i j ≠ 18446744073709551615 → Wk A i j (E i j)
  dia : ∀ i, 0 ≤ i → i < N → E i i = 0
  arc : ∀ a ∈ A, E a.1 a.2.1 ≤ a.2.2
  tri : ∀ m, 0 ≤ m → m < k → ∀ i j, 0 ≤ i → i < N → 0 ≤ j → j < N → E i m ≠ 18446744073709551615 → E m j ≠ 18446744073709551615 → E i j ≤ E i m + E m j

/-- The way through k. -/
def thv (E : Int → Int → Int) (k i j : Int) : Int := if E i k ≠ 18446744073709551615 ∧ E k j ≠ 18446744073709551615 then min (E i j) (E i k + E k j) else E i j
theorem thv_row (h : E k k = 0) : thv E k k j = E k j := by unfold thv; split <;> omega
theorem thv_col (h : E k k = 0) : thv E k i k = E i k := by unfold thv; split <;> omega
theorem thv_le {B : Int} (h : E i j = 18446744073709551615 ∨ (0 ≤ E i j ∧ E i j ≤ B)) (hb : B ≤ 9000000000000000000) : thv E k i j ≤ E i j := by unfold thv; split <;> omega

theorem FwI.next {B : Int} (h : FwI N A B k E) (hb : B ≤ 9000000000000000000) (k0 : 0 ≤ k) (k1 : k < N) (ha : ∀ a ∈ A, (0 ≤ a.1 ∧ a.1 < N) ∧ 0 ≤ a.2.1 ∧ a.2.1 < N) : FwI N A (B + B) (k + 1) (thv E k) := by
  have kk := h.dia k k0 k1
  refine ⟨fun i j i0 i1 j0 j1 => ?_, fun i j i0 i1 j0 j1 hne => ?_, fun i i0 i1 => ?_, fun a haA => ?_, fun m m0 m1 i j i0 i1 j0 j1 n1 n2 => ?_⟩
  · have r1 := h.rng i j i0 i1 j0 j1; have r2 := h.rng i k i0 i1 k0 k1; have r3 := h.rng k j k0 k1 j0 j1
    unfold thv; split <;> omega
  · have r1 := h.rng i j i0 i1 j0 j1; have r2 := h.rng i k i0 i1 k0 k1; have r3 := h.rng k j k0 k1 j0 j1
    by_cases c : E i k ≠ 18446744073709551615 ∧ E k j ≠ 18446744073709551615
    · have e : thv E k i j = min (E i j) (E i k + E k j) := by unfold thv; rw [if_pos c]
      rw [e] at hne ⊢
      by_cases q : E i j ≤ E i k + E k j
      · rw [Int.min_eq_left q] at hne ⊢; exact h.snd i j i0 i1 j0 j1 hne
      · rw [Int.min_eq_right (by omega)]; exact (h.snd i k i0 i1 k0 k1 c.1).cat (h.snd k j k0 k1 j0 j1 c.2)
    · have e : thv E k i j = E i j := by unfold thv; rw [if_neg c]
      rw [e] at hne ⊢
      exact h.snd i j i0 i1 j0 j1 hne
  · have r2 := h.rng i k i0 i1 k0 k1; have r3 := h.rng k i k0 k1 i0 i1
    have := h.dia i i0 i1
    unfold thv; split <;> omega
  · obtain ⟨⟨a1, a2⟩, a3, a4⟩ := ha a haA
    have := h.arc a haA
    have := thv_le (k := k) (h.rng a.1 a.2.1 a1 a2 a3 a4) hb
    omega
  · have m2 : m < N := by omega
    by_cases e : m = k
    · subst e
      rw [thv_col kk] at n1 ⊢
      rw [thv_row kk] at n2 ⊢
      unfold thv; rw [if_pos ⟨n1, n2⟩]; omega
    · have mk : m < k := by omega
      have tr : ∀ a b, 0 ≤ a → a < N → 0 ≤ b → b < N → E a m = 18446744073709551615 ∨ E m b = 18446744073709551615 ∨ E a b ≤ E a m + E m b := fun a b a0 a1 b0 b1 => by
        by_cases c1 : E a m = 18446744073709551615
        · exact .inl c1
        · by_cases c2 : E m b = 18446744073709551615
          · exact .inr (.inl c2)
          · exact .inr (.inr (h.tri m m0 mk a b a0 a1 b0 b1 c1 c2))
      have t1 := tr i j i0 i1 j0 j1; have t2 := tr i k i0 i1 k0 k1; have t3 := tr k j k0 k1 j0 j1; have t4 := tr k k k0 k1 k0 k1
      have r1 := h.rng i j i0 i1 j0 j1; have r2 := h.rng i k i0 i1 k0 k1; have r3 := h.rng k j k0 k1 j0 j1
      have r4 := h.rng i m i0 i1 m0 m2; have r5 := h.rng m j m0 m2 j0 j1; have r6 := h.rng k m k0 k1 m0 m2; have r7 := h.rng m k m0 m2 k0 k1
      unfold thv at n1 n2 ⊢
      clear h
      generalize E i j = x1 at *; generalize E i k = x2 at *; generalize E k j = x3 at *; generalize E i m = x4 at *; generalize E m j = x5 at *; generalize E k m = x6 at *; generalize E m k = x7 at *
      by_cases c1 : x2 = 18446744073709551615 <;> by_cases c2 : x3 = 18446744073709551615 <;> by_cases c3 : x6 = 18446744073709551615 <;> by_cases c4 : x7 = 18446744073709551615 <;> simp only [c1, c2, c3, c4, ne_eq, not_true_eq_false, not_false_eq_true, and_true, and_false, true_and, false_and, false_or, true_or, or_true, or_false, if_true, if_false] at n1 n2 t1 t2 t3 t4 r1 r2 r3 r4 r5 r6 r7 ⊢ <;> omega

/-- No walk is shorter. -/
theorem FwI.low {B : Int} (h : FwI N A B N E) (hb : B ≤ 9000000000000000000) (ha : ∀ a ∈ A, (0 ≤ a.1 ∧ a.1 < N) ∧ 0 ≤ a.2.1 ∧ a.2.1 < N ∧ 0 ≤ a.2.2 ∧ a.2.2 ≤ 2147483647) (i0 : 0 ≤ i) (i1 : i < N) {d : Int} (w : Wk A i j d) :
    (0 ≤ j ∧ j < N) ∧ (E i j ≤ d) ∧ E i j ≠ 18446744073709551615 := by
  induction w with
  | refl => have := h.dia _ i0 i1; exact ⟨⟨i0, i1⟩, by omega, by omega⟩
  | step u e x w _ hm ih =>
    obtain ⟨⟨u0, u1⟩, h1, h2⟩ := ih
    obtain ⟨⟨_, _⟩, a3, a4, a5, a6⟩ := ha _ hm
    have h3 := h.arc _ hm
    dsimp only at *
    have r1 := h.rng _ x i0 i1 a3 a4
    have r2 := h.rng _ u i0 i1 u0 u1
    have r3 := h.rng u x u0 u1 a3 a4
    have := h.tri u u0 u1 _ x i0 i1 a3 a4 h2 (by omega)
    exact ⟨⟨a3, a4⟩, by omega, by omega⟩

/-- What a matrix of distances is. -/
def DistM (N : Int) (A : List A3) (M : List (List Int)) : Prop := ∃ E B, B ≤ 9000000000000000000 ∧ IsM N M E ∧ FwI N A B N E
theorem FwI.le_of {B B' : Int} {A' : List A3} (h : FwI N A B N E) (h' : FwI N A' B' N E') (hb : B' ≤ 9000000000000000000)
    (ha' : ∀ a ∈ A', (0 ≤ a.1 ∧ a.1 < N) ∧ 0 ≤ a.2.1 ∧ a.2.1 < N ∧ 0 ≤ a.2.2 ∧ a.2.2 ≤ 2147483647) {i' j' : Int} (w : ∀ d, Wk A i j d → ∃ e, Wk A' i' j' e ∧ e ≤ d)
    (i0 : 0 ≤ i) (i1 : i < N) (j0 : 0 ≤ j) (j1 : j < N) (i0' : 0 ≤ i') (i1' : i' < N) (j0' : 0 ≤ j') (j1' : j' < N) : E' i' j' ≤ E i j := by
  have r := h.rng i j i0 i1 j0 j1
  have r' := h'.rng i' j' i0' i1' j0' j1'
  by_cases e : E i j = 18446744073709551615
  · omega
  · obtain ⟨d, h1, h2⟩ := w _ (h.snd i j i0 i1 j0 j1 e)
    have := (h'.low hb ha' i0' i1' h1).2.1
    omega

/-! ### The code -/
theorem rep_len {E0 : Type} {m : Int} {x : E0} (h : 0 ≤ m) : ((List.replicate m.toNat x).length : Int) = m := by simp; omega
theorem gt_repI {m : Nat} {x : Int} : gt (List.replicate m (0 : Int)) x = 0 := by
  unfold gt
  rw [List.getD_eq_getElem?_getD, List.getElem?_replicate]
  split <;> rfl
theorem gt_repL {m : Nat} {x : Int} : gt (List.replicate m ([] : List Int)) x = [] := by
  unfold gt
  rw [List.getD_eq_getElem?_getD, List.getElem?_replicate]
  split <;> rfl
def E0f : Int → Int → Int := fun a b => if a = b then 0 else 18446744073709551615

theorem p_fwInit (n0 : 0 ≤ N) (n1 : N ≤ 65536) : T (loopO (fun zz_ => z_viaductref04_Distances_l1 N zz_.1 zz_.2) (0, (List.replicate N.toNat ([] : List Int)))) fun M => IsM N M E0f := by
  refine T_loop (fun z => 0 ≤ z.1 ∧ z.1 ≤ N ∧ (z.2.length : Int) = N ∧ ∀ a, 0 ≤ a → a < z.1 → ((gt z.2 a).length : Int) = N ∧ ∀ b, 0 ≤ b → b < N → gt (gt z.2 a) b = E0f a b) (fun z => (N - z.1).toNat) ?_ ⟨by simp, n0, rep_len n0, fun a a0 a1 => by dsimp only at a1; omega⟩
  rintro ⟨x, d⟩ ⟨x0, x1, hl, hd⟩
  dsimp only at *
  unfold z_viaductref04_Distances_l1
  rw [rep_len n0, T_ite]
  refine ⟨fun hx => ?_, fun hx => ?_⟩
  rotate_left
  · simp only [T_some, Sum.elim_inr]
    exact ⟨hl, fun a a0 a1 => hd a a0 (by omega)⟩
  rw [T_G, T_G, T_G]
  refine ⟨by omega, by omega, by simp; omega, ?_⟩
  have hg : gt (d.set x.toNat (List.replicate N.toNat (0 : Int))) x = List.replicate N.toNat 0 := by rw [gt_setE x0 (by omega) x0, if_pos rfl]
  refine T_bindr (fun r => (r.length : Int) = N ∧ (∀ a, 0 ≤ a → a ≠ x → gt r a = gt d a) ∧ ((gt r x).length : Int) = N ∧ ∀ b, 0 ≤ b → b < N → gt (gt r x) b = E0f x b) ?_ ?_
  · refine T_loop (fun z => 0 ≤ z.2 ∧ z.2 ≤ N ∧ (z.1.length : Int) = N ∧ (∀ a, 0 ≤ a → a ≠ x → gt z.1 a = gt d a) ∧ ((gt z.1 x).length : Int) = N ∧ ∀ b, 0 ≤ b → b < N → gt (gt z.1 x) b = if b < z.2 then E0f x b else 0) (fun z => (N - z.2).toNat) ?_
      ⟨by simp, n0, by simpa using hl, fun a a0 ha => by (try dsimp only); rw [gt_setE x0 (by omega) a0, if_neg ha], by (try dsimp only); rw [hg]; exact rep_len n0, fun b b0 b1 => by (try dsimp only); rw [hg, gt_repI, if_neg (by omega)]⟩
    rintro ⟨r, y⟩ ⟨y0, y1, r1, r2, r3, r4⟩
    dsimp only at *
    unfold z_viaductref04_Distances_l0
    rw [hg, rep_len n0, T_ite]
    refine ⟨fun hy => ?_, fun hy => ?_⟩
    rotate_left
    · simp only [T_some, Sum.elim_inr]
      exact ⟨r1, r2, r3, fun b b0 b1 => by rw [r4 b b0 b1, if_pos (by omega)]⟩
    rw [T_ite]
    refine ⟨fun e => ?_, fun e => ?_⟩
    · simp only [T_G, T_some, Sum.elim_inl]
      refine ⟨by omega, ⟨by omega, by omega, r1, r2, r3, fun b b0 b1 => ?_⟩, by omega⟩
      rw [r4 b b0 b1]
      by_cases f : b < y
      · rw [if_pos f, if_pos (by omega)]
      · rw [if_neg f]
        by_cases g : b = y
        · subst g; rw [if_pos (by omega)]; unfold E0f; rw [if_pos e]
        · rw [if_neg (by omega)]
    · simp only [T_G, T_some, Sum.elim_inl]
      refine ⟨by omega, by omega, by omega, ⟨by omega, by omega, by simpa using r1, fun a a0 ha => ?_, ?_, fun b b0 b1 => ?_⟩, by omega⟩
      · rw [gt_setE x0 (by omega) a0, if_neg ha]; exact r2 a a0 ha
      · rw [gt_setE x0 (by omega) x0, if_pos rfl]; simpa using r3
      · rw [gt_setE x0 (by omega) x0, if_pos rfl, gt_setE y0 (by omega) b0]
        by_cases g : b = y
        · subst g; rw [if_pos rfl, if_pos (by omega)]; unfold E0f; rw [if_neg e]
        · rw [if_neg g, r4 b b0 b1]
          by_cases f : b < y
          · rw [if_pos f, if_pos (by omega)]
          · rw [if_neg f, if_neg (by omega)]
  · rintro r ⟨r1, r2, r3, r4⟩
    simp only [T_G, T_some, Sum.elim_inl]
    refine ⟨by omega, ⟨by omega, by omega, r1, fun a a0 a1 => ?_⟩, by omega⟩
    by_cases e : a = x
    · rw [e]; exact ⟨r3, r4⟩
    · rw [r2 a a0 e]; exact hd a a0 (by omega)

theorem p_fwArcs (hg : GChk N A .nil) (h : IsM N M E0f) : T (loopO (fun zz_ => z_viaductref04_Distances_l2 A zz_.1 zz_.2) (M, 0)) fun M' => ∃ E, IsM N M' E ∧ FwI N A 2147483647 0 E := by
  obtain ⟨n0, n1, n2⟩ := hg.small
  have ha := hg.arcs
  refine T_loop (fun z => 0 ≤ z.2 ∧ z.2 ≤ (A.length : Int) ∧ ∃ E, IsM N z.1 E ∧ (∀ i j, 0 ≤ i → i < N → 0 ≤ j → j < N → E i j = 18446744073709551615 ∨ (0 ≤ E i j ∧ E i j ≤ 2147483647)) ∧
    (∀ i j, 0 ≤ i → i < N → 0 ≤ j → j < N → E i j ≠ 18446744073709551615 → Wk A i j (E i j)) ∧ (∀ i, 0 ≤ i → i < N → E i i = 0) ∧ ∀ q, 0 ≤ q → q < z.2 → E (gt A q).1 (gt A q).2.1 ≤ (gt A q).2.2) (fun z => ((A.length : Int) - z.2).toNat) ?_ ?_
  · rintro ⟨d, x⟩ ⟨x0, x1, E, h1, h2, h3, h4, h5⟩
    dsimp only at *
    unfold z_viaductref04_Distances_l2
    rw [T_ite]
    refine ⟨fun hx => ?_, fun hx => ?_⟩
    rotate_left
    · simp only [T_some, Sum.elim_inr]
      exact ⟨E, h1, h2, h3, h4, fun a hA => by obtain ⟨q, q0, q1, rfl⟩ := mem_gtE hA; exact h5 q q0 (by omega), fun m m0 m1 => by omega⟩
    obtain ⟨a1, a2, a3, a4, a5, a6⟩ := ha _ (gt_mem x0 hx)
    obtain ⟨l1, l2⟩ := h1.2 _ a1 a2
    have hl := h1.1
    have hv := l2 _ a3 a4
    simp only [T_G, T_some, Sum.elim_inl]
    refine ⟨x0, by omega, by omega, by omega, by omega, ⟨by omega, by omega, _, h1.upd a1 a2 a3 a4, fun i j i0 i1 j0 j1 => ?_, fun i j i0 i1 j0 j1 => ?_, fun i i0 i1 => ?_, fun q q0 q1 => ?_⟩, by omega⟩
    · try dsimp only
      have := h2 i j i0 i1 j0 j1
      have := h2 _ _ a1 a2 a3 a4
      split <;> omega
    · try dsimp only
      split
      · rename_i e
        obtain ⟨rfl, rfl⟩ := e
        rw [hv]
        intro hne
        by_cases q : E (gt A x).1 (gt A x).2.1 ≤ (gt A x).2.2
        · rw [Int.min_eq_left q] at hne ⊢; exact h3 _ _ a1 a2 a3 a4 hne
        · rw [Int.min_eq_right (by omega)]; exact .one (gt_mem x0 hx)
      · exact h3 i j i0 i1 j0 j1
    · try dsimp only
      have := h4 i i0 i1
      split
      · rename_i e
        rw [hv, ← e.1, ← e.2]
        omega
      · exact this
    · try dsimp only
      by_cases e : (gt A q).1 = (gt A x).1 ∧ (gt A q).2.1 = (gt A x).2.1
      · rw [if_pos e, hv]
        by_cases f : q = x
        · subst f; omega
        · have := h5 q q0 (by omega)
          rw [e.1, e.2] at this; omega
      · rw [if_neg e]
        by_cases f : q = x
        · subst f; exact absurd ⟨rfl, rfl⟩ e
        · exact h5 q q0 (by omega)
  · refine ⟨by simp, by simp, E0f, h, fun i j _ _ _ _ => ?_, fun i j i0 i1 j0 j1 => ?_, fun i _ _ => by unfold E0f; rw [if_pos rfl], fun q q0 q1 => by dsimp only at q1; omega⟩
    · unfold E0f; split <;> simp
    · unfold E0f
      split
      · rename_i e; subst e; intro _; exact .refl i
      · intro q; exact absurd rfl q

theorem p_fwRow {B : Int} (h : FwI N A B k E) (hb : B ≤ 9000000000000000000) (k0 : 0 ≤ k) (k1 : k < N) (hN : N ≤ 65536) (i0 : 0 ≤ i) (i1 : i < N) {d : List (List Int)}
    (hd : IsM N d fun a b => if a < i then thv E k a b else E a b) :
    T (loopO (fun zz_ => z_viaductref04_Distances_l3 k d i zz_.1 zz_.2) (d, 0)) fun r => IsM N r fun a b => if a < i + 1 then thv E k a b else E a b := by
  have kk := h.dia k k0 k1
  have hl := hd.1
  refine T_loop (fun z => 0 ≤ z.2 ∧ z.2 ≤ N ∧ IsM N z.1 fun a b => if a < i ∨ (a = i ∧ b < z.2) then thv E k a b else E a b) (fun z => (N - z.2).toNat) ?_ ⟨by simp, by (try dsimp only); omega, hd.congr fun a b _ _ b0 _ => by
    try dsimp only
    by_cases q : a < i
    · rw [if_pos q, if_pos (.inl q)]
    · rw [if_neg q, if_neg (by omega)]⟩
  rintro ⟨r, y⟩ ⟨y0, y1, hr⟩
  dsimp only at *
  unfold z_viaductref04_Distances_l3
  rw [hl, T_ite]
  refine ⟨fun hy => ?_, fun hy => ?_⟩
  rotate_left
  · simp only [T_some, Sum.elim_inr]
    refine hr.congr fun a b _ _ b0 b1 => ?_
    try dsimp only
    by_cases q : a < i + 1
    · rw [if_pos q, if_pos (by omega)]
    · rw [if_neg q, if_neg (by omega)]
  have hrl := hr.1
  obtain ⟨ri1, ri2⟩ := hr.2 i i0 i1
  obtain ⟨rk1, rk2⟩ := hr.2 k k0 k1
  have eik : gt (gt r i) k = E i k := by
    rw [ri2 k k0 k1]; (try dsimp only); split
    · exact thv_col kk
    · rfl
  have ekj : gt (gt r k) y = E k y := by
    rw [rk2 y y0 hy]; (try dsimp only); split
    · exact thv_row kk
    · rfl
  have eij : gt (gt r i) y = E i y := by
    rw [ri2 y y0 hy]; (try dsimp only); rw [if_neg (by omega)]
  have r1 := h.rng i y i0 i1 y0 hy; have r2 := h.rng i k i0 i1 k0 k1; have r3 := h.rng k y k0 k1 y0 hy
  refine T_bindr (fun o => o = true ↔ (E i k ≠ 18446744073709551615 ∧ E k y ≠ 18446744073709551615)) ?_ fun o ho => ?_
  · rw [eik, ekj]
    simp only [T_G, T_ite, T_some]
    exact ⟨by omega, by omega, fun e => by simp [e], fun e => ⟨by omega, by omega, by simp [e]⟩⟩
  have next : ∀ v, v = thv E k i y → ∀ q, IsM N q (fun a b => if a = i ∧ b = y then v else if a < i ∨ (a = i ∧ b < y) then thv E k a b else E a b) → IsM N q fun a b => if a < i ∨ (a = i ∧ b < y + 1) then thv E k a b else E a b := fun v hv q hq => hq.congr fun a b _ _ _ _ => by
    try dsimp only
    by_cases e : a = i ∧ b = y
    · obtain ⟨rfl, rfl⟩ := e
      rw [if_pos ⟨rfl, rfl⟩, if_pos (by omega), hv]
    · rw [if_neg e]
      by_cases f : a < i ∨ (a = i ∧ b < y)
      · rw [if_pos f, if_pos (by omega)]
      · rw [if_neg f, if_neg (by omega)]
  rw [T_ite]
  refine ⟨fun e => ?_, fun e => ?_⟩
  · have c := ho.1 e
    rw [eik, ekj, eij]
    simp only [T_G, T_some, Sum.elim_inl]
    refine ⟨by omega, by omega, by omega, by omega, by omega, by omega, by omega, ⟨by omega, by omega, next _ ?_ _ (hr.upd i0 i1 y0 hy)⟩, by omega⟩
    unfold thv; rw [if_pos c]
  · have c : ¬ (E i k ≠ 18446744073709551615 ∧ E k y ≠ 18446744073709551615) := fun q => e (ho.2 q)
    simp only [T_G, T_some, Sum.elim_inl]
    refine ⟨by omega, ⟨by omega, by omega, hr.congr fun a b _ _ _ _ => ?_⟩, by omega⟩
    try dsimp only
    by_cases f : a = i ∧ b = y
    · obtain ⟨rfl, rfl⟩ := f
      rw [if_neg (by omega), if_pos (by omega)]
      unfold thv; rw [if_neg c]
    · by_cases g : a < i ∨ (a = i ∧ b < y)
      · rw [if_pos g, if_pos (by omega)]
      · rw [if_neg g, if_neg (by omega)]

theorem p_Distances (hg : GChk N A .nil) (hN : N ≤ 12) : T (z_viaductref04_Distances N A) (DistM N A) := by
  obtain ⟨n0, n1, n2⟩ := hg.small
  unfold z_viaductref04_Distances
  rw [T_G]
  refine ⟨by omega, T_bindr _ (p_fwInit n0 n1) fun M0 h0 => T_bindr _ (p_fwArcs hg h0) ?_⟩
  rintro M1 ⟨E1, h1, h2⟩
  have hl := h1.1
  refine T_bindr (DistM N A) ?_ fun r hr => by simpa using hr
  refine T_loop (fun z => 0 ≤ z.2 ∧ z.2 ≤ N ∧ ∃ E, IsM N z.1 E ∧ FwI N A (2147483647 * 2 ^ z.2.toNat) z.2 E) (fun z => (N - z.2).toNat) ?_ ⟨by simp, n0, E1, h1, by simpa using h2⟩
  rintro ⟨d, x⟩ ⟨x0, x1, E, h3, h4⟩
  dsimp only at *
  have hpow : (2 : Int) ^ x.toNat ≤ 2 ^ 12 := by
    have : (2 : Nat) ^ x.toNat ≤ 2 ^ 12 := Nat.pow_le_pow_right (by decide) (by omega)
    exact_mod_cast this
  have hpow0 : (0 : Int) < 2 ^ x.toNat := Int.pow_pos (by decide)
  unfold z_viaductref04_Distances_l5
  rw [hl, T_ite]
  refine ⟨fun hx => ?_, fun hx => ?_⟩
  rotate_left
  · simp only [T_some, Sum.elim_inr]
    have : x = N := by omega
    subst this
    exact ⟨E, _, by omega, h3, h4⟩
  have hdl := h3.1
  refine T_bindr (fun r => IsM N r (thv E x)) ?_ ?_
  · refine T_loop (fun z => 0 ≤ z.2 ∧ z.2 ≤ N ∧ IsM N z.1 fun a b => if a < z.2 then thv E x a b else E a b) (fun z => (N - z.2).toNat) ?_ ⟨by simp, n0, h3.congr fun a b a0 _ _ _ => by (try dsimp only); rw [if_neg (by omega)]⟩
    rintro ⟨r, y⟩ ⟨y0, y1, hr⟩
    dsimp only at *
    unfold z_viaductref04_Distances_l4
    rw [hdl, T_ite]
    refine ⟨fun hy => ?_, fun hy => ?_⟩
    · refine T_bindr _ (p_fwRow h4 (by omega) x0 hx n1 y0 hy hr) fun q hq => ?_
      simp only [T_G, T_some, Sum.elim_inl]
      exact ⟨by omega, ⟨by omega, by omega, hq⟩, by omega⟩
    · simp only [T_some, Sum.elim_inr]
      exact hr.congr fun a b _ a1 _ _ => by (try dsimp only); rw [if_pos (by omega)]
  · intro r hr
    simp only [T_G, T_some, Sum.elim_inl]
    refine ⟨by omega, ⟨by omega, by omega, _, hr, ?_⟩, by omega⟩
    have := h4.next (by omega) x0 hx fun a hA => by obtain ⟨a1, a2, a3, a4, _⟩ := hg.arcs a hA; exact ⟨⟨a1, a2⟩, a3, a4⟩
    rw [show (x + 1).toNat = x.toNat + 1 from by omega, Int.pow_succ]
    have e : (2147483647 * (2 ^ x.toNat * 2) : Int) = 2147483647 * 2 ^ x.toNat + 2147483647 * 2 ^ x.toNat := by omega
    rw [e]; exact this
end Go.Vd

/-! (So3r) -/

set_option linter.unusedVariables false
set_option linter.unusedSectionVars false
set_option linter.unusedSimpArgs false
namespace Go.Vd
variable {N : Int} {A L : List A3}
theorem p_Rev : T (z_normal_Reverse N A) fun r => RevA N A r.1 r.2.1 r.2.2 := by
  unfold z_normal_Reverse
  refine T_bindr _ p_gCheck fun er hc => ?_
  rw [T_ite]
  refine ⟨fun he => ?_, fun he => by simp only [T_some]; exact .bad er hc he⟩
  subst he
  obtain ⟨n0, n1, n2⟩ := hc.small
  refine T_bindr (fun c => c = A.map swp3) ?_ ?_
  · refine T_loop (fun z => 0 ≤ z.1 ∧ z.1 ≤ (A.length : Int) ∧ z.2 = (A.take z.1.toNat).map swp3) (fun z => ((A.length : Int) - z.1).toNat) ?_ ⟨by simp, by simp, by simp⟩
    rintro ⟨i, c⟩ ⟨i0, i1, e⟩
    dsimp only at *
    subst e
    unfold z_normal_Reverse_l0
    rw [T_ite]
    refine ⟨fun hlt => ?_, fun hge => ?_⟩
    rotate_left
    · simp only [T_some, Sum.elim_inr]
      rw [List.take_of_length_le (by omega)]
    simp only [T_G, T_some, Sum.elim_inl, List.length_map, List.length_take]
    refine ⟨i0, by omega, by omega, ⟨by omega, by omega, ?_⟩, by omega⟩
    rw [take_gtE i0 hlt, List.map_append]; rfl
  · rintro _ rfl
    simp only [T_some]
    exact .ok hc
end Go.Vd

/-! (Sc) -/

set_option linter.unusedVariables false
set_option linter.unusedSimpArgs false
namespace Go.Vd
theorem same_nextE {E : Type} [Inhabited E] {l m : List E} {i : Int} (h : ∀ j : Int, 0 ≤ j → j < i → gt l j = gt m j) (k : gt l i = gt m i) : ∀ j : Int, 0 ≤ j → j < i + 1 → gt l j = gt m j := by
  intro j h0 h1
  by_cases e : j = i
  · rw [e]; exact k
  · exact h j h0 (by omega)
theorem same_neE {E : Type} [DecidableEq E] {l m : List E} (h : ¬ (l.length : Int) = (m.length : Int)) : decide (l = m) = false := by
  apply decide_eq_false; rintro rfl; exact h rfl
theorem same_atE {E : Type} [DecidableEq E] [Inhabited E] {l m : List E} {i : Int} (h : ¬ gt l i = gt m i) : decide (l = m) = false := by
  apply decide_eq_false; rintro rfl; exact h rfl
theorem same_allE {E : Type} [DecidableEq E] [Inhabited E] {l m : List E} {i : Int} (h : ∀ j : Int, 0 ≤ j → j < i → gt l j = gt m j) (hl : (l.length : Int) = m.length) (hi : (l.length : Int) ≤ i) : decide (l = m) = true :=
  decide_eq_true (list_gtE (by omega) fun j h0 h1 => h j h0 (by omega))
end Go.Vd

/-! (PrSm) -/

set_option linter.unusedVariables false
set_option linter.unusedSimpArgs false
namespace Go.Vd

theorem p_SameRow {a b : List Int} (ha : a.length ≤ 1000000000000) : z_viaductref04_SameRow a b = some (decide (a = b)) := by
  refine T_eq.1 ?_
  unfold z_viaductref04_SameRow
  rw [T_ite]
  refine ⟨fun hl => ?_, fun hl => by simp only [T_some]; exact (same_neE hl).symm⟩
  refine T_binds (fun _ => a = b) ?_ fun _ h => by simp [h]
  refine T_loop (fun i => 0 ≤ i ∧ i ≤ (a.length : Int) ∧ ∀ j : Int, 0 ≤ j → j < i → gt a j = gt b j) (fun i => ((a.length : Int) - i).toNat) ?_ ⟨by simp, by simp, fun j j0 j1 => by omega⟩
  rintro i ⟨i0, i1, h⟩
  unfold z_viaductref04_SameRow_l0
  simp only [T_ite, T_G, T_map, T_some, Sum.elim_inl, Sum.elim_inr]
  refine ⟨fun hi => ⟨i0, by omega, fun e => ⟨by omega, ⟨by omega, by omega, same_nextE h e⟩, by omega⟩, fun e => (same_atE e).symm⟩, fun hi => of_decide_eq_true (same_allE h hl (by omega))⟩

theorem list_gt' {E : Type} [Inhabited E] {l m : List E} (hl : l.length = m.length) (h : ∀ j : Int, 0 ≤ j → j < (l.length : Int) → gt l j = gt m j) : l = m := by
  refine List.ext_getElem hl fun j h1 h2 => ?_
  have := h (j : Int) (by omega) (by omega)
  rwa [gt_nat h1, gt_nat h2] at this

theorem p_SameMatrix {a b : List (List Int)} (ha : a.length ≤ 1000000000000) (hb : ∀ x ∈ a, x.length ≤ 1000000000000) : z_viaductref04_SameMatrix a b = some (decide (a = b)) := by
  refine T_eq.1 ?_
  unfold z_viaductref04_SameMatrix
  rw [T_ite]
  refine ⟨fun hl => ?_, fun hl => by simp only [T_some]; exact (decide_eq_false fun e => hl (by rw [e])).symm⟩
  refine T_binds (fun _ => a = b) ?_ fun _ h => by simp [h]
  refine T_loop (fun i => 0 ≤ i ∧ i ≤ (a.length : Int) ∧ ∀ j : Int, 0 ≤ j → j < i → gt a j = gt b j) (fun i => ((a.length : Int) - i).toNat) ?_ ⟨by simp, by simp, fun j j0 j1 => by omega⟩
  rintro i ⟨i0, i1, h⟩
  unfold z_viaductref04_SameMatrix_l0
  rw [T_ite]
  refine ⟨fun hi => ?_, fun hi => ?_⟩
  · rw [T_G, T_G, p_SameRow (hb _ (gt_mem i0 hi)), Option.bind_some, T_ite]
    simp only [T_G, T_map, T_some, Sum.elim_inl, Sum.elim_inr]
    refine ⟨i0, by omega, fun e => ?_, fun e => ⟨by omega, ⟨by omega, by omega, fun j j0 j1 => ?_⟩, by omega⟩⟩
    · have e' : ¬ gt a i = gt b i := by simpa using e
      exact (decide_eq_false fun k => e' (by rw [k])).symm
    · by_cases hj : j = i
      · subst hj; simpa using e
      · exact h j j0 (by omega)
  · simp only [T_some, Sum.elim_inr]
    exact list_gt' (by omega) fun j j0 j1 => h j j0 (by omega)

end Go.Vd

/-! (PrSb) -/

set_option linter.unusedVariables false
set_option linter.unusedSimpArgs false
namespace Go.Vd
theorem p_gSameArcs {a b : List A3} (h : a.length ≤ 1152921504606846976) : z_viaductref03_SameArcs a b = some (decide (a = b)) := by
  refine T_eq.1 ?_
  unfold z_viaductref03_SameArcs
  simp only [T_ite, T_bind, T_some]
  refine ⟨fun hl => ?_, fun hl => (same_neE hl).symm⟩
  refine T_loop (fun i => 0 ≤ i ∧ i ≤ (a.length : Int) ∧ ∀ j : Int, 0 ≤ j → j < i → gt a j = gt b j) (fun i => ((a.length : Int) - i).toNat) ?_ ⟨by omega, by omega, fun j _ _ => by omega⟩
  rintro i ⟨h0, h1, h2⟩
  simp only [z_viaductref03_SameArcs_l0, T_ite, T_G, T_some, T_map, Sum.elim_inl, Sum.elim_inr]
  refine ⟨fun hi => ⟨h0, by omega, fun he => ⟨by omega, ⟨by omega, by omega, same_nextE h2 (eq3 he.1 he.2.1 he.2.2)⟩, by omega⟩, fun he => (same_atE fun k => he (by rw [k]; exact ⟨rfl, rfl, rfl⟩)).symm⟩, fun hi => (same_allE h2 hl (by omega)).symm⟩

end Go.Vd

/-! (PrNormalDistances) -/

set_option linter.unusedVariables false
set_option linter.unusedSimpArgs false
namespace Go.Vd
variable {N M i j d : Int} {A B L : List A3}

theorem Wk.nrm (k : Nrm A L) (ha : ∀ a ∈ A, 0 ≤ a.2.2) (h : Wk A i j d) : ∃ e, Wk L i j e ∧ e ≤ d := by
  induction h with
  | refl => exact ⟨0, .refl _, Int.le_refl _⟩
  | step u e x w _ hm ih =>
    obtain ⟨f, h1, h2⟩ := ih
    have := ha _ hm
    dsimp only at this
    by_cases q : u = x
    · subst q; exact ⟨f, h1, by omega⟩
    · obtain ⟨b, b1, b2⟩ := k.sup _ hm q
      have b3 := (k.sub b b1).2.2 _ hm ⟨b2.1.symm, b2.2.symm⟩
      have eb : (u, x, b.2.2) = b := eq3 b2.1.symm b2.2.symm rfl
      exact ⟨f + b.2.2, h1.step _ _ _ _ _ (by rw [eb]; exact b1), by dsimp only at b3; omega⟩
theorem Wk.sub (k : ∀ a ∈ L, a ∈ A) (h : Wk L i j d) : Wk A i j d := by
  induction h with
  | refl => exact .refl _
  | step u e x w _ hm ih => exact ih.step _ _ _ _ _ (k _ hm)
theorem Wk.rev (h : Wk A i j d) : Wk (A.map swp3) j i d := by
  induction h with
  | refl => exact .refl _
  | step u e x w _ hm ih =>
    have h1 : Wk (A.map swp3) x u w := .one (List.mem_map.2 ⟨_, hm, rfl⟩)
    rw [Int.add_comm]; exact h1.cat ih
theorem map_swp3 : (A.map swp3).map swp3 = A := by
  rw [List.map_map]
  have : (swp3 ∘ swp3 : A3 → A3) = id := by funext a; rfl
  rw [this, List.map_id]

theorem arcs_in (h : GChk N A .nil) : ∀ a ∈ A, (0 ≤ a.1 ∧ a.1 < N) ∧ 0 ≤ a.2.1 ∧ a.2.1 < N ∧ 0 ≤ a.2.2 ∧ a.2.2 ≤ 2147483647 := fun a ha => by
  obtain ⟨a1, a2, a3, a4, a5, a6⟩ := h.arcs a ha; exact ⟨⟨a1, a2⟩, a3, a4, a5, a6⟩
theorem DistM.same {X Y : List (List Int)} (h : DistM N A X) (k : DistM N B Y) (ga : GChk N A .nil) (gb : GChk N B .nil) (w1 : ∀ i j d, Wk A i j d → ∃ e, Wk B i j e ∧ e ≤ d) (w2 : ∀ i j d, Wk B i j d → ∃ e, Wk A i j e ∧ e ≤ d) : X = Y := by
  obtain ⟨E, b, hb, h1, h2⟩ := h
  obtain ⟨E', b', hb', k1, k2⟩ := k
  have l1 := h1.1; have l2 := k1.1
  refine list_gtE (by omega) fun i i0 i1 => ?_
  obtain ⟨r1, r2⟩ := h1.2 i i0 (by omega)
  obtain ⟨s1, s2⟩ := k1.2 i i0 (by omega)
  refine list_gtE (by omega) fun j j0 j1 => ?_
  rw [r2 j j0 (by omega), s2 j j0 (by omega)]
  have a1 := h2.le_of k2 hb' (arcs_in gb) (w1 i j) i0 (by omega) j0 (by omega) i0 (by omega) j0 (by omega)
  have a2 := k2.le_of h2 hb (arcs_in ga) (w2 i j) i0 (by omega) j0 (by omega) i0 (by omega) j0 (by omega)
  omega
theorem DistM.turned {X Y : List (List Int)} (h : DistM N A X) (k : DistM N (A.map swp3) Y) (ga : GChk N A .nil) : (Y.length : Int) = N ∧ (X.length : Int) = N ∧ ∀ i j, 0 ≤ i → i < N → 0 ≤ j → j < N → ((gt X i).length : Int) = N ∧ ((gt Y j).length : Int) = N ∧ gt (gt X i) j = gt (gt Y j) i := by
  obtain ⟨E, b, hb, h1, h2⟩ := h
  obtain ⟨E', b', hb', k1, k2⟩ := k
  refine ⟨k1.1, h1.1, fun i j i0 i1 j0 j1 => ?_⟩
  obtain ⟨r1, r2⟩ := h1.2 i i0 i1
  obtain ⟨s1, s2⟩ := k1.2 j j0 j1
  refine ⟨r1, s1, ?_⟩
  rw [r2 j j0 j1, s2 i i0 i1]
  have a1 := h2.le_of k2 hb' (arcs_in ga.rev) (i' := j) (j' := i) (fun d w => ⟨d, w.rev, Int.le_refl _⟩) i0 i1 j0 j1 j0 j1 i0 i1
  have a2 := k2.le_of h2 hb (arcs_in ga) (i' := i) (j' := j) (fun d w => ⟨d, by have := w.rev; rwa [map_swp3] at this, Int.le_refl _⟩) j0 j1 i0 i1 i0 i1 j0 j1
  omega

theorem p_putAll {A B L K : List A3} (hA : Nrm A L) (hB : Nrm B K) (l1 : L.length ≤ 2000) (l2 : K.length ≤ 2000) {n : Int} {er : Er} :
    T (loopO (fun zz_ => z_viaductlaw04_NormalDistances_l2 (n, K, er) zz_.1 zz_.2) (0, ([] ++ L))) fun r => Nrm (A ++ K) r ∧ r.length ≤ 4000 := by
  refine T_loop (fun z => 0 ≤ z.1 ∧ z.1 ≤ (K.length : Int) ∧ Nrm (A ++ K.take z.1.toNat) z.2 ∧ (z.2.length : Int) ≤ 2000 + z.1) (fun z => ((K.length : Int) - z.1).toNat) ?_ ⟨by simp, by simp, by simpa using hA, by simp; omega⟩
  rintro ⟨i, c⟩ ⟨i0, i1, hc, hlc⟩
  dsimp only at *
  unfold z_viaductlaw04_NormalDistances_l2
  dsimp only
  rw [T_ite]
  refine ⟨fun hlt => ?_, fun hge => ?_⟩
  rotate_left
  · simp only [T_some, Sum.elim_inr]
    rw [List.take_of_length_le (by omega)] at hc
    exact ⟨hc, by omega⟩
  rw [T_G]
  refine ⟨i0, T_bindr _ (p_Put hc.inc (by omega)) ?_⟩
  rintro r ⟨hr, hrl⟩
  simp only [T_G, T_some, Sum.elim_inl]
  refine ⟨by omega, ⟨by omega, by omega, ?_, by omega⟩, by omega⟩
  rw [take_gtE i0 hlt, ← List.append_assoc]; exact hr.nrm hc (hB.sub _ (gt_mem i0 hlt)).2.1
/-- The normal list of the arcs of two graphs is that of the one's and of the other's normal list. -/
theorem nrm_join {A B K r : List A3} (hB : Nrm B K) (h : Nrm (A ++ K) r) : Nrm (A ++ B) r := by
  refine ⟨h.inc, fun a ha => ?_, fun a ha hn => ?_⟩
  · obtain ⟨h1, h2, h3⟩ := h.sub a ha
    refine ⟨?_, h2, fun b hb hk => ?_⟩
    · rcases List.mem_append.1 h1 with q | q
      · exact List.mem_append.2 (.inl q)
      · exact List.mem_append.2 (.inr (hB.sub a q).1)
    · rcases List.mem_append.1 hb with q | q
      · exact h3 b (List.mem_append.2 (.inl q)) hk
      · have hbn : b.1 ≠ b.2.1 := by unfold key2 at hk; omega
        obtain ⟨c, c1, c2⟩ := hB.sup b q hbn
        have e1 := (hB.sub c c1).2.2 b q ⟨c2.1.symm, c2.2.symm⟩
        have e2 := h3 c (List.mem_append.2 (.inr c1)) (by unfold key2 at *; omega)
        omega
  · rcases List.mem_append.1 ha with q | q
    · exact h.sup a (List.mem_append.2 (.inl q)) hn
    · obtain ⟨c, c1, c2⟩ := hB.sup a q hn
      obtain ⟨e, e1, e2⟩ := h.sup c (List.mem_append.2 (.inr c1)) (by unfold key2 at c2; omega)
      exact ⟨e, e1, by unfold key2 at *; omega⟩

theorem p_great {hl : (A.length : Int) ≤ 2000} : z_viaductlaw04_great N A = some false := by
  unfold z_viaductlaw04_great
  rw [if_neg (by omega)]

theorem OfA.use {n : Int} {l : List A3} {er : Er} (h : OfA N A n l er) (g : GChk N A .nil) : N = n ∧ er = .nil ∧ Nrm A l ∧ l.length ≤ A.length := by
  cases h with
  | bad _ c k => exact absurd (c.uniq g) k
  | ok _ _ h1 h2 => exact ⟨rfl, rfl, h1, h2⟩
theorem RevA.use {n : Int} {l : List A3} {er : Er} (h : RevA N A n l er) (g : GChk N A .nil) : N = n ∧ er = .nil ∧ l = A.map swp3 := by
  cases h with
  | bad _ c k => exact absurd (c.uniq g) k
  | ok _ => exact ⟨rfl, rfl, rfl⟩

theorem p_NormalDistances (ha : A.length ≤ 5864062014805) (hb : B.length ≤ 5864062014805) : z_viaductlaw04_NormalDistances N A M B = some true := by
  refine T_eq.1 ?_
  unfold z_viaductlaw04_NormalDistances
  refine T_bindr (fun o => o = true ∨ ((GChk N A .nil ∧ N ≤ 12 ∧ (A.length : Int) ≤ 2000) ∧ GChk M B .nil ∧ M ≤ 12 ∧ (B.length : Int) ≤ 2000)) ?_ fun o ho => ?_
  · refine T_bindr _ p_Few fun f1 h1 => ?_
    rw [T_ite]
    refine ⟨fun g1 => ?_, fun g1 => by simp⟩
    refine T_bindr _ p_Few fun f2 h2 => ?_
    rw [T_ite]
    refine ⟨fun g2 => ?_, fun g2 => by simp⟩
    have k1 := h1.1 g1; have k2 := h2.1 g2
    rw [p_great (hl := k1.2.2), Option.bind_some, if_neg (by decide), p_great (hl := k2.2.2), Option.bind_some]
    simp only [T_some]
    exact .inr ⟨k1, k2⟩
  rw [T_ite]
  refine ⟨fun _ => by simp, fun hoo => ?_⟩
  obtain ⟨⟨gA, nA, lA⟩, gB, nB, lB⟩ := ho.resolve_left hoo
  refine T_bindr _ p_Of ?_
  rintro ⟨_, L, _⟩ hO
  dsimp only at hO
  obtain ⟨rfl, rfl, kL, eL⟩ := hO.use gA
  refine T_bindr _ p_Rev ?_
  rintro ⟨_, _, _⟩ hR
  dsimp only at hR
  obtain ⟨rfl, rfl, rfl⟩ := hR.use gA
  have gL := gA.nrm kL eL
  have gR := gA.rev
  refine T_bindr (fun o => o = false) ?_ fun o ho => ?_
  · rw [if_pos rfl, if_pos rfl]
    refine T_bindr _ p_Few fun f1 h1 => ?_
    dsimp only at *
    rw [if_pos (h1.2 ⟨gL, nA, by omega⟩)]
    refine T_bindr _ p_Few fun f2 h2 => ?_
    rw [h2.2 ⟨gR, nA, by simpa using lA⟩]
    simp
  subst ho
  rw [if_neg (by decide)]
  refine T_bindr _ (p_Distances gA nA) fun X hX => ?_
  refine T_bindr _ (p_Distances gR nA) fun Y hY => ?_
  obtain ⟨e1, e2, e3⟩ := hX.turned hY gA
  obtain ⟨n0, n1, n2⟩ := gA.small
  dsimp only at *
  refine T_bindr (fun o => o = false) ?_ fun o ho => ?_
  · refine T_bindr _ (p_Distances gL nA) fun Z hZ => ?_
    have : X = Z := hX.same hZ gA gL (fun i j d w => w.nrm kL fun a h => (gA.arcs a h).2.2.2.2.1) (fun i j d w => ⟨d, w.sub fun a h => (kL.sub a h).1, Int.le_refl _⟩)
    subst this
    rw [p_SameMatrix (by omega) (fun x hx => by obtain ⟨q, q0, q1, rfl⟩ := mem_gtE hx; have := (e3 q q q0 (by omega) q0 (by omega)).1; omega), Option.bind_some, decide_eq_true rfl, if_pos rfl]
    simp [e1, e2]
  subst ho
  rw [if_neg (by decide)]
  refine T_binds (fun _ => True) ?_ fun _ _ => ?_
  · refine T_loop (fun i => 0 ≤ i ∧ i ≤ N) (fun i => (N - i).toNat) ?_ ⟨by simp, n0⟩
    rintro i ⟨i0, i1⟩
    unfold z_viaductlaw04_NormalDistances_l1
    rw [e2, T_ite]
    refine ⟨fun hi => ?_, fun hi => by simp⟩
    refine T_binds (fun _ => True) ?_ fun _ _ => by simp only [T_G, T_some, Sum.elim_inl]; exact ⟨by omega, ⟨by omega, by omega⟩, by omega⟩
    refine T_loop (fun j => 0 ≤ j ∧ j ≤ N) (fun j => (N - j).toNat) ?_ ⟨by simp, n0⟩
    rintro j ⟨j0, j1⟩
    unfold z_viaductlaw04_NormalDistances_l0
    rw [e2, T_ite]
    refine ⟨fun hj => ?_, fun hj => by simp⟩
    obtain ⟨r1, r2, r3⟩ := e3 i j i0 hi j0 hj
    rw [if_pos r3]
    simp only [T_G, T_some, Sum.elim_inl]
    exact ⟨i0, by omega, by omega, by omega, by omega, ⟨by omega, by omega⟩, by omega⟩
  rw [g_mg_ok gA gB, T_bind]
  by_cases hNM : N = M
  rotate_left
  · rw [if_neg hNM, T_some]
    dsimp only
    rw [if_neg hNM, if_neg (by simp)]
    simp
  subst hNM
  rw [if_pos rfl, if_neg (by omega), T_some]
  dsimp only
  rw [if_pos rfl]
  have gAB : GChk N (A ++ B) .nil := .of_arcs n0 n1 (by rw [List.length_append]; omega) fun a h => by
    rcases List.mem_append.1 h with q | q
    · exact gA.arcs a q
    · exact gB.arcs a q
  refine T_bindr _ p_Of ?_
  rintro ⟨_, J, _⟩ hO
  dsimp only at hO
  obtain ⟨rfl, rfl, kJ, eJ⟩ := hO.use gAB
  refine T_bindr _ p_Of ?_
  rintro ⟨_, K, _⟩ hO
  dsimp only at hO
  obtain ⟨rfl, rfl, kK, eK⟩ := hO.use gB
  dsimp only at *
  rw [if_pos rfl, if_pos rfl, if_pos rfl, Option.bind_some, if_neg (by decide), T_G]
  refine ⟨by omega, T_bindr _ (p_putAll kL kK (by omega) (by omega)) ?_⟩
  rintro r ⟨hr, hrl⟩
  have hJ : J = r := kJ.uniq (nrm_join kK hr)
  rw [p_gSameArcs (by rw [hJ]; omega), Option.bind_some, decide_eq_true hJ]
  simp
end Go.Vd
