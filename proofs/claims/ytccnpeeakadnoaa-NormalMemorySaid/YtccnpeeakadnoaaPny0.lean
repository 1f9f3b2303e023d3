/- Plain law: what a list without its loops is. No program here. -/
import Derived.Test.YtccnpeeakadnoaaVpB
import Derived.Test.YtccnpeeakadnoaaINy
set_option linter.unusedVariables false
set_option linter.unusedSimpArgs false
set_option linter.unusedSectionVars false
/-! (LwSimple) -/

namespace Go.Vd

theorem simp1_nd {s : List Int} {v : Int} (h : s.Nodup) : (simp1 s v).Nodup := by
  unfold simp1
  split
  · exact h.sublist (List.take_sublist _ _)
  · rename_i hv
    rw [List.nodup_append]
    refine ⟨h, by simp, fun x hx y hy => ?_⟩
    simp at hy; subst hy; rintro rfl; exact hv hx

theorem simp1_last (s : List Int) (v : Int) : (simp1 s v).getLast? = some v := by
  unfold simp1
  split
  · rename_i hv
    have hl := List.idxOf_lt_length_of_mem hv
    rw [List.getLast?_eq_getElem?, List.length_take, Nat.min_eq_left (by omega), List.getElem?_take, if_pos (by omega)]
    simp [List.getElem?_eq_getElem hl]
  · simp

theorem simp1_ne (s : List Int) (v : Int) : simp1 s v ≠ [] := by
  intro h
  have := simp1_last s v
  rw [h] at this; cases this

theorem simp1_head {s : List Int} (v : Int) (h : s ≠ []) : (simp1 s v).head? = s.head? := by
  cases s with
  | nil => exact absurd rfl h
  | cons x s =>
    unfold simp1
    split
    · simp
    · simp

theorem simple_snoc (l : List Int) (v : Int) : simple (l ++ [v]) = simp1 (simple l) v := by
  unfold simple; rw [List.foldl_append]; rfl

/-- Induction from the end. -/
theorem snoc_ind {p : List Int → Prop} (h0 : p []) (h1 : ∀ l v, p l → p (l ++ [v])) (l : List Int) : p l := by
  have : ∀ (n : Nat) (l : List Int), l.length = n → p l := by
    intro n
    induction n with
    | zero => intro l hl; rw [List.eq_nil_of_length_eq_zero hl]; exact h0
    | succ n ih =>
      intro l hl
      have hne : l ≠ [] := by rintro rfl; simp at hl
      rw [← List.dropLast_concat_getLast hne]
      exact h1 _ _ (ih _ (by rw [List.length_dropLast]; omega))
  exact this _ l rfl

theorem simple_nd (l : List Int) : (simple l).Nodup := by
  induction l using snoc_ind with
  | h0 => simp [simple]
  | h1 l v ih => rw [simple_snoc]; exact simp1_nd ih

theorem simple_last (l : List Int) : (simple l).getLast? = l.getLast? := by
  induction l using snoc_ind with
  | h0 => rfl
  | h1 l v _ => rw [simple_snoc, simp1_last]; simp

theorem simple_nil {l : List Int} (h : simple l = []) : l = [] := by
  have := simple_last l
  rw [h] at this
  cases l with
  | nil => rfl
  | cons x l => simp [List.getLast?_cons] at this

theorem simple_head (l : List Int) : (simple l).head? = l.head? := by
  induction l using snoc_ind with
  | h0 => rfl
  | h1 l v ih =>
    rw [simple_snoc]
    by_cases hl : l = []
    · subst hl; simp [simple, simp1]
    · rw [simp1_head v (fun h => hl (simple_nil h)), ih]
      cases l with
      | nil => exact absurd rfl hl
      | cons x l => rfl

/-- What has nothing twice stays as it is. -/
theorem simple_self {l : List Int} (h : l.Nodup) : simple l = l := by
  induction l using snoc_ind with
  | h0 => rfl
  | h1 l v ih =>
    rw [List.nodup_append] at h
    rw [simple_snoc, ih h.1]
    unfold simp1
    rw [if_neg (fun hv => h.2.2 v hv v (by simp) rfl)]

end Go.Vd

/-! (LwSimple2) -/

set_option linter.unusedVariables false
namespace Go.Vd

theorem suf_two {s : List Int} {a b v : Int} (h : [a, b] <:+ s ++ [v]) : b = v ∧ s.getLast? = some a := by
  obtain ⟨p, hp⟩ := h
  have h1 : (p ++ [a]) ++ [b] = s ++ [v] := by rw [← hp]; simp
  have h2 := List.append_inj' h1 rfl
  refine ⟨by simpa using h2.2, ?_⟩
  rw [← h2.1]; simp

theorem adj_simple (l : List Int) : ∀ a b, [a, b] <:+: simple l → [a, b] <:+: l := by
  induction l using snoc_ind with
  | h0 => intro a b h; exact h
  | h1 l v ih =>
    intro a b h
    rw [simple_snoc] at h
    unfold simp1 at h
    split at h
    · exact (ih a b (h.trans (List.take_prefix _ _).isInfix)).trans (List.prefix_append _ _).isInfix
    · rcases List.infix_concat_iff.1 h with h | h
      · obtain ⟨rfl, h2⟩ := suf_two h
        rw [simple_last] at h2
        obtain ⟨p, hp⟩ : ∃ p, l = p ++ [a] := by
          rw [List.getLast?_eq_some_iff] at h2; exact h2
        rw [hp]
        exact ⟨p, [], by simp⟩
      · exact (ih a b h).trans (List.prefix_append _ _).isInfix

theorem gt_get? {l : List Int} {i : Int} {x : Int} (h0 : 0 ≤ i) (h : l[i.toNat]? = some x) : gt l i = x := by
  simp [gt, List.getD_eq_getElem?_getD, h]

theorem adj_of {l : List Int} {i : Int} (h0 : 0 < i) (h1 : i < (l.length : Int)) : [gt l (i - 1), gt l i] <:+: l := by
  refine ⟨l.take (i - 1).toNat, l.drop (i + 1).toNat, ?_⟩
  have e1 := take_gt (l := l) (i := i - 1) (by omega) (by omega)
  have e2 := take_gt (l := l) (i := i) (by omega) (by omega)
  rw [show i - 1 + 1 = i from by omega] at e1
  rw [show [gt l (i - 1), gt l i] = [gt l (i - 1)] ++ [gt l i] from rfl, ← List.append_assoc, ← e1, ← e2, List.take_append_drop]
theorem of_adj {l : List Int} {a b : Int} (h : [a, b] <:+: l) : ∃ j : Int, 1 ≤ j ∧ j < (l.length : Int) ∧ gt l (j - 1) = a ∧ gt l j = b := by
  obtain ⟨p, q, rfl⟩ := h
  refine ⟨(p.length : Int) + 1, by omega, by simp; omega, gt_get? (by omega) ?_, gt_get? (by omega) ?_⟩
  · rw [show ((p.length : Int) + 1 - 1).toNat = p.length from by omega]
    simp
  · rw [show ((p.length : Int) + 1).toNat = p.length + 1 from by omega]
    simp

theorem near_simple {l : List Int} {i : Int} (h0 : 0 < i) (h1 : i < ((simple l).length : Int)) : ∃ j : Int, 1 ≤ j ∧ j < (l.length : Int) ∧ gt l (j - 1) = gt (simple l) (i - 1) ∧ gt l j = gt (simple l) i :=
  of_adj (adj_simple l _ _ (adj_of h0 h1))

/-! ### Sums -/

variable {fi to wt : List Int}

theorem WSum.nn {l : List Int} {k s : Int} (h : WSum fi to wt l k s) : 0 ≤ k := by
  induction h with
  | zero => omega
  | step => omega
theorem WSum.inv {l : List Int} {k s : Int} (h : WSum fi to wt l k s) : (k = 0 ∧ s = 0) ∨ ∃ s' x, 0 ≤ k - 1 ∧ WSum fi to wt l (k - 1) s' ∧ Arcw fi to wt (gt l (k - 1)) (gt l k) x ∧ s = s' + x := by
  cases h with
  | zero => exact .inl ⟨rfl, rfl⟩
  | step k s x h0 h1 h2 =>
    refine .inr ⟨s, x, by omega, ?_, ?_, rfl⟩
    · rw [show k + 1 - 1 = k from by omega]; exact h1
    · rw [show k + 1 - 1 = k from by omega]; exact h2
theorem WSum.congr {l l' : List Int} {k s : Int} (h : WSum fi to wt l k s) (he : ∀ j : Int, 0 ≤ j → j ≤ k → gt l j = gt l' j) : WSum fi to wt l' k s := by
  induction h with
  | zero => exact .zero
  | step k s x h0 h1 h2 ih =>
    refine .step k s x h0 (ih fun j j0 j1 => he j j0 (by omega)) ?_
    rw [← he k h0 (by omega), ← he (k + 1) (by omega) (by omega)]; exact h2
theorem Arcw.nn (hc : Chk fi to wt .nil) {v w x : Int} (h : Arcw fi to wt v w x) : 0 ≤ x := by
  obtain ⟨i, hI, _, rfl⟩ := h
  exact (hc.weight hI).1
/-- No node has two arcs to one. -/
theorem Arcw.uniq (hc : Chk fi to wt .nil) {v w x y : Int} (h : Arcw fi to wt v w x) (k : Arcw fi to wt v w y) : x = y := by
  obtain ⟨i, hI, hi, rfl⟩ := h
  obtain ⟨j, hJ, hj, rfl⟩ := k
  have key : ∀ {i j : Int}, In fi v i → In fi v j → gt to i = w → gt to j = w → ¬ i < j := by
    intro i j hI hJ hi hj hlt
    have hR := hc.riseSub hI.1 hI.2.1
    obtain ⟨a1, a2, a3, a4⟩ := hc.shp
    have hM := hc.mon
    have b1 := hM.le (u := 0) (w := v) (by omega) (by have := hI.1; omega) (by have := hI.2.1; omega)
    have b2 := hM.le (u := v + 1) (w := (fi.length : Int) - 1) (by have := hI.1; omega) (by have := hI.2.1; omega) (by omega)
    have b0 := hM v hI.1 hI.2.1
    obtain ⟨c1, c2, c3, c4⟩ := hI
    obtain ⟨d1, d2, d3, d4⟩ := hJ
    have hl := len_sub (l := to) (p := gt fi v) (r := gt fi (v + 1)) (by omega) (by omega) (by omega)
    have := hR.lt (i := i - gt fi v) (j := j - gt fi v) (by omega) (by omega) (by omega)
    rw [gt_sub (by omega) (by omega) (by omega) (by omega) (by omega), gt_sub (by omega) (by omega) (by omega) (by omega) (by omega)] at this
    rw [show gt fi v + (i - gt fi v) = i from by omega, show gt fi v + (j - gt fi v) = j from by omega] at this
    omega
  have h1 := key hI hJ hi hj
  have h2 := key hJ hI hj hi
  rw [show i = j from by omega]
theorem WSum.uniq (hc : Chk fi to wt .nil) {l : List Int} {k s t : Int} (h : WSum fi to wt l k s) : WSum fi to wt l k t → s = t := by
  induction h generalizing t with
  | zero =>
    intro h
    rcases h.inv with ⟨_, h⟩ | ⟨_, _, h, _⟩
    · exact h.symm
    · omega
  | step k s x h0 h1 h2 ih =>
    intro h
    rcases h.inv with ⟨h, _⟩ | ⟨s', x', _, g1, g2, rfl⟩
    · omega
    · rw [show k + 1 - 1 = k from by omega] at g1 g2
      rw [ih g1, Arcw.uniq hc h2 g2]
theorem WSum.pre (hc : Chk fi to wt .nil) {l : List Int} {k s : Int} (h : WSum fi to wt l k s) : ∀ {k' : Int}, 0 ≤ k' → k' ≤ k → ∃ s', s' ≤ s ∧ WSum fi to wt l k' s' := by
  induction h with
  | zero => intro k' h0 h1; rw [show k' = 0 from by omega]; exact ⟨0, by omega, .zero⟩
  | step k s x h0 h1 h2 ih =>
    intro k' k0 k1
    by_cases e : k' = k + 1
    · rw [e]; exact ⟨_, Int.le_refl _, .step k s x h0 h1 h2⟩
    · obtain ⟨s', a, b⟩ := ih k0 (by omega)
      have := h2.nn hc
      exact ⟨s', by omega, b⟩

end Go.Vd

/-! (PrEa) -/

set_option linter.unusedVariables false
set_option linter.unusedSimpArgs false
namespace Go.Vd
variable {F T' W l : List Int}
theorem p_E (n : Int) : z_viaductref01_E n = some n := rfl
theorem p_Bad {c : Int} {ps : List (Int × Int)} : z_viaductref01_Err_Bad c ps = some (decide (c ≠ 0 ∨ ps ≠ [])) := by
  unfold z_viaductref01_Err_Bad
  by_cases h : c = 0
  · rw [if_pos h]; subst h
    by_cases hp : 0 < (ps.length : Int)
    · rw [bad_t (.inr hp), decide_eq_true (by omega)]
    · rw [bad_f ⟨rfl, hp⟩, decide_eq_false (by omega)]
  · rw [if_neg h, bad_t (.inl h)]

end Go.Vd

/-! (PrEb) -/

set_option linter.unusedVariables false
set_option linter.unusedSimpArgs false
namespace Go.Vd
variable {F T' W l : List Int}
theorem p_At {k i c : Int} {ps : List (Int × Int)} (h : ps.length ≤ 8796093021951) : z_viaductref01_At k i c ps = some (c, (k, i) :: ps) := by
  unfold z_viaductref01_At G
  rw [if_pos (by simp; omega)]; rfl
end Go.Vd
