/- Plain law: what a list without its loops is. No program here. -/
import Derived.Test.YtccnpeeakadnoaaVpB
import Derived.Test.YtccnpeeakadnoaaICm
set_option linter.unusedVariables false
set_option linter.unusedSimpArgs false
set_option linter.unusedSectionVars false
/-! (LwSimple) -/

namespace Go.Vd

theorem simp1_nd {s : List Int} {v : Int} (h : s.Nodup) : (simp1 s v).Nodup := by
  unfold simp1
  split
  · exact h.sublist (List.take_sublist _ _)
  · rename_i hv
    rw [List.nodup_append]
    refine ⟨h, by simp, fun x hx y hy => ?_⟩
    simp at hy; subst hy; rintro rfl; exact hv hx

theorem simp1_last (s : List Int) (v : Int) : (simp1 s v).getLast? = some v := by
  unfold simp1
  split
  · rename_i hv
    have hl := List.idxOf_lt_length_of_mem hv
    rw [List.getLast?_eq_getElem?, List.length_take, Nat.min_eq_left (by omega), List.getElem?_take, if_pos (by omega)]
    simp [List.getElem?_eq_getElem hl]
  · simp

theorem simp1_ne (s : List Int) (v : Int) : simp1 s v ≠ [] := by
  intro h
  have := simp1_last s v
  rw [h] at this; cases this

theorem simp1_head {s : List Int} (v : Int) (h : s ≠ []) : (simp1 s v).head? = s.head? := by
  cases s with
  | nil => exact absurd rfl h
  | cons x s =>
    unfold simp1
    split
    · simp
    · simp

theorem simple_snoc (l : List Int) (v : Int) : simple (l ++ [v]) = simp1 (simple l) v := by
  unfold simple; rw [List.foldl_append]; rfl

/-- Induction from the end. -/
theorem snoc_ind {p : List Int → Prop} (h0 : p []) (h1 : ∀ l v, p l → p (l ++ [v])) (l : List Int) : p l := by
  have : ∀ (n : Nat) (l : List Int), l.length = n → p l := by
    intro n
    induction n with
    | zero => intro l hl; rw [List.eq_nil_of_length_eq_zero hl]; exact h0
    | succ n ih =>
      intro l hl
      have hne : l ≠ [] := by rintro rfl; simp at hl
      rw [← List.dropLast_concat_getLast hne]
      exact h1 _ _ (ih _ (by rw [List.length_dropLast]; omega))
  exact this _ l rfl

theorem simple_nd (l : List Int) : (simple l).Nodup := by
  induction l using snoc_ind with
  | h0 => simp [simple]
  | h1 l v ih => rw [simple_snoc]; exact simp1_nd ih

theorem simple_last (l : List Int) : (simple l).getLast? = l.getLast? := by
  induction l using snoc_ind with
  | h0 => rfl
  | h1 l v _ => rw [simple_snoc, simp1_last]; simp

theorem simple_nil {l : List Int} (h : simple l = []) : l = [] := by
  have := simple_last l
  rw [h] at this
  cases l with
  | nil => rfl
  | cons x l => simp [List.getLast?_cons] at this

theorem simple_head (l : List Int) : (simple l).head? = l.head? := by
  induction l using snoc_ind with
  | h0 => rfl
  | h1 l v ih =>
    rw [simple_snoc]
    by_cases hl : l = []
    · subst hl; simp [simple, simp1]
    · rw [simp1_head v (fun h => hl (simple_nil h)), ih]
      cases l with
      | nil => exact absurd rfl hl
      | cons x l => rfl

/-- What has nothing twice stays as it is. -/
theorem simple_self {l : List Int} (h : l.Nodup) : simple l = l := by
  induction l using snoc_ind with
  | h0 => rfl
  | h1 l v ih =>
    rw [List.nodup_append] at h
    rw [simple_snoc, ih h.1]
    unfold simp1
    rw [if_neg (fun hv => h.2.2 v hv v (by simp) rfl)]

end Go.Vd

/-! (LwSimple2) -/

set_option linter.unusedVariables false
namespace Go.Vd

theorem suf_two {s : List Int} {a b v : Int} (h : [a, b] <:+ s ++ [v]) : b = v ∧ s.getLast? = some a := by
  obtain ⟨p, hp⟩ := h
  have h1 : (p ++ [a]) ++ [b] = s ++ [v] := by rw [← hp]; simp
  have h2 := List.append_inj' h1 rfl
  refine ⟨by simpa using h2.2, ?_⟩
  rw [← h2.1]; simp

theorem adj_simple (l : List Int) : ∀ a b, [a, b] <:+: simple l → [a, b] <:+: l := by
  induction l using snoc_ind with
  | h0 => intro a b h; exact h
  | h1 l v ih =>
    intro a b h
    rw [simple_snoc] at h
    unfold simp1 at h
    split at h
    · exact (ih a b (h.trans (List.take_prefix _ _).isInfix)).trans (List.prefix_append _ _).isInfix
    · rcases List.infix_concat_iff.1 h with h | h
      · obtain ⟨rfl, h2⟩ := suf_two h
        rw [simple_last] at h2
        obtain ⟨p, hp⟩ : ∃ p, l = p ++ [a] := by
          rw [List.getLast?_eq_some_iff] at h2; exact h2
        rw [hp]
        exact ⟨p, [], by simp⟩
      · exact (ih a b h).trans (List.prefix_append _ _).isInfix

theorem gt_get? {l : List Int} {i : Int} {x : Int} (h0 : 0 ≤ i) (h : l[i.toNat]? = some x) : gt l i = x := by
  simp [gt, List.getD_eq_getElem?_getD, h]

theorem adj_of {l : List Int} {i : Int} (h0 : 0 < i) (h1 : i < (l.length : Int)) : [gt l (i - 1), gt l i] <:+: l := by
  refine ⟨l.take (i - 1).toNat, l.drop (i + 1).toNat, ?_⟩
  have e1 := take_gt (l := l) (i := i - 1) (by omega) (by omega)
  have e2 := take_gt (l := l) (i := i) (by omega) (by omega)
  rw [show i - 1 + 1 = i from by omega] at e1
  rw [show [gt l (i - 1), gt l i] = [gt l (i - 1)] ++ [gt l i] from rfl, ← List.append_assoc, ← e1, ← e2, List.take_append_drop]
theorem of_adj {l : List Int} {a b : Int} (h : [a, b] <:+: l) : ∃ j : Int, 1 ≤ j ∧ j < (l.length : Int) ∧ gt l (j - 1) = a ∧ gt l j = b := by
  obtain ⟨p, q, rfl⟩ := h
  refine ⟨(p.length : Int) + 1, by omega, by simp; omega, gt_get? (by omega) ?_, gt_get? (by omega) ?_⟩
  · rw [show ((p.length : Int) + 1 - 1).toNat = p.length from by omega]
    simp
  · rw [show ((p.length : Int) + 1).toNat = p.length + 1 from by omega]
    simp

theorem near_simple {l : List Int} {i : Int} (h0 : 0 < i) (h1 : i < ((simple l).length : Int)) : ∃ j : Int, 1 ≤ j ∧ j < (l.length : Int) ∧ gt l (j - 1) = gt (simple l) (i - 1) ∧ gt l j = gt (simple l) i :=
  of_adj (adj_simple l _ _ (adj_of h0 h1))

/-! ### Sums -/

variable {fi to wt : List Int}

theorem WSum.nn {l : List Int} {k s : Int} (h : WSum fi to wt l k s) : 0 ≤ k := by
  induction h with
  | zero => omega
  | step => omega
theorem WSum.inv {l : List Int} {k s : Int} (h : WSum fi to wt l k s) : (k = 0 ∧ s = 0) ∨ ∃ s' x, 0 ≤ k - 1 ∧ WSum fi to wt l (k - 1) s' ∧ Arcw fi to wt (gt l (k - 1)) (gt l k) x ∧ s = s' + x := by
  cases h with
  | zero => exact .inl ⟨rfl, rfl⟩
  | step k s x h0 h1 h2 =>
    refine .inr ⟨s, x, by omega, ?_, ?_, rfl⟩
    · rw [show k + 1 - 1 = k from by omega]; exact h1
    · rw [show k + 1 - 1 = k from by omega]; exact h2
theorem WSum.congr {l l' : List Int} {k s : Int} (h : WSum fi to wt l k s) (he : ∀ j : Int, 0 ≤ j → j ≤ k → gt l j = gt l' j) : WSum fi to wt l' k s := by
  induction h with
  | zero => exact .zero
  | step k s x h0 h1 h2 ih =>
    refine .step k s x h0 (ih fun j j0 j1 => he j j0 (by omega)) ?_
    rw [← he k h0 (by omega), ← he (k + 1) (by omega) (by omega)]; exact h2
theorem Arcw.nn (hc : Chk fi to wt .nil) {v w x : Int} (h : Arcw fi to wt v w x) : 0 ≤ x := by
  obtain ⟨i, hI, _, rfl⟩ := h
  exact (hc.weight hI).1
/-- No node has two arcs to one. -/
theorem Arcw.uniq (hc : Chk fi to wt .nil) {v w x y : Int} (h : Arcw fi to wt v w x) (k : Arcw fi to wt v w y) : x = y := by
  obtain ⟨i, hI, hi, rfl⟩ := h
  obtain ⟨j, hJ, hj, rfl⟩ := k
  have key : ∀ {i j : Int}, In fi v i → In fi v j → gt to i = w → gt to j = w → ¬ i < j := by
    intro i j hI hJ hi hj hlt
    have hR := hc.riseSub hI.1 hI.2.1
    obtain ⟨a1, a2, a3, a4⟩ := hc.shp
    have hM := hc.mon
    have b1 := hM.le (u := 0) (w := v) (by omega) (by have := hI.1; omega) (by have := hI.2.1; omega)
    have b2 := hM.le (u := v + 1) (w := (fi.length : Int) - 1) (by have := hI.1; omega) (by have := hI.2.1; omega) (by omega)
    have b0 := hM v hI.1 hI.2.1
    obtain ⟨c1, c2, c3, c4⟩ := hI
    obtain ⟨d1, d2, d3, d4⟩ := hJ
    have hl := len_sub (l := to) (p := gt fi v) (r := gt fi (v + 1)) (by omega) (by omega) (by omega)
    have := hR.lt (i := i - gt fi v) (j := j - gt fi v) (by omega) (by omega) (by omega)
    rw [gt_sub (by omega) (by omega) (by omega) (by omega) (by omega), gt_sub (by omega) (by omega) (by omega) (by omega) (by omega)] at this
    rw [show gt fi v + (i - gt fi v) = i from by omega, show gt fi v + (j - gt fi v) = j from by omega] at this
    omega
  have h1 := key hI hJ hi hj
  have h2 := key hJ hI hj hi
  rw [show i = j from by omega]
theorem WSum.uniq (hc : Chk fi to wt .nil) {l : List Int} {k s t : Int} (h : WSum fi to wt l k s) : WSum fi to wt l k t → s = t := by
  induction h generalizing t with
  | zero =>
    intro h
    rcases h.inv with ⟨_, h⟩ | ⟨_, _, h, _⟩
    · exact h.symm
    · omega
  | step k s x h0 h1 h2 ih =>
    intro h
    rcases h.inv with ⟨h, _⟩ | ⟨s', x', _, g1, g2, rfl⟩
    · omega
    · rw [show k + 1 - 1 = k from by omega] at g1 g2
      rw [ih g1, Arcw.uniq hc h2 g2]
theorem WSum.pre (hc : Chk fi to wt .nil) {l : List Int} {k s : Int} (h : WSum fi to wt l k s) : ∀ {k' : Int}, 0 ≤ k' → k' ≤ k → ∃ s', s' ≤ s ∧ WSum fi to wt l k' s' := by
  induction h with
  | zero => intro k' h0 h1; rw [show k' = 0 from by omega]; exact ⟨0, by omega, .zero⟩
  | step k s x h0 h1 h2 ih =>
    intro k' k0 k1
    by_cases e : k' = k + 1
    · rw [e]; exact ⟨_, Int.le_refl _, .step k s x h0 h1 h2⟩
    · obtain ⟨s', a, b⟩ := ih k0 (by omega)
      have := h2.nn hc
      exact ⟨s', by omega, b⟩

end Go.Vd

/-! (PrEa) -/

set_option linter.unusedVariables false
set_option linter.unusedSimpArgs false
namespace Go.Vd
variable {F T' W l : List Int}
theorem p_E (n : Int) : z_viaductref01_E n = some n := rfl
theorem p_Bad {c : Int} {ps : List (Int × Int)} : z_viaductref01_Err_Bad c ps = some (decide (c ≠ 0 ∨ ps ≠ [])) := by
  unfold z_viaductref01_Err_Bad
  by_cases h : c = 0
  · rw [if_pos h]; subst h
    by_cases hp : 0 < (ps.length : Int)
    · rw [bad_t (.inr hp), decide_eq_true (by omega)]
    · rw [bad_f ⟨rfl, hp⟩, decide_eq_false (by omega)]
  · rw [if_neg h, bad_t (.inl h)]

end Go.Vd

/-! (PrEb) -/

set_option linter.unusedVariables false
set_option linter.unusedSimpArgs false
namespace Go.Vd
variable {F T' W l : List Int}
theorem p_At {k i c : Int} {ps : List (Int × Int)} (h : ps.length ≤ 8796093021951) : z_viaductref01_At k i c ps = some (c, (k, i) :: ps) := by
  unfold z_viaductref01_At G
  rw [if_pos (by simp; omega)]; rfl
end Go.Vd

/-! (PrCk) -/

set_option linter.unusedVariables false
set_option linter.unusedSimpArgs false
namespace Go.Vd
variable {F T' W l : List Int}
theorem p_fAt {k i : Int} {e : Er} (h : e ≠ .nil) : z_fault_At k i e = some (.at k i e) := by
  unfold z_fault_At; rw [if_neg h]
theorem p_nodes (hl : F.length ≤ 17592186044160) : z_csr_Csr_nodes F T' W = some ((F.length : Int) - 1) := by
  unfold z_csr_Csr_nodes G; rw [if_pos (by omega)]
def noEr (n : Int) : Er := if n = 0 then .nil else .no n
theorem p_arc (hl : F.length ≤ 17592186044160) (hw : (T'.length : Int) = W.length) {v i : Int} (v0 : 0 ≤ v) (v1 : v < (F.length : Int)) (i0 : 0 ≤ i) (i1 : i < (T'.length : Int)) (hf : 0 ≤ gt F v) (hi : i ≤ 17592186044160) :
    z_csr_Csr_arc F T' W v i = some (noEr (arcNo F T' W v i)) := by
  refine T_eq.1 ?_
  unfold z_csr_Csr_arc
  rw [p_nodes hl, T_G]
  refine ⟨by omega, T_bindr (fun o => o = true ↔ (gt T' i < 0 ∨ gt T' i ≥ (F.length : Int) - 1)) ?_ fun o1 h1 => ?_⟩
  · simp only [T_ite, T_G, T_some, Option.bind_some, decide_eq_true_eq, true_iff]
    refine ⟨fun h => .inl h, fun h => ?_⟩; omega
  rw [T_ite]
  refine ⟨fun h => ?_, fun h => ?_⟩
  · simp only [T_some, arcNo_7 (h1.1 h)]; rfl
  have k1 : ¬ (gt T' i < 0 ∨ gt T' i ≥ (F.length : Int) - 1) := fun k => h (h1.2 k)
  refine T_bindr (fun o => o = true ↔ (gt T' i = v ∨ (i > gt F v ∧ gt T' i ≤ gt T' (i - 1)))) ?_ fun o2 h2 => ?_
  · simp only [T_ite, T_G, T_some, decide_eq_true_eq, true_iff, Bool.false_eq_true, false_iff]
    refine ⟨fun h => .inl h, fun h => ⟨by omega, fun h3 => ⟨by omega, by omega, by omega⟩, fun h3 => by omega⟩⟩
  rw [T_ite]
  refine ⟨fun h => ?_, fun h => ?_⟩
  · simp only [T_some, arcNo_14 (by omega) (by omega) (h2.1 h)]; rfl
  have k2 : ¬ (gt T' i = v ∨ (i > gt F v ∧ gt T' i ≤ gt T' (i - 1))) := fun k => h (h2.2 k)
  simp only [T_ite, T_G, T_some]
  refine ⟨by omega, fun h => ?_, fun h => ⟨fun h3 => ?_, fun h3 => ?_⟩⟩
  · rw [arcNo_8 (by omega) (by omega) k2 (.inl h)]; rfl
  · rw [arcNo_8 (by omega) (by omega) k2 (.inr h3)]; rfl
  · rw [arcNo_0 (by omega) (by omega) k2 h h3]; rfl
theorem p_Check (hl : F.length ≤ 17592186044160) (ht : T'.length ≤ 17592186044160) : T (z_csr_Check F T' W) (Chk F T' W) := by
  unfold z_csr_Check
  rw [p_nodes hl, Option.bind_some]
  refine T_bindr (fun o => o = true ↔ ¬ Shape F T' W) ?_ fun o ho => ?_
  · simp only [T_ite, T_G, T_some]
    refine ⟨fun h => ?_, fun h => ⟨by omega, fun h2 => ⟨by omega, fun h3 => ?_, fun h3 => ?_⟩, fun h2 => ?_⟩⟩
    · simp only [true_iff, Shape]; omega
    · simp only [Bool.not_eq_true', decide_eq_false_iff_not, Shape]; omega
    · simp only [true_iff, Shape]; omega
    · simp only [true_iff, Shape]; omega
  rw [T_ite]
  refine ⟨fun h => ?_, fun h => ?_⟩
  · simp only [T_some]; exact .shape (ho.1 h)
  have hS : Shape F T' W := Classical.not_not.1 (fun k => h (ho.2 k))
  obtain ⟨s1, s2, s3, s4⟩ := id hS
  refine T_bindr (fun o => o = true ↔ ¬ Small F T') ?_ fun o ho => ?_
  · simp only [T_ite, T_some]
    refine ⟨fun h => ?_, fun h => ?_⟩
    · simp only [true_iff, Small]; omega
    · simp only [decide_eq_true_eq, Small]; omega
  rw [T_ite]
  refine ⟨fun h => ?_, fun h => ?_⟩
  · simp only [T_some]; exact .limit hS (ho.1 h)
  have hm : Small F T' := Classical.not_not.1 (fun k => h (ho.2 k))
  obtain ⟨m1, m2⟩ := id hm
  refine T_binds (fun _ => Mono F ((F.length : Int) - 1)) ?_ fun _ hM => ?_
  · refine T_loop (fun v => 0 ≤ v ∧ v ≤ (F.length : Int) - 1 ∧ Mono F v) (fun v => ((F.length : Int) - 1 - v).toNat) ?_ ⟨by omega, by omega, .zero⟩
    rintro v ⟨h0, h1, h2⟩
    simp only [z_csr_Check_l0, T_ite, T_G, T_some, T_map, p_fAt (show Er.no 14 ≠ .nil by simp), Option.bind_some, Sum.elim_inl, Sum.elim_inr]
    exact ⟨fun hv => ⟨by omega, by omega, by omega, fun hlt => .mono v hS hm h0 hv hlt h2, fun hge => ⟨by omega, ⟨by omega, by omega, h2.next hge⟩, by omega⟩⟩, fun hv => h2.all (by omega)⟩
  refine T_binds (fun _ => ∀ u j, In F u j → arcNo F T' W u j = 0) ?_ fun _ hA => ?_
  · refine T_loop (fun v => 0 ≤ v ∧ v ≤ (F.length : Int) - 1 ∧ ∀ k, k ≤ gt F v → Rows F T' W v k) (fun v => ((F.length : Int) - 1 - v).toNat) ?_ ⟨by omega, by omega, fun k hk => .zero hk⟩
    rintro v ⟨v0, v1, hR⟩
    unfold z_csr_Check_l2
    rw [T_ite]
    refine ⟨fun hv => ?_, fun hv => ?_⟩
    rotate_left
    · simp only [T_some, Sum.elim_inr]; exact (hR (gt F v) (by omega)).all hv
    have hb1 := hM.le (u := 0) (w := v) (by omega) (by omega) (by omega)
    have hb2 := hM.le (u := v + 1) (w := (F.length : Int) - 1) (by omega) (by omega) (by omega)
    have hb3 := hM v v0 hv
    rw [T_G]
    refine ⟨by omega, T_binds (fun _ => ∀ k, k ≤ gt F (v + 1) → Rows F T' W (v + 1) k) ?_ fun _ hR2 => ?_⟩
    · refine T_loop (fun i => gt F v ≤ i ∧ i ≤ gt F (v + 1) ∧ Rows F T' W v i) (fun i => (gt F (v + 1) - i).toNat) ?_ ⟨by omega, by omega, hR _ (by omega)⟩
      rintro i ⟨i0, i1, hRi⟩
      unfold z_csr_Check_l1
      simp only [T_G, T_ite]
      refine ⟨by omega, by omega, fun hi => ?_, fun hi => ?_⟩
      · rw [p_arc hl s4 v0 (by omega) (by omega) (by omega) (by omega) (by omega), Option.bind_some]
        unfold noEr
        by_cases h0 : arcNo F T' W v i = 0
        · rw [if_pos h0, if_pos rfl]
          simp only [T_G, T_some, Sum.elim_inl]
          exact ⟨by omega, ⟨by omega, by omega, hRi.step h0⟩, by omega⟩
        · rw [if_neg h0, if_neg (by simp), p_fAt (by simp)]
          simp only [Option.bind_some, T_map, T_some, Sum.elim_inl, Sum.elim_inr]
          exact .arc v i hS hm hM ⟨v0, hv, i0, hi⟩ h0 (hRi.before hM ⟨v0, hv, i0, hi⟩)
      · simp only [T_some, Sum.elim_inr]
        exact fun k hk => hRi.row hi hk
    · simp only [T_G, T_some, Sum.elim_inl]
      exact ⟨by omega, ⟨by omega, by omega, hR2⟩, by omega⟩
  simp only [T_some]
  exact .ok hS hm hM hA

end Go.Vd

/-! (PrSg) -/

set_option linter.unusedVariables false
set_option linter.unusedSimpArgs false
namespace Go.Vd

/-- An error that bears a number, not 0; or none. -/
def Er.good : Er → Prop
  | .nil => True
  | .no n => n ≠ 0
  | .at _ _ e => e ≠ .nil ∧ e.good
theorem Er.good.num {e : Er} (h : e.good) (hn : e ≠ .nil) : e.num = some e.code ∧ e.code ≠ 0 := by
  induction e with
  | nil => exact absurd rfl hn
  | no n => exact ⟨rfl, h⟩
  | «at» k i e ih => exact ih h.2 h.1

theorem p_Bad' {c : Int} {ps : List (Int × Int)} : z_viaductref01_Err_Bad c ps = some (decide (c ≠ 0 ∨ ps ≠ [])) := by
  unfold z_viaductref01_Err_Bad
  by_cases h : c = 0
  · rw [if_pos h]; subst h
    by_cases hp : 0 < (ps.length : Int)
    · rw [bad_t (.inr hp), decide_eq_true (by omega)]
    · rw [bad_f ⟨rfl, hp⟩, decide_eq_false (by omega)]
  · rw [if_neg h, bad_t (.inl h)]
end Go.Vd

/-! (PrC) -/

set_option linter.unusedVariables false
set_option linter.unusedSimpArgs false
namespace Go.Vd
variable {F T' W l : List Int}
theorem p_DocCheck (hl : F.length ≤ 17592186044160) : T (z_viaductref05_DocCheck F T' W) fun r => ∃ er, Chk F T' W er ∧ r = (er.code, er.pls) := by
  unfold z_viaductref05_DocCheck
  rw [T_G]
  refine ⟨by omega, T_bindr (fun o => o = true ↔ ¬ Shape F T' W) ?_ fun o ho => ?_⟩
  · simp only [T_ite, T_G, T_some]
    refine ⟨fun h => ?_, fun h => ⟨by omega, fun h2 => ⟨by omega, fun h3 => ?_, fun h3 => ?_⟩, fun h2 => ?_⟩⟩
    · simp only [true_iff, Shape]; omega
    · simp only [Bool.not_eq_true', decide_eq_false_iff_not, Shape]; omega
    · simp only [true_iff, Shape]; omega
    · simp only [true_iff, Shape]; omega
  rw [T_ite]
  refine ⟨fun h => ?_, fun h => ?_⟩
  · simp only [p_E, Option.bind_some, T_some]
    exact ⟨_, .shape (ho.1 h), rfl⟩
  have hS : Shape F T' W := Classical.not_not.1 (fun k => h (ho.2 k))
  obtain ⟨s1, s2, s3, s4⟩ := id hS
  refine T_bindr (fun o => o = true ↔ ¬ Small F T') ?_ fun o ho => ?_
  · simp only [T_ite, T_some]
    refine ⟨fun h => ?_, fun h => ?_⟩
    · simp only [true_iff, Small]; omega
    · simp only [decide_eq_true_eq, Small]; omega
  rw [T_ite]
  refine ⟨fun h => ?_, fun h => ?_⟩
  · simp only [p_E, Option.bind_some, T_some]
    exact ⟨_, .limit hS (ho.1 h), rfl⟩
  have hm : Small F T' := Classical.not_not.1 (fun k => h (ho.2 k))
  obtain ⟨m1, m2⟩ := id hm
  refine T_binds (fun _ => Mono F ((F.length : Int) - 1)) ?_ fun _ hM => ?_
  · refine T_loop (fun v => 0 ≤ v ∧ v ≤ (F.length : Int) - 1 ∧ Mono F v) (fun v => ((F.length : Int) - 1 - v).toNat) ?_ ⟨by omega, by omega, .zero⟩
    rintro v ⟨h0, h1, h2⟩
    simp only [z_viaductref05_DocCheck_l0, T_ite, T_G, T_some, T_map, p_E, Option.bind_some, Sum.elim_inl, Sum.elim_inr]
    refine ⟨fun hv => ⟨by omega, by omega, by omega, fun hlt => ?_, fun hge => ⟨by omega, ⟨by omega, by omega, h2.next hge⟩, by omega⟩⟩, fun hv => h2.all (by omega)⟩
    rw [p_At (by simp)]
    simp only [Option.bind_some, T_map, T_some, Sum.elim_inl, Sum.elim_inr]
    exact ⟨_, .mono v hS hm h0 hv hlt h2, rfl⟩
  refine T_binds (fun _ => ∀ u j, In F u j → j < (T'.length : Int) → arcNo F T' W u j = 0) ?_ fun _ hA => ?_
  · have hc0 : (F.length : Int) - 1 = 0 → gt F ((F.length : Int) - 1) = gt F 0 := fun e => by rw [e]
    refine T_loop (fun s => 0 ≤ s.2 ∧ s.2 ≤ (T'.length : Int) ∧ 0 ≤ s.1 ∧ (s.1 < (F.length : Int) - 1 ∨ (T'.length : Int) = 0) ∧ gt F s.1 ≤ s.2 ∧ ∀ u j, In F u j → j < s.2 → arcNo F T' W u j = 0) (fun s => ((T'.length : Int) - s.2).toNat) ?_ ?_
    rotate_left
    · dsimp only
      refine ⟨by omega, by omega, by omega, by omega, by omega, fun u j hI hj => ?_⟩
      have := hM.le (u := 0) (w := u) (by omega) hI.1 (by have := hI.2.1; omega); have := hI.2.2.1; omega
    rintro ⟨v, i⟩ ⟨i0, i1, v0, v1, hg, hA⟩
    dsimp only at *
    unfold z_viaductref05_DocCheck_l2
    rw [T_ite]
    refine ⟨fun hi => ?_, fun hi => ?_⟩
    rotate_left
    · simp only [T_some, Sum.elim_inl, Sum.elim_inr]
      exact fun u j hu hj => hA u j hu (by omega)
    refine T_bindr (fun w => In F w i) ?_ fun w hI => ?_
    · refine T_loop (fun w => 0 ≤ w ∧ w < (F.length : Int) - 1 ∧ gt F w ≤ i) (fun w => ((F.length : Int) - w).toNat) ?_ ⟨v0, by omega, hg⟩
      rintro w ⟨w0, w1, w2⟩
      have hb1 := hM.le (u := 0) (w := w) (by omega) (by omega) (by omega)
      have hc2 : w + 1 = (F.length : Int) - 1 → gt F (w + 1) = gt F ((F.length : Int) - 1) := fun e => by rw [e]
      simp only [z_viaductref05_DocCheck_l1, T_ite, T_G, T_some, Sum.elim_inl, Sum.elim_inr]
      refine ⟨by omega, by omega, fun h => ?_, fun h => ⟨w0, w1, w2, by omega⟩⟩
      and_intros <;> omega
    obtain ⟨q1, q2, q3, q4⟩ := id hI
    have q5 := hM.le (u := 0) (w := w) (by omega) (by omega) (by omega)
    refine T_bindr (fun o => o = true ↔ (gt T' i < 0 ∨ gt T' i ≥ (F.length : Int) - 1)) ?_ fun o1 h1 => ?_
    · simp only [T_ite, T_G, T_some, decide_eq_true_eq, true_iff]
      refine ⟨i0, fun h => .inl h, fun h => ?_⟩; omega
    refine T_bindr (fun n => n = arcNo F T' W w i) ?_ fun n hn => ?_
    · rw [T_ite]
      refine ⟨fun h => ?_, fun h => ?_⟩
      · simp only [T_some]; exact (arcNo_7 (h1.1 h)).symm
      have k1 : ¬ (gt T' i < 0 ∨ gt T' i ≥ (F.length : Int) - 1) := fun k => h (h1.2 k)
      refine T_bindr (fun o => o = true ↔ (gt T' i = w ∨ (i > gt F w ∧ gt T' i ≤ gt T' (i - 1)))) ?_ fun o2 h2 => ?_
      · simp only [T_ite, T_G, T_some, decide_eq_true_eq, true_iff, Bool.false_eq_true, false_iff]
        refine ⟨i0, fun h => .inl h, fun h => ⟨by omega, fun h3 => ⟨by omega, by omega, by omega⟩, fun h3 => by omega⟩⟩
      rw [T_ite]
      refine ⟨fun h => ?_, fun h => ?_⟩
      · simp only [T_some]; exact (arcNo_14 (by omega) (by omega) (h2.1 h)).symm
      have k2 : ¬ (gt T' i = w ∨ (i > gt F w ∧ gt T' i ≤ gt T' (i - 1))) := fun k => h (h2.2 k)
      simp only [T_ite, T_G, T_some]
      refine ⟨by omega, fun h => (arcNo_8 (by omega) (by omega) k2 (.inl h)).symm, fun h => ⟨fun h3 => (arcNo_8 (by omega) (by omega) k2 (.inr h3)).symm, fun h3 => (arcNo_0 (by omega) (by omega) k2 h h3).symm⟩⟩
    rw [T_ite]
    refine ⟨fun h => ?_, fun h => ?_⟩
    · simp only [T_G, T_some, Sum.elim_inl]
      subst hn
      refine ⟨by omega, ⟨by omega, by omega, by omega, .inl (by omega), by omega, arc_next hM hI h hA⟩, by omega⟩
    · simp only [p_E, Option.bind_some]
      rw [p_At (by simp)]
      simp only [Option.bind_some, T_map, T_some, Sum.elim_inl, Sum.elim_inr]
      exact ⟨_, .arc' w i n hn.symm h hS hm hM hI hA, rfl⟩
  simp only [T_some]
  refine ⟨.nil, .ok hS hm hM fun u j hI => hA u j hI ?_, rfl⟩
  have h1 := hM.le (u := u + 1) (w := (F.length : Int) - 1) (by have := hI.1; omega) (by have := hI.2.1; omega) (by omega)
  have := hI.2.2.2; omega

/-! ### csr.Check -/

end Go.Vd

/-! (PrSi) -/

set_option linter.unusedVariables false
set_option linter.unusedSimpArgs false
namespace Go.Vd
theorem p_SameInts {a b : List Int} (h : a.length ≤ 1152921504606846976) : z_viaductref02_SameInts a b = some (decide (a = b)) := by
  refine T_eq.1 ?_
  unfold z_viaductref02_SameInts
  simp only [T_ite, T_bind, T_some]
  refine ⟨fun hl => ?_, fun hl => (same_ne hl).symm⟩
  refine T_loop (fun i => 0 ≤ i ∧ i ≤ (a.length : Int) ∧ ∀ j : Int, 0 ≤ j → j < i → gt a j = gt b j) (fun i => ((a.length : Int) - i).toNat) ?_ ⟨by omega, by omega, fun j _ _ => by omega⟩
  rintro i ⟨h0, h1, h2⟩
  simp only [z_viaductref02_SameInts_l0, T_ite, T_G, T_some, T_map, Sum.elim_inl, Sum.elim_inr]
  refine ⟨fun hi => ⟨h0, by omega, fun he => ⟨by omega, ⟨by omega, by omega, same_next h2 he⟩, by omega⟩, fun he => (same_at he h0 hi).symm⟩, fun hi => (same_all h2 hl (by omega)).symm⟩

end Go.Vd
