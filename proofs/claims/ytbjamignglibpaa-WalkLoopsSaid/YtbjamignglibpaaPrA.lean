/- What the functions of the walks answer. Plain Lean: no program here. -/
import Derived.Test.YtbjamignglibpaaIWl
import Derived.Test.YtbjamignglibpaaLwSimple4
set_option linter.unusedVariables false
set_option linter.unusedSimpArgs false
namespace Go.Vd

theorem p_TwinInts {l : List Int} (h : l.length ≤ 17592186043904) : z_viaductref02_TwinInts l = some l := by
  refine T_eq.1 ?_
  unfold z_viaductref02_TwinInts
  rw [T_bind]
  refine T_loop (fun s => 0 ≤ s.2 ∧ s.2 ≤ (l.length : Int) ∧ s.1 = l.take s.2.toNat) (fun s => ((l.length : Int) - s.2).toNat) ?_ (by simp)
  rintro ⟨m, i⟩ ⟨h0, h1, h2⟩
  dsimp only at h0 h1 h2 ⊢
  subst h2
  simp only [z_viaductref02_TwinInts_l0, T_ite, T_G, T_some, Sum.elim_inl, Sum.elim_inr, List.length_take]
  refine ⟨fun hi => ?_, fun hi => List.take_of_length_le (by omega)⟩
  and_intros <;> first | omega | exact (take_gt h0 hi).symm

theorem p_SameInts {a b : List Int} (h : a.length ≤ 1152921504606846976) : z_viaductref02_SameInts a b = some (decide (a = b)) := by
  refine T_eq.1 ?_
  unfold z_viaductref02_SameInts
  simp only [T_ite, T_bind, T_some]
  refine ⟨fun hl => ?_, fun hl => (same_ne hl).symm⟩
  refine T_loop (fun i => 0 ≤ i ∧ i ≤ (a.length : Int) ∧ ∀ j : Int, 0 ≤ j → j < i → gt a j = gt b j) (fun i => ((a.length : Int) - i).toNat) ?_ ⟨by omega, by omega, fun j _ _ => by omega⟩
  rintro i ⟨h0, h1, h2⟩
  simp only [z_viaductref02_SameInts_l0, T_ite, T_G, T_some, T_map, Sum.elim_inl, Sum.elim_inr]
  refine ⟨fun hi => ⟨h0, by omega, fun he => ⟨by omega, ⟨by omega, by omega, same_next h2 he⟩, by omega⟩, fun he => (same_at he h0 hi).symm⟩, fun hi => (same_all h2 hl (by omega)).symm⟩

variable {F T' W l : List Int}
theorem p_E (n : Int) : z_viaductref01_E n = some n := rfl
theorem p_At {k i c : Int} {ps : List (Int × Int)} (h : ps.length ≤ 8796093021951) : z_viaductref01_At k i c ps = some (c, (k, i) :: ps) := by
  unfold z_viaductref01_At G
  rw [if_pos (by simp; omega)]; rfl
theorem p_Bad {c : Int} {ps : List (Int × Int)} : z_viaductref01_Err_Bad c ps = some (decide (c ≠ 0 ∨ ps ≠ [])) := by
  unfold z_viaductref01_Err_Bad
  by_cases h : c = 0
  · rw [if_pos h]; subst h
    by_cases hp : 0 < (ps.length : Int)
    · rw [bad_t (.inr hp), decide_eq_true (by omega)]
    · rw [bad_f ⟨rfl, hp⟩, decide_eq_false (by omega)]
  · rw [if_neg h, bad_t (.inl h)]
theorem p_fAt {k i : Int} {e : Er} (h : e ≠ .nil) : z_fault_At k i e = some (.at k i e) := by
  unfold z_fault_At; rw [if_neg h]

theorem p_DocCheck (hl : F.length ≤ 17592186044160) : T (z_viaductref05_DocCheck F T' W) fun r => ∃ er, Chk F T' W er ∧ r = (er.code, er.pls) := by
  unfold z_viaductref05_DocCheck
  rw [T_G]
  refine ⟨by omega, T_bindr (fun o => o = true ↔ ¬ Shape F T' W) ?_ fun o ho => ?_⟩
  · simp only [T_ite, T_G, T_some]
    refine ⟨fun h => ?_, fun h => ⟨by omega, fun h2 => ⟨by omega, fun h3 => ?_, fun h3 => ?_⟩, fun h2 => ?_⟩⟩
    · simp only [true_iff, Shape]; omega
    · simp only [Bool.not_eq_true', decide_eq_false_iff_not, Shape]; omega
    · simp only [true_iff, Shape]; omega
    · simp only [true_iff, Shape]; omega
  rw [T_ite]
  refine ⟨fun h => ?_, fun h => ?_⟩
  · simp only [p_E, Option.bind_some, T_some]
    exact ⟨_, .shape (ho.1 h), rfl⟩
  have hS : Shape F T' W := Classical.not_not.1 (fun k => h (ho.2 k))
  obtain ⟨s1, s2, s3, s4⟩ := id hS
  refine T_bindr (fun o => o = true ↔ ¬ Small F T') ?_ fun o ho => ?_
  · simp only [T_ite, T_some]
    refine ⟨fun h => ?_, fun h => ?_⟩
    · simp only [true_iff, Small]; omega
    · simp only [decide_eq_true_eq, Small]; omega
  rw [T_ite]
  refine ⟨fun h => ?_, fun h => ?_⟩
  · simp only [p_E, Option.bind_some, T_some]
    exact ⟨_, .limit hS (ho.1 h), rfl⟩
  have hm : Small F T' := Classical.not_not.1 (fun k => h (ho.2 k))
  obtain ⟨m1, m2⟩ := id hm
  refine T_binds (fun _ => Mono F ((F.length : Int) - 1)) ?_ fun _ hM => ?_
  · refine T_loop (fun v => 0 ≤ v ∧ v ≤ (F.length : Int) - 1 ∧ Mono F v) (fun v => ((F.length : Int) - 1 - v).toNat) ?_ ⟨by omega, by omega, .zero⟩
    rintro v ⟨h0, h1, h2⟩
    simp only [z_viaductref05_DocCheck_l0, T_ite, T_G, T_some, T_map, p_E, Option.bind_some, Sum.elim_inl, Sum.elim_inr]
    refine ⟨fun hv => ⟨by omega, by omega, by omega, fun hlt => ?_, fun hge => ⟨by omega, ⟨by omega, by omega, h2.next hge⟩, by omega⟩⟩, fun hv => h2.all (by omega)⟩
    rw [p_At (by simp)]
    simp only [Option.bind_some, T_map, T_some, Sum.elim_inl, Sum.elim_inr]
    exact ⟨_, .mono v hS hm h0 hv hlt h2, rfl⟩
  refine T_binds (fun _ => ∀ u j, In F u j → j < (T'.length : Int) → arcNo F T' W u j = 0) ?_ fun _ hA => ?_
  · have hc0 : (F.length : Int) - 1 = 0 → gt F ((F.length : Int) - 1) = gt F 0 := fun e => by rw [e]
    refine T_loop (fun s => 0 ≤ s.2 ∧ s.2 ≤ (T'.length : Int) ∧ 0 ≤ s.1 ∧ (s.1 < (F.length : Int) - 1 ∨ (T'.length : Int) = 0) ∧ gt F s.1 ≤ s.2 ∧ ∀ u j, In F u j → j < s.2 → arcNo F T' W u j = 0) (fun s => ((T'.length : Int) - s.2).toNat) ?_ ?_
    rotate_left
    · dsimp only
      refine ⟨by omega, by omega, by omega, by omega, by omega, fun u j hI hj => ?_⟩
      have := hM.le (u := 0) (w := u) (by omega) hI.1 (by have := hI.2.1; omega); have := hI.2.2.1; omega
    rintro ⟨v, i⟩ ⟨i0, i1, v0, v1, hg, hA⟩
    dsimp only at *
    unfold z_viaductref05_DocCheck_l1
    rw [T_ite]
    refine ⟨fun hi => ?_, fun hi => ?_⟩
    rotate_left
    · simp only [T_some, Sum.elim_inl, Sum.elim_inr]
      exact fun u j hu hj => hA u j hu (by omega)
    refine T_bindr (fun w => In F w i) ?_ fun w hI => ?_
    · refine T_loop (fun w => 0 ≤ w ∧ w < (F.length : Int) - 1 ∧ gt F w ≤ i) (fun w => ((F.length : Int) - w).toNat) ?_ ⟨v0, by omega, hg⟩
      rintro w ⟨w0, w1, w2⟩
      have hb1 := hM.le (u := 0) (w := w) (by omega) (by omega) (by omega)
      have hc2 : w + 1 = (F.length : Int) - 1 → gt F (w + 1) = gt F ((F.length : Int) - 1) := fun e => by rw [e]
      simp only [z_viaductref05_DocCheck_l2, T_ite, T_G, T_some, Sum.elim_inl, Sum.elim_inr]
      refine ⟨by omega, by omega, fun h => ?_, fun h => ⟨w0, w1, w2, by omega⟩⟩
      and_intros <;> omega
    obtain ⟨q1, q2, q3, q4⟩ := id hI
    have q5 := hM.le (u := 0) (w := w) (by omega) (by omega) (by omega)
    refine T_bindr (fun o => o = true ↔ (gt T' i < 0 ∨ gt T' i ≥ (F.length : Int) - 1)) ?_ fun o1 h1 => ?_
    · simp only [T_ite, T_G, T_some, decide_eq_true_eq, true_iff]
      refine ⟨i0, fun h => .inl h, fun h => ?_⟩; omega
    refine T_bindr (fun n => n = arcNo F T' W w i) ?_ fun n hn => ?_
    · rw [T_ite]
      refine ⟨fun h => ?_, fun h => ?_⟩
      · simp only [T_some]; exact (arcNo_7 (h1.1 h)).symm
      have k1 : ¬ (gt T' i < 0 ∨ gt T' i ≥ (F.length : Int) - 1) := fun k => h (h1.2 k)
      refine T_bindr (fun o => o = true ↔ (gt T' i = w ∨ (i > gt F w ∧ gt T' i ≤ gt T' (i - 1)))) ?_ fun o2 h2 => ?_
      · simp only [T_ite, T_G, T_some, decide_eq_true_eq, true_iff, Bool.false_eq_true, false_iff]
        refine ⟨i0, fun h => .inl h, fun h => ⟨by omega, fun h3 => ⟨by omega, by omega, by omega⟩, fun h3 => by omega⟩⟩
      rw [T_ite]
      refine ⟨fun h => ?_, fun h => ?_⟩
      · simp only [T_some]; exact (arcNo_14 (by omega) (by omega) (h2.1 h)).symm
      have k2 : ¬ (gt T' i = w ∨ (i > gt F w ∧ gt T' i ≤ gt T' (i - 1))) := fun k => h (h2.2 k)
      simp only [T_ite, T_G, T_some]
      refine ⟨by omega, fun h => (arcNo_8 (by omega) (by omega) k2 (.inl h)).symm, fun h => ⟨fun h3 => (arcNo_8 (by omega) (by omega) k2 (.inr h3)).symm, fun h3 => (arcNo_0 (by omega) (by omega) k2 h h3).symm⟩⟩
    rw [T_ite]
    refine ⟨fun h => ?_, fun h => ?_⟩
    · simp only [T_G, T_some, Sum.elim_inl]
      subst hn
      refine ⟨by omega, ⟨by omega, by omega, by omega, .inl (by omega), by omega, arc_next hM hI h hA⟩, by omega⟩
    · simp only [p_E, Option.bind_some]
      rw [p_At (by simp)]
      simp only [Option.bind_some, T_map, T_some, Sum.elim_inl, Sum.elim_inr]
      exact ⟨_, .arc' w i n hn.symm h hS hm hM hI hA, rfl⟩
  simp only [T_some]
  refine ⟨.nil, .ok hS hm hM fun u j hI => hA u j hI ?_, rfl⟩
  have h1 := hM.le (u := u + 1) (w := (F.length : Int) - 1) (by have := hI.1; omega) (by have := hI.2.1; omega) (by omega)
  have := hI.2.2.2; omega

/-! ### csr.Check -/
theorem p_nodes (hl : F.length ≤ 17592186044160) : z_csr_Csr_nodes F T' W = some ((F.length : Int) - 1) := by
  unfold z_csr_Csr_nodes G; rw [if_pos (by omega)]

def noEr (n : Int) : Er := if n = 0 then .nil else .no n
theorem p_arc (hl : F.length ≤ 17592186044160) (hw : (T'.length : Int) = W.length) {v i : Int} (v0 : 0 ≤ v) (v1 : v < (F.length : Int)) (i0 : 0 ≤ i) (i1 : i < (T'.length : Int)) (hf : 0 ≤ gt F v) (hi : i ≤ 17592186044160) :
    z_csr_Csr_arc F T' W v i = some (noEr (arcNo F T' W v i)) := by
  refine T_eq.1 ?_
  unfold z_csr_Csr_arc
  rw [p_nodes hl, T_G]
  refine ⟨by omega, T_bindr (fun o => o = true ↔ (gt T' i < 0 ∨ gt T' i ≥ (F.length : Int) - 1)) ?_ fun o1 h1 => ?_⟩
  · simp only [T_ite, T_G, T_some, Option.bind_some, decide_eq_true_eq, true_iff]
    refine ⟨fun h => .inl h, fun h => ?_⟩; omega
  rw [T_ite]
  refine ⟨fun h => ?_, fun h => ?_⟩
  · simp only [T_some, arcNo_7 (h1.1 h)]; rfl
  have k1 : ¬ (gt T' i < 0 ∨ gt T' i ≥ (F.length : Int) - 1) := fun k => h (h1.2 k)
  refine T_bindr (fun o => o = true ↔ (gt T' i = v ∨ (i > gt F v ∧ gt T' i ≤ gt T' (i - 1)))) ?_ fun o2 h2 => ?_
  · simp only [T_ite, T_G, T_some, decide_eq_true_eq, true_iff, Bool.false_eq_true, false_iff]
    refine ⟨fun h => .inl h, fun h => ⟨by omega, fun h3 => ⟨by omega, by omega, by omega⟩, fun h3 => by omega⟩⟩
  rw [T_ite]
  refine ⟨fun h => ?_, fun h => ?_⟩
  · simp only [T_some, arcNo_14 (by omega) (by omega) (h2.1 h)]; rfl
  have k2 : ¬ (gt T' i = v ∨ (i > gt F v ∧ gt T' i ≤ gt T' (i - 1))) := fun k => h (h2.2 k)
  simp only [T_ite, T_G, T_some]
  refine ⟨by omega, fun h => ?_, fun h => ⟨fun h3 => ?_, fun h3 => ?_⟩⟩
  · rw [arcNo_8 (by omega) (by omega) k2 (.inl h)]; rfl
  · rw [arcNo_8 (by omega) (by omega) k2 (.inr h3)]; rfl
  · rw [arcNo_0 (by omega) (by omega) k2 h h3]; rfl

theorem p_Check (hl : F.length ≤ 17592186044160) (ht : T'.length ≤ 17592186044160) : T (z_csr_Check F T' W) (Chk F T' W) := by
  unfold z_csr_Check
  rw [p_nodes hl, Option.bind_some]
  refine T_bindr (fun o => o = true ↔ ¬ Shape F T' W) ?_ fun o ho => ?_
  · simp only [T_ite, T_G, T_some]
    refine ⟨fun h => ?_, fun h => ⟨by omega, fun h2 => ⟨by omega, fun h3 => ?_, fun h3 => ?_⟩, fun h2 => ?_⟩⟩
    · simp only [true_iff, Shape]; omega
    · simp only [Bool.not_eq_true', decide_eq_false_iff_not, Shape]; omega
    · simp only [true_iff, Shape]; omega
    · simp only [true_iff, Shape]; omega
  rw [T_ite]
  refine ⟨fun h => ?_, fun h => ?_⟩
  · simp only [T_some]; exact .shape (ho.1 h)
  have hS : Shape F T' W := Classical.not_not.1 (fun k => h (ho.2 k))
  obtain ⟨s1, s2, s3, s4⟩ := id hS
  refine T_bindr (fun o => o = true ↔ ¬ Small F T') ?_ fun o ho => ?_
  · simp only [T_ite, T_some]
    refine ⟨fun h => ?_, fun h => ?_⟩
    · simp only [true_iff, Small]; omega
    · simp only [decide_eq_true_eq, Small]; omega
  rw [T_ite]
  refine ⟨fun h => ?_, fun h => ?_⟩
  · simp only [T_some]; exact .limit hS (ho.1 h)
  have hm : Small F T' := Classical.not_not.1 (fun k => h (ho.2 k))
  obtain ⟨m1, m2⟩ := id hm
  refine T_binds (fun _ => Mono F ((F.length : Int) - 1)) ?_ fun _ hM => ?_
  · refine T_loop (fun v => 0 ≤ v ∧ v ≤ (F.length : Int) - 1 ∧ Mono F v) (fun v => ((F.length : Int) - 1 - v).toNat) ?_ ⟨by omega, by omega, .zero⟩
    rintro v ⟨h0, h1, h2⟩
    simp only [z_csr_Check_l0, T_ite, T_G, T_some, T_map, p_fAt (show Er.no 14 ≠ .nil by simp), Option.bind_some, Sum.elim_inl, Sum.elim_inr]
    exact ⟨fun hv => ⟨by omega, by omega, by omega, fun hlt => .mono v hS hm h0 hv hlt h2, fun hge => ⟨by omega, ⟨by omega, by omega, h2.next hge⟩, by omega⟩⟩, fun hv => h2.all (by omega)⟩
  refine T_binds (fun _ => ∀ u j, In F u j → arcNo F T' W u j = 0) ?_ fun _ hA => ?_
  · refine T_loop (fun v => 0 ≤ v ∧ v ≤ (F.length : Int) - 1 ∧ ∀ k, k ≤ gt F v → Rows F T' W v k) (fun v => ((F.length : Int) - 1 - v).toNat) ?_ ⟨by omega, by omega, fun k hk => .zero hk⟩
    rintro v ⟨v0, v1, hR⟩
    unfold z_csr_Check_l1
    rw [T_ite]
    refine ⟨fun hv => ?_, fun hv => ?_⟩
    rotate_left
    · simp only [T_some, Sum.elim_inr]; exact (hR (gt F v) (by omega)).all hv
    have hb1 := hM.le (u := 0) (w := v) (by omega) (by omega) (by omega)
    have hb2 := hM.le (u := v + 1) (w := (F.length : Int) - 1) (by omega) (by omega) (by omega)
    have hb3 := hM v v0 hv
    rw [T_G]
    refine ⟨by omega, T_binds (fun _ => ∀ k, k ≤ gt F (v + 1) → Rows F T' W (v + 1) k) ?_ fun _ hR2 => ?_⟩
    · refine T_loop (fun i => gt F v ≤ i ∧ i ≤ gt F (v + 1) ∧ Rows F T' W v i) (fun i => (gt F (v + 1) - i).toNat) ?_ ⟨by omega, by omega, hR _ (by omega)⟩
      rintro i ⟨i0, i1, hRi⟩
      unfold z_csr_Check_l2
      simp only [T_G, T_ite]
      refine ⟨by omega, by omega, fun hi => ?_, fun hi => ?_⟩
      · rw [p_arc hl s4 v0 (by omega) (by omega) (by omega) (by omega) (by omega), Option.bind_some]
        unfold noEr
        by_cases h0 : arcNo F T' W v i = 0
        · rw [if_pos h0, if_pos rfl]
          simp only [T_G, T_some, Sum.elim_inl]
          exact ⟨by omega, ⟨by omega, by omega, hRi.step h0⟩, by omega⟩
        · rw [if_neg h0, if_neg (by simp), p_fAt (by simp)]
          simp only [Option.bind_some, T_map, T_some, Sum.elim_inl, Sum.elim_inr]
          exact .arc v i hS hm hM ⟨v0, hv, i0, hi⟩ h0 (hRi.before hM ⟨v0, hv, i0, hi⟩)
      · simp only [T_some, Sum.elim_inr]
        exact fun k hk => hRi.row hi hk
    · simp only [T_G, T_some, Sum.elim_inl]
      exact ⟨by omega, ⟨by omega, by omega, hR2⟩, by omega⟩
  simp only [T_some]
  exact .ok hS hm hM hA

/-! ### Binary search, arcs, lengths -/
theorem p_Less (x y : Int) : z_cmp_Less x y = some (decide (x < y)) := by
  simp [z_cmp_Less, z_cmp_isNaN]
theorem p_BinarySearch {xs : List Int} (hl : xs.length ≤ 17592186044160) (hR : Rise xs) (w : Int) :
    T (z_slices_BinarySearch xs w) fun r => (r.2 = true → 0 ≤ r.1 ∧ r.1 < (xs.length : Int) ∧ gt xs r.1 = w) ∧ (r.2 = false → ∀ k : Int, 0 ≤ k → k < (xs.length : Int) → gt xs k ≠ w) := by
  unfold z_slices_BinarySearch
  refine T_bindr (fun i => 0 ≤ i ∧ i ≤ (xs.length : Int) ∧ (∀ k : Int, 0 ≤ k → k < i → gt xs k < w) ∧ ∀ k : Int, i ≤ k → k < (xs.length : Int) → ¬ gt xs k < w) ?_ ?_
  · refine T_loop (fun s => 0 ≤ s.1 ∧ s.1 ≤ s.2 ∧ s.2 ≤ (xs.length : Int) ∧ (∀ k : Int, 0 ≤ k → k < s.1 → gt xs k < w) ∧ ∀ k : Int, s.2 ≤ k → k < (xs.length : Int) → ¬ gt xs k < w) (fun s => (s.2 - s.1).toNat) ?_ ?_
    rotate_left
    · dsimp only; exact ⟨by omega, by omega, by omega, fun k h0 h1 => by omega, fun k h0 h1 => by omega⟩
    rintro ⟨i, j⟩ ⟨h0, h1, h2, hlo, hhi⟩
    dsimp only at *
    simp only [z_slices_BinarySearch_l0, p_Less, Option.bind_some, T_ite, T_G, T_some, Sum.elim_inl, Sum.elim_inr, decide_eq_true_eq]
    refine ⟨fun hij => ⟨by omega, by omega, by omega, by omega, fun hlt => ⟨by omega, ⟨by omega, by omega, by omega, bs_lo hR (by omega) hlt, hhi⟩, by omega⟩, fun hge => ⟨⟨by omega, by omega, by omega, hlo, bs_hi hR (by omega) hge⟩, by omega⟩⟩, fun hij => ?_⟩
    have : i = j := by omega
    subst this
    exact ⟨h0, h2, hlo, hhi⟩
  · rintro i ⟨h0, h1, hlo, hhi⟩
    simp only [T_ite, T_G, T_some, z_slices_isNaN, Option.bind_some, decide_true, Bool.not_true, Bool.false_eq_true, if_false]
    exact ⟨fun h => ⟨h0, fun he => ⟨fun _ => ⟨h0, h, he⟩, fun h => (by cases h)⟩, fun he => ⟨fun h => (by cases h), fun _ => bs_no hR h0 hlo hhi (.inr he)⟩⟩, fun h => ⟨fun h => (by cases h), fun _ => bs_no hR h0 hlo hhi (.inl h)⟩⟩

theorem p_warc (hc : Chk F T' W .nil) {v w : Int} (v0 : 0 ≤ v) (v1 : v < (F.length : Int) - 1) :
    T (z_walk_arc F T' W v w) fun r => (∃ i, In F v i ∧ gt T' i = w ∧ r = (gt W i, .nil)) ∨ ((∀ i, In F v i → gt T' i ≠ w) ∧ r = (0, .no 16)) := by
  obtain ⟨s1, s2, s3, s4⟩ := hc.shp
  obtain ⟨m1, m2⟩ := hc.small
  have hM := hc.mon
  have hb0 := hM v v0 v1
  have hb1 := hM.le (u := 0) (w := v) (by omega) (by omega) (by omega)
  have hb2 := hM.le (u := v + 1) (w := (F.length : Int) - 1) (by omega) (by omega) (by omega)
  have hlen := len_sub (l := T') (p := gt F v) (r := gt F (v + 1)) (by omega) (by omega) (by omega)
  unfold z_walk_arc
  simp only [T_G]
  refine ⟨by omega, by omega, by omega, by omega, T_bindr _ (p_BinarySearch (by omega) (hc.riseSub v0 v1) w) ?_⟩
  rintro ⟨k, b⟩ ⟨hy, hn⟩
  dsimp only at *
  cases b with
  | true =>
    obtain ⟨k0, k1, k2⟩ := hy rfl
    rw [hlen] at k1
    rw [gt_sub (by omega) (by omega) (by omega) k0 (by omega)] at k2
    rw [if_neg (by decide)]
    simp only [T_G, T_some]
    exact ⟨by omega, by omega, .inl ⟨_, ⟨v0, v1, by omega, by omega⟩, k2, rfl⟩⟩
  | false =>
    rw [if_pos (by decide)]
    simp only [T_some]
    refine .inr ⟨fun i hI => ?_, trivial⟩
    have := hn rfl (i - gt F v) (by have := hI.2.2.1; omega) (by rw [hlen]; have := hI.2.2.2; omega)
    rw [gt_sub (by omega) (by omega) (by omega) (by have := hI.2.2.1; omega) (by have := hI.2.2.2; omega)] at this
    rwa [show gt F v + (i - gt F v) = i from by omega] at this

theorem p_Length (hl : F.length ≤ 17592186044160) (ht : T'.length ≤ 17592186044160) (hll : l.length ≤ 4294967296) : T (z_walk_Length F T' W l) fun r => Len F T' W l r.1 r.2 := by
  unfold z_walk_Length
  refine T_bindr _ (p_Check hl ht) fun er hc => ?_
  rw [T_ite]
  refine ⟨fun he => ?_, fun he => ?_⟩
  rotate_left
  · simp only [T_some]; exact .bad _ hc he
  subst he
  simp only [T_ite, T_some]
  refine ⟨fun h0 => .missing hc h0, fun h0 => T_binds (fun _ => Nodes F l (l.length : Int)) ?_ fun _ hN => ?_⟩
  · refine T_loop (fun i => 0 ≤ i ∧ i ≤ (l.length : Int) ∧ Nodes F l i) (fun i => ((l.length : Int) - i).toNat) ?_ ⟨by omega, by omega, .zero⟩
    rintro i ⟨i0, i1, hN⟩
    unfold z_walk_Length_l0
    rw [T_ite]
    refine ⟨fun hi => ?_, fun hi => ?_⟩
    rotate_left
    · simp only [T_some, Sum.elim_inr]; exact hN.all hi
    rw [T_G]
    refine ⟨i0, T_bindr (fun o => o = true ↔ (gt l i < 0 ∨ gt l i ≥ (F.length : Int) - 1)) ?_ fun o ho => ?_⟩
    · simp only [T_ite, T_G, T_some, true_iff, decide_eq_true_eq]
      exact ⟨fun h => .inl h, fun h => ⟨by omega, by omega⟩⟩
    rw [T_ite]
    refine ⟨fun h => ?_, fun h => ?_⟩
    · rw [p_fAt (by simp)]
      simp only [Option.bind_some, T_map, T_some, Sum.elim_inl, Sum.elim_inr]
      exact .node i hc i0 hi (ho.1 h) hN
    · have k : ¬ (gt l i < 0 ∨ gt l i ≥ (F.length : Int) - 1) := fun k => h (ho.2 k)
      simp only [T_G, T_some, Sum.elim_inl]
      exact ⟨by omega, ⟨by omega, by omega, hN.next (by omega) (by omega)⟩, by omega⟩
  rw [T_G]
  refine ⟨by omega, T_binds (fun s => WSum F T' W l ((l.length : Int) - 1) s) ?_ fun s hs => ?_⟩
  · refine T_loop (fun s => 0 ≤ s.1 ∧ s.1 ≤ (l.length : Int) - 1 ∧ WSum F T' W l s.1 s.2 ∧ 0 ≤ s.2 ∧ s.2 ≤ s.1 * 2147483647) (fun s => ((l.length : Int) - 1 - s.1).toNat) ?_ ⟨by omega, by omega, .zero, by omega, by omega⟩
    rintro ⟨i, sm⟩ ⟨i0, i1, hW, sm0, sm1⟩
    dsimp only at *
    unfold z_walk_Length_l1
    rw [T_ite]
    refine ⟨fun hi => ?_, fun hi => ?_⟩
    rotate_left
    · simp only [T_some, Sum.elim_inr]; exact hW.cast (by omega)
    simp only [T_G]
    obtain ⟨n0, n1⟩ := hN i i0 (by omega)
    refine ⟨by omega, by omega, by omega, T_bindr _ (p_warc hc n0 n1) ?_⟩
    rintro _ (⟨j, hj, hw, rfl⟩ | ⟨hno, rfl⟩)
    · obtain ⟨w0, w1⟩ := hc.weight hj
      dsimp only
      rw [if_pos rfl]
      simp only [T_G, T_some, Sum.elim_inl]
      refine ⟨by omega, ⟨by omega, by omega⟩, ⟨by omega, by omega, .step _ _ _ i0 hW ⟨_, hj, hw, rfl⟩, by omega, by omega⟩, by omega⟩
    · dsimp only
      rw [if_neg (by simp), p_fAt (by simp)]
      simp only [Option.bind_some, T_map, T_some, Sum.elim_inl, Sum.elim_inr]
      exact .nowalk i sm hc hN i0 hi hW fun x ⟨y, hy, hz, _⟩ => hno y hy hz
  · simp only [T_some]
    exact .ok _ hc hN (by omega) hs

/-! ### Simple -/
theorem p_Simple (hl : l.length ≤ 17592186043904) : z_walk_Simple l = some (simple l) := by
  refine T_eq.1 ?_
  unfold z_walk_Simple
  rw [T_bind]
  refine T_loop (fun s => 0 ≤ s.1 ∧ s.1 ≤ (l.length : Int) ∧ s.2.2 = simple (l.take s.1.toNat) ∧ At s.2.2 s.2.1) (fun s => ((l.length : Int) - s.1).toNat) ?_ ⟨by omega, by omega, rfl, At.nil⟩
  rintro ⟨i, f, s⟩ ⟨i0, i1, hs, hA⟩
  dsimp only at i0 i1 hs hA ⊢
  subst hs
  have hsl := simple_len (l.take i.toNat)
  have hsl2 : (l.take i.toNat).length ≤ l.length := List.length_take_le' _ _
  unfold z_walk_Simple_l0
  rw [T_ite]
  refine ⟨fun hi => ?_, fun hi => ?_⟩
  rotate_left
  · simp only [T_some, Sum.elim_inr]; rw [List.take_of_length_le (by omega)]
  have hsn := simple_next i0 hi
  rw [T_G, T_ite]
  refine ⟨i0, fun h0 => ?_, fun h0 => ?_⟩
  · have hnv := hA.none h0
    rw [show simp1 (simple (l.take i.toNat)) (gt l i) = simple (l.take i.toNat) ++ [gt l i] from if_neg hnv] at hsn
    simp only [T_G, T_some, Sum.elim_inl]
    exact ⟨by omega, by omega, ⟨by omega, by omega, hsn.symm, hA.add hnv⟩, by omega⟩
  · obtain ⟨hmem, hidx⟩ := hA.some h0
    have hlt := List.idxOf_lt_length_of_mem hmem
    rw [show simp1 (simple (l.take i.toNat)) (gt l i) = (simple (l.take i.toNat)).take ((simple (l.take i.toNat)).idxOf (gt l i) + 1) from if_pos hmem] at hsn
    rw [T_G]
    refine ⟨by omega, T_bindr (fun g => ∀ k, g k = if k ∈ (simple (l.take i.toNat)).drop ((f (gt l i)).getD 0).toNat then none else f k) ?_ fun g hg => ?_⟩
    · have hdl : (((simple (l.take i.toNat)).drop ((f (gt l i)).getD 0).toNat).length : Int) = ((simple (l.take i.toNat)).length : Int) - (f (gt l i)).getD 0 := by rw [List.length_drop]; omega
      refine T_loop (fun s => 0 ≤ s.2 ∧ s.2 ≤ (((simple (l.take i.toNat)).drop ((f (gt l i)).getD 0).toNat).length : Int) ∧ ∀ k, s.1 k = if k ∈ ((simple (l.take i.toNat)).drop ((f (gt l i)).getD 0).toNat).take s.2.toNat then none else f k)
        (fun s => ((((simple (l.take i.toNat)).drop ((f (gt l i)).getD 0).toNat).length : Int) - s.2).toNat) ?_ ⟨by omega, by omega, fun k => by simp⟩
      rintro ⟨g, j⟩ ⟨j0, j1, hg⟩
      dsimp only at j0 j1 hg ⊢
      unfold z_walk_Simple_l1
      rw [List.take_of_length_le (Nat.le_refl _)]
      simp only [T_ite, T_G, T_some, Sum.elim_inl, Sum.elim_inr]
      refine ⟨fun hj => ⟨j0, by omega, ⟨by omega, by omega, fun k => ?_⟩, by omega⟩, fun hj k => ?_⟩
      · rw [take_gt j0 hj]; simp only [hg, List.mem_append, List.mem_singleton]; split <;> simp_all
      · rw [hg k, List.take_of_length_le (by omega)]
    · simp only [T_G, T_some, Sum.elim_inl]
      have hcut := hA.cut hg
      rw [show ((f (gt l i)).getD 0).toNat = (simple (l.take i.toNat)).idxOf (gt l i) + 1 from by omega] at hcut ⊢
      rw [← hsn] at hcut ⊢
      exact ⟨by omega, ⟨by omega, by omega, rfl, hcut⟩, by omega⟩

end Go.Vd
