/- What the statement WalkLoops comes to: true. Plain Lean: no program here. -/
import Derived.Test.YtbjamignglibpaaPrA
set_option linter.unusedVariables false
set_option linter.unusedSimpArgs false
namespace Go.Vd
variable {F T' W l : List Int}

theorem p_few09 (hl : F.length ≤ 17592186044160) : T (z_viaductlaw09_few F T' W l) fun b => ∃ er, Chk F T' W er ∧ b = decide (l.length ≤ 2000 ∧ (er ≠ .nil ∨ F.length ≤ 30)) := by
  unfold z_viaductlaw09_few
  refine T_bindr _ (p_DocCheck hl) ?_
  rintro _ ⟨er, hc, rfl⟩
  simp only [p_Bad, T_ite, Option.bind_some, T_some, decide_eq_true_eq]
  refine ⟨fun h1 => ⟨fun h2 => ⟨er, hc, (few_t hc h1 (.inl h2)).symm⟩, fun h2 => ?_⟩, fun h1 => ⟨er, hc, (few_f hc (.inl h1)).symm⟩⟩
  by_cases h3 : (F.length : Int) ≤ 30
  · exact ⟨er, hc, by rw [decide_eq_true h3]; exact (few_t hc h1 (.inr h3)).symm⟩
  · exact ⟨er, hc, by rw [decide_eq_false h3]; exact (few_f hc (.inr ⟨h2, h3⟩)).symm⟩

theorem p_of09 (h1 : F.length ≤ 17592186043904) (h2 : T'.length ≤ 17592186043904) (h3 : W.length ≤ 17592186043904) : z_viaductlaw09_of F T' W = some (F, T', W) := by
  simp [z_viaductlaw09_of, z_viaductref05_Twin, p_TwinInts h1, p_TwinInts h2, p_TwinInts h3]

theorem p_WalkLoops (h1 : F.length ≤ 17592186043904) (h2 : T'.length ≤ 17592186043904) (h3 : W.length ≤ 17592186043904) : z_viaductlaw09_WalkLoops F T' W l = some true := by
  refine T_eq.1 ?_
  unfold z_viaductlaw09_WalkLoops
  refine T_bindr (fun o => o = false → l.length ≤ 200) ?_ fun o ho => ?_
  · refine T_bindr _ (p_few09 (by omega)) ?_
    rintro _ ⟨er, hc, rfl⟩
    simp only [T_ite, T_some, decide_eq_false_iff_not, Bool.true_eq_false, false_implies, implies_true, and_true]
    intro _ h; omega
  rw [T_ite]
  refine ⟨fun _ => by simp, fun hf => ?_⟩
  have hll := ho (by simpa using hf)
  have hP1 := sl_pos l
  have hP2 := simple_len l
  have hP3 := sl_first l
  have hP4 := sl_last l
  have hP6 := simple_len (simple l)
  have hP5 : simple (simple l) = simple l := simple_self (simple_nd l)
  rw [p_TwinInts (by omega), Option.bind_some, p_Simple (by omega), Option.bind_some, T_ite]
  refine ⟨fun h0 => ?_, fun h0 => ?_⟩
  · simp only [T_some]; exact decide_eq_true (by omega)
  refine T_bindr (fun o => o = false) ?_ fun o ho => ?_
  · simp only [T_ite, T_G, T_some]
    refine ⟨fun h => by omega, fun h => ⟨fun h => by omega, fun h => ⟨by omega, by omega, fun h => ⟨by omega, by omega, by omega, by omega, fun h => ?_, fun h => by omega⟩, fun h => by omega⟩⟩⟩
    rw [p_TwinInts (by omega), Option.bind_some, p_Simple (by omega), Option.bind_some, hP5, p_SameInts (by omega), Option.bind_some, T_some]
    simp
  subst ho
  rw [if_neg (by decide)]
  refine T_binds (fun _ => True) ?_ fun _ _ => ?_
  · refine T_loop (fun i => 0 ≤ i ∧ i ≤ ((simple l).length : Int)) (fun i => (((simple l).length : Int) - i).toNat) ?_ ⟨by omega, by omega⟩
    rintro i ⟨i0, i1⟩
    unfold z_viaductlaw09_WalkLoops_l0
    rw [T_ite]
    refine ⟨fun hi => ?_, fun hi => by simp⟩
    rw [T_G]
    refine ⟨by omega, T_binds (fun _ => True) ?_ fun _ _ => ?_⟩
    · have hsub : (((simple l).take i.toNat).length : Int) = i := by rw [List.length_take]; omega
      refine T_loop (fun j => 0 ≤ j ∧ j ≤ i) (fun j => (i - j).toNat) ?_ ⟨by omega, by omega⟩
      rintro j ⟨j0, j1⟩
      simp only [z_viaductlaw09_WalkLoops_l1, hsub, T_ite, T_G, T_some, T_map, Sum.elim_inl, Sum.elim_inr]
      refine ⟨fun hj => ⟨j0, i0, fun he => ?_, fun he => ⟨by omega, ⟨by omega, by omega⟩, by omega⟩⟩, fun _ => trivial⟩
      exact (dup_absurd (i := i) (j := j) (simple_nd l) j0 hj hi (by rw [List.drop_zero]; exact he)).elim
    refine T_bindr (fun nb => nb = true) ?_ fun nb hnb => ?_
    · refine T_loop (fun s => 1 ≤ s.1 ∧ s.1 ≤ (l.length : Int) ∧ (s.2 = true ∨ (0 < i ∧ ∀ k : Int, 1 ≤ k → k < s.1 → ¬ (gt l (k - 1) = gt (simple l) (i - 1) ∧ gt l k = gt (simple l) i)))) (fun s => ((l.length : Int) - s.1).toNat) ?_ ?_
      rotate_left
      · refine ⟨by omega, by omega, ?_⟩
        by_cases hz : i = 0
        · exact .inl (decide_eq_true hz)
        · exact .inr ⟨by omega, fun k h0 h1 => by omega⟩
      rintro ⟨j, nb⟩ ⟨j0, j1, hN⟩
      dsimp only at *
      unfold z_viaductlaw09_WalkLoops_l2
      rw [T_ite]
      refine ⟨fun hj => ?_, fun hj => ?_⟩
      · rw [T_ite]
        refine ⟨fun hb => ?_, fun hb => ?_⟩
        · simp only [T_G, T_some, Sum.elim_inl]
          exact ⟨by omega, ⟨by omega, by omega, .inl trivial⟩, by omega⟩
        · have hN' := hN.resolve_left hb
          simp only [T_ite, T_G, T_some, Sum.elim_inl]
          refine ⟨by omega, by omega, by omega, by omega, fun h => ⟨by omega, i0, fun h' => ⟨by omega, ⟨by omega, by omega, .inl trivial⟩, by omega⟩, fun h' => ⟨by omega, ⟨by omega, by omega, .inr (near_next hN' fun x => h' x.2)⟩, by omega⟩⟩,
            fun h => ⟨by omega, ⟨by omega, by omega, .inr (near_next hN' fun x => h x.1)⟩, by omega⟩⟩
      · simp only [T_some, Sum.elim_inr]
        rcases hN with hN | hN
        · exact hN
        · exact (near_absurd hN hi hj).elim
    subst hnb
    simp only [Bool.not_true, Bool.false_eq_true, if_false, T_G, T_some, Sum.elim_inl]
    exact ⟨by omega, ⟨by omega, by omega⟩, by omega⟩
  · rw [p_of09 h1 h2 h3, Option.bind_some, Option.bind_some]
    dsimp only
    refine T_bindr _ (p_Length (by omega) (by omega) (by omega)) ?_
    rintro ⟨n, er⟩ hL
    dsimp only at hL ⊢
    rw [T_ite]
    refine ⟨fun he => ?_, fun he => ?_⟩
    · subst he
      rw [Option.bind_some]
      dsimp only
      refine T_bindr _ (p_Length (l := simple l) (by omega) (by omega) (by omega)) ?_
      rintro ⟨m, er⟩ hL2
      dsimp only at hL2 ⊢
      have hk := simple_len_walk hL hL2
      simp only [T_ite, T_some]
      exact ⟨fun _ => decide_eq_true hk.2, fun h => absurd hk.1 h⟩
    · simp only [T_some]; exact decide_eq_true (hL.zero he)
end Go.Vd
