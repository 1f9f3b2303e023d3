/- What the statement WalkLists comes to: true. Plain Lean: no program here. -/
import Derived.Test.YtbjamignglibpaaDoorPrJ
import Derived.Test.YtbjamignglibpaaDoorPrSame
set_option linter.unusedVariables false
set_option linter.unusedSimpArgs false
namespace Go.Vd
variable {a b l : List Int}

theorem joined_good : (joined a b).2.good ∧ (joined a b).2.pls = [] := by
  unfold joined
  split
  · exact ⟨by simp [Er.good], rfl⟩
  · split
    · exact ⟨trivial, rfl⟩
    · exact ⟨by simp [Er.good], rfl⟩

theorem p_WalkLists : z_viaductlaw09_WalkLists a b = some true := by
  refine T_eq.1 ?_
  unfold z_viaductlaw09_WalkLists
  refine T_bindr (fun o => o = true ∨ (a.length ≤ 3000 ∧ b.length ≤ 3000)) ?_ fun o ho => ?_
  · simp only [T_ite, T_some, decide_eq_true_eq]
    exact ⟨fun _ => .inl trivial, fun h => by omega⟩
  rw [T_ite]
  refine ⟨fun _ => by simp, fun hf => ?_⟩
  obtain ⟨ha, hb⟩ := ho.resolve_left hf
  have hS := simple_len a
  have hJ := joined_len (a := a) (b := b)
  obtain ⟨g1, g2⟩ := joined_good (a := a) (b := b)
  have hs := p_SameT g1 (by rw [g2]; simp)
  rw [g2] at hs
  simp only [p_TwinInts (l := a) (by omega), p_TwinInts (l := b) (by omega), p_Join (a := a) (b := b) (by omega) (by omega), Option.bind_some]
  refine T_bindr _ (p_DocJoin (by omega) (by omega)) fun y hy => ?_
  subst hy
  simp only [p_SameInts (a := (joined a b).1) (by omega), Option.bind_some, decide_true, if_true, hs]
  simp only [p_Simple (l := a) (by omega), p_Back (l := a) (by omega), p_rSimple (l := a) (by omega), p_rBack (l := a) (by omega), Option.bind_some, p_SameInts (a := simple a) (by omega), p_SameInts (a := a.reverse) (by simp; omega), decide_true, if_true, T_some]

end Go.Vd
