/- WitnessFinds, the plain law. Plain Lean: no program here. -/
import Derived.Test.YtnepbkkdhalbiaaGreatDoorPwf0
import Derived.Test.YtnepbkkdhalbiaaGreatDoorPwfIWf
set_option linter.unusedVariables false
set_option linter.unusedSimpArgs false
set_option linter.unusedSectionVars false
/-! (PrWitnessFinds) -/

set_option linter.unusedVariables false
set_option linter.unusedSimpArgs false
set_option maxHeartbeats 1000000
namespace Go.Vd
variable {N u skip most hops settles : Int} {Arcs : List A3} {goals : List Int} {A : List Bool} {M : List OAr}
theorem FdW.good {p : List Int × Er} (h : FdW A M u skip goals most hops settles p) : p.2.good /\ p.2.pls.length ≤ 1 /\ p.1.length ≤ goals.length := by
 cases h with
 | bad => exact ⟨by simp [Er.good], by simp [Er.pls], by simp⟩
 | goal => exact ⟨by simp [Er.good], by simp [Er.pls], by simp⟩
 | ok => exact ⟨by simp [Er.good], by simp [Er.pls], by simp⟩
theorem p_WitnessFinds {script : List Stp} (hs : StpOk script) (h1 : settles ≤ 9223372036854775807) : z_viaductlaw12_WitnessFinds N Arcs script u skip goals most hops settles = some true := by
 refine T_eq.1 ?_
 unfold z_viaductlaw12_WitnessFinds
 refine T_bindr _ (p_laidW hs) ?_
 rintro r (rfl | ⟨hc, hN, ⟨o, al, ar, A, L⟩, rfl, h, hL, hA⟩)
 ·rw [Sum.elim_inl]
  simp
 rw [Sum.elim_inr]
 dsimp only at *
 rw [T_ite]
 refine ⟨fun _ => by simp, fun hg => ?_⟩
 rw [p_TwinIntsW (by omega), Option.bind_some]
 refine T_bindr _ (p_Find (skip := skip) (hops := hops) (most := most) (u := u) (goals := goals) h (by omega) h1) ?_
 rintro ⟨p, er⟩ hF
 refine T_bindr _ (p_DocFind (skip := skip) (hops := hops) (most := most) (u := u) (goals := goals) h (by omega) h1) ?_
 rintro ⟨q, _⟩ ⟨er2, hG, rfl⟩
 dsimp only at *
 have e := hF.uniq hG
 cases e
 obtain ⟨g1, g2, g3⟩ := hF.good
 dsimp only at g1 g2 g3
 rw [p_SameRow (by omega), Option.bind_some, if_pos (by simp), p_SameT g1 (by omega), Option.bind_some, if_pos rfl]
 unfold z_overlay_Overlay_Len z_overlay_Overlay_Arcs
 rw [Option.bind_some, p_rLen h.sm, Option.bind_some, if_pos h.al, Option.bind_some]
 simp only [T_some]
 exact decide_eq_true h.ar
end Go.Vd
