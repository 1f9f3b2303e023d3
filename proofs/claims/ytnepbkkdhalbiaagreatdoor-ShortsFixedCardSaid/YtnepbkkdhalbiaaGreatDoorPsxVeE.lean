/- From what a row hands in to the abstract heap: slices that come in are rows that are read only. -/
import Derived.Test.YtnepbkkdhalbiaaGreatDoorPsxVeB
import Derived.ProofKit
import Derived.OpenShut
import Derived.SizedLaws
namespace Go.Vd
theorem Zkz {w : World} {b o : Nat} {s : Option Nat} {v : Value} (h : w.cell? ⟨b, o, s⟩ = some v) : s = none ∧ ∃ c ty fr, w.heap[b]? = some (.cells c ty fr) ∧ c[o]? = some v := by
 unfold World.cell? at h
 dsimp only at h
 split at h
 ·rename_i c ty fr hc
  cases s with
  | some _ => simp at h
  | none => exact ⟨rfl, c, ty, fr, hc, by simpa using h⟩
 ·cases h
def AllRo (μ : Mu) (H : AH) : Prop := ∀ b p, μ b = some p → ∃ cs, H.get b = some (.row .ro cs)
structure Ent (μ : Mu) (H : AH) (W : World) : Prop where
 rel : Rel μ H W
 ro : AllRo μ H
 wf : WF H
def AH.nil : AH := ⟨fun _ => none, 0⟩
theorem Ent.nil (W : World) (hp : ∀ v, ZeU = some v → ∃ c ty fr, W.heap[0]? = some (.cells c ty fr) ∧ c[0]? = some v) : Ent (fun _ => none) AH.nil W :=
 ⟨⟨fun _ _ e => (by cases e), fun _ _ e => (by cases e), fun _ _ _ _ _ _ e => (by cases e), fun _ _ => rfl, ⟨fun v hv => ⟨hp v hv, fun _ _ e => (by cases e)⟩, fun _ _ h => (by cases h), fun _ _ h => (by cases h)⟩⟩, fun _ _ e => (by cases e), ⟨fun _ _ => rfl, fun b => by simp [Zu, AH.nil]⟩⟩
section
variable {Hd : Type} {enc : TypeId × Value → Hd} {P : Program} {W : World}
theorem cells_get {base : Nat} {a : Addr} {n : Nat} {cs : List Value} (h : W.cells? base a n = some cs) : cs.length = n ∧ ∀ j, j < n → W.cell? (a.add j) = cs[j]? := by
 unfold World.cells? at h
 split at h
 ·refine ⟨by simpa using mapM_some_length h, fun j hj => ?_⟩
  have := mapM_some_get h j j (by simp [hj])
  exact this
 ·cases h
end
end Go.Vd
