/-
 Places compared; errors.As at a number by ways.
-/
import Derived.Test.YtmcecdjpconioaaGreatDoorPsc1
import Derived.Test.YtmcecdjpconioaaGreatDoorPscDrF
set_option linter.unusedVariables false
set_option linter.unusedSimpArgs false
set_option linter.unusedSectionVars false
/-! (DrG) -/

set_option linter.unusedVariables false
set_option linter.unusedSimpArgs false
set_option maxHeartbeats 4000000
set_option maxRecDepth 100000
namespace Go.Vd
open Go.Proofs Go.Proofs.YtmcecdjpconioaaGreatDoor
theorem eg (x y : Operand) (a b c d : Int) : pr Tryz.prog (eqGuard .neq 81 x y (.agg #[.int .i64 a, .int .i64 b]) (.agg #[.int .i64 c, .int .i64 d])) = some () := by kernel_rfl
theorem Znn {H : AH} (hw : WF H) {tb : Nat} {x hd : Value} {e : Er} {fp : Fp} (hrow : Row H tb [x]) (ev : Ev 48 82 H hd e fp) (hn : e ≠ .nil) (h : e.num.isSome = true) :
  ACalls Tryz.prog 26 #[hd, .iface 87 (.pointer (some ⟨tb, 0, none⟩))] H fun v H' => v = .bool true /\ FrS [tb] H H' /\ Row H' tb [.int .i64 (e.num.getD 0)] := by
 refine (Zm3 hw hrow ev hn).mono fun v H' ⟨h1, h2, h3⟩ => ?_
 cases hc : e.num with
 | none => rw [hc] at h; cases h
 | some n => rw [hc] at h1 h3; exact ⟨h1, h2, h3⟩
theorem Znk {H : AH} (hw : WF H) {tb : Nat} {x hd : Value} {e : Er} {fp : Fp} (hrow : Row H tb [x]) (ev : Ev 48 82 H hd e fp) (hn : e ≠ .nil) (h : ¬ e.num.isSome = true) :
  ACalls Tryz.prog 26 #[hd, .iface 87 (.pointer (some ⟨tb, 0, none⟩))] H fun v H' => v = .bool false /\ FrS [tb] H H' /\ Row H' tb [x] := by
 refine (Zm3 hw hrow ev hn).mono fun v H' ⟨h1, h2, h3⟩ => ?_
 cases hc : e.num with
 | none => rw [hc] at h1 h3; exact ⟨h1, h2, h3⟩
 | some n => rw [hc] at h; exact absurd rfl h
end Go.Vd
