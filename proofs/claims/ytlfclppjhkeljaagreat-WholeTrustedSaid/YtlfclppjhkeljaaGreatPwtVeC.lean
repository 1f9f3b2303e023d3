/- What printed walks of this seat begin with. -/
import Derived.Test.YtlfclppjhkeljaaGreatPwtVeB
import Derived.Test.YtlfclppjhkeljaaGreatChecked
set_option maxRecDepth 100000
namespace Go.Vd
set_option linter.unusedSectionVars false
variable [Pins]
theorem mixed : Go.Proofs.Tryz.prog.follows .mixedOrders = true := by rfl
theorem ZcX {x : Int} (h : 0 ≤ x ∧ x ≤ 4294967295) : IntKind.u32.wrap x = x := by
 rw [IntKind.wrap_u32]; omega
end Go.Vd
