/- What printed walks of this seat begin with. -/
import Derived.Test.YtnepbkkdhalbiaaGreatDoorPsnVeB
import Derived.Test.YtnepbkkdhalbiaaGreatDoorChecked
set_option maxRecDepth 100000
namespace Go.Vd
set_option linter.unusedSectionVars false
variable [Pins]
theorem mixed : Go.Proofs.Tryz.prog.follows .mixedOrders = true := by rfl
end Go.Vd
