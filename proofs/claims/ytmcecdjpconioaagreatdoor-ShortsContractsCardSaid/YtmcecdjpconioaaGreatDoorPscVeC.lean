/- What printed walks of this seat begin with. -/
import Derived.Test.YtmcecdjpconioaaGreatDoorPscVeB
import Derived.Test.YtmcecdjpconioaaGreatDoorChecked
set_option maxRecDepth 100000
namespace Go.Vd
set_option linter.unusedSectionVars false
variable [Pins]
theorem mixed : Go.Proofs.Tryz.prog.follows .mixedOrders = true := by rfl
end Go.Vd
