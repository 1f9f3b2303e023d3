/- What printed walks of this seat begin with. -/
import Derived.Test.YtnepbkkdhalbiaaPsbVeB
import Derived.Test.YtnepbkkdhalbiaaChecked
set_option maxRecDepth 100000
namespace Go.Vd
set_option linter.unusedSectionVars false
variable [Pins]
theorem mixed : Go.Proofs.Try.prog.follows .mixedOrders = true := by rfl
end Go.Vd
