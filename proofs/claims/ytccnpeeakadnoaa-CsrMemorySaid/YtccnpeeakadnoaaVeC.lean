/- What printed walks of this seat begin with. -/
import Derived.Test.YtccnpeeakadnoaaVeB
import Derived.Test.YtccnpeeakadnoaaChecked
set_option maxRecDepth 100000
namespace Go.Vd
set_option linter.unusedSectionVars false
variable [Pins]
theorem mixed : Go.Proofs.Try.prog.follows .mixedOrders = true := by rfl
theorem wrapu32 {x : Int} (h : 0 ≤ x ∧ x ≤ 4294967295) : IntKind.u32.wrap x = x := by
  rw [IntKind.wrap_u32]; omega
theorem wrapu8 {x : Int} (h : 0 ≤ x ∧ x ≤ 255) : IntKind.u8.wrap x = x := by
  rw [IntKind.wrap_u8]; omega
theorem wrapi32 {x : Int} (h : -2147483648 ≤ x ∧ x ≤ 2147483647) : IntKind.i32.wrap x = x := by
  rw [IntKind.wrap_i32]; omega
end Go.Vd
