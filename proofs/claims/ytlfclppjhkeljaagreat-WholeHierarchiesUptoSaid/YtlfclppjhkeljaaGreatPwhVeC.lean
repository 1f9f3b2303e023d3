/- Texts. -/
import Derived.Test.YtlfclppjhkeljaaGreatPwhVeB
import Derived.Test.YtlfclppjhkeljaaGreatChecked
set_option linter.all false
open Go.Proofs
set_option maxRecDepth 100000
namespace Go.Vd
variable[Pins]
theorem mixed:Tryz.prog.follows .mixedOrders=true:=by rfl
theorem ZbC{x:Int}(h:0≤x/\x≤4294967295):IntKind.u32.wrap x=x:=by
 rw[IntKind.wrap_u32];omega
end Go.Vd
