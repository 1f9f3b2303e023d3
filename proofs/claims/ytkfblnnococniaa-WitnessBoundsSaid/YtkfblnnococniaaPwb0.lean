/- What the statement WitnessBounds comes to: true. Plain Lean: no program here. -/
import Derived.Test.YtkfblnnococniaaIWb
import Derived.Test.YtkfblnnococniaaVpA
set_option linter.unusedVariables false
set_option linter.unusedSimpArgs false
set_option linter.unusedSectionVars false
/-! (PrWitnessBounds) -/

namespace Go.Vd
theorem p_WitnessBounds {a b c d e : Int} : z_viaductlaw12_WitnessBounds a b c d e = some true := by
  simp [z_viaductlaw12_WitnessBounds, z_witness_Bounds, z_witness_Bounds_1, z_viaductref12_Bounds, z_viaductref12_bound]
end Go.Vd
