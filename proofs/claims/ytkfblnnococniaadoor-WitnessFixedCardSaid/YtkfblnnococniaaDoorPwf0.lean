/- WitnessFixed, evaluated. -/
import Derived.Test.YtkfblnnococniaaDoorDrH
set_option linter.unusedVariables false
set_option linter.unusedSimpArgs false
set_option linter.unusedSectionVars false
/-! (KWitnessFixed) -/

set_option maxRecDepth 1000000
set_option maxHeartbeats 40000000
namespace Go.Vd
theorem c_viaductlaw12_WitnessFixed {H : AH} : ACalls Go.Proofs.Tryd.prog 4 #[] H fun v H' => v = .bool true ∧ H' = H :=
  acalls_evD (n := 100000) (by kernel_rfl) rfl H
end Go.Vd
