/- WalkFixed, evaluated. -/
import Derived.Test.YtbjamignglibpaaDoorDrH
set_option maxRecDepth 1000000
set_option maxHeartbeats 40000000
namespace Go.Vd
theorem c_viaductlaw09_WalkFixed {H : AH} : ACalls Go.Proofs.Tryd.prog 8 #[] H fun v H' => v = .bool true ∧ H' = H :=
  acalls_evD (n := 100000) (by kernel_rfl) rfl H
end Go.Vd
