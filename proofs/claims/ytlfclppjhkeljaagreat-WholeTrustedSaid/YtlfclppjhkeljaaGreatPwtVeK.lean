/- A slice that was appended to is there still. -/
import Derived.Test.YtlfclppjhkeljaaGreatPwtVeB
set_option linter.unusedVariables false
set_option linter.unusedSimpArgs false
namespace Go.Vd
set_option linter.unusedSectionVars false
variable [Pins]
section
variable {P : Program} {H H' : AH} {E : Type} {enc : E → List Value} {sz : Nat} {s s' t : Value} {xs : List E} {fp : Fp} {φ : Nat}
end
section
variable {P : Program} {H H' : AH} {E : Type} {enc : E → List Value} {sz : Nat} {s s' t : Value} {xs ys : List E} {fp : Fp} {φ : Nat}
end
end Go.Vd
