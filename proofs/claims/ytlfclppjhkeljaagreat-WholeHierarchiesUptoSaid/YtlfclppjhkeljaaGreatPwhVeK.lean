/- Texts. -/
import Derived.Test.YtlfclppjhkeljaaGreatPwhVeB
set_option linter.all false
namespace Go.Vd
variable[Pins]
section
variable{P:Program}{H H':AH}{E:Type}{enc:E->List Value}{sz:Nat}{s s' t:Value}{xs:List E}{fp:Fp}{φ:Nat}
end
section
variable{P:Program}{H H':AH}{E:Type}{enc:E->List Value}{sz:Nat}{s s' t:Value}{xs ys:List E}{fp:Fp}{φ:Nat}
end
end Go.Vd
