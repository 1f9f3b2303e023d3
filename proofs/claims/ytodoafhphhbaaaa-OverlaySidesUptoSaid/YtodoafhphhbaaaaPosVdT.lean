/- The evaluator's operations, and that they are the abstract heap's. -/
import Derived.Test.YtodoafhphhbaaaaPosVdS
namespace Go.Vd

variable {P : Program}

end Go.Vd
