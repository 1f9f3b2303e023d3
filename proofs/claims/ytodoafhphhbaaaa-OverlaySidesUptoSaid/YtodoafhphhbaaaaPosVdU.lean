/- The evaluator: calls on closed values, run in the abstract heap. -/
import Derived.Test.YtodoafhphhbaaaaPosVdT
namespace Go.Vd

def Tr.act (t : Tr Value) : AAct := fun i => match t.get i with
  | some v => v
  | none => undef

abbrev Caller := FuncId → Array Value → EH → Option (Value × EH)
variable {P : Program} {C : Caller}

/-! ### Drawn regions -/

/-- Values that are the same, where that is told. -/
def veq : Nat → Value → Value → Bool
  | 0, _, _ => false
  | d + 1, a, b => match a, b with
    | .bool x, .bool y => x == y
    | .int k n, .int k' n' => decide (k = k') && decide (n = n')
    | .pointer x, .pointer y => decide (x = y)
    | .slice x n c, .slice x' n' c' => decide (x = x') && Nat.beq n n' && Nat.beq c c'
    | .map x, .map y => decide (x = y)
    | .nilIface, .nilIface => true
    | .nilFunc, .nilFunc => true
    | .iface t v, .iface t' v' => decide (t = t') && veq d v v'
    | .agg x, .agg y => go d x.toList y.toList
    | _, _ => false
where go : Nat → List Value → List Value → Bool
  | 0, _, _ => false
  | _ + 1, [], [] => true
  | d + 1, x :: xs, y :: ys => veq d x y && go d xs ys
  | _, _, _ => false

/-! ### Code and calls -/

end Go.Vd
