/- The evaluator: calls on closed values, run in the abstract heap. -/
import Derived.Test.YtcgjelpcgdjecaaGreatDoorPopVdT
namespace Go.Vd

def Tr.act (t : Tr Value) : AAct := fun i => match t.get i with
  | some v => v
  | none => undef

def putT (t : Tr Value) (d : Option Tmp) (v : Value) : Option (Tr Value) :=
  match d with
  | none => some t
  | some d => t.set 40 d v

def nfOb : AObj → Option AObj
  | .row k cs => match nfL (nfV 6) cs with
    | some cs => some (.row k cs)
    | none => none
  | o => some o
abbrev Caller := FuncId → Array Value → EH → Option (Value × EH)
def evOne (C : Caller) (P : Program) (op : Op) (ρ : Operand → Value) (E : EH) : Option (Value × EH) :=
  match cls op with
  | .quiet => match aQuiet P ρ E.toAH op with
    | some v => match nfV 6 v with
      | some v => some (v, E)
      | none => none
    | none => none
  | .new => match aNew P ρ op with
    | some (ob, f) => match nfOb ob with
      | some ob => match E.push ob, nfV 6 (f E.n) with
        | some E', some v => some (v, E')
        | _, _ => none
      | none => none
    | none => none
  | .eff => match eEff P ρ E op with
    | some (v, E') => match nfV 6 v with
      | some v => some (v, E')
      | none => none
    | none => none
  | .call => match aCallee P ρ op with
    | some (f, args) => match nfL (nfV 6) args.toList with
      | some l => C f ⟨l⟩ E
      | none => none
    | none => match aCalleeL P ρ E.toAH op with
      | some (f, args) => match nfL (nfV 6) args.toList with
        | some l => C f ⟨l⟩ E
        | none => none
      | none => none

variable {P : Program} {C : Caller}

def evSeq (C : Caller) (P : Program) (ops : Array Oper) : List Oper → Tr Value → EH → Option (Tr Value × EH)
  | [], t, E => some (t, E)
  | o :: rest, t, E => match Region.wanted o (aYield ops t.act) with
    | true => match evOne C P o.op (aEval t.act) E with
      | some (v, E') => match putT t o.dst v with
        | some t' => evSeq C P ops rest t' E'
        | none => none
      | none => none
    | false => match putT t o.dst undef with
      | some t' => evSeq C P ops rest t' E
      | none => none

/-! ### Drawn regions -/

def rdyAt (ops : Array Oper) (seen : List Nat) (i : Nat) : Bool :=
  !memN seen i && match ops[i]? with
    | some o => (edges o).all (memN seen)
    | none => false
def ordGo (ops : Array Oper) : Nat → List Nat → List Nat
  | 0, _ => []
  | k + 1, seen => match (List.range ops.size).find? (fun i => rdyAt ops seen i && !isEffAt ops i) with
    | some i => i :: ordGo ops k (i :: seen)
    | none => match (List.range ops.size).find? (rdyAt ops seen) with
      | some i => i :: ordGo ops k (i :: seen)
      | none => []
def ordOf (ops : Array Oper) : List Nat := ordGo ops ops.size []

/-- Values that are the same, where that is told. -/
def veq : Nat → Value → Value → Bool
  | 0, _, _ => false
  | d + 1, a, b => match a, b with
    | .bool x, .bool y => x == y
    | .int k n, .int k' n' => decide (k = k') && decide (n = n')
    | .pointer x, .pointer y => decide (x = y)
    | .slice x n c, .slice x' n' c' => decide (x = x') && Nat.beq n n' && Nat.beq c c'
    | .map x, .map y => decide (x = y)
    | .nilIface, .nilIface => true
    | .nilFunc, .nilFunc => true
    | .iface t v, .iface t' v' => decide (t = t') && veq d v v'
    | .agg x, .agg y => go d x.toList y.toList
    | _, _ => false
where go : Nat → List Value → List Value → Bool
  | 0, _, _ => false
  | _ + 1, [], [] => true
  | d + 1, x :: xs, y :: ys => veq d x y && go d xs ys
  | _, _, _ => false

def stableB (P : Program) (ops : Array Oper) (tbl : List (List Nat)) (e : Nat) (H : AH) : List (Nat × Tr Value × Value) → Bool
  | [] => true
  | x :: l => (ancB tbl x.1 e || match ops[x.1]? with
      | some o => match aQuiet P (aEval x.2.1.act) H o.op with
        | some v => veq 40 v x.2.2
        | none => false
      | none => false) && stableB P ops tbl e H l

/-- Is this a look at memory that the machine may make later? -/
def isFl (P : Program) (ops : Array Oper) (tbl : List (List Nat)) (o : Oper) (i : Nat) (rest : List Nat) : Bool :=
  match cls o.op with
  | .quiet => !pureOp P o.op && floats ops tbl i rest
  | _ => false

def evOrd (C : Caller) (P : Program) (ops : Array Oper) (tbl : List (List Nat)) : List Nat → List (Nat × Tr Value × Value) → Tr Value → EH → Option (Tr Value × EH)
  | [], _, t, E => some (t, E)
  | i :: rest, fl, t, E => match ops[i]? with
    | none => none
    | some o => match Region.wanted o (aYield ops t.act) with
      | true => match evOne C P o.op (aEval t.act) E with
        | some (v, E') => match !isEff o || stableB P ops tbl i E'.toAH fl with
          | true => match putT t o.dst v with
            | some t' => match isFl P ops tbl o i rest with
              | true => evOrd C P ops tbl rest ((i, t, v) :: fl) t' E'
              | false => evOrd C P ops tbl rest fl t' E'
            | none => none
          | false => none
        | none => none
      | false => match putT t o.dst undef with
        | some t' => evOrd C P ops tbl rest fl t' E
        | none => none

/-! ### Code and calls -/

def initT : Nat → List Value → Tr Value → Option (Tr Value)
  | _, [], t => some t
  | i, v :: l, t => match t.set 40 i v with
    | some t => initT (i + 1) l t
    | none => none

def eRes (P : Program) (α : AAct) (H : AH) : List ResultVar → Option (List Value)
  | [] => some []
  | .tmp t :: l => match eRes P α H l with
    | some vs => some (α t :: vs)
    | none => none
  | .cell a t :: l => match aLoad P t (α a) H, eRes P α H l with
    | some v, some vs => some (v :: vs)
    | _, _ => none
def evCall (R : Nat → Code → Tr Value → EH → Option (Exit × Tr Value × EH)) (prim : FuncId → Option Caller) (P : Program) : Caller := fun f args E =>
  match prim f with
  | some C => C f args E
  | none => match P.funcs[f]? with
    | some fn => match fn.body with
      | some c => match Nat.ble args.size fn.ntmps, initT 0 args.toList .nil with
        | true, some t => match R fn.ntmps c t E with
          | some (.normal, t', E') | some (.ret, t', E') => match eRes P t'.act E'.toAH fn.results.toList with
            | some vs => match nfV 6 (pack vs) with
              | some v => some (v, E')
              | none => none
            | none => none
          | _ => none
        | _, _ => none
      | none => none
    | none => none

def ev (prim : FuncId → Option Caller) (P : Program) : Nat → Nat → Code → Tr Value → EH → Option (Exit × Tr Value × EH)
  | 0, _, _, _, _ => none
  | n + 1, N, c, t, E => match c with
    | .skip => some (.normal, t, E)
    | .label _ => some (.normal, t, E)
    | .seq x y => match ev prim P n N x t E with
      | some (.normal, t', E') => ev prim P n N y t' E'
      | r => r
    | .cond c x y => match opndOk c with
      | true => match aEval t.act c with
        | .bool true => ev prim P n N x t E
        | .bool false => ev prim P n N y t E
        | _ => none
      | false => none
    | .block id c => match ev prim P n N c t E with
      | some (.exit id', t', E') => match Nat.beq id' id with
        | true => some (.normal, t', E')
        | false => some (.exit id', t', E')
      | r => r
    | .loop c => match ev prim P n N c t E with
      | some (.normal, t', E') => ev prim P n N (.loop c) t' E'
      | r => r
    | .exit id => some (.exit id, t, E)
    | .ret => some (.ret, t, E)
    | .region _ ops false => match opsOk N ops.toList with
      | true => match evSeq (evCall (ev prim P n) prim P) P ops ops.toList t E with
        | some (t', E') => some (.normal, t', E')
        | none => none
      | false => none
    | .region _ ops true => match drawOk N ops (ordOf ops) with
      | true => match evOrd (evCall (ev prim P n) prim P) P ops (ancTbl ops.toList) (ordOf ops) [] t E with
        | some (t', E') => some (.normal, t', E')
        | none => none
      | false => none
    | _ => none

end Go.Vd
