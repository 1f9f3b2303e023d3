/- The evaluator's operations, and that they are the abstract heap's. -/
import Derived.Test.YtcgjelpcgdjecaaGreatDoorPopVdS
namespace Go.Vd

variable {P : Program}

def ePuts (E : EH) (b o : Nat) (vs : List Value) : Option EH :=
  match E.get b with
  | some (.row .own cs) => match spl cs o vs with
    | some r => E.upd b (.row .own r)
    | none => none
  | some (.row (.loose φ sz) cs) => match spl cs o vs with
    | some r => match E.kill φ b with
      | some E1 => E1.upd b (.row (.loose φ sz) r)
      | none => none
    | none => none
  | _ => none

def forceL : List Value → Option (List Value)
  | [] => some []
  | v :: l => match forceL l with
    | some l => some (v :: l)
    | none => none
def eAppend (E : EH) (sz bytes : Nat) (s : Value) (n : Nat) (vs : List Value) : Option (Value × EH) :=
  if sz = 0 ∨ vs.length ≠ n * sz then none else
  match s with
  | .slice base len cap =>
    if len + n ≤ cap then
      match base with
      | none => if len + n = 0 then some (.slice none 0 cap, E) else none
      | some ⟨b, o, none⟩ => if n = 0 then some (s, E) else match ePuts E b (o + len * sz) vs with
        | some E' => some (.slice base (len + n) cap, E')
        | none => none
      | some _ => none
    else if bytes = 0 ∨ ((len + n) + (len + n) / 4 + 512) * bytes > 2 ^ 48 then none else
      match base with
      | none => if len = 0 ∧ cap = 0 then match forceL vs with
          | some vs => match E.push (.row (.loose E.n sz) vs) with
            | some E' => some (.slice (some ⟨E.n, 0, none⟩) n n, E')
            | none => none
          | none => none
        else none
      | some ⟨b, o, none⟩ =>
        match E.toAH.cells b o (len * sz), E.get b with
        | some old, some (.row (.loose φ sz') cs) =>
          if sz' = sz ∧ o + cap * sz = cs.length then
            match forceL (old ++ vs), E.kill φ (if len = cap then b else E.n) with
            | some l, some E1 => match E1.push (.row (.loose φ sz) l) with
              | some E' => some (.slice (some ⟨E.n, 0, none⟩) (len + n) (len + n), E')
              | none => none
            | _, _ => none
          else none
        | some old, some (.row _ _) => match forceL (old ++ vs) with
            | some l => match E.push (.row (.loose E.n sz) l) with
              | some E' => some (.slice (some ⟨E.n, 0, none⟩) (len + n) (len + n), E')
              | none => none
            | none => none
        | _, _ => none
      | some _ => none
  | _ => none

def eStore (P : Program) (t : TypeId) (a x : Value) (E : EH) : Option EH :=
  match a, P.info? t with
  | .pointer (some ⟨b, o, none⟩), some i => if x.cells.size = i.size ∧ allOne x.cells.toList = true then ePuts E b o x.cells.toList else none
  | _, _ => none

def eAppendOp (P : Program) (at_ : Array TypeId) (s x : Value) (H : EH) : Option (Value × EH) :=
  match at_[0]?.bind (elemInfo P), at_[1]?.bind P.underlying with
  | some (_, i, _), some (.slice _) =>
    match x with
    | .slice none _ _ => eAppend H i.size i.bytes s 0 []
    | .slice (some ⟨b, o, none⟩) m _ => match H.toAH.cells b o (m * i.size) with
      | some vs => if allOne vs = true then eAppend H i.size i.bytes s m vs else none
      | none => none
    | _ => none
  | some (_, i, z), some (.int _) =>
    match x with
    | .int _ n => if 0 ≤ n ∧ n ≤ 9223372036854775807 ∧ n.toNat * i.bytes ≤ 2 ^ 48 then eAppend H i.size i.bytes s n.toNat (zerosOf z n.toNat) else none
    | _ => none
  | _, _ => none

def eCopy (P : Program) (at_ : Array TypeId) (d s : Value) (H : EH) : Option (Value × EH) :=
  match at_[0]?.bind (elemInfo P) with
  | some (_, i, _) =>
    match d, s with
    | .slice da dl _, .slice sa sl _ =>
      if Nat.min sl dl = 0 then some (.int .i64 0, H) else
      match da, sa with
      | some ⟨db, dof, none⟩, some ⟨sb, so, none⟩ =>
        match H.toAH.cells sb so (Nat.min sl dl * i.size) with
        | some vs => match ePuts H db dof vs with
          | some H' => some (.int .i64 (Nat.min sl dl : Nat), H')
          | none => none
        | none => none
      | _, _ => none
    | _, _ => none
  | none => none

def eClear (P : Program) (at_ : Array TypeId) (d : Value) (H : EH) : Option EH :=
  match at_[0]?.bind (elemInfo P) with
  | some (_, _, z) =>
    match d with
    | .slice none _ _ => some H
    | .slice (some ⟨b, o, none⟩) n _ => if n = 0 then some H else ePuts H b o (zerosOf z n)
    | _ => none
  | none => none

def setE : List (Value × Value) → Nat → Value × Value → Option (List (Value × Value))
  | [], _, _ => some []
  | _ :: l, 0, e => some (e :: l)
  | x :: l, n + 1, e => match setE l n e with
    | some l => some (x :: l)
    | none => none
def addE : List (Value × Value) → Value × Value → Option (List (Value × Value))
  | [], e => some [e]
  | x :: l, e => match addE l e with
    | some l => some (x :: l)
    | none => none
def delE : List (Value × Value) → Nat → Option (List (Value × Value))
  | [], _ => some []
  | _ :: l, 0 => some l
  | x :: l, n + 1 => match delE l n with
    | some l => some (x :: l)
    | none => none
def eUpdate (P : Program) (t : TypeId) (m k v : Value) (H : EH) : Option EH :=
  match P.underlying t, m with
  | some (.map kt _), .map (some b) =>
    match P.underlying kt, H.get b with
    | some d, some (.map es clock) =>
      if keyT P kt && plain0 k then
        match aFind d k es 0 with
        | some (some (i, _)) => match setE es i (k, v) with
          | some l => H.upd b (.map l clock)
          | none => none
        | some none => match addE es (k, v), nfN (clock + 1) with
          | some l, some c => H.upd b (.map l c)
          | _, _ => none
        | none => none
      else none
    | _, _ => none
  | _, _ => none

def eDelete (P : Program) (at_ : Array TypeId) (m k : Value) (H : EH) : Option EH :=
  match at_[0]?.bind P.underlying, m with
  | some (.map kt _), .map (some b) =>
    match P.underlying kt, H.get b with
    | some d, some (.map es clock) =>
      if keyT P kt then
        match aFind d k es 0 with
        | some (some (i, _)) => match delE es i with
          | some l => H.upd b (.map l clock)
          | none => none
        | some none => H.upd b (.map es clock)
        | none => none
      else none
    | _, _ => none
  | _, _ => none

def eEff (P : Program) (ρ : Operand → Value) (E : EH) : Op → Option (Value × EH)
  | .store t a x => match eStore P t (ρ a) (ρ x) E with
    | some E' => some (undef, E')
    | none => none
  | .mapUpdate t m k v => match eUpdate P t (ρ m) (ρ k) (ρ v) E with
    | some E' => some (undef, E')
    | none => none
  | .insert t m k v => match eUpdate P t (ρ m) (ρ k) (ρ v) E with
    | some E' => some (undef, E')
    | none => none
  | .call { callee := .builtin .append, args, argTypes } => match args.toList with
    | [s, x] => eAppendOp P argTypes (ρ s) (ρ x) E
    | _ => none
  | .call { callee := .builtin .copy, args, argTypes } => match args.toList with
    | [d, s] => eCopy P argTypes (ρ d) (ρ s) E
    | _ => none
  | .call { callee := .builtin .clear, args, argTypes } => match args.toList with
    | [d] => match eClear P argTypes (ρ d) E with
      | some E' => some (.tuple #[], E')
      | none => none
    | _ => none
  | .call { callee := .builtin .delete, args, argTypes } => match args.toList with
    | [m, k] => match eDelete P argTypes (ρ m) (ρ k) E with
      | some E' => some (.tuple #[], E')
      | none => none
    | _ => none
  | _ => none

end Go.Vd
