/- An evaluator over the abstract heap, for calls on closed values: trees for registers and for the heap. -/
import Derived.Test.YtcgjelpcgdjecaaGreatDoorPopVdP
namespace Go.Vd

inductive Tr (α : Type)
  | nil
  | node (v : Option α) (l r : Tr α)

def Tr.get {α : Type} : Tr α → Nat → Option α
  | .nil, _ => none
  | .node v l r, i => match Nat.beq i 0 with
    | true => v
    | false => match Nat.beq (i % 2) 1 with
      | true => l.get (i / 2)
      | false => r.get (i / 2 - 1)

def Tr.set {α : Type} : Nat → Tr α → Nat → α → Option (Tr α)
  | 0, _, _, _ => none
  | d + 1, .nil, i, x => match Nat.beq i 0 with
    | true => some (.node (some x) .nil .nil)
    | false => match Nat.beq (i % 2) 1 with
      | true => match Tr.set d .nil (i / 2) x with
        | some t => some (.node none t .nil)
        | none => none
      | false => match Tr.set d .nil (i / 2 - 1) x with
        | some t => some (.node none .nil t)
        | none => none
  | d + 1, .node v l r, i, x => match Nat.beq i 0 with
    | true => some (.node (some x) l r)
    | false => match Nat.beq (i % 2) 1 with
      | true => match Tr.set d l (i / 2) x with
        | some t => some (.node v t r)
        | none => none
      | false => match Tr.set d r (i / 2 - 1) x with
        | some t => some (.node v l t)
        | none => none

/-! ### Forcing -/

def nfN : Nat → Option Nat
  | 0 => some 0
  | n + 1 => some (Nat.succ n)
def nfI : Int → Option Int
  | .ofNat 0 => some (.ofNat 0)
  | .ofNat (n + 1) => some (.ofNat (Nat.succ n))
  | .negSucc 0 => some (.negSucc 0)
  | .negSucc (n + 1) => some (.negSucc (Nat.succ n))
def nfA : Addr → Option Addr
  | ⟨b, o, none⟩ => match nfN b, nfN o with
    | some b, some o => some ⟨b, o, none⟩
    | _, _ => none
  | _ => none
def nfL (f : Value → Option Value) : List Value → Option (List Value)
  | [] => some []
  | v :: l => match f v, nfL f l with
    | some v, some l => some (v :: l)
    | _, _ => none
def nfV : Nat → Value → Option Value
  | 0, _ => none
  | d + 1, v => match v with
    | .bool true => some (.bool true)
    | .bool false => some (.bool false)
    | .int k n => match nfI n with
      | some n => some (.int k n)
      | none => none
    | .pointer none => some (.pointer none)
    | .pointer (some a) => match nfA a with
      | some a => some (.pointer (some a))
      | none => none
    | .slice none n c => match nfN n, nfN c with
      | some n, some c => some (.slice none n c)
      | _, _ => none
    | .slice (some a) n c => match nfA a, nfN n, nfN c with
      | some a, some n, some c => some (.slice (some a) n c)
      | _, _, _ => none
    | .map none => some (.map none)
    | .map (some b) => match nfN b with
      | some b => some (.map (some b))
      | none => none
    | .func fn a c => match nfL (nfV d) a.toList, nfL (nfV d) c.toList with
      | some a, some c => some (.func fn ⟨a⟩ ⟨c⟩)
      | _, _ => none
    | .iface t v => match nfV d v with
      | some v => some (.iface t v)
      | none => none
    | .agg a => match nfL (nfV d) a.toList with
      | some a => some (.agg ⟨a⟩)
      | none => none
    | .tuple a => match nfL (nfV d) a.toList with
      | some a => some (.tuple ⟨a⟩)
      | none => none
    | v => some v

def over : List Value → List Value → Option (List Value)
  | cs, [] => some cs
  | _ :: cs, v :: vs => match over cs vs with
    | some r => some (v :: r)
    | none => none
  | [], _ :: _ => none
def spl : List Value → Nat → List Value → Option (List Value)
  | cs, 0, vs => over cs vs
  | c :: cs, n + 1, vs => match spl cs n vs with
    | some r => some (c :: r)
    | none => none
  | [], _ + 1, _ => none

/-! ### The heap as trees -/

def memN : List Nat → Nat → Bool
  | [], _ => false
  | x :: l, i => match Nat.beq x i with
    | true => true
    | false => memN l i

structure EH where
  tr : Tr AObj
  al : Tr (List Nat)
  n : Nat

def EH.fam (E : EH) (φ : Nat) : List Nat := (E.al.get φ).getD []

def EH.get (E : EH) (b : Nat) : Option AObj :=
  match E.tr.get b with
  | some (.row (.loose φ sz) cs) => match memN (E.fam φ) b with
    | true => some (.row (.loose φ sz) cs)
    | false => some .dead
  | o => o

def EH.toAH (E : EH) : AH := { get := E.get, next := E.n }

def EH.nil : EH := ⟨.nil, .nil, 0⟩

def EH.push (E : EH) (ob : AObj) : Option EH :=
  match E.tr.set 40 E.n ob, nfN (E.n + 1) with
  | some tr, some n => match ob with
    | .row (.loose φ _) _ => match E.al.set 40 φ (E.n :: E.fam φ) with
      | some al => some ⟨tr, al, n⟩
      | none => none
    | _ => some ⟨tr, E.al, n⟩
  | _, _ => none

/-- A block's content is another one, of the same kind. -/
def EH.upd (E : EH) (b : Nat) (ob : AObj) : Option EH :=
  match E.tr.set 40 b ob with
  | some tr => some ⟨tr, E.al, E.n⟩
  | none => none

def keepN : List Nat → Nat → List Nat
  | [], _ => []
  | x :: l, i => match Nat.beq x i with
    | true => [x]
    | false => keepN l i

def EH.kill (E : EH) (φ b : Nat) : Option EH :=
  match E.al.set 40 φ (keepN (E.fam φ) b) with
  | some al => some ⟨E.tr, al, E.n⟩
  | none => none

theorem AH.ext' {A B : AH} (h : ∀ b, A.get b = B.get b) (hn : A.next = B.next) : A = B := by
  obtain ⟨g, n⟩ := A
  obtain ⟨g', n'⟩ := B
  dsimp only at h hn
  subst hn
  have : g = g' := funext h
  rw [this]

end Go.Vd
