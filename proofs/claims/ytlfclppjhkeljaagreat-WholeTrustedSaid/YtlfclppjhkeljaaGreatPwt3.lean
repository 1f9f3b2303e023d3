/- The walks of the functions (printed by a program of ours). -/
import Derived.Test.YtlfclppjhkeljaaGreatPwt2
import Derived.Test.YtlfclppjhkeljaaGreatPwtIWt
import Derived.Test.YtlfclppjhkeljaaGreatPwtVeN
import Derived.Test.YtlfclppjhkeljaaGreatPwtVeT
set_option linter.unusedVariables false
set_option linter.unusedSimpArgs false
set_option linter.unusedSectionVars false
namespace Go.Vd
/-! Steps under short names: what is reckoned is reckoned by itself. -/
section
set_option linter.unusedSectionVars false
variable [Pins] {P : Program} {ops : Array Oper} {K : AAct -> AH -> Prop} {α : AAct} {H : AH} {o : Oper} {rest : List Oper} {tbl : List (List Nat)} {i : Nat} {rs : List Nat} {fl : List (Nat × AAct × Value)}
theorem q_ (v : Value) (k : Zs P ops K rest (α.put o.dst v) H) (h : ZbA P ops o α H = some v := by kernel_rfl) : Zs P ops K (o :: rest) α H := ZfI v h k
theorem l_' (v : Value) (x : Option Value) (h : x = some v) (k : Zs P ops K rest (α.put o.dst v) H) (h1 : ZbA P ops o α H = x := by kernel_rfl) : Zs P ops K (o :: rest) α H := Zc5 v h1 h k
theorem e_' (v : Value) (k : Zu P ops tbl K rs fl (α.put (Zac ops i) v) H) (h : Zcx P ops tbl i rs α H = some v := by kernel_rfl) : Zu P ops tbl K (i :: rs) fl α H := ZfC v h k
theorem m_' (v : Value) (x : Option Value) (h : x = some v) (k : Zu P ops tbl K rs fl (α.put (Zac ops i) v) H) (h1 : Zcx P ops tbl i rs α H = x := by kernel_rfl) : Zu P ops tbl K (i :: rs) fl α H := Zdv v h1 h k
theorem ZjL : ∀ {l : List (Nat × Value)}, (l.map fun p => α p.1) = l.map (·.2) -> Has α l
  | [], _ => trivial
  | (_, _) :: _, h => ⟨(List.cons.inj h).1, ZjL (List.cons.inj h).2⟩
theorem ha_ {l : List (Nat × Value)} (h : (l.map fun p => α p.1) = l.map (·.2) := by kernel_rfl) : Has α l := ZjL h
theorem n_' (k : Zs P ops K rest (α.put o.dst undef) H) (hg : Region.wanted o (ZV ops α) = false := by kernel_rfl) : Zs P ops K (o :: rest) α H := s_no hg k
theorem j_' (k : Zu P ops tbl K rs fl (α.put (Zac ops i) undef) H) (h : Zhm ops i α = true := by kernel_rfl) : Zu P ops tbl K (i :: rs) fl α H := Zj7 h k
theorem g_' {N id : Nat} {l : List Oper} {Q : Exit -> AAct -> AH -> Prop} (h : Zs P l.toArray (Q .normal) l α H) (hok : Zd6 N l = true := by kernel_rfl) : aWp P N (.region id l.toArray false) Q α H := ZkG hok h
theorem w_' (x : Int) (hw : IntKind.i64.wrap x = x) (kk : Zs P ops K rest (α.put o.dst (.int .i64 x)) H) (h : ZbA P ops o α H = some (.int .i64 (IntKind.i64.wrap x)) := by kernel_rfl) : Zs P ops K (o :: rest) α H := s_w x h hw kk
end
abbrev i_ (n : Int) : Value := .int .i64 n
abbrev pt_ (b o : Nat) : Value := .pointer (some ⟨b, o, none⟩)
end Go.Vd
namespace Go.Vd
section
set_option linter.unusedSectionVars false
variable [Pins] {N : Nat} {Q : Exit -> AAct -> AH -> Prop} {ops : Array Oper} {K : AAct -> AH -> Prop} {α : AAct} {H : AH} {tbl : List (List Nat)} {fl : List (Nat × AAct × Value)}
noncomputable def vQ (ops : Array Oper) (o : Oper) (α : AAct) (H : AH) : Value := if Region.wanted o (ZV ops α) = true then (ZbA Go.Proofs.Tryz.prog ops o α H).getD undef else undef
noncomputable def rQ (ops : Array Oper) (H : AH) : Nat -> List Oper -> AAct -> AAct
  | 0, _, α => α
  | n + 1, l, α => match l with | [] => α | o :: r => rQ ops H n r (α.put o.dst (vQ ops o α H))
noncomputable def kQ (ops : Array Oper) (H : AH) : Nat -> List Oper -> AAct -> Bool
  | 0, _, _ => true
  | n + 1, l, α => match l with | [] => true | o :: r => (!Region.wanted o (ZV ops α) || (ZbA Go.Proofs.Tryz.prog ops o α H).isSome) && kQ ops H n r (α.put o.dst (vQ ops o α H))
theorem qs_ {rest : List Oper} (n : Nat) (k : Zs Go.Proofs.Tryz.prog ops K (rest.drop n) (rQ ops H n rest α) H) (h : kQ ops H n rest α = true := by kernel_rfl) : Zs Go.Proofs.Tryz.prog ops K rest α H := by
  induction n generalizing rest α with
  | zero => exact k
  | succ n ih =>
    cases rest with
    | nil => exact k
    | cons o r =>
      simp only [kQ, Bool.and_eq_true, Bool.or_eq_true, Bool.not_eq_true'] at h
      have t := ih k h.2
      cases hw : Region.wanted o (ZV ops α) with
      | false => exact s_no hw (by rwa [show vQ ops o α H = undef by unfold vQ; rw [hw]; rfl] at t)
      | true =>
        obtain ⟨v, hv⟩ := Option.isSome_iff_exists.1 (h.1.resolve_left (by rw [hw]; decide))
        exact ZfI v hv (by rwa [show vQ ops o α H = v by unfold vQ; rw [hw, hv]; rfl] at t)
theorem sn_ {id : Nat} {l : List Oper} {y : Code} (k : aWp Go.Proofs.Tryz.prog N y Q (rQ l.toArray H l.length l α) H) (hok : Zd6 N l = true := by kernel_rfl) (h : kQ l.toArray H l.length l α = true := by kernel_rfl) : aWp Go.Proofs.Tryz.prog N (.seq (.region id l.toArray false) y) Q α H :=
  ZjW fun _ kk => ZkG hok (qs_ l.length (by rw [List.drop_length]; exact Za (kk _ _ k)) h)
noncomputable def vD (ops : Array Oper) (tbl : List (List Nat)) (i : Nat) (r : List Nat) (α : AAct) (H : AH) : Value := if Zhm ops i α = true then undef else (Zcx Go.Proofs.Tryz.prog ops tbl i r α H).getD undef
noncomputable def rD (ops : Array Oper) (tbl : List (List Nat)) (H : AH) : Nat -> List Nat -> AAct -> AAct
  | 0, _, α => α
  | n + 1, l, α => match l with | [] => α | i :: r => rD ops tbl H n r (α.put (Zac ops i) (vD ops tbl i r α H))
noncomputable def kD (ops : Array Oper) (tbl : List (List Nat)) (H : AH) : Nat -> List Nat -> AAct -> Bool
  | 0, _, _ => true
  | n + 1, l, α => match l with | [] => true | i :: r => (Zhm ops i α || (Zcx Go.Proofs.Tryz.prog ops tbl i r α H).isSome) && kD ops tbl H n r (α.put (Zac ops i) (vD ops tbl i r α H))
theorem es_ {rs : List Nat} (n : Nat) (k : Zu Go.Proofs.Tryz.prog ops tbl K (rs.drop n) fl (rD ops tbl H n rs α) H) (h : kD ops tbl H n rs α = true := by kernel_rfl) : Zu Go.Proofs.Tryz.prog ops tbl K rs fl α H := by
  induction n generalizing rs α with
  | zero => exact k
  | succ n ih =>
    cases rs with
    | nil => exact k
    | cons i r =>
      simp only [kD, Bool.and_eq_true, Bool.or_eq_true] at h
      have t := ih k h.2
      cases hw : Zhm ops i α with
      | true => exact Zj7 hw (by rwa [show vD ops tbl i r α H = undef by unfold vD; rw [hw]; rfl] at t)
      | false =>
        obtain ⟨v, hv⟩ := Option.isSome_iff_exists.1 (h.1.resolve_left (by rw [hw]; decide))
        exact ZfC v hv (by rwa [show vD ops tbl i r α H = v by unfold vD; rw [hw, hv]; rfl] at t)
end
end Go.Vd
namespace Go.Vd
section
variable [Pins] {P : Program} {α : AAct} {H H' : AH} {W : Fp} {b o : Nat} {cs : List Value} {t : TypeId} {v : Value}
theorem Ext.n (h : Ext H H') : H.next ≤ H'.next := h.next
theorem FrS.n (h : FrS W H H') : H.next ≤ H'.next := h.next
theorem t_ {a b c : Nat} (h : a ≤ b) (k : b ≤ c) : a ≤ c := Nat.le_trans h k
theorem Row.l_ (h : Row H b cs) (hv : ZdM P t cs o = some v := by kernel_rfl) : ZbR P t (.pointer (some ⟨b, o, none⟩)) H = some v := h.ld hv
theorem rt_ {t : Nat} {v : Value} {l : List ResultVar} {vs : List Value} (hr : ZcL P α H l = some vs) (h : α t = v := by kernel_rfl) : ZcL P α H (.tmp t :: l) = some (v :: vs) := Zkg h hr
theorem oi_ {E : Type} {a b : E} (h : some a = some b) : a = b := Option.some.inj h
theorem f0_ (wf : WF H) : FrS [] H H := .refl wf
noncomputable abbrev aL_ (t : TypeId) (v : Value) (H : AH) : Option Value := ZbR Go.Proofs.Tryz.prog t v H
end
end Go.Vd
namespace Go.Vd
section
set_option linter.unusedSectionVars false
variable [Pins] {N : Nat} {Q : Exit -> AAct -> AH -> Prop} {ops : Array Oper} {K : AAct -> AH -> Prop} {α : AAct} {H H' : AH} {o : Oper} {rest : List Oper} {tbl : List (List Nat)} {i : Nat} {rs : List Nat} {fl : List (Nat × AAct × Value)}
variable {b : Nat} {cs : List Value} {E : Type} {enc : E -> List Value} {sz : Nat} {s : Value} {xs : List E} {fp : Fp} {j : Int}
theorem lr_ (t : TypeId) (p : Nat) (v : Value) (u : Row H b cs) (k : Zs Go.Proofs.Tryz.prog ops K rest (α.put o.dst v) H) (hv : ZdM Go.Proofs.Tryz.prog t cs p = some v := by kernel_rfl) (h1 : ZbA Go.Proofs.Tryz.prog ops o α H = ZbR Go.Proofs.Tryz.prog t (.pointer (some ⟨b, p, none⟩)) H := by kernel_rfl) : Zs Go.Proofs.Tryz.prog ops K (o :: rest) α H := Zc5 v h1 (u.ld hv) k
theorem mr_ (t : TypeId) (p : Nat) (v : Value) (u : Row H b cs) (k : Zu Go.Proofs.Tryz.prog ops tbl K rs fl (α.put (Zac ops i) v) H) (hv : ZdM Go.Proofs.Tryz.prog t cs p = some v := by kernel_rfl) (h1 : Zcx Go.Proofs.Tryz.prog ops tbl i rs α H = ZbR Go.Proofs.Tryz.prog t (.pointer (some ⟨b, p, none⟩)) H := by kernel_rfl) : Zu Go.Proofs.Tryz.prog ops tbl K (i :: rs) fl α H := Zdv v h1 (u.ld hv) k
theorem le_ [Inhabited E] (t : TypeId) (f : Nat) (v : Value) (u : Sq enc sz H s xs fp) (h0 : 0 ≤ j) (h2 : j < (xs.length : Int)) (k : Zs Go.Proofs.Tryz.prog ops K rest (α.put o.dst v) H) (hv : ZdM Go.Proofs.Tryz.prog t (enc (gt xs j)) f = some v := by kernel_rfl) (h1 : ZbA Go.Proofs.Tryz.prog ops o α H = ZbR Go.Proofs.Tryz.prog t (elp s sz j.toNat f) H := by kernel_rfl) : Zs Go.Proofs.Tryz.prog ops K (o :: rest) α H := Zc5 v h1 (u.ld h0 h2 hv) k
theorem me_ [Inhabited E] (t : TypeId) (f : Nat) (v : Value) (u : Sq enc sz H s xs fp) (h0 : 0 ≤ j) (h2 : j < (xs.length : Int)) (k : Zu Go.Proofs.Tryz.prog ops tbl K rs fl (α.put (Zac ops i) v) H) (hv : ZdM Go.Proofs.Tryz.prog t (enc (gt xs j)) f = some v := by kernel_rfl) (h1 : Zcx Go.Proofs.Tryz.prog ops tbl i rs α H = ZbR Go.Proofs.Tryz.prog t (elp s sz j.toNat f) H := by kernel_rfl) : Zu Go.Proofs.Tryz.prog ops tbl K (i :: rs) fl α H := Zdv v h1 (u.ld h0 h2 hv) k
theorem Sq.ix_ (u : Sq enc sz H s xs fp) (t : TypeId) (h0 : 0 ≤ j) (h2 : j < (xs.length : Int)) (k : Zs Go.Proofs.Tryz.prog ops K rest (α.put o.dst (elp s sz j.toNat 0)) H) (ht : ZcM Go.Proofs.Tryz.prog t = some sz := by kernel_rfl) (h1 : ZbA Go.Proofs.Tryz.prog ops o α H = ZB Go.Proofs.Tryz.prog t s (.int .i64 j) := by kernel_rfl) : Zs Go.Proofs.Tryz.prog ops K (o :: rest) α H := Zc5 _ h1 (u.idxb ht h0 h2) k
theorem Sq.mx_ (u : Sq enc sz H s xs fp) (t : TypeId) (h0 : 0 ≤ j) (h2 : j < (xs.length : Int)) (k : Zu Go.Proofs.Tryz.prog ops tbl K rs fl (α.put (Zac ops i) (elp s sz j.toNat 0)) H) (ht : ZcM Go.Proofs.Tryz.prog t = some sz := by kernel_rfl) (h1 : Zcx Go.Proofs.Tryz.prog ops tbl i rs α H = ZB Go.Proofs.Tryz.prog t s (.int .i64 j) := by kernel_rfl) : Zu Go.Proofs.Tryz.prog ops tbl K (i :: rs) fl α H := Zdv _ h1 (u.idxb ht h0 h2) k
theorem Sq.ln_ (u : Sq enc sz H s xs fp) (t : TypeId) (k : Zs Go.Proofs.Tryz.prog ops K rest (α.put o.dst (.int .i64 xs.length)) H) (ht : Zey Go.Proofs.Tryz.prog t = true := by kernel_rfl) (h1 : ZbA Go.Proofs.Tryz.prog ops o α H = ZdC Go.Proofs.Tryz.prog t s H := by kernel_rfl) : Zs Go.Proofs.Tryz.prog ops K (o :: rest) α H := Zc5 _ h1 (u.lenb ht) k
theorem Sq.mn_ (u : Sq enc sz H s xs fp) (t : TypeId) (k : Zu Go.Proofs.Tryz.prog ops tbl K rs fl (α.put (Zac ops i) (.int .i64 xs.length)) H) (ht : Zey Go.Proofs.Tryz.prog t = true := by kernel_rfl) (h1 : Zcx Go.Proofs.Tryz.prog ops tbl i rs α H = ZdC Go.Proofs.Tryz.prog t s H := by kernel_rfl) : Zu Go.Proofs.Tryz.prog ops tbl K (i :: rs) fl α H := Zdv _ h1 (u.lenb ht) k
theorem Nst.ix_ {C : CR E} (u : Nst C H s xs fp) (t : TypeId) (h0 : 0 ≤ j) (h2 : j < (xs.length : Int)) (k : Zs Go.Proofs.Tryz.prog ops K rest (α.put o.dst (elp s C.sz j.toNat 0)) H) (ht : ZcM Go.Proofs.Tryz.prog t = some C.sz := by kernel_rfl) (h1 : ZbA Go.Proofs.Tryz.prog ops o α H = ZB Go.Proofs.Tryz.prog t s (.int .i64 j) := by kernel_rfl) : Zs Go.Proofs.Tryz.prog ops K (o :: rest) α H := Zc5 _ h1 (u.idxb ht h0 h2) k
theorem Nst.mx_ {C : CR E} (u : Nst C H s xs fp) (t : TypeId) (h0 : 0 ≤ j) (h2 : j < (xs.length : Int)) (k : Zu Go.Proofs.Tryz.prog ops tbl K rs fl (α.put (Zac ops i) (elp s C.sz j.toNat 0)) H) (ht : ZcM Go.Proofs.Tryz.prog t = some C.sz := by kernel_rfl) (h1 : Zcx Go.Proofs.Tryz.prog ops tbl i rs α H = ZB Go.Proofs.Tryz.prog t s (.int .i64 j) := by kernel_rfl) : Zu Go.Proofs.Tryz.prog ops tbl K (i :: rs) fl α H := Zdv _ h1 (u.idxb ht h0 h2) k
theorem Nst.ln_ {C : CR E} (u : Nst C H s xs fp) (t : TypeId) (k : Zs Go.Proofs.Tryz.prog ops K rest (α.put o.dst (.int .i64 xs.length)) H) (ht : Zey Go.Proofs.Tryz.prog t = true := by kernel_rfl) (h1 : ZbA Go.Proofs.Tryz.prog ops o α H = ZdC Go.Proofs.Tryz.prog t s H := by kernel_rfl) : Zs Go.Proofs.Tryz.prog ops K (o :: rest) α H := Zc5 _ h1 (u.lenb ht) k
theorem Nst.mn_ {C : CR E} (u : Nst C H s xs fp) (t : TypeId) (k : Zu Go.Proofs.Tryz.prog ops tbl K rs fl (α.put (Zac ops i) (.int .i64 xs.length)) H) (ht : Zey Go.Proofs.Tryz.prog t = true := by kernel_rfl) (h1 : Zcx Go.Proofs.Tryz.prog ops tbl i rs α H = ZdC Go.Proofs.Tryz.prog t s H := by kernel_rfl) : Zu Go.Proofs.Tryz.prog ops tbl K (i :: rs) fl α H := Zdv _ h1 (u.lenb ht) k
theorem Hol.ix_ {E' : Type} {C : CR E} {enc' : E' -> List Value} {sz' off q : Nat} {upd : List E' -> E} (u : Hol C enc' sz' H s xs q off upd fp) (t : TypeId) (h0 : 0 ≤ j) (h2 : j < (xs.length : Int)) (k : Zs Go.Proofs.Tryz.prog ops K rest (α.put o.dst (elp s C.sz j.toNat 0)) H) (ht : ZcM Go.Proofs.Tryz.prog t = some C.sz := by kernel_rfl) (h1 : ZbA Go.Proofs.Tryz.prog ops o α H = ZB Go.Proofs.Tryz.prog t s (.int .i64 j) := by kernel_rfl) : Zs Go.Proofs.Tryz.prog ops K (o :: rest) α H := Zc5 _ h1 (u.idxb ht h0 h2) k
theorem Hol.mx_ {E' : Type} {C : CR E} {enc' : E' -> List Value} {sz' off q : Nat} {upd : List E' -> E} (u : Hol C enc' sz' H s xs q off upd fp) (t : TypeId) (h0 : 0 ≤ j) (h2 : j < (xs.length : Int)) (k : Zu Go.Proofs.Tryz.prog ops tbl K rs fl (α.put (Zac ops i) (elp s C.sz j.toNat 0)) H) (ht : ZcM Go.Proofs.Tryz.prog t = some C.sz := by kernel_rfl) (h1 : Zcx Go.Proofs.Tryz.prog ops tbl i rs α H = ZB Go.Proofs.Tryz.prog t s (.int .i64 j) := by kernel_rfl) : Zu Go.Proofs.Tryz.prog ops tbl K (i :: rs) fl α H := Zdv _ h1 (u.idxb ht h0 h2) k
theorem ck_ {f : FuncId} {args : Array Value} {K' : Value -> AH -> Prop} (hf : ACalls Go.Proofs.Tryz.prog f args H K') (k : ∀ v H', K' v H' -> Zs Go.Proofs.Tryz.prog ops K rest (α.put o.dst v) H') (h : ZfV Go.Proofs.Tryz.prog ops o α = some (f, args) := by kernel_rfl) : Zs Go.Proofs.Tryz.prog ops K (o :: rest) α H := s_ck f args h hf k
theorem dk_ {f : FuncId} {args : Array Value} {K' : Value -> AH -> Prop} (hf : ACalls Go.Proofs.Tryz.prog f args H K') (k : ∀ v H', K' v H' -> Zb2 Go.Proofs.Tryz.prog ops tbl i H' fl /\ Zu Go.Proofs.Tryz.prog ops tbl K rs fl (α.put (Zac ops i) v) H') (h : Zd4 ops i (fun o => ZfV Go.Proofs.Tryz.prog ops o α) = some (f, args) := by kernel_rfl) : Zu Go.Proofs.Tryz.prog ops tbl K (i :: rs) fl α H := d_ck f args h hf k
theorem ek_ {x : Option AH} (h : x = some H') (k : Zs Go.Proofs.Tryz.prog ops K rest (α.put o.dst undef) H') (h1 : Zg6 Go.Proofs.Tryz.prog ops o α H = x.map fun H' => (undef, H') := by kernel_rfl) : Zs Go.Proofs.Tryz.prog ops K (o :: rest) α H := ZbX undef h1 (ZhY h) k
theorem fk_ {x : Option AH} (h : x = some H') (st : Zb2 Go.Proofs.Tryz.prog ops tbl i H' fl) (k : Zu Go.Proofs.Tryz.prog ops tbl K rs fl (α.put (Zac ops i) undef) H') (h1 : Zd4 ops i (fun o => Zg6 Go.Proofs.Tryz.prog ops o α H) = x.map fun H' => (undef, H') := by kernel_rfl) : Zu Go.Proofs.Tryz.prog ops tbl K (i :: rs) fl α H := Zjv undef h1 (ZhY h) st k
theorem wc_ {c : Operand} {x y : Code} (p : Prop) [Decidable p] (ht : p -> aWp Go.Proofs.Tryz.prog N x Q α H) (hf : ¬ p -> aWp Go.Proofs.Tryz.prog N y Q α H) (hb : Z6 α c = .bool (decide p) := by kernel_rfl) (hok : Zda c = true := by rfl) : aWp Go.Proofs.Tryz.prog N (.cond c x y) Q α H := Zln p hb hok ht hf
theorem wb_ {c : Operand} {x y : Code} (b : Bool) (ht : b = true -> aWp Go.Proofs.Tryz.prog N x Q α H) (hf : b = false -> aWp Go.Proofs.Tryz.prog N y Q α H) (hb : Z6 α c = .bool b := by kernel_rfl) (hok : Zda c = true := by rfl) : aWp Go.Proofs.Tryz.prog N (.cond c x y) Q α H := ZlF b hb hok ht hf
theorem sb_ (p : Prop) [Decidable p] (ht : p -> Zs Go.Proofs.Tryz.prog ops K rest (α.put o.dst (.bool true)) H) (hf : ¬p -> Zs Go.Proofs.Tryz.prog ops K rest (α.put o.dst (.bool false)) H) (h : ZbA Go.Proofs.Tryz.prog ops o α H = some (.bool (decide p)) := by kernel_rfl) : Zs Go.Proofs.Tryz.prog ops K (o :: rest) α H := s_b p h ht hf
theorem db_ (p : Prop) [Decidable p] (ht : p -> Zu Go.Proofs.Tryz.prog ops tbl K rs fl (α.put (Zac ops i) (.bool true)) H) (hf : ¬p -> Zu Go.Proofs.Tryz.prog ops tbl K rs fl (α.put (Zac ops i) (.bool false)) H) (h : Zcx Go.Proofs.Tryz.prog ops tbl i rs α H = some (.bool (decide p)) := by kernel_rfl) : Zu Go.Proofs.Tryz.prog ops tbl K (i :: rs) fl α H := d_b p h ht hf
theorem rk_ (hw : WF H) (cs : List Value) (k : ∀ b H', Ext H H' -> Inn [] H [b] -> Row H' b cs -> Zs Go.Proofs.Tryz.prog ops K rest (α.put o.dst (.pointer (some ⟨b, 0, none⟩))) H') (h : Zc3 Go.Proofs.Tryz.prog ops o α = some (.row .own cs, Zdy) := by kernel_rfl) : Zs Go.Proofs.Tryz.prog ops K (o :: rest) α H := s_rwk hw cs h k
theorem rl_ (hw : WF H) (cs : List Value) (k : ∀ b H', Ext H H' -> Inn [] H [b] -> Row H' b cs -> Zs Go.Proofs.Tryz.prog ops K rest (α.put o.dst (.pointer (some ⟨b, 0, none⟩))) H') (h1 : ZF cs = true := by kernel_rfl) (h : Zc3 Go.Proofs.Tryz.prog ops o α = if ZF cs = true then some (.row .own cs, Zdy) else none := by kernel_rfl) : Zs Go.Proofs.Tryz.prog ops K (o :: rest) α H := Z3 hw cs h1 h k
theorem sq_ {x y : Code} (h : ∀ {K : AAct -> AH -> Prop}, (∀ α H, aWp Go.Proofs.Tryz.prog N y Q α H -> K α H) -> aWp Go.Proofs.Tryz.prog N x (ZdI K Q) α H) : aWp Go.Proofs.Tryz.prog N (.seq x y) Q α H := ZjW fun _ k => h k
theorem ab_ {f : FuncId} {fn : Func} {c : Code} {args : Array Value} {K : Value -> AH -> Prop} (hf : Go.Proofs.Tryz.prog.funcs[f]? = some fn) (h : aWp Go.Proofs.Tryz.prog fn.ntmps c (ZeH Go.Proofs.Tryz.prog fn K) (ZhR args) H) (hb : fn.body = some c := by rfl) (hn : Nat.ble args.size fn.ntmps = true := by rfl) : ACalls Go.Proofs.Tryz.prog f args H K := Zhk mixed hf hb (Nat.le_of_ble_eq_true hn) h
theorem br_ {fn : Func} {K : Value -> AH -> Prop} (vs : List Value) (k : K (ZeO vs) H) (h : ZcL Go.Proofs.Tryz.prog α H fn.results.toList = some vs := by kernel_rfl) : ZeH Go.Proofs.Tryz.prog fn K .ret α H := ZX h k
theorem nr_ {fn : Func} {K : Value -> AH -> Prop} (vs : List Value) (k : K (ZeO vs) H) (h : ZcL Go.Proofs.Tryz.prog α H fn.results.toList = some vs := by kernel_rfl) : ZeH Go.Proofs.Tryz.prog fn K .normal α H := ZgX h k
theorem ra_ (t p : Nat) (hw : WF H) (h : Row H b cs) (vs cs' : List Value) (hx : (Value.agg vs.toArray).cells.toList = vs := by kernel_rfl) (hs : (Go.Proofs.Tryz.prog.info? t).map (·.size) = some vs.length := by kernel_rfl) (h1 : ZF vs = true := by kernel_rfl) (hl : Nat.ble (p + vs.length) cs.length = true := by kernel_rfl) (hcs : Z5 cs p vs = cs' := by kernel_rfl) : ∃ H', ZcF Go.Proofs.Tryz.prog t (.pointer (some ⟨b, p, none⟩)) (.agg vs.toArray) H = some H' /\ FrS [b] H H' /\ Row H' b cs' := Row.store hw h _ vs hx hs h1 (Nat.le_of_ble_eq_true hl) cs' hcs
theorem rb_ (t p : Nat) (hw : WF H) (h : Row H b cs) (v : Value) (cs' : List Value) (hx : v.cells.toList = [v] := by kernel_rfl) (hs : (Go.Proofs.Tryz.prog.info? t).map (·.size) = some [v].length := by kernel_rfl) (h1 : ZF [v] = true := by kernel_rfl) (hl : Nat.ble (p + [v].length) cs.length = true := by kernel_rfl) (hcs : Z5 cs p [v] = cs' := by kernel_rfl) : ∃ H', ZcF Go.Proofs.Tryz.prog t (.pointer (some ⟨b, p, none⟩)) v H = some H' /\ FrS [b] H H' /\ Row H' b cs' := Row.store hw h _ [v] hx hs h1 (Nat.le_of_ble_eq_true hl) cs' hcs
end
section
variable {H H1 H2 : AH} {W S : Fp}
theorem fr_ (h : WF H) : FrS W H H := .refl h
theorem fs_ (hw : WF H) (h : FrS W H H1) (k : FrS S H1 H2) (hi : Inn W H S) : FrS W H H2 := .step hw h k hi
theorem bs_ {α β : Type} {x : Option α} {f : α -> Option β} {r : β} (h : x.bind f = some r) : ∃ y, x = some y /\ f y = some r := bind_some h
theorem lt_ {n : Nat} : n < n + 1 := Nat.lt_succ_self n
theorem dn_ {a : Fp} : Dj [] a := Dj.nil_l
theorem in_ : Inn W H [] := Inn.nil
theorem ir_ : Inn W H W := Inn.refl'
end
end Go.Vd

/-! (KWt0) -/

set_option maxRecDepth 100000
set_option maxHeartbeats 4000000
set_option linter.unusedVariables false
namespace Go.Vd
open Go.Proofs
attribute [local irreducible] Zs Zu aWp
theorem Zff {H : AH} {r : List (Int) × List (Int) × List (Int × Int × Int × Int) × List (Int) × List (Int × Int × Int × Int)}
    (aG : WF H) (aJ : Zbu = some r) :
    ACalls Tryz.prog 41 #[] H fun v H' => ∃ (aN : Value) (ad : Fp) (aO : Value) (ae : Fp) (aK : Value) (aa : Fp) (aL : Value) (ab : Fp) (aM : Value) (ac : Fp), v = .agg #[aN, aO, aK, aL, aM] /\ FrS [] H H' /\ Ow (Zh .u32) 1 H' aN r.1 ad /\ Ow (Zh .u32) 1 H' aO r.2.1 ae /\ Ow Ze 4 H' aK r.2.2.1 aa /\ Ow (Zh .u32) 1 H' aL r.2.2.2.1 ab /\ Ow Ze 4 H' aM r.2.2.2.2 ac /\ Inn [] H ad /\ Inn [] H ae /\ Inn [] H aa /\ Inn [] H ab /\ Inn [] H ac /\ Dj ad ae /\ Dj ad aa /\ Dj ae aa /\ Dj ad ab /\ Dj ae ab /\ Dj aa ab /\ Dj ad ac /\ Dj ae ac /\ Dj aa ac /\ Dj ab ac := by
 refine ab_ Tryz.func41 ?_
 unfold Zbu at aJ
 refine sq_ fun bb => g_' ?_
 refine rk_ aG [.slice none 0 0, .slice none 0 0, .slice none 0 0, .slice none 0 0, .slice none 0 0] fun aQ bA X ba ah => ?_
 refine Za (bb _ _ (sq_ fun bc => g_' ?_))
 refine ZaK (enc := (Zh .u32)) (sz := 1) X.wf [1, 0, 2] 3 (by decide) (fun _ _ => rfl) (fun _ _ => rfl) rfl (by kernel_rfl) fun bG a6 bB O aH ag => ?_
 obtain ⟨ak, az, ap, rfl⟩ := ag.form
 refine ZaK (enc := (Zh .u32)) (sz := 1) O.wf [0, 1, 2, 2] 4 (by decide) (fun _ _ => rfl) (fun _ _ => rfl) rfl (by kernel_rfl) fun bH a7 bC z aE aj => ?_
 obtain ⟨al, aA, aq, rfl⟩ := aj.form
 refine qs_ 2 ?_
 refine ZaK (enc := Ze) (sz := 4) z.wf [(2, 1, 4294967295, 4294967295), (2, 5, 2, 0)] 2 (by decide) (fun _ _ => rfl) (fun _ _ => rfl) rfl (by kernel_rfl) fun bI a8 bD J ax ay => ?_
 obtain ⟨am, aB, au, rfl⟩ := ay.form
 refine ZaK (enc := (Zh .u32)) (sz := 1) J.wf [0, 1, 1, 1] 4 (by decide) (fun _ _ => rfl) (fun _ _ => rfl) rfl (by kernel_rfl) fun bJ a9 bE V ai aF => ?_
 obtain ⟨an, aC, av, rfl⟩ := aF.form
 refine qs_ 1 ?_
 refine ZaK (enc := Ze) (sz := 4) V.wf [(1, 4, 4294967295, 4294967295)] 1 (by decide) (fun _ _ => rfl) (fun _ _ => rfl) rfl (by kernel_rfl) fun bK a_ bF Y af aI => ?_
 obtain ⟨ao, aD, aw, rfl⟩ := aI.form
 refine qs_ 1 ?_
 have bx := (((((ah.ext O).ext z).ext J).ext V).ext Y)
 have bz := (aF.ext Y)
 have bp := ((ay.ext V).ext Y)
 have bq := (((aj.ext J).ext V).ext Y)
 have br := ((((ag.ext z).ext J).ext V).ext Y)
 obtain ⟨aP, bn, Z, bo⟩ := ra_ 25 0 Y.wf bx [.slice ak az ap, .slice al aA aq, .slice am aB au, .slice an aC av, .slice ao aD aw] [.slice ak az ap, .slice al aA aq, .slice am aB au, .slice an aC av, .slice ao aD aw]
 refine ek_ bn (Za (bc _ _ ?_))
 refine Zp ?_
 refine ZX (vs := [.agg #[.slice ak az ap, .slice al aA aq, .slice am aB au, .slice an aC av, .slice ao aD aw]]) (ZC (Eq.trans (b := aL_ 25 (pt_ aQ 0) aP) (by kernel_rfl) (bo.l_)) (rfl)) ?_
 have aR := (aH.djn ah.ltF)
 have bs := (br.fr Z (Dj.symm aR))
 have aS := (aE.djn (ah.ltF.le O.n))
 have bt := (bq.fr Z (Dj.symm aS))
 have bd := (t_ O.n z.n)
 have aT := (ax.djn (ah.ltF.le bd))
 have bu := (bp.fr Z (Dj.symm aT))
 have be := (t_ (t_ O.n z.n) J.n)
 have aU := (ai.djn (ah.ltF.le be))
 have bv := (bz.fr Z (Dj.symm aU))
 have bf := (t_ (t_ (t_ O.n z.n) J.n) V.n)
 have aV := (af.djn (ah.ltF.le bf))
 have bw := (aI.fr Z (Dj.symm aV))
 have bg := (t_ X.n O.n)
 have bh := (t_ (t_ X.n O.n) z.n)
 have bi := (t_ (t_ (t_ X.n O.n) z.n) J.n)
 have bj := (t_ (t_ (t_ (t_ X.n O.n) z.n) J.n) V.n)
 have aW := (aE.djn ag.lt)
 have aX := (ax.djn (ag.lt.le z.n))
 have aY := (ax.djn aj.lt)
 have bk := (t_ z.n J.n)
 have aZ := (ai.djn (ag.lt.le bk))
 have a0 := (ai.djn (aj.lt.le J.n))
 have a1 := (ai.djn ay.lt)
 have bl := (t_ (t_ z.n J.n) V.n)
 have a2 := (af.djn (ag.lt.le bl))
 have bm := (t_ J.n V.n)
 have a3 := (af.djn (aj.lt.le bm))
 have a4 := (af.djn (ay.lt.le V.n))
 have a5 := (af.djn aF.lt)
 obtain rfl := oi_ aJ
 exact ⟨(.slice ak az ap), a6, (.slice al aA aq), a7, (.slice am aB au), a8, (.slice an aC av), a9, (.slice ao aD aw), a_, rfl, (fs_ aG (((((((f0_ aG).extR X).extR O).extR z).extR J).extR V).extR Y) Z (ba.fresh (Nat.le_refl _))), bs, bt, bu, bv, bw, (aH.fresh X.n), (aE.fresh bg), (ax.fresh bh), (ai.fresh bi), (af.fresh bj), (Dj.symm aW), (Dj.symm aX), (Dj.symm aY), (Dj.symm aZ), (Dj.symm a0), (Dj.symm a1), (Dj.symm a2), (Dj.symm a3), (Dj.symm a4), (Dj.symm a5)⟩
theorem Zdq {H : AH} {aa : Value} {ac : Fp} {O : Int} {at_ : Int} {Z : Er} {r : Er}
    (V : WF H) (ad : Ev 92 195 H aa Z ac) (J : Zba O at_ Z = some r) :
    ACalls Tryz.prog 51 #[i_ O, i_ at_, aa] H fun v H' => ∃ (ag : Value) (ab : Fp), v = ag /\ FrS [] H H' /\ Ev 92 195 H' ag r ab /\ Inn ac H ab := by
 refine ab_ Tryz.func51 ?_
 unfold Zba at J
 refine sn_ (sq_ fun an => sq_ fun ae => g_' (qs_ 1 ?_))
 rcases (ad).cases with ⟨z, rfl⟩ | ⟨z, af, ah, rfl⟩
 ·have ao := Zf z J
  refine qs_ 1 (Za (ae _ _ ?_))
  refine wb_ true (fun _ => ?_) fun h => by cases h
  refine sn_ ?_
  refine Zp (Zk ?_)
  refine br_ [.nilIface] ?_
  obtain rfl := oi_ ao
  exact ⟨(.nilIface), [], rfl, (f0_ V), Ev.nil, in_⟩
 have ap := Zj z J
 refine l_' (.bool false) (Zaw Tryz.prog .eql 33 (.tmp 7) (.const .nilIface) (.iface af ah) .nilIface) (Zgr (by kernel_rfl)) (Za (ae _ _ ?_))
 refine wb_ false (fun h => by cases h) fun _ => ?_
 refine Zg (an _ _ (sq_ fun am => g_' (qs_ 5 ?_)))
 refine rl_ V [i_ O, i_ at_, .iface af ah] fun X av Y aj aq => ?_
 have au := (ad.ext Y)
 obtain ⟨ai, ak, al⟩ := Ev.at aq au aj
 refine qs_ 2 (Za (am _ _ ?_))
 refine Zp ?_
 refine br_ [.iface 195 (pt_ X 0)] ?_
 obtain rfl := oi_ ap
 exact ⟨(.iface 195 (pt_ X 0)), ai, rfl, ((f0_ V).extR Y), ak, (Inn.trans ir_ (Nat.le_refl _) al)⟩
theorem Zfq {H : AH} {ab : Value} {aE : Fp} {l : List (Int)} {X : Int} {r : Er}
    (O : WF H) (J : Sq (Zh .u32) 1 H ab l aE) (ao : ZaG l X = some r) :
    ACalls Tryz.prog 103 #[ab, i_ X] H fun v H' => ∃ (az : Value) (aj : Fp), v = az /\ FrS [] H H' /\ Ev 92 195 H' az r aj /\ Inn [] H aj := by
 refine ab_ Tryz.func103 ?_
 unfold ZaG at ao
 refine sn_ (sq_ fun aX => sq_ fun a0 => g_' (qs_ 1 ?_))
 obtain ⟨al, av⟩ := Zb ao
 refine J.ix_ 22 (by decide) al (le_ 60 0 (.int .u32 (gt l 0)) J (by decide) al (qs_ 1 (Za (a0 _ _ ?_))))
 refine ZcS ((gt l 0) = 0) (by kernel_rfl) rfl (fun ac => ?_) (fun ac => ?_)
 ·have a3 := Zj ac av
  refine sn_ ?_
  refine Zp (Zk ?_)
  refine br_ [.iface 92 (i_ 14)] ?_
  obtain rfl := oi_ a3
  exact ⟨(.iface 92 (i_ 14)), [], rfl, (f0_ O), Ev.no, in_⟩
 have a4 := Zf ac av
 refine Zg (aX _ _ (sq_ fun aP => sq_ fun aQ => g_' (qs_ 1 (J.ln_ 22 ?_))))
 obtain ⟨ak, a5⟩ := Zb a4
 refine w_' (((l.length : Int) - 1)) (Zn ak) (qs_ 1 (Za (aQ _ _ ?_)))
 obtain ⟨aB, aL, aw⟩ := bs_ a5
 refine Zv (fun α ah => ∃ au, aB = Sum.inr au /\ Has α [(0, ab), (1, i_ X)] /\ H = ah) (fun _ aR => ?_) (fun α ah hM => ?_)
 ·refine Zl ?_
  obtain ⟨aq, aJ⟩ := Zr.1 aL
  refine Zy (fun n α ai => ∃ (z : Int), ZD (fun zz_ => Zbe l zz_) n z = some aB /\ Has α [(0, ab), (1, i_ X), (13, i_ ((l.length : Int) - 1)), (14, i_ z)] /\ H = ai) aq ⟨0, aJ, ha_, rfl⟩ ?_
  rintro aq α ai ⟨z, aI, an, rfl⟩ bj aS
  obtain ⟨a2, bh, rfl, V, ag⟩ := Zt aI
  obtain ⟨β, rfl⟩ := Zi an
  clear an
  replace V : Zbe l z = some bh := V
  unfold Zbe at V
  refine sn_ (sq_ fun aT => ?_)
  refine wc_ (z < ((l.length : Int) - 1)) (fun ad => ?_) fun ad => ?_
  ·have a6 := Zf ad V
   refine Zg (aT _ _ (sq_ fun aU => Zl (sn_ (sq_ fun aV => ?_))))
   refine ZJ [0, 1, 2, 3, 4, 5, 6, 7, 8, 9] (by kernel_rfl) ?_
   refine es_ 2 ?_
   obtain ⟨aF, a7⟩ := Zb a6
   refine d_w ((z + 1)) (k := .i64) (x := (z + 1)) (by kernel_rfl) (Zn aF) ?_
   obtain ⟨Y, a8⟩ := Zb a7
   refine J.mx_ 22 Y.1 Y.2 (me_ 60 0 (.int .u32 (gt l (z + 1))) J Y.1 Y.2 (es_ 2 ?_))
   obtain ⟨Z, ax⟩ := Zb a8
   refine J.mx_ 22 Z.1 Z.2 (me_ 60 0 (.int .u32 (gt l z)) J Z.1 Z.2 (es_ 1 ?_))
   refine ZE ?_
   refine aV _ _ ?_
   refine wc_ ((gt l (z + 1)) < (gt l z)) (fun ae => ?_) fun ae => ?_
   ·have a9 := Zf ae ax
    refine sq_ fun aW => g_' (qs_ 2 ?_)
    obtain ⟨bl, aM, a_⟩ := bs_ a9
    refine ck_ (Zdq O (Ev.no (tf := 195)) aM) ?_
    rintro aA bi ⟨_, aD, rfl, aC, a1, aO⟩
    refine qs_ 1 (Za (aW _ _ ?_))
    refine Zp (ZI (Zk (Zk (ZI (Zk (Zk ?_))))))
    obtain ⟨bk, ap, aN⟩ := map_some a_
    subst aN
    obtain rfl := Zw ag
    have aK := elim_inl aw
    rw [aK] at ap
    refine br_ [aA] ?_
    obtain rfl := oi_ ap
    exact ⟨(aA), aD, rfl, (fs_ O (f0_ O) aC in_), a1, (aO.fresh (Nat.le_refl _))⟩
   have ba := Zj ae ax
   refine Zg (aU _ _ (g_' ?_))
   obtain ⟨aG, bb⟩ := Zb ba
   refine w_' ((z + 1)) (Zn (by have := aG; omega)) (qs_ 1 (Za ?_))
   obtain rfl := oi_ bb
   exact aS a2 _ _ lt_ ⟨(z + 1), ag, ha_, rfl⟩
  have bc := Zj ad V
  refine ZA (Zm (Zm (ZK ?_)))
  obtain rfl := oi_ bc
  obtain rfl := Zw ag
  exact aR _ _ ⟨_, rfl, ha_, rfl⟩
 obtain ⟨au, rfl, am, rfl⟩ := hM
 have bd := elim_inr aw
 obtain ⟨β, rfl⟩ := Zi am
 clear am
 refine aP _ _ (sq_ fun aY => sq_ fun aZ => g_' (qs_ 2 (J.ln_ 22 (w_' (((l.length : Int) - 1)) (Zn ak) ?_))))
 obtain ⟨aa, be⟩ := Zb bd
 refine J.ix_ 22 aa.1 aa.2 (le_ 60 0 (.int .u32 (gt l ((l.length : Int) - 1))) J aa.1 aa.2 ?_)
 obtain ⟨aH, ay⟩ := Zb be
 refine w_' ((gt l ((l.length : Int) - 1))) (Zn aH) (qs_ 2 (Za (aZ _ _ ?_)))
 refine ZcS ((gt l ((l.length : Int) - 1)) = X) (by kernel_rfl) rfl (fun af => ?_) (fun af => ?_)
 ·have bf := Zj af ay
  refine sn_ ?_
  refine Zp (Zk ?_)
  refine br_ [.iface 92 (i_ 14)] ?_
  obtain rfl := oi_ bf
  exact ⟨(.iface 92 (i_ 14)), [], rfl, (f0_ O), Ev.no, in_⟩
 have bg := Zf af ay
 refine Zg (aY _ _ (sn_ ?_))
 refine Zp ?_
 refine br_ [.nilIface] ?_
 obtain rfl := oi_ bg
 exact ⟨(.nilIface), [], rfl, (f0_ O), Ev.nil, in_⟩
theorem Zh9 {H : AH} {Z : Value} {aS : Fp} {l : List (Int)} {r : Er}
    (aa : WF H) (am : Sq (Zh .u32) 1 H Z l aS) (aB : Zcs l = some r) :
    ACalls Tryz.prog 104 #[Z] H fun v H' => ∃ (aL : Value) (av : Fp), v = aL /\ FrS [] H H' /\ Ev 92 195 H' aL r av /\ Inn [] H av := by
 refine ab_ Tryz.func104 ?_
 unfold Zcs at aB
 refine sn_ (sq_ fun bc => g_' (qs_ 1 (am.ln_ 22 ?_)))
 obtain ⟨ax, br⟩ := Zb aB
 refine Zej (t := 38) (m := 8) (l := (l.length : Int)) (c := (l.length : Int)) (enc := (Zh .i64)) (sz := 1) aa (0 : Int) (by kernel_rfl) (by decide) ax.1 (Int.le_refl _) (by omega) (by have := ax; omega) (by kernel_rfl) fun bA ae aj J an ah => ?_
 obtain ⟨O, X, V, rfl⟩ := ah.form
 have ah : Ow (Zh .i64) 1 aj (.slice O X V) (List.replicate l.length (0 : Int)) ae := ah
 refine qs_ 1 (Za (bc _ _ (sq_ fun a4 => sq_ fun a5 => g_' (qs_ 1 ?_))))
 have aK := (am.ext J)
 refine aK.ln_ 22 (qs_ 1 (Za (a5 _ _ ?_)))
 obtain ⟨aN, aZ, aH⟩ := bs_ br
 refine Zv (fun α aq => ∃ aF, aN = Sum.inr aF /\ Has α [] /\ FrS ae aj aq) (fun _ a6 => ?_) (fun α aq hM => ?_)
 ·refine Zl ?_
  obtain ⟨aE, aX⟩ := Zr.1 aZ
  refine Zy (fun n α ad => ∃ (z : Int), ∃ (seen1 : List (Int)), ZD (fun zz_ => ZbV l zz_.1 zz_.2) n (z, seen1) = some aN /\ Has α [(0, Z), (3, .slice O X V), (9, Z), (10, i_ (l.length : Int)), (11, i_ z)] /\ FrS ae aj ad /\ Ow (Zh .i64) 1 ad (.slice O X V) seen1 ae) aE ⟨0, (List.replicate l.length (0 : Int)), aX, ha_, (fr_ J.wf), ah⟩ ?_
  rintro aE α ad ⟨z, seen1, aV, az, Y, ai⟩ bz a7
  obtain ⟨bf, bv, rfl, ac, ao⟩ := Zt aV
  obtain ⟨β, rfl⟩ := Zi az
  clear az
  replace ac : ZbV l z seen1 = some bv := ac
  unfold ZbV at ac
  refine sn_ (sq_ fun a8 => ?_)
  refine wc_ (z < (l.length : Int)) (fun ab => ?_) fun ab => ?_
  ·have bi := Zf ab ac
   refine Zg (a8 _ _ (sq_ fun a9 => Zl (sq_ fun a_ => g_' (qs_ 1 ?_))))
   obtain ⟨aw, bj⟩ := Zb bi
   have ap := (aK.fr Y (an.djn am.lt))
   refine ap.ix_ 22 aw ab (le_ 60 0 (.int .u32 (gt l z)) ap aw ab (qs_ 2 (Za (a_ _ _ (sq_ fun ba => sq_ fun bb => ?_)))))
   obtain ⟨aG, a0, aI⟩ := bs_ bj
   refine Zv (fun α au => Has α [(0, Z), (3, .slice O X V), (4, i_ z), (5, .int .u32 (gt l z)), (9, Z), (10, i_ (l.length : Int)), (11, i_ z), (27, .bool aG)] /\ ad = au) (fun _ aD => ?_) (fun α au hM => ?_)
   ·refine g_' (qs_ 1 ?_)
    obtain ⟨aT, aJ⟩ := Zb a0
    refine w_' ((gt l z)) (Zn aT) (qs_ 1 (ap.ln_ 22 ?_))
    refine sb_ ((gt l z) ≥ (l.length : Int)) (fun ak => ?_) fun ak => ?_
    ·have bk := Zf ak aJ
     refine qs_ 7 (Za ?_)
     obtain rfl := oi_ bk
     exact aD _ _ ⟨ha_, rfl⟩
    have bl := Zj ak aJ
    refine qs_ 3 ?_
    obtain ⟨af, bm⟩ := Zb bl
    refine l_' (elp (.slice O X V) 1 (gt l z).toNat 0) (ZB Tryz.prog 38 (.slice O X V) (.int .u32 (gt l z))) (ai.sq.idxb (by kernel_rfl) af.1 af.2) (le_ 3 0 (i_ (gt seen1 (gt l z))) ai.sq af.1 af.2 (qs_ 2 (Za ?_)))
    obtain rfl := oi_ bm
    exact aD _ _ ⟨ha_, rfl⟩
   obtain ⟨aA, rfl⟩ := hM
   obtain ⟨β, rfl⟩ := Zi aA
   clear aA
   refine bb _ _ ?_
   refine wb_ (aG) (fun al => ?_) fun al => ?_
   ·have bn := Zf al aI
    refine sq_ fun bd => g_' (qs_ 2 ?_)
    obtain ⟨bC, a1, bo⟩ := bs_ bn
    refine ck_ (Zdq Y.wf (Ev.no (tf := 195)) a1) ?_
    rintro aM bw ⟨_, aR, rfl, aP, be, a3⟩
    refine qs_ 1 (Za (bd _ _ ?_))
    refine Zp (Zk (ZI (Zk (Zk (ZI (Zk (Zk ?_)))))))
    obtain ⟨bB, aC, a2⟩ := map_some bo
    subst a2
    obtain rfl := Zw ao
    have aY := elim_inl aH
    rw [aY] at aC
    refine br_ [aM] ?_
    have bg := (t_ J.n Y.n)
    obtain rfl := oi_ aC
    exact ⟨(aM), aR, rfl, (fs_ aa (fs_ aa ((f0_ aa).extR J) Y (an.fresh (Nat.le_refl _))) aP in_), be, (a3.fresh bg)⟩
   have bp := ZL al aI
   refine Zg (ba _ _ (g_' (qs_ 2 ?_)))
   obtain ⟨ag, bq⟩ := Zb bp
   refine l_' (elp (.slice O X V) 1 (gt l z).toNat 0) (ZB Tryz.prog 38 (.slice O X V) (.int .u32 (gt l z))) (ai.sq.idxb (by kernel_rfl) ag.1 ag.2) ?_
   obtain ⟨bx, bh, aQ, aW⟩ := Ow.store (P := Tryz.prog) (t := 3) (off := 0) Y.wf ai ag.1 ag.2 (i_ 1) [i_ 1] (by kernel_rfl) (by kernel_rfl) rfl 1 (Nat.le_of_ble_eq_true rfl) (by kernel_rfl)
   refine ek_ bh (Za (a9 _ _ (g_' ?_)))
   obtain ⟨aU, bs⟩ := Zb bq
   refine w_' ((z + 1)) (Zn (by have := aU; omega)) (qs_ 1 (Za ?_))
   obtain rfl := oi_ bs
   exact a7 bf _ _ lt_ ⟨(z + 1), (seen1.set (gt l z).toNat 1), ao, ha_, (fs_ J.wf (fs_ J.wf (fr_ J.wf) Y ir_) aQ ir_), aW⟩
  have bt := Zj ab ac
  refine ZA (Zm (Zm (ZK ?_)))
  obtain rfl := oi_ bt
  obtain rfl := Zw ao
  exact a6 _ _ ⟨_, rfl, trivial, (fs_ J.wf (fr_ J.wf) Y ir_)⟩
 obtain ⟨aF, rfl, ay, aO⟩ := hM
 have bu := elim_inr aH
 obtain ⟨β, rfl⟩ := Zi ay
 clear ay
 refine a4 _ _ (sn_ ?_)
 refine Zp ?_
 refine br_ [.nilIface] ?_
 obtain rfl := oi_ bu
 exact ⟨(.nilIface), [], rfl, (fs_ aa ((f0_ aa).extR J) aO (an.fresh (Nat.le_refl _))), Ev.nil, in_⟩
theorem Zik {H : AH} {O : Value} {ak : Fp} {X : Value} {am : Fp} {V : Value} {al : Fp} {J : Value} {aj : Fp} {z : Value} {ai : Fp} {ab : List (Int)} {ad : List (Int)} {ac : List (Int × Int × Int × Int)} {aa : List (Int)} {Z : List (Int × Int × Int × Int)} {r : Unit}
    (ag : WF H) (ap : Sq (Zh .u32) 1 H O ab ak) (au : Sq (Zh .u32) 1 H X ad am) (aq : Sq Ze 4 H V ac al) (ao : Sq (Zh .u32) 1 H J aa aj) (an : Sq Ze 4 H z Z ai) (af : Zdl ab ad ac aa Z = some r) :
    ACalls Tryz.prog 105 #[.agg #[O, X, V, J, z]] H fun v H' => ∃ (Y : Nat), v = .func (.func 149) #[] #[pt_ Y 0] /\ FrS [] H H' /\ Row H' Y [O, X, V, J, z] /\ Inn [] H [Y] := by
 refine ab_ Tryz.func105 ?_
 unfold Zdl at af
 refine sq_ fun aw => g_' ?_
 refine Z3 ag [O, X, V, J, z] (Zd (ap.one1) (Zd (au.one1) (Zd (aq.one1) (Zd (ao.one1) (Zd (an.one1) (ZN)))))) (by kernel_rfl) fun ae ay ah av ax => ?_
 refine qs_ 1 (Za (aw _ _ (sn_ ?_)))
 refine Zp ?_
 refine br_ [.func (.func 149) #[] #[pt_ ae 0]] ?_
 obtain rfl := oi_ af
 exact ⟨ae, rfl, ((f0_ ag).extR ah), ax, (av.fresh (Nat.le_refl _))⟩
theorem Zhl [Pins] {H : AH} {l_ : Nat} {af : AH -> List (Int × Int × Int × Int × Int × Int × Int × Int) -> Fp -> Prop} {ab : Fp} {ag : Nat} {aX : Value} {bw : Fp} {aY : Value} {bx : Fp} {bc : Value} {bz : Fp} {aZ : Value} {bA : Fp} {bd : Value} {bB : Fp} {ok_ : List (Int × Int × Int × Int × Int × Int × Int × Int) -> Bool} {bk : List (Int × Int × Int × Int × Int × Int × Int × Int)} {l : List (Int)} {O : List (Int)} {X : List (Int × Int × Int × Int)} {V : List (Int)} {Y : List (Int × Int × Int × Int)} {r : List (Int × Int × Int × Int × Int × Int × Int × Int)}
    (al : WF H) (bY : Yld Tryz.prog l_ ok_ (fun x_ => #[i_ x_.1, .agg #[.int .u32 x_.2.1, .int .u64 x_.2.2.1, .int .u32 x_.2.2.2.1, .int .u32 x_.2.2.2.2.1, i_ x_.2.2.2.2.2.1, i_ x_.2.2.2.2.2.2.1, i_ x_.2.2.2.2.2.2.2]]) af) (cz : Trc af H bk ab) (bG : Sq (Zh .u32) 1 H aX l bw) (cy : Sq (Zh .u32) 1 H aY O bx) (bH : Sq Ze 4 H bc X bz) (bI : Sq (Zh .u32) 1 H aZ V bA) (bb : Sq Ze 4 H bd Y bB) (aW : Row H ag [aX, aY, bc, aZ, bd]) (bs : Dj ab bz) (a9 : Dj ab [ag]) (ch : Dj ab bx) (cg : Dj ab bw) (bt : Dj ab bA) (bu : Dj ab bB) (bX : ZcV ok_ bk l O X V Y = some r) :
    ACalls Tryz.prog 149 #[.func (.yield l_) #[] #[], pt_ ag 0] H fun v H' => ∃ (bv : Fp), v = .tuple #[] /\ FrS ab H H' /\ Trc af H' r bv /\ Inn ab H bv := by
 refine ab_ Tryz.func149 ?_
 unfold ZcV at bX
 refine sn_ (sq_ fun dc => sq_ fun de => g_' (qs_ 1 (lr_ 22 0 (aX) aW (bG.ln_ 22 (qs_ 1 (Za (de _ _ ?_)))))))
 obtain ⟨aG, cP, dC⟩ := bs_ bX
 refine Zv (fun α an => ∃ (am : Fp), Has α [(0, .func (.yield l_) #[] #[]), (1, pt_ ag 0), (3, i_ aG.2)] /\ FrS ab H an /\ Trc af an aG.1 am /\ Inn ab H am) (fun _ c1 => ?_) (fun α an hM => ?_)
 ·refine Zl ?_
  obtain ⟨b3, cK⟩ := Zr.1 cP
  refine Zy (fun n α ap => ∃ (yield3 : List (Int × Int × Int × Int × Int × Int × Int × Int)), ∃ (J : Int), ∃ (aD : Int), ∃ (ai : Fp), ZD (fun zz_ => ZaT ok_ l O X zz_.1 zz_.2.1 zz_.2.2) n (yield3, J, aD) = some aG /\ Has α [(0, .func (.yield l_) #[] #[]), (1, pt_ ag 0), (3, i_ aD), (12, i_ (l.length : Int)), (13, i_ J)] /\ FrS ab H ap /\ Trc af ap yield3 ai /\ Inn ab H ai) b3 ⟨bk, 0, 0, ab, cK, ha_, (fr_ al), cz, ir_⟩ ?_
  rintro b3 α ap ⟨yield3, J, aD, ai, cE, bQ, ae, b0, a1⟩ eq c9
  obtain ⟨dw, ee, rfl, az, bV⟩ := Zt cE
  obtain ⟨β, rfl⟩ := Zi bQ
  clear bQ
  replace az : ZaT ok_ l O X yield3 J aD = some ee := az
  unfold ZaT at az
  refine sn_ (sq_ fun c_ => ?_)
  refine wc_ (J < (l.length : Int)) (fun ba => ?_) fun ba => ?_
  ·have dZ := Zf ba az
   refine Zg (c_ _ _ (sq_ fun da => Zl (sn_ (sq_ fun db => ?_))))
   refine ZJ [0, 1, 2, 3, 4, 5, 6, 7, 8, 9, 10, 11, 12, 13, 14, 15] (by kernel_rfl) ?_
   refine es_ 1 ?_
   have bm := (aW.frS ae a9)
   refine mr_ 23 2 (bc) bm (es_ 1 (mr_ 22 1 (aY) bm (es_ 1 ?_)))
   obtain ⟨aT, d0⟩ := Zb dZ
   have a3 := (cy.fr ae ch)
   refine a3.mx_ 22 aT.1 aT.2 (me_ 60 0 (.int .u32 (gt O J)) a3 aT.1 aT.2 (es_ 1 (mr_ 22 1 (aY) bm (es_ 1 ?_))))
   obtain ⟨bE, d1⟩ := Zb d0
   refine d_w ((J + 1)) (k := .i64) (x := (J + 1)) (by kernel_rfl) (Zn (by have := bE; omega)) ?_
   obtain ⟨aU, d2⟩ := Zb d1
   refine a3.mx_ 22 aU.1 aU.2 (me_ 60 0 (.int .u32 (gt O (J + 1))) a3 aU.1 aU.2 ?_)
   obtain ⟨aV, d3⟩ := Zb d2
   have eb := (bH.fr ae bs)
   obtain ⟨ew, dB, bf⟩ := Sq.cut (P := Tryz.prog) eb (t := 23) (by kernel_rfl) (lo := (some (.int .u32 (gt O J)))) (hi := (some (.int .u32 (gt O (J + 1))))) (l := (gt O J).toNat) (r := (gt O (J + 1)).toNat) (ZQ _ (by have := aV; omega)) (ZQ _ (by have := aV; omega)) (by have := aV; omega) (by have := aV; omega)
   obtain ⟨bo, b5, bq, rfl⟩ := bf.form
   refine Zdv (.slice bo b5 bq) (by kernel_rfl) dB ?_
   refine bf.mn_ 23 (es_ 1 ?_)
   refine ZE ?_
   refine db _ _ ?_
   obtain ⟨aF, cO, d4⟩ := bs_ d3
   refine Zv (fun α a7 => ∃ (aO : Fp), Has α [(0, .func (.yield l_) #[] #[]), (1, pt_ ag 0), (3, i_ aF.2), (12, i_ (l.length : Int)), (13, i_ J)] /\ FrS ai ap a7 /\ Trc af a7 aF.1 aO /\ Inn ai ap aO) (fun _ dd => ?_) (fun α a7 hM => ?_)
   ·refine Zl ?_
    obtain ⟨b6, cL⟩ := Zr.1 cO
    refine Zy (fun n α a8 => ∃ (yield0 : List (Int × Int × Int × Int × Int × Int × Int × Int)), ∃ (aj : Int), ∃ (Z : Int), ∃ (aP : Fp), ZD (fun zz_ => Zbx ok_ O X J zz_.1 zz_.2.1 zz_.2.2) n (yield0, aj, Z) = some aF /\ Has α [(0, .func (.yield l_) #[] #[]), (1, pt_ ag 0), (3, i_ aj), (4, i_ J), (12, i_ (l.length : Int)), (13, i_ J), (29, .slice bo b5 bq), (30, i_ (((X.take (gt O (J + 1)).toNat).drop (gt O J).toNat).length : Int)), (31, i_ Z)] /\ FrS ai ap a8 /\ Trc af a8 yield0 aP /\ Inn ai ap aP) b6 ⟨yield3, aD, 0, ai, cL, ha_, (fr_ ae.wf), b0, ir_⟩ ?_
    rintro b6 α a8 ⟨yield0, aj, Z, aP, cF, bS, au, bj, bh⟩ es df
    obtain ⟨dx, ef, rfl, aA, bW⟩ := Zt cF
    obtain ⟨β, rfl⟩ := Zi bS
    clear bS
    replace aA : Zbx ok_ O X J yield0 aj Z = some ef := aA
    unfold Zbx at aA
    refine sn_ (sq_ fun dg => ?_)
    refine wc_ (Z < (((X.take (gt O (J + 1)).toNat).drop (gt O J).toNat).length : Int)) (fun aw => ?_) fun aw => ?_
    ·have d5 := Zf aw aA
     refine Zg (dg _ _ (sq_ fun dh => Zl (sq_ fun di => g_' ?_)))
     obtain ⟨bF, d6⟩ := Zb d5
     have cf := (a1.dj bs bH.lt)
     have cb := (bf.fr au cf)
     refine cb.ix_ 23 bF aw (le_ 62 0 (.agg #[.int .u32 ((gt ((X.take (gt O (J + 1)).toNat).drop (gt O J).toNat) Z).1), .int .u64 ((gt ((X.take (gt O (J + 1)).toNat).drop (gt O J).toNat) Z).2.1), .int .u32 ((gt ((X.take (gt O (J + 1)).toNat).drop (gt O J).toNat) Z).2.2.1), .int .u32 ((gt ((X.take (gt O (J + 1)).toNat).drop (gt O J).toNat) Z).2.2.2)]) cb bF aw ?_)
     refine rk_ au.wf [.int .u32 0, .int .u64 0, .int .u32 0, .int .u32 0] fun eu em aK bK d7 => ?_
     obtain ⟨eg, dy, aH, b8⟩ := ra_ 62 0 aK.wf d7 [.int .u32 ((gt ((X.take (gt O (J + 1)).toNat).drop (gt O J).toNat) Z).1), .int .u64 ((gt ((X.take (gt O (J + 1)).toNat).drop (gt O J).toNat) Z).2.1), .int .u32 ((gt ((X.take (gt O (J + 1)).toNat).drop (gt O J).toNat) Z).2.2.1), .int .u32 ((gt ((X.take (gt O (J + 1)).toNat).drop (gt O J).toNat) Z).2.2.2)] [.int .u32 ((gt ((X.take (gt O (J + 1)).toNat).drop (gt O J).toNat) Z).1), .int .u64 ((gt ((X.take (gt O (J + 1)).toNat).drop (gt O J).toNat) Z).2.1), .int .u32 ((gt ((X.take (gt O (J + 1)).toNat).drop (gt O J).toNat) Z).2.2.1), .int .u32 ((gt ((X.take (gt O (J + 1)).toNat).drop (gt O J).toNat) Z).2.2.2)]
     refine ek_ dy (Za (di _ _ (sq_ fun cT => sq_ fun cU => g_' (qs_ 2 (lr_ 62 0 (.agg #[.int .u32 ((gt ((X.take (gt O (J + 1)).toNat).drop (gt O J).toNat) Z).1), .int .u64 ((gt ((X.take (gt O (J + 1)).toNat).drop (gt O J).toNat) Z).2.1), .int .u32 ((gt ((X.take (gt O (J + 1)).toNat).drop (gt O J).toNat) Z).2.2.1), .int .u32 ((gt ((X.take (gt O (J + 1)).toNat).drop (gt O J).toNat) Z).2.2.2)]) b8 (qs_ 2 (lr_ 60 0 (.int .u32 ((gt ((X.take (gt O (J + 1)).toNat).drop (gt O J).toNat) Z).1)) b8 ?_)))))))
     obtain ⟨cp, dD⟩ := Zb d6
     refine w_' ((gt ((X.take (gt O (J + 1)).toNat).drop (gt O J).toNat) Z).1) (Zn cp) (qs_ 2 ?_)
     obtain ⟨cq, dE⟩ := Zb dD
     have d8 := ((bj.ext aK).fr aH (bK.djn bj.lt))
     refine s_y l_ #[i_ aj, .agg #[.int .u32 ((gt ((X.take (gt O (J + 1)).toNat).drop (gt O J).toNat) Z).1), .int .u64 ((gt ((X.take (gt O (J + 1)).toNat).drop (gt O J).toNat) Z).2.1), .int .u32 ((gt ((X.take (gt O (J + 1)).toNat).drop (gt O J).toNat) Z).2.2.1), .int .u32 ((gt ((X.take (gt O (J + 1)).toNat).drop (gt O J).toNat) Z).2.2.2), i_ J, i_ ((gt ((X.take (gt O (J + 1)).toNat).drop (gt O J).toNat) Z).1), i_ J]] (by kernel_rfl) (by kernel_rfl) (bY _ _ _ (aj, (gt ((X.take (gt O (J + 1)).toNat).drop (gt O J).toNat) Z).1, (gt ((X.take (gt O (J + 1)).toNat).drop (gt O J).toNat) Z).2.1, (gt ((X.take (gt O (J + 1)).toNat).drop (gt O J).toNat) Z).2.2.1, (gt ((X.take (gt O (J + 1)).toNat).drop (gt O J).toNat) Z).2.2.2, J, (gt ((X.take (gt O (J + 1)).toNat).drop (gt O J).toNat) Z).1, J) aH.wf cq d8.at) ?_
     rintro _ eh ⟨rfl, cn, ci, cG, cA⟩
     refine qs_ 1 (Za (cU _ _ ?_))
     refine wb_ false (fun h => by cases h) fun _ => ?_
     refine Zg (cT _ _ (g_' (qs_ 1 ?_)))
     obtain ⟨cr, dF⟩ := Zb dE
     refine w_' ((aj + 1)) (Zn cr) (qs_ 1 (Za (dh _ _ (g_' ?_))))
     obtain ⟨ct, dG⟩ := Zb dF
     refine w_' ((Z + 1)) (Zn (by have := ct; omega)) (qs_ 1 (Za ?_))
     have dr := (t_ (t_ au.n aK.n) aH.n)
     obtain rfl := oi_ dG
     exact df dx _ _ lt_ ⟨(yield0 ++ [(aj, (gt ((X.take (gt O (J + 1)).toNat).drop (gt O J).toNat) Z).1, (gt ((X.take (gt O (J + 1)).toNat).drop (gt O J).toNat) Z).2.1, (gt ((X.take (gt O (J + 1)).toNat).drop (gt O J).toNat) Z).2.2.1, (gt ((X.take (gt O (J + 1)).toNat).drop (gt O J).toNat) Z).2.2.2, J, (gt ((X.take (gt O (J + 1)).toNat).drop (gt O J).toNat) Z).1, J)]), (aj + 1), (Z + 1), cn, bW, ha_, (fs_ ae.wf (fs_ ae.wf ((fs_ ae.wf (fr_ ae.wf) au ir_).extR aK) aH (bK.fresh au.n)) ci (Inn.trans ir_ (Nat.le_refl _) bh)), cG, (Inn.trans (Inn.trans ir_ (Nat.le_refl _) bh) dr cA)⟩
    have dH := Zj aw aA
    refine ZA (Zm (Zm (ZK ?_)))
    obtain rfl := oi_ dH
    obtain rfl := Zw bW
    exact dd _ _ ⟨aP, ha_, (fs_ ae.wf (fr_ ae.wf) au ir_), bj, (Inn.trans ir_ (Nat.le_refl _) bh)⟩
   obtain ⟨aO, bR, cm, dq, cS⟩ := hM
   obtain ⟨β, rfl⟩ := Zi bR
   clear bR
   refine da _ _ (g_' (w_' ((J + 1)) (Zn (by have := bE; omega)) (qs_ 1 (Za ?_))))
   obtain rfl := oi_ d4
   exact c9 dw _ _ lt_ ⟨aF.1, (J + 1), aF.2, aO, bV, ha_, (fs_ al (fs_ al (fr_ al) ae ir_) cm (Inn.trans ir_ (Nat.le_refl _) a1)), dq, (Inn.trans (Inn.trans ir_ (Nat.le_refl _) a1) ae.n cS)⟩
  have dI := Zj ba az
  refine ZA (Zm (Zm (ZK ?_)))
  obtain rfl := oi_ dI
  obtain rfl := Zw bV
  exact c1 _ _ ⟨ai, ha_, (fs_ al (fr_ al) ae ir_), b0, (Inn.trans ir_ (Nat.le_refl _) a1)⟩
 obtain ⟨am, bN, ac, dm, aC⟩ := hM
 obtain ⟨β, rfl⟩ := Zi bN
 clear bN
 refine dc _ _ (sq_ fun cV => g_' (qs_ 1 ?_))
 have b_ := (aW.frS ac a9)
 refine lr_ 22 0 (aX) b_ ?_
 have d9 := (bG.fr ac cg)
 refine d9.ln_ 22 (qs_ 1 (Za (cV _ _ ?_)))
 obtain ⟨b7, cM, dJ⟩ := bs_ dC
 refine Zv (fun α a4 => ∃ (aL : Fp), Has α [] /\ FrS am an a4 /\ Trc af a4 b7 aL /\ Inn am an aL) (fun _ cW => ?_) (fun α a4 hM => ?_)
 ·refine Zl ?_
  obtain ⟨b1, cI⟩ := Zr.1 cM
  refine Zy (fun n α ao => ∃ (yield9 : List (Int × Int × Int × Int × Int × Int × Int × Int)), ∃ (aB : Int), ∃ (z : Int), ∃ (ah : Fp), ZD (fun zz_ => ZaU ok_ l V Y zz_.1 zz_.2.1 zz_.2.2) n (yield9, aB, z) = some b7 /\ Has α [(0, .func (.yield l_) #[] #[]), (1, pt_ ag 0), (3, i_ aB), (52, i_ (l.length : Int)), (53, i_ z)] /\ FrS am an ao /\ Trc af ao yield9 ah /\ Inn am an ah) b1 ⟨aG.1, aG.2, 0, am, cI, ha_, (fr_ ac.wf), dm, ir_⟩ ?_
  rintro b1 α ao ⟨yield9, aB, z, ah, cC, bM, ad, bZ, a0⟩ eo cX
  obtain ⟨dt, ec, rfl, ax, bT⟩ := Zt cC
  obtain ⟨β, rfl⟩ := Zi bM
  clear bM
  replace ax : ZaU ok_ l V Y yield9 aB z = some ec := ax
  unfold ZaU at ax
  refine sn_ (sq_ fun cY => ?_)
  refine wc_ (z < (l.length : Int)) (fun a_ => ?_) fun a_ => ?_
  ·have dK := Zf a_ ax
   refine Zg (cY _ _ (sq_ fun cZ => Zl (sn_ (sq_ fun c0 => ?_))))
   refine ZJ [0, 1, 2, 3, 4, 5, 6, 7, 8, 9, 10, 11, 12, 13, 14, 15] (by kernel_rfl) ?_
   refine es_ 1 ?_
   have cc := (aC.dj a9 aW.ltF)
   have bl := (b_.frS ad cc)
   refine mr_ 23 4 (bd) bl (es_ 1 (mr_ 22 3 (aZ) bl (es_ 1 ?_)))
   obtain ⟨aQ, dL⟩ := Zb dK
   have cd := (aC.dj bt bI.lt)
   have a2 := ((bI.fr ac bt).fr ad cd)
   refine a2.mx_ 22 aQ.1 aQ.2 (me_ 60 0 (.int .u32 (gt V z)) a2 aQ.1 aQ.2 (es_ 1 (mr_ 22 3 (aZ) bl (es_ 1 ?_))))
   obtain ⟨bC, dM⟩ := Zb dL
   refine d_w ((z + 1)) (k := .i64) (x := (z + 1)) (by kernel_rfl) (Zn (by have := bC; omega)) ?_
   obtain ⟨aR, dN⟩ := Zb dM
   refine a2.mx_ 22 aR.1 aR.2 (me_ 60 0 (.int .u32 (gt V (z + 1))) a2 aR.1 aR.2 ?_)
   obtain ⟨aS, dO⟩ := Zb dN
   have br := (aC.dj bu bb.lt)
   have d_ := ((bb.fr ac bu).fr ad br)
   obtain ⟨ev, dz, be⟩ := Sq.cut (P := Tryz.prog) d_ (t := 23) (by kernel_rfl) (lo := (some (.int .u32 (gt V z)))) (hi := (some (.int .u32 (gt V (z + 1))))) (l := (gt V z).toNat) (r := (gt V (z + 1)).toNat) (ZQ _ (by have := aS; omega)) (ZQ _ (by have := aS; omega)) (by have := aS; omega) (by have := aS; omega)
   obtain ⟨bn, b2, bp, rfl⟩ := be.form
   refine Zdv (.slice bn b2 bp) (by kernel_rfl) dz ?_
   refine be.mn_ 23 (es_ 1 ?_)
   refine ZE ?_
   refine c0 _ _ ?_
   obtain ⟨aE, cN, dP⟩ := bs_ dO
   refine Zv (fun α a5 => ∃ (aM : Fp), Has α [(0, .func (.yield l_) #[] #[]), (1, pt_ ag 0), (3, i_ aE.2), (52, i_ (l.length : Int)), (53, i_ z)] /\ FrS ah ao a5 /\ Trc af a5 aE.1 aM /\ Inn ah ao aM) (fun _ c2 => ?_) (fun α a5 hM => ?_)
   ·refine Zl ?_
    obtain ⟨b4, cJ⟩ := Zr.1 cN
    refine Zy (fun n α a6 => ∃ (yield6 : List (Int × Int × Int × Int × Int × Int × Int × Int)), ∃ (ak : Int), ∃ (aa : Int), ∃ (aN : Fp), ZD (fun zz_ => Zbz ok_ V Y z zz_.1 zz_.2.1 zz_.2.2) n (yield6, ak, aa) = some aE /\ Has α [(0, .func (.yield l_) #[] #[]), (1, pt_ ag 0), (3, i_ ak), (7, i_ z), (52, i_ (l.length : Int)), (53, i_ z), (69, .slice bn b2 bp), (70, i_ (((Y.take (gt V (z + 1)).toNat).drop (gt V z).toNat).length : Int)), (71, i_ aa)] /\ FrS ah ao a6 /\ Trc af a6 yield6 aN /\ Inn ah ao aN) b4 ⟨yield9, aB, 0, ah, cJ, ha_, (fr_ ad.wf), bZ, ir_⟩ ?_
    rintro b4 α a6 ⟨yield6, ak, aa, aN, cD, bP, aq, bi, bg⟩ ep c3
    obtain ⟨du, ed, rfl, ay, bU⟩ := Zt cD
    obtain ⟨β, rfl⟩ := Zi bP
    clear bP
    replace ay : Zbz ok_ V Y z yield6 ak aa = some ed := ay
    unfold Zbz at ay
    refine sn_ (sq_ fun c4 => ?_)
    refine wc_ (aa < (((Y.take (gt V (z + 1)).toNat).drop (gt V z).toNat).length : Int)) (fun av => ?_) fun av => ?_
    ·have dQ := Zf av ay
     refine Zg (c4 _ _ (sq_ fun c5 => Zl (sq_ fun c6 => g_' ?_)))
     obtain ⟨bD, dR⟩ := Zb dQ
     have ce := (a0.dj br (bb.lt.le ac.n))
     have ca := (be.fr aq ce)
     refine ca.ix_ 23 bD av (le_ 62 0 (.agg #[.int .u32 ((gt ((Y.take (gt V (z + 1)).toNat).drop (gt V z).toNat) aa).1), .int .u64 ((gt ((Y.take (gt V (z + 1)).toNat).drop (gt V z).toNat) aa).2.1), .int .u32 ((gt ((Y.take (gt V (z + 1)).toNat).drop (gt V z).toNat) aa).2.2.1), .int .u32 ((gt ((Y.take (gt V (z + 1)).toNat).drop (gt V z).toNat) aa).2.2.2)]) ca bD av ?_)
     refine rk_ aq.wf [.int .u32 0, .int .u64 0, .int .u32 0, .int .u32 0] fun et ej aI bJ dS => ?_
     obtain ⟨ek, dA, aJ, b9⟩ := ra_ 62 0 aI.wf dS [.int .u32 ((gt ((Y.take (gt V (z + 1)).toNat).drop (gt V z).toNat) aa).1), .int .u64 ((gt ((Y.take (gt V (z + 1)).toNat).drop (gt V z).toNat) aa).2.1), .int .u32 ((gt ((Y.take (gt V (z + 1)).toNat).drop (gt V z).toNat) aa).2.2.1), .int .u32 ((gt ((Y.take (gt V (z + 1)).toNat).drop (gt V z).toNat) aa).2.2.2)] [.int .u32 ((gt ((Y.take (gt V (z + 1)).toNat).drop (gt V z).toNat) aa).1), .int .u64 ((gt ((Y.take (gt V (z + 1)).toNat).drop (gt V z).toNat) aa).2.1), .int .u32 ((gt ((Y.take (gt V (z + 1)).toNat).drop (gt V z).toNat) aa).2.2.1), .int .u32 ((gt ((Y.take (gt V (z + 1)).toNat).drop (gt V z).toNat) aa).2.2.2)]
     refine ek_ dA (Za (c6 _ _ (sq_ fun c7 => sq_ fun c8 => g_' (qs_ 2 (lr_ 62 0 (.agg #[.int .u32 ((gt ((Y.take (gt V (z + 1)).toNat).drop (gt V z).toNat) aa).1), .int .u64 ((gt ((Y.take (gt V (z + 1)).toNat).drop (gt V z).toNat) aa).2.1), .int .u32 ((gt ((Y.take (gt V (z + 1)).toNat).drop (gt V z).toNat) aa).2.2.1), .int .u32 ((gt ((Y.take (gt V (z + 1)).toNat).drop (gt V z).toNat) aa).2.2.2)]) b9 (qs_ 1 (lr_ 60 0 (.int .u32 ((gt ((Y.take (gt V (z + 1)).toNat).drop (gt V z).toNat) aa).1)) b9 ?_)))))))
     obtain ⟨cu, dT⟩ := Zb dR
     refine w_' ((gt ((Y.take (gt V (z + 1)).toNat).drop (gt V z).toNat) aa).1) (Zn cu) (qs_ 3 ?_)
     obtain ⟨cv, dU⟩ := Zb dT
     have ea := ((bi.ext aI).fr aJ (bJ.djn bi.lt))
     refine s_y l_ #[i_ ak, .agg #[.int .u32 ((gt ((Y.take (gt V (z + 1)).toNat).drop (gt V z).toNat) aa).1), .int .u64 ((gt ((Y.take (gt V (z + 1)).toNat).drop (gt V z).toNat) aa).2.1), .int .u32 ((gt ((Y.take (gt V (z + 1)).toNat).drop (gt V z).toNat) aa).2.2.1), .int .u32 ((gt ((Y.take (gt V (z + 1)).toNat).drop (gt V z).toNat) aa).2.2.2), i_ ((gt ((Y.take (gt V (z + 1)).toNat).drop (gt V z).toNat) aa).1), i_ z, i_ z]] (by kernel_rfl) (by kernel_rfl) (bY _ _ _ (ak, (gt ((Y.take (gt V (z + 1)).toNat).drop (gt V z).toNat) aa).1, (gt ((Y.take (gt V (z + 1)).toNat).drop (gt V z).toNat) aa).2.1, (gt ((Y.take (gt V (z + 1)).toNat).drop (gt V z).toNat) aa).2.2.1, (gt ((Y.take (gt V (z + 1)).toNat).drop (gt V z).toNat) aa).2.2.2, (gt ((Y.take (gt V (z + 1)).toNat).drop (gt V z).toNat) aa).1, z, z) aJ.wf cv ea.at) ?_
     rintro _ el ⟨rfl, co, cl, cH, cB⟩
     refine qs_ 1 (Za (c8 _ _ ?_))
     refine wb_ false (fun h => by cases h) fun _ => ?_
     refine Zg (c7 _ _ (g_' (qs_ 1 ?_)))
     obtain ⟨cw, dV⟩ := Zb dU
     refine w_' ((ak + 1)) (Zn cw) (qs_ 1 (Za (c5 _ _ (g_' ?_))))
     obtain ⟨cx, dW⟩ := Zb dV
     refine w_' ((aa + 1)) (Zn (by have := cx; omega)) (qs_ 1 (Za ?_))
     have dv := (t_ (t_ aq.n aI.n) aJ.n)
     obtain rfl := oi_ dW
     exact c3 du _ _ lt_ ⟨(yield6 ++ [(ak, (gt ((Y.take (gt V (z + 1)).toNat).drop (gt V z).toNat) aa).1, (gt ((Y.take (gt V (z + 1)).toNat).drop (gt V z).toNat) aa).2.1, (gt ((Y.take (gt V (z + 1)).toNat).drop (gt V z).toNat) aa).2.2.1, (gt ((Y.take (gt V (z + 1)).toNat).drop (gt V z).toNat) aa).2.2.2, (gt ((Y.take (gt V (z + 1)).toNat).drop (gt V z).toNat) aa).1, z, z)]), (ak + 1), (aa + 1), co, bU, ha_, (fs_ ad.wf (fs_ ad.wf ((fs_ ad.wf (fr_ ad.wf) aq ir_).extR aI) aJ (bJ.fresh aq.n)) cl (Inn.trans ir_ (Nat.le_refl _) bg)), cH, (Inn.trans (Inn.trans ir_ (Nat.le_refl _) bg) dv cB)⟩
    have dX := Zj av ay
    refine ZA (Zm (Zm (ZK ?_)))
    obtain rfl := oi_ dX
    obtain rfl := Zw bU
    exact c2 _ _ ⟨aN, ha_, (fs_ ad.wf (fr_ ad.wf) aq ir_), bi, (Inn.trans ir_ (Nat.le_refl _) bg)⟩
   obtain ⟨aM, bO, ck, dp, cR⟩ := hM
   obtain ⟨β, rfl⟩ := Zi bO
   clear bO
   refine cZ _ _ (g_' (w_' ((z + 1)) (Zn (by have := bC; omega)) (qs_ 1 (Za ?_))))
   obtain rfl := oi_ dP
   exact cX dt _ _ lt_ ⟨aE.1, aE.2, (z + 1), aM, bT, ha_, (fs_ ac.wf (fs_ ac.wf (fr_ ac.wf) ad ir_) ck (Inn.trans ir_ (Nat.le_refl _) a0)), dp, (Inn.trans (Inn.trans ir_ (Nat.le_refl _) a0) ad.n cR)⟩
  have dY := Zj a_ ax
  refine ZA (Zm (Zm (ZK ?_)))
  obtain rfl := oi_ dY
  obtain rfl := Zw bT
  exact cW _ _ ⟨ah, trivial, (fs_ ac.wf (fr_ ac.wf) ad ir_), bZ, (Inn.trans ir_ (Nat.le_refl _) a0)⟩
 obtain ⟨aL, bL, cj, dk, cQ⟩ := hM
 obtain ⟨β, rfl⟩ := Zi bL
 clear bL
 refine ZgX (vs := []) (rfl) ?_
 obtain rfl := oi_ dJ
 exact ⟨aL, rfl, (fs_ al (fs_ al (fr_ al) ac ir_) cj (Inn.trans ir_ (Nat.le_refl _) aC)), dk, (Inn.trans (Inn.trans ir_ (Nat.le_refl _) aC) ac.n cQ)⟩
theorem ZfE {H : AH} {O : Int} {V : Int} {z : Int} {J : Int} {r : Bool}
    (Z : WF H) (Y : Zcj O V z J = some r) :
    ACalls Tryz.prog 150 #[.agg #[.int .u32 O, .int .u64 V, .int .u32 z, .int .u32 J]] H fun v H' => v = .bool r /\ FrS [] H H' := by
 refine ab_ Tryz.func150 ?_
 unfold Zcj at Y
 refine sq_ fun ad => g_' ?_
 refine rl_ Z [.int .u32 O, .int .u64 V, .int .u32 z, .int .u32 J] fun ah ag aa ai ac => ?_
 refine qs_ 1 (Za (ad _ _ (sq_ fun ab => g_' (qs_ 1 (lr_ 60 2 (.int .u32 z) ac ?_)))))
 refine sb_ (z = 4294967295) (fun X => ?_) fun X => ?_
 ·have ae := Zf X Y
  refine qs_ 2 (lr_ 60 3 (.int .u32 J) ac (qs_ 3 (Za (ab _ _ ?_))))
  refine Zp ?_
  refine br_ [.bool (decide (J = 4294967295))] ?_
  obtain rfl := oi_ ae
  exact ⟨rfl, ((f0_ Z).extR aa)⟩
 have af := Zj X Y
 refine qs_ 6 (Za (ab _ _ ?_))
 refine Zp ?_
 refine br_ [.bool false] ?_
 obtain rfl := oi_ af
 exact ⟨rfl, ((f0_ Z).extR aa)⟩
end Go.Vd

/-! (KWt1) -/

set_option maxRecDepth 100000
set_option maxHeartbeats 4000000
set_option linter.unusedVariables false
namespace Go.Vd
open Go.Proofs
attribute [local irreducible] Zs Zu aWp
theorem Zh2 {H : AH} {aw : Value} {bI : Fp} {aQ : Value} {bK : Fp} {ah : Value} {bJ : Fp} {aP : Value} {bH : Fp} {aO : Value} {bG : Fp} {aa : Value} {bL : Fp} {az : List (Int)} {a2 : List (Int)} {aq : List (Int × Int × Int × Int)} {aW : List (Int)} {aV : List (Int × Int × Int × Int)} {all : List (Int × Int × Int × Int × Int × Int × Int)} {i : Int} {r : Bool}
    (J : WF H) (aN : Sq (Zh .u32) 1 H aw az bI) (bS : Sq (Zh .u32) 1 H aQ a2 bK) (ak : Sq Ze 4 H ah aq bJ) (bR : Sq (Zh .u32) 1 H aP aW bH) (bQ : Sq Ze 4 H aO aV bG) (al : Sq ZY 7 H aa all bL) (a9 : ZcP az a2 aq aW aV all i = some r) :
    ACalls Tryz.prog 106 #[.agg #[aw, aQ, ah, aP, aO], aa, i_ i] H fun v H' => v = .bool r /\ FrS [] H H' := by
 refine ab_ Tryz.func106 ?_
 unfold ZcP at a9
 refine sq_ fun bV => g_' ?_
 refine Z3 J [aw, aQ, ah, aP, aO] (Zd (aN.one1) (Zd (bS.one1) (Zd (ak.one1) (Zd (bR.one1) (Zd (bQ.one1) (ZN)))))) (by kernel_rfl) fun a3 cT z cW ai => ?_
 refine qs_ 1 (Za (bV _ _ (sq_ fun b1 => g_' (qs_ 2 ?_))))
 obtain ⟨av, cc⟩ := Zb a9
 have ao := (al.ext z)
 refine ao.ix_ 101 av.1 av.2 (le_ 189 0 (.agg #[.int .u32 ((gt all i).1), .int .u64 ((gt all i).2.1), .int .u32 ((gt all i).2.2.1), .int .u32 ((gt all i).2.2.2.1), i_ ((gt all i).2.2.2.2.1), i_ ((gt all i).2.2.2.2.2.1), i_ ((gt all i).2.2.2.2.2.2)]) ao av.1 av.2 ?_)
 refine rk_ z.wf [.int .u32 0, .int .u64 0, .int .u32 0, .int .u32 0, i_ 0, i_ 0, i_ 0] fun aA cR V Y aT => ?_
 obtain ⟨aX, cb, O, ae⟩ := ra_ 189 0 V.wf aT [.int .u32 ((gt all i).1), .int .u64 ((gt all i).2.1), .int .u32 ((gt all i).2.2.1), .int .u32 ((gt all i).2.2.2.1), i_ ((gt all i).2.2.2.2.1), i_ ((gt all i).2.2.2.2.2.1), i_ ((gt all i).2.2.2.2.2.2)] [.int .u32 ((gt all i).1), .int .u64 ((gt all i).2.1), .int .u32 ((gt all i).2.2.1), .int .u32 ((gt all i).2.2.2.1), i_ ((gt all i).2.2.2.2.1), i_ ((gt all i).2.2.2.2.2.1), i_ ((gt all i).2.2.2.2.2.2)]
 refine ek_ cb (Za (b1 _ _ (sq_ fun bX => Zl (sq_ fun bY => ?_))))
 obtain ⟨bc, bT, bk⟩ := bs_ cc
 refine Zv (fun α aY => Has α [(1, aa), (2, i_ i), (3, pt_ a3 0), (7, pt_ aA 0), (16, .bool bc)] /\ aX = aY) (fun _ bb => ?_) (fun α aY hM => ?_)
 ·refine g_' (qs_ 2 (lr_ 60 0 (.int .u32 ((gt all i).1)) ae ?_))
  obtain ⟨a5, bl⟩ := Zb bT
  refine w_' ((gt all i).1) (Zn a5) (qs_ 1 ?_)
  have cK := ((ai.ext V).frS O (Y.djn ai.ltF))
  refine lr_ 22 0 (aw) cK ?_
  have bD := (Y.djn (aN.lt.le z.n))
  have cL := (((aN.ext z).ext V).fr O bD)
  refine cL.ln_ 22 ?_
  refine sb_ (((gt all i).1) ≥ (az.length : Int)) (fun aG => ?_) fun aG => ?_
  ·have co := Zf aG bl
   refine qs_ 10 (Za ?_)
   obtain rfl := oi_ co
   exact bb _ _ ⟨ha_, rfl⟩
  have cp := Zj aG bl
  refine qs_ 3 (lr_ 60 0 (.int .u32 ((gt all i).1)) ae (w_' ((gt all i).1) (Zn a5) (qs_ 1 (lr_ 3 6 (i_ ((gt all i).2.2.2.2.2.2)) ae (qs_ 3 (Za ?_))))))
  obtain rfl := oi_ cp
  exact bb _ _ ⟨ha_, rfl⟩
 obtain ⟨a6, rfl⟩ := hM
 obtain ⟨β, rfl⟩ := Zi a6
 clear a6
 refine bY _ _ ?_
 refine wb_ (bc) (fun aH => ?_) fun aH => ?_
 ·have cq := Zf aH bk
  refine sn_ ?_
  refine Zp (ZI (Zk ?_))
  refine br_ [.bool false] ?_
  obtain rfl := oi_ cq
  exact ⟨rfl, (fs_ J (((f0_ J).extR z).extR V) O (Y.fresh z.n))⟩
 have cr := ZL aH bk
 refine sq_ fun bZ => ?_
 obtain ⟨bd, a_, bm⟩ := bs_ cr
 refine Zv (fun α aZ => Has α [(1, aa), (3, pt_ a3 0), (7, pt_ aA 0), (34, .bool bd)] /\ aX = aZ) (fun _ ax => ?_) (fun α aZ hM => ?_)
 ·refine ZJ [0, 1, 2, 3, 4, 5, 6, 7, 8, 9, 10, 11, 12, 13, 14, 15, 16, 17, 18, 19, 20, 21, 22, 23, 24, 25, 26, 27, 28, 29, 30, 31, 32, 33] (by kernel_rfl) ?_
  refine es_ 1 ?_
  refine db_ (i > 0) (fun aI => ?_) fun aI => ?_
  ·have bn := Zf aI a_
   refine es_ 3 ?_
   have cM := ((ai.ext V).frS O (Y.djn ai.ltF))
   refine mr_ 23 2 (ah) cM ?_
   have bE := (Y.djn (ak.lt.le z.n))
   have cN := (((ak.ext z).ext V).fr O bE)
   refine cN.mn_ 23 ?_
   refine ZjB (i = (aq.length : Int)) (by kernel_rfl) (fun aJ => ?_) (fun aJ => ?_)
   ·have ct := Zf aJ bn
    refine es_ 26 ?_
    refine ZE ?_
    obtain rfl := oi_ ct
    exact ax _ _ ⟨ha_, rfl⟩
   have cu := Zj aJ bn
   refine es_ 4 ?_
   obtain ⟨bM, cv⟩ := Zb cu
   refine d_w ((i - 1)) (k := .i64) (x := (i - 1)) (by kernel_rfl) (Zn bM) ?_
   obtain ⟨Z, bo⟩ := Zb cv
   have bF := (Y.djn (al.lt.le z.n))
   have af := ((ao.ext V).fr O bF)
   refine af.mx_ 101 Z.1 Z.2 (m_' (elp aa 7 (i - 1).toNat 6) (ZS Tryz.prog 189 (elp aa 7 (i - 1).toNat 0) 3) (Sq.fldq (d := 6) af Z.1 Z.2 (by kernel_rfl)) (me_ 3 6 (i_ ((gt all (i - 1)).2.2.2.2.2.2)) af Z.1 Z.2 (es_ 1 (mr_ 3 6 (i_ ((gt all i).2.2.2.2.2.2)) ae ?_))))
   refine db_ (((gt all (i - 1)).2.2.2.2.2.2) = ((gt all i).2.2.2.2.2.2)) (fun aK => ?_) fun aK => ?_
   ·have cw := Zf aK bo
    refine es_ 4 ?_
    obtain ⟨bN, cx⟩ := Zb cw
    refine d_w ((i - 1)) (k := .i64) (x := (i - 1)) (by kernel_rfl) (Zn (by have := bN; omega)) ?_
    refine af.mx_ 101 Z.1 Z.2 (m_' (elp aa 7 (i - 1).toNat 0) (ZS Tryz.prog 189 (elp aa 7 (i - 1).toNat 0) 0) (Sq.fldq (d := 0) af Z.1 Z.2 (by kernel_rfl)) (m_' (elp aa 7 (i - 1).toNat 0) (ZS Tryz.prog 62 (elp aa 7 (i - 1).toNat 0) 0) (Sq.fldq (d := 0) af Z.1 Z.2 (by kernel_rfl)) (me_ 60 0 (.int .u32 ((gt all (i - 1)).1)) af Z.1 Z.2 (es_ 2 (mr_ 60 0 (.int .u32 ((gt all i).1)) ae (es_ 3 ?_))))))
    refine ZE ?_
    obtain rfl := oi_ cx
    exact ax _ _ ⟨ha_, rfl⟩
   have cy := Zj aK bo
   refine es_ 15 ?_
   refine ZE ?_
   obtain rfl := oi_ cy
   exact ax _ _ ⟨ha_, rfl⟩
  have cz := Zj aI a_
  refine es_ 32 ?_
  refine ZE ?_
  obtain rfl := oi_ cz
  exact ax _ _ ⟨ha_, rfl⟩
 obtain ⟨a7, rfl⟩ := hM
 obtain ⟨β, rfl⟩ := Zi a7
 clear a7
 refine bZ _ _ ?_
 refine wb_ (bd) (fun aL => ?_) fun aL => ?_
 ·have cA := Zf aL bm
  refine sn_ ?_
  refine Zp (ZI (Zk ?_))
  refine br_ [.bool false] ?_
  obtain rfl := oi_ cA
  exact ⟨rfl, (fs_ J (((f0_ J).extR z).extR V) O (Y.fresh z.n))⟩
 have cB := ZL aL bm
 refine sq_ fun b0 => g_' (qs_ 1 (lr_ 62 0 (.agg #[.int .u32 ((gt all i).1), .int .u64 ((gt all i).2.1), .int .u32 ((gt all i).2.2.1), .int .u32 ((gt all i).2.2.2.1)]) ae ?_))
 obtain ⟨cO, bU, bp⟩ := bs_ cB
 refine ck_ (ZfE O.wf bU) ?_
 rintro _ a0 ⟨rfl, X⟩
 refine qs_ 1 (Za (b0 _ _ ?_))
 refine wb_ (cO) (fun aM => ?_) fun aM => ?_
 ·have cC := Zf aM bp
  refine sn_ ?_
  refine Zp (ZI (Zk ?_))
  refine br_ [.bool true] ?_
  obtain rfl := oi_ cC
  exact ⟨rfl, (fs_ J (fs_ J (((f0_ J).extR z).extR V) O (Y.fresh z.n)) X in_)⟩
 have cD := ZL aM bp
 refine Zg (bX _ _ (sq_ fun b2 => ?_))
 refine ZJ [0, 1, 2, 3, 4, 5, 6, 7, 8, 9] (by kernel_rfl) ?_
 refine es_ 2 ?_
 have aU := (ae.frS X dn_)
 refine mr_ 60 2 (.int .u32 ((gt all i).2.2.1)) aU ?_
 obtain ⟨bO, cE⟩ := Zb cD
 refine d_w ((gt all i).2.2.1) (k := .i64) (x := (gt all i).2.2.1) (by kernel_rfl) (Zn bO) ?_
 refine es_ 2 (mr_ 60 3 (.int .u32 ((gt all i).2.2.2.1)) aU ?_)
 obtain ⟨bP, cF⟩ := Zb cE
 refine d_w ((gt all i).2.2.2.1) (k := .i64) (x := (gt all i).2.2.2.1) (by kernel_rfl) (Zn bP) ?_
 refine es_ 2 ?_
 refine ZE ?_
 refine b2 _ _ (sq_ fun b3 => sq_ fun b4 => ?_)
 obtain ⟨be, ba, bq⟩ := bs_ cF
 refine Zv (fun α a1 => Has α [(1, aa), (7, pt_ aA 0), (8, i_ ((gt all i).2.2.1)), (9, i_ ((gt all i).2.2.2.1)), (97, .bool be)] /\ a0 = a1) (fun _ aS => ?_) (fun α a1 hM => ?_)
 ·refine g_' (qs_ 2 ?_)
  have br := (((ai.ext V).frS O (Y.djn ai.ltF)).frS X dn_)
  refine lr_ 23 2 (ah) br ?_
  have bw := (Y.djn (ak.lt.le z.n))
  have bs := ((((ak.ext z).ext V).fr O bw).fr X dn_)
  refine bs.ln_ 23 ?_
  refine sb_ (((gt all i).2.2.1) < (aq.length : Int)) (fun aB => ?_) fun aB => ?_
  ·have cd := Zf aB ba
   refine qs_ 13 (Za ?_)
   obtain rfl := oi_ cd
   exact aS _ _ ⟨ha_, rfl⟩
  have bf := Zj aB ba
  refine qs_ 3 ?_
  have bx := (Y.djn (al.lt.le z.n))
  have cG := (((ao.ext V).fr O bx).fr X dn_)
  refine cG.ln_ 101 ?_
  refine sb_ (((gt all i).2.2.1) ≥ (all.length : Int)) (fun aC => ?_) fun aC => ?_
  ·have ce := Zf aC bf
   refine qs_ 8 (Za ?_)
   obtain rfl := oi_ ce
   exact aS _ _ ⟨ha_, rfl⟩
  have cf := Zj aC bf
  refine qs_ 4 (lr_ 23 2 (ah) br (bs.ln_ 23 (qs_ 2 (Za ?_))))
  obtain rfl := oi_ cf
  exact aS _ _ ⟨ha_, rfl⟩
 obtain ⟨a8, rfl⟩ := hM
 obtain ⟨β, rfl⟩ := Zi a8
 clear a8
 refine b4 _ _ ?_
 refine wb_ (be) (fun aD => ?_) fun aD => ?_
 ·have cg := Zf aD bq
  refine sn_ ?_
  refine Zp (Zk ?_)
  refine br_ [.bool false] ?_
  obtain rfl := oi_ cg
  exact ⟨rfl, (fs_ J (fs_ J (((f0_ J).extR z).extR V) O (Y.fresh z.n)) X in_)⟩
 have ch := ZL aD bq
 refine Zg (b3 _ _ (sq_ fun bW => ?_))
 refine ZJ [0, 1, 2, 3, 4, 5, 6, 7, 8, 9, 10, 11] (by kernel_rfl) ?_
 refine es_ 2 ?_
 obtain ⟨au, ci⟩ := Zb ch
 have bz := (Y.djn (al.lt.le z.n))
 have ap := (((ao.ext V).fr O bz).fr X dn_)
 refine ap.mx_ 101 au.1 au.2 (me_ 189 0 (.agg #[.int .u32 ((gt all ((gt all i).2.2.1)).1), .int .u64 ((gt all ((gt all i).2.2.1)).2.1), .int .u32 ((gt all ((gt all i).2.2.1)).2.2.1), .int .u32 ((gt all ((gt all i).2.2.1)).2.2.2.1), i_ ((gt all ((gt all i).2.2.1)).2.2.2.2.1), i_ ((gt all ((gt all i).2.2.1)).2.2.2.2.2.1), i_ ((gt all ((gt all i).2.2.1)).2.2.2.2.2.2)]) ap au.1 au.2 (es_ 2 ?_))
 obtain ⟨ag, bg⟩ := Zb ci
 refine ap.mx_ 101 ag.1 ag.2 ?_
 refine ZcR (.agg #[.int .u32 ((gt all ((gt all i).2.2.2.1)).1), .int .u64 ((gt all ((gt all i).2.2.2.1)).2.1), .int .u32 ((gt all ((gt all i).2.2.2.1)).2.2.1), .int .u32 ((gt all ((gt all i).2.2.2.1)).2.2.2.1), i_ ((gt all ((gt all i).2.2.2.1)).2.2.2.2.1), i_ ((gt all ((gt all i).2.2.2.1)).2.2.2.2.2.1), i_ ((gt all ((gt all i).2.2.2.1)).2.2.2.2.2.2)]) (x := aL_ 189 (elp aa 7 ((gt all i).2.2.2.1).toNat 0) a0) (by kernel_rfl) (ap.ld ag.1 ag.2 (by kernel_rfl)) ?_
 refine Zem X.wf [.int .u32 0, .int .u64 0, .int .u32 0, .int .u32 0, i_ 0, i_ 0, i_ 0] (by kernel_rfl) fun cU cP ab am bh => ?_
 refine Zem ab.wf [.int .u32 0, .int .u64 0, .int .u32 0, .int .u32 0, i_ 0, i_ 0, i_ 0] (by kernel_rfl) fun cV cQ ac an cj => ?_
 have cH := (bh.ext ac)
 obtain ⟨bv, b_, ad, ck⟩ := ra_ 189 0 ac.wf cH [.int .u32 ((gt all ((gt all i).2.2.1)).1), .int .u64 ((gt all ((gt all i).2.2.1)).2.1), .int .u32 ((gt all ((gt all i).2.2.1)).2.2.1), .int .u32 ((gt all ((gt all i).2.2.1)).2.2.2.1), i_ ((gt all ((gt all i).2.2.1)).2.2.2.2.1), i_ ((gt all ((gt all i).2.2.1)).2.2.2.2.2.1), i_ ((gt all ((gt all i).2.2.1)).2.2.2.2.2.2)] [.int .u32 ((gt all ((gt all i).2.2.1)).1), .int .u64 ((gt all ((gt all i).2.2.1)).2.1), .int .u32 ((gt all ((gt all i).2.2.1)).2.2.1), .int .u32 ((gt all ((gt all i).2.2.1)).2.2.2.1), i_ ((gt all ((gt all i).2.2.1)).2.2.2.2.1), i_ ((gt all ((gt all i).2.2.1)).2.2.2.2.2.1), i_ ((gt all ((gt all i).2.2.1)).2.2.2.2.2.2)]
 have ay := (t_ (t_ (t_ z.n V.n) O.n) X.n)
 have bA := (am.djn (al.lt.le ay))
 have cI := (((ap.ext ab).ext ac).fr ad bA)
 refine fk_ b_ (Zbb (y := aL_ 189 (elp aa 7 ((gt all i).2.2.2.1).toNat 0) bv) (by kernel_rfl) (cI.ld ag.1 ag.2 (by kernel_rfl)) (ZP)) ?_
 have a4 := (an.djn bh.ltF)
 have cJ := (cj.frS ad (Dj.symm a4))
 obtain ⟨cS, ca, aj, bi⟩ := ra_ 189 0 ad.wf cJ [.int .u32 ((gt all ((gt all i).2.2.2.1)).1), .int .u64 ((gt all ((gt all i).2.2.2.1)).2.1), .int .u32 ((gt all ((gt all i).2.2.2.1)).2.2.1), .int .u32 ((gt all ((gt all i).2.2.2.1)).2.2.2.1), i_ ((gt all ((gt all i).2.2.2.1)).2.2.2.2.1), i_ ((gt all ((gt all i).2.2.2.1)).2.2.2.2.2.1), i_ ((gt all ((gt all i).2.2.2.1)).2.2.2.2.2.2)] [.int .u32 ((gt all ((gt all i).2.2.2.1)).1), .int .u64 ((gt all ((gt all i).2.2.2.1)).2.1), .int .u32 ((gt all ((gt all i).2.2.2.1)).2.2.1), .int .u32 ((gt all ((gt all i).2.2.2.1)).2.2.2.1), i_ ((gt all ((gt all i).2.2.2.1)).2.2.2.2.1), i_ ((gt all ((gt all i).2.2.2.1)).2.2.2.2.2.1), i_ ((gt all ((gt all i).2.2.2.1)).2.2.2.2.2.2)]
 refine fk_ ca (Z0 (by kernel_rfl) (ZP)) ?_
 refine ZE ?_
 refine bW _ _ (sq_ fun aR => g_' (qs_ 1 ?_))
 have bt := (ck.frS aj a4)
 refine lr_ 3 4 (i_ ((gt all ((gt all i).2.2.1)).2.2.2.2.1)) bt (qs_ 1 ?_)
 have b5 := (t_ O.n X.n)
 have bB := (am.djn (aT.ltF.le b5))
 have b6 := (t_ (t_ O.n X.n) ab.n)
 have bC := (an.djn (aT.ltF.le b6))
 have bu := ((((aU.ext ab).ext ac).frS ad bB).frS aj bC)
 refine lr_ 3 4 (i_ ((gt all i).2.2.2.2.1)) bu ?_
 refine sb_ (((gt all ((gt all i).2.2.1)).2.2.2.2.1) = ((gt all i).2.2.2.2.1)) (fun aE => ?_) fun aE => ?_
 ·have bj := Zf aE bg
  refine qs_ 2 (lr_ 3 5 (i_ ((gt all ((gt all i).2.2.2.1)).2.2.2.2.2.1)) bi (qs_ 1 (lr_ 3 5 (i_ ((gt all i).2.2.2.2.2.1)) bu ?_)))
  refine sb_ (((gt all ((gt all i).2.2.2.1)).2.2.2.2.2.1) = ((gt all i).2.2.2.2.2.1)) (fun aF => ?_) fun aF => ?_
  ·have cl := Zf aF bj
   refine qs_ 3 (lr_ 3 6 (i_ ((gt all ((gt all i).2.2.1)).2.2.2.2.2.2)) bt (qs_ 1 (lr_ 3 6 (i_ ((gt all ((gt all i).2.2.2.1)).2.2.2.2.2.2)) bi (qs_ 3 (Za (aR _ _ ?_))))))
   refine Zp ?_
   refine br_ [.bool (decide (((gt all ((gt all i).2.2.1)).2.2.2.2.2.2) = ((gt all ((gt all i).2.2.2.1)).2.2.2.2.2.2)))] ?_
   have b7 := (t_ (t_ (t_ (t_ z.n V.n) O.n) X.n) ab.n)
   obtain rfl := oi_ cl
   exact ⟨rfl, (fs_ J (fs_ J (((fs_ J (fs_ J (((f0_ J).extR z).extR V) O (Y.fresh z.n)) X in_).extR ab).extR ac) ad (am.fresh ay)) aj (an.fresh b7))⟩
  have cm := Zj aF bj
  refine qs_ 9 (Za (aR _ _ ?_))
  refine Zp ?_
  refine br_ [.bool false] ?_
  have b8 := (t_ (t_ (t_ (t_ z.n V.n) O.n) X.n) ab.n)
  obtain rfl := oi_ cm
  exact ⟨rfl, (fs_ J (fs_ J (((fs_ J (fs_ J (((f0_ J).extR z).extR V) O (Y.fresh z.n)) X in_).extR ab).extR ac) ad (am.fresh ay)) aj (an.fresh b8))⟩
 have cn := Zj aE bg
 refine qs_ 15 (Za (aR _ _ ?_))
 refine Zp ?_
 refine br_ [.bool false] ?_
 have b9 := (t_ (t_ (t_ (t_ z.n V.n) O.n) X.n) ab.n)
 obtain rfl := oi_ cn
 exact ⟨rfl, (fs_ J (fs_ J (((fs_ J (fs_ J (((f0_ J).extR z).extR V) O (Y.fresh z.n)) X in_).extR ab).extR ac) ad (am.fresh ay)) aj (an.fresh b9))⟩
theorem ZhH {H : AH} {z : Value} {ap : Fp} {all : List (Int × Int × Int × Int × Int × Int × Int)} {i : Int} {r : Bool}
    (J : WF H) (ac : Sq ZY 7 H z all ap) (ak : Zcz all i = some r) :
    ACalls Tryz.prog 107 #[z, i_ i] H fun v H' => v = .bool r /\ FrS [] H H' := by
 refine ab_ Tryz.func107 ?_
 unfold Zcz at ak
 refine sn_ (sq_ fun ax => g_' (qs_ 2 ?_))
 obtain ⟨aa, aE⟩ := Zb ak
 refine ac.ix_ 101 aa.1 aa.2 (l_' (elp z 7 i.toNat 0) (ZS Tryz.prog 189 (elp z 7 i.toNat 0) 0) (Sq.fldq (d := 0) ac aa.1 aa.2 (by kernel_rfl)) (le_ 62 0 (.agg #[.int .u32 ((gt all i).1), .int .u64 ((gt all i).2.1), .int .u32 ((gt all i).2.2.1), .int .u32 ((gt all i).2.2.2.1)]) ac aa.1 aa.2 ?_))
 refine rk_ J [.int .u32 0, .int .u64 0, .int .u32 0, .int .u32 0] fun aQ aP e7 ab aK => ?_
 obtain ⟨aN, aA, Z, aj⟩ := ra_ 62 0 e7.wf aK [.int .u32 ((gt all i).1), .int .u64 ((gt all i).2.1), .int .u32 ((gt all i).2.2.1), .int .u32 ((gt all i).2.2.2.1)] [.int .u32 ((gt all i).1), .int .u64 ((gt all i).2.1), .int .u32 ((gt all i).2.2.1), .int .u32 ((gt all i).2.2.2.1)]
 refine ek_ aA (Za (ax _ _ (sq_ fun av => sq_ fun aw => g_' (lr_ 62 0 (.agg #[.int .u32 ((gt all i).1), .int .u64 ((gt all i).2.1), .int .u32 ((gt all i).2.2.1), .int .u32 ((gt all i).2.2.2.1)]) aj ?_))))
 obtain ⟨aM, au, al⟩ := bs_ aE
 refine ck_ (ZfE Z.wf au) ?_
 rintro _ aO ⟨rfl, O⟩
 refine Za (aw _ _ ?_)
 refine wb_ (aM) (fun af => ?_) fun af => ?_
 ·have aB := Zf af al
  refine sq_ fun ay => g_' (qs_ 1 ?_)
  have aL := (aj.frS O dn_)
  refine lr_ 35 1 (.int .u64 ((gt all i).2.1)) aL (qs_ 2 (Za (ay _ _ ?_)))
  refine Zp (Zk ?_)
  refine br_ [.bool (decide (((gt all i).2.1) ≤ 2147483647))] ?_
  obtain rfl := oi_ aB
  exact ⟨rfl, (fs_ J (fs_ J ((f0_ J).extR e7) Z (ab.fresh (Nat.le_refl _))) O in_)⟩
 have aC := ZL af al
 refine Zg (av _ _ (sq_ fun az => ?_))
 refine ZJ [0, 1, 2, 3, 4, 5, 6, 7, 8, 9, 10, 11, 12, 13, 14, 15] (by kernel_rfl) ?_
 refine es_ 2 ?_
 have ae := (aj.frS O dn_)
 refine mr_ 60 2 (.int .u32 ((gt all i).2.2.1)) ae ?_
 obtain ⟨V, aD⟩ := Zb aC
 have Y := (((ac.ext e7).fr Z (ab.djn ac.lt)).fr O dn_)
 refine m_' (elp z 7 ((gt all i).2.2.1).toNat 0) (ZB Tryz.prog 101 z (.int .u32 ((gt all i).2.2.1))) (Y.idxb (by kernel_rfl) V.1 V.2) (m_' (elp z 7 ((gt all i).2.2.1).toNat 0) (ZS Tryz.prog 189 (elp z 7 ((gt all i).2.2.1).toNat 0) 0) (Sq.fldq (d := 0) Y V.1 V.2 (by kernel_rfl)) (m_' (elp z 7 ((gt all i).2.2.1).toNat 1) (ZS Tryz.prog 62 (elp z 7 ((gt all i).2.2.1).toNat 0) 1) (Sq.fldq (d := 1) Y V.1 V.2 (by kernel_rfl)) (me_ 35 1 (.int .u64 ((gt all ((gt all i).2.2.1)).2.1)) Y V.1 V.2 (es_ 2 (mr_ 60 3 (.int .u32 ((gt all i).2.2.2.1)) ae ?_)))))
 obtain ⟨X, am⟩ := Zb aD
 refine m_' (elp z 7 ((gt all i).2.2.2.1).toNat 0) (ZB Tryz.prog 101 z (.int .u32 ((gt all i).2.2.2.1))) (Y.idxb (by kernel_rfl) X.1 X.2) (m_' (elp z 7 ((gt all i).2.2.2.1).toNat 0) (ZS Tryz.prog 189 (elp z 7 ((gt all i).2.2.2.1).toNat 0) 0) (Sq.fldq (d := 0) Y X.1 X.2 (by kernel_rfl)) (m_' (elp z 7 ((gt all i).2.2.2.1).toNat 1) (ZS Tryz.prog 62 (elp z 7 ((gt all i).2.2.2.1).toNat 0) 1) (Sq.fldq (d := 1) Y X.1 X.2 (by kernel_rfl)) (me_ 35 1 (.int .u64 ((gt all ((gt all i).2.2.2.1)).2.1)) Y X.1 X.2 (es_ 2 ?_))))
 refine ZE ?_
 refine az _ _ (sq_ fun ad => g_' (qs_ 1 (lr_ 35 1 (.int .u64 ((gt all i).2.1)) ae ?_)))
 refine sb_ (((gt all i).2.1) ≤ 140737488355328) (fun ag => ?_) fun ag => ?_
 ·have an := Zf ag am
  refine qs_ 2 ?_
  refine sb_ (((gt all ((gt all i).2.2.1)).2.1) ≤ 140737488355328) (fun ah => ?_) fun ah => ?_
  ·have ao := Zf ah an
   refine qs_ 3 ?_
   refine sb_ (((gt all ((gt all i).2.2.2.1)).2.1) ≤ 140737488355328) (fun ai => ?_) fun ai => ?_
   ·have aF := Zf ai ao
    refine qs_ 4 ?_
    obtain ⟨aq, aG⟩ := Zb aF
    refine s_w ((((gt all ((gt all i).2.2.1)).2.1) + ((gt all ((gt all i).2.2.2.1)).2.1))) (k := .u64) (x := (((gt all ((gt all i).2.2.1)).2.1) + ((gt all ((gt all i).2.2.2.1)).2.1))) (by kernel_rfl) (Zag aq) ?_
    refine qs_ 1 (lr_ 35 1 (.int .u64 ((gt all i).2.1)) ae (qs_ 3 (Za (ad _ _ ?_))))
    refine Zp ?_
    refine br_ [.bool (decide ((((gt all ((gt all i).2.2.1)).2.1) + ((gt all ((gt all i).2.2.2.1)).2.1)) = ((gt all i).2.1)))] ?_
    obtain rfl := oi_ aG
    exact ⟨rfl, (fs_ J (fs_ J ((f0_ J).extR e7) Z (ab.fresh (Nat.le_refl _))) O in_)⟩
   have aH := Zj ai ao
   refine qs_ 10 (Za (ad _ _ ?_))
   refine Zp ?_
   refine br_ [.bool false] ?_
   obtain rfl := oi_ aH
   exact ⟨rfl, (fs_ J (fs_ J ((f0_ J).extR e7) Z (ab.fresh (Nat.le_refl _))) O in_)⟩
  have aI := Zj ah an
  refine qs_ 14 (Za (ad _ _ ?_))
  refine Zp ?_
  refine br_ [.bool false] ?_
  obtain rfl := oi_ aI
  exact ⟨rfl, (fs_ J (fs_ J ((f0_ J).extR e7) Z (ab.fresh (Nat.le_refl _))) O in_)⟩
 have aJ := Zj ag am
 refine qs_ 17 (Za (ad _ _ ?_))
 refine Zp ?_
 refine br_ [.bool false] ?_
 obtain rfl := oi_ aJ
 exact ⟨rfl, (fs_ J (fs_ J ((f0_ J).extR e7) Z (ab.fresh (Nat.le_refl _))) O in_)⟩
theorem ZiN {H : AH} {aj : Value} {cU : Fp} {al : Value} {cW : Fp} {ak : Value} {cV : Fp} {ai : Value} {cT : Fp} {ah : Value} {cS : Fp} {ad : List (Int)} {aA : List (Int)} {az : List (Int × Int × Int × Int)} {aK : List (Int)} {ay : List (Int × Int × Int × Int)} {r : List (Int × Int × Int × Int × Int × Int × Int) × Er}
    (z : WF H) (aS : Sq (Zh .u32) 1 H aj ad cU) (aG : Sq (Zh .u32) 1 H al aA cW) (aF : Sq Ze 4 H ak az cV) (aE : Sq (Zh .u32) 1 H ai aK cT) (aD : Sq Ze 4 H ah ay cS) (bM : Zbl ad aA az aK ay = some r) :
    ACalls Tryz.prog 48 #[.agg #[aj, al, ak, ai, ah]] H fun v H' => ∃ (cb : Value) (aY : Fp) (cp : Value) (aZ : Fp), v = .tuple #[cb, cp] /\ FrS [] H H' /\ Ow ZY 7 H' cb r.1 aY /\ Ev 92 195 H' cp r.2 aZ /\ Inn [] H aY /\ Inn [] H aZ /\ Dj aY aZ := by
 refine ab_ Tryz.func48 ?_
 unfold Zbl at bM
 refine sq_ fun dx => g_' ?_
 refine Z3 z [aj, al, ak, ai, ah] (Zd (aS.one1) (Zd (aG.one1) (Zd (aF.one1) (Zd (aE.one1) (Zd (aD.one1) (ZN)))))) (by kernel_rfl) fun aM bu J fE ag => ?_
 refine qs_ 2 (Za (dx _ _ (sq_ fun dB => g_' (qs_ 1 (lr_ 22 0 (aj) ag ?_)))))
 have cg := (aS.ext J)
 refine cg.ln_ 22 (qs_ 1 (Za (dB _ _ (sq_ fun dC => Zl (sq_ fun dD => ?_)))))
 obtain ⟨b1, bP, b5⟩ := bs_ bM
 refine Zv (fun α bx => Has α [(1, pt_ aM 0), (4, i_ (ad.length : Int)), (15, .bool b1)] /\ bu = bx) (fun _ bS => ?_) (fun α bx hM => ?_)
 ·refine g_' (qs_ 1 ?_)
  refine sb_ ((ad.length : Int) > 65536) (fun a3 => ?_) fun a3 => ?_
  ·have es := Zf a3 bP
   refine qs_ 11 (Za ?_)
   obtain rfl := oi_ es
   exact bS _ _ ⟨ha_, rfl⟩
  have eu := Zj a3 bP
  refine qs_ 2 (lr_ 23 2 (ak) ag ?_)
  have e6 := (aF.ext J)
  refine e6.ln_ 23 (qs_ 1 (lr_ 23 4 (ah) ag ?_))
  have e8 := (aD.ext J)
  refine e8.ln_ 23 ?_
  obtain ⟨cZ, eF⟩ := Zb eu
  refine w_' (((az.length : Int) + (ay.length : Int))) (Zn cZ) (qs_ 3 (Za ?_))
  obtain rfl := oi_ eF
  exact bS _ _ ⟨ha_, rfl⟩
 obtain ⟨bI, rfl⟩ := hM
 obtain ⟨β, rfl⟩ := Zi bI
 clear bI
 refine dD _ _ ?_
 refine wb_ (b1) (fun a5 => ?_) fun a5 => ?_
 ·have eG := Zf a5 b5
  refine sn_ ?_
  refine Zp (ZI (Zk ?_))
  refine br_ [.slice none 0 0, .iface 92 (i_ 9)] ?_
  obtain rfl := oi_ eG
  exact ⟨(.slice none 0 0), [], (.iface 92 (i_ 9)), [], rfl, ((f0_ z).extR J), (Ow.nil (by decide)), Ev.no, in_, in_, dn_⟩
 have eH := ZL a5 b5
 refine sq_ fun dP => ?_
 obtain ⟨b3, c6, b8⟩ := bs_ eH
 refine Zv (fun α bz => Has α [(1, pt_ aM 0), (29, .bool b3)] /\ bu = bz) (fun _ bT => ?_) (fun α bz hM => ?_)
 ·refine g_' (qs_ 1 (lr_ 22 1 (al) ag ?_))
  have fa := (aG.ext J)
  refine fa.ln_ 22 (qs_ 1 ?_)
  obtain ⟨bD, b9⟩ := Zb c6
  refine w_' (((ad.length : Int) + 1)) (Zn (by have := bD; omega)) ?_
  refine Zgt ((aA.length : Int) = ((ad.length : Int) + 1)) (by kernel_rfl) (fun a6 => ?_) (fun a6 => ?_)
  ·have eI := Zf a6 b9
   refine qs_ 2 (lr_ 22 3 (ai) ag ?_)
   have fb := (aE.ext J)
   refine fb.ln_ 22 (qs_ 1 (w_' (((ad.length : Int) + 1)) (Zn (by have := bD; omega)) (qs_ 3 (Za ?_))))
   obtain rfl := oi_ eI
   exact bT _ _ ⟨ha_, rfl⟩
  have eJ := Zj a6 b9
  refine qs_ 9 (Za ?_)
  obtain rfl := oi_ eJ
  exact bT _ _ ⟨ha_, rfl⟩
 obtain ⟨bJ, rfl⟩ := hM
 obtain ⟨β, rfl⟩ := Zi bJ
 clear bJ
 refine dP _ _ ?_
 refine wb_ (b3) (fun a7 => ?_) fun a7 => ?_
 ·have eK := Zf a7 b8
  refine sn_ ?_
  refine Zp (ZI (Zk ?_))
  refine br_ [.slice none 0 0, .iface 92 (i_ 14)] ?_
  obtain rfl := oi_ eK
  exact ⟨(.slice none 0 0), [], (.iface 92 (i_ 14)), [], rfl, ((f0_ z).extR J), (Ow.nil (by decide)), Ev.no, in_, in_, dn_⟩
 have eL := ZL a7 b8
 refine Zg (dC _ _ (sq_ fun dQ => sq_ fun dR => g_' (qs_ 1 (lr_ 22 1 (al) ag (qs_ 1 (lr_ 23 2 (ak) ag ?_))))))
 have cj := (aF.ext J)
 refine cj.ln_ 23 ?_
 have ck := (aG.ext J)
 obtain ⟨fW, dd, b_⟩ := bs_ eL
 refine ck_ (Zfq J.wf ck dd) ?_
 rintro fP fx ⟨_, cQ, rfl, O, bX, dt⟩
 refine qs_ 1 (Za (dR _ _ (sq_ fun bU => g_' (qs_ 1 ?_))))
 rcases (bX).cases with ⟨a8, rfl⟩ | ⟨a8, bi, br, rfl⟩
 ·have eM := Zf a8 b_
  refine qs_ 1 (Za (bU _ _ ?_))
  refine wb_ false (fun h => by cases h) fun _ => ?_
  refine Zg (dQ _ _ (sq_ fun dS => sq_ fun dT => g_' (qs_ 1 ?_)))
  have bp := (ag.frS O dn_)
  refine lr_ 22 3 (ai) bp (qs_ 1 (lr_ 23 4 (ah) bp ?_))
  have cl := ((aD.ext J).fr O dn_)
  refine cl.ln_ 23 ?_
  have cm := ((aE.ext J).fr O dn_)
  obtain ⟨fX, de, ca⟩ := bs_ eM
  refine ck_ (Zfq O.wf cm de) ?_
  rintro fQ fy ⟨_, cR, rfl, X, bY, du⟩
  refine qs_ 1 (Za (dT _ _ (sq_ fun bV => g_' (qs_ 1 ?_))))
  rcases (bY).cases with ⟨a9, rfl⟩ | ⟨a9, bj, bs, rfl⟩
  ·have eN := Zf a9 ca
   refine qs_ 1 (Za (bV _ _ ?_))
   refine wb_ false (fun h => by cases h) fun _ => ?_
   refine Zg (dS _ _ (sq_ fun dU => sq_ fun dv => g_' (qs_ 1 ?_)))
   have cc := (bp.frS X dn_)
   refine lr_ 22 0 (aj) cc ?_
   have cd := ((cg.fr O dn_).fr X dn_)
   obtain ⟨fR, c7, b4⟩ := bs_ eN
   refine ck_ (Zh9 X.wf cd c7) ?_
   rintro fM ff ⟨_, cM, rfl, Y, bW, di⟩
   refine qs_ 1 (Za (dv _ _ (sq_ fun bR => g_' (qs_ 1 ?_))))
   rcases (bW).cases with ⟨a0, rfl⟩ | ⟨a0, bh, bq, rfl⟩
   ·have ee := Zf a0 b4
    refine qs_ 1 (Za (bR _ _ ?_))
    refine wb_ false (fun h => by cases h) fun _ => ?_
    refine Zg (dU _ _ (sq_ fun dw => g_' ?_))
    refine rk_ Y.wf [.slice none 0 0] fun ae fg ac ab bd => ?_
    refine Za (dw _ _ (sq_ fun dy => sq_ fun dz => g_' ?_))
    have ce := ((cc.frS Y dn_).ext ac)
    refine lr_ 25 0 (.agg #[aj, al, ak, ai, ah]) ce ?_
    have bk := ((cd.fr Y dn_).ext ac)
    have bl := ((((ck.fr O dn_).fr X dn_).fr Y dn_).ext ac)
    have bm := ((((cj.fr O dn_).fr X dn_).fr Y dn_).ext ac)
    have bn := (((cm.fr X dn_).fr Y dn_).ext ac)
    have bo := (((cl.fr X dn_).fr Y dn_).ext ac)
    obtain ⟨fS, c8, ef⟩ := bs_ ee
    refine ck_ (Zik ac.wf bk bl bm bn bo c8) ?_
    rintro _ bt ⟨cu, rfl, V, dV, dk⟩
    refine Za (dz _ _ (Zl ?_))
    obtain ⟨fT, c9, eg⟩ := bs_ ef
    obtain ⟨aJ, bL, eh⟩ := bs_ eg
    refine Zv (fun α ao => ∃ (bf : Value) (aQ : Fp), Has α [(1, pt_ aM 0), (8, pt_ ae 0)] /\ FrS [ae] bt ao /\ Ow ZY 7 ao bf aJ aQ /\ Row ao ae [bf] /\ Inn [] bt aQ) (fun _ dA => ?_) (fun α ao hM => ?_)
    ·refine Zlc 149 #[pt_ cu 0] (by kernel_rfl) (by kernel_rfl) (by kernel_rfl) (by kernel_rfl) ?_
     intro fH l_ hY_
     have df : Yld Tryz.prog l_ (fun tr_ => (Zc9 (fun x_ zz_ => Zad x_ zz_) [] tr_).isSome) (fun x_ => #[i_ x_.1, .agg #[.int .u32 x_.2.1, .int .u64 x_.2.2.1, .int .u32 x_.2.2.2.1, .int .u32 x_.2.2.2.2.1, i_ x_.2.2.2.2.2.1, i_ x_.2.2.2.2.2.2.1, i_ x_.2.2.2.2.2.2.2]]) (fun (H_ : AH) (xs_ : List (Int × Int × Int × Int × Int × Int × Int × Int)) (fp_ : Fp) => ∃ (aB : List (Int × Int × Int × Int × Int × Int × Int)), ∃ (bg : Value), ∃ (aR : Fp), Zc9 (fun x_ zz_ => Zad x_ zz_) [] xs_ = some aB /\ fp_ = (aR ++ [ae]) /\ Ow ZY 7 H_ bg aB aR /\ Row H_ ae [bg] /\ Dj aR [ae]) := by
      rintro cr xs_ fp_ x_ z hok_ ⟨aB, bg, aR, hf_, rfl, bc, aV, bA⟩
      obtain ⟨z_, bQ⟩ := Option.isSome_iff_exists.1 hok_
      have hz := bQ
      rw [Zjn hf_] at hz
      replace hz : Zad x_ aB = some z_ := hz
      unfold Zad at hz
      refine hY_ #[i_ x_.1, .agg #[.int .u32 x_.2.1, .int .u64 x_.2.2.1, .int .u32 x_.2.2.2.1, .int .u32 x_.2.2.2.2.1, i_ x_.2.2.2.2.2.1, i_ x_.2.2.2.2.2.2.1, i_ x_.2.2.2.2.2.2.2]] cr _ rfl (fun fI => ?_)
      obtain ⟨ct, d1, cv, rfl⟩ := bc.form
      refine ZkL (by kernel_rfl) ?_
      refine rk_ z [.int .u32 0, .int .u64 0, .int .u32 0, .int .u32 0, i_ 0, i_ 0, i_ 0] fun fB fh au a_ ej => ?_
      obtain ⟨fj, eb, av, ek⟩ := ra_ 189 0 au.wf ej [.int .u32 x_.2.1, .int .u64 x_.2.2.1, .int .u32 x_.2.2.2.1, .int .u32 x_.2.2.2.2.1, i_ x_.2.2.2.2.2.1, i_ x_.2.2.2.2.2.2.1, i_ x_.2.2.2.2.2.2.2] [.int .u32 x_.2.1, .int .u64 x_.2.2.1, .int .u32 x_.2.2.2.1, .int .u32 x_.2.2.2.2.1, i_ x_.2.2.2.2.2.1, i_ x_.2.2.2.2.2.2.1, i_ x_.2.2.2.2.2.2.2]
      refine ek_ eb (Za ?_)
      refine ZkV ?_
      refine ZkL (by kernel_rfl) ?_
      have cf := ((aV.ext au).frS av (a_.djn aV.ltF))
      refine lr_ 101 0 (.slice ct d1 cv) cf (lr_ 189 0 (.agg #[.int .u32 x_.2.1, .int .u64 x_.2.2.1, .int .u32 x_.2.2.2.1, .int .u32 x_.2.2.2.2.1, i_ x_.2.2.2.2.2.1, i_ x_.2.2.2.2.2.2.1, i_ x_.2.2.2.2.2.2.2]) ek ?_)
      refine ZaK (enc := ZY) (sz := 7) av.wf [(x_.2.1, x_.2.2.1, x_.2.2.2.1, x_.2.2.2.2.1, x_.2.2.2.2.2.1, x_.2.2.2.2.2.2.1, x_.2.2.2.2.2.2.2)] 1 (by decide) (fun _ _ => rfl) (fun _ _ => rfl) rfl (by kernel_rfl) fun fK fD fk aw fF bK => ?_
      obtain ⟨fA, fG, fC, rfl⟩ := bK.form
      have eP := (((bc.ext au).fr av (a_.djn bc.lt)).ext aw)
      obtain ⟨cX, el⟩ := Zb hz
      obtain ⟨fL, fm, bC, ec, aO, ba, bE⟩ := Ow.append (P := Tryz.prog) 48 aw.wf eP bK.sq (fun _ _ => rfl) (at_ := #[101, 101]) rfl rfl (by kernel_rfl) (by kernel_rfl) (by decide) (by have := cX; first | omega | (simp only [List.length_cons, List.length_nil] at this ⊢; omega) | (simp at this ⊢; omega))
      obtain ⟨aL, aW, aN, rfl⟩ := ba.form
      refine ZbX (.slice aL aW aN) (by kernel_rfl) (ec) ?_
      have eQ := ((cf.ext aw).frS aO bA)
      obtain ⟨fo, ed, aC, em⟩ := rb_ 101 0 aO.wf eQ (.slice aL aW aN) [.slice aL aW aN]
      refine ek_ ed (Za ?_)
      obtain rfl := oi_ el
      have bZ := (t_ (t_ au.n av.n) aw.n)
      have bB := (bE.dj bA (aV.ltF.le bZ))
      have eR := (ba.fr aC (Dj.symm bB))
      have d2 := (t_ (t_ (t_ (t_ au.n av.n) aw.n) aO.n) aC.n)
      exact ⟨rfl, (bC ++ [ae]), (fs_ z (fs_ z ((fs_ z ((fr_ z).extR au) av (a_.fresh (Nat.le_refl _))).extR aw) aO Inn.left) aC (Inn.right ir_)), ⟨(Lt.app (ba.lt.le aC.n) (aV.ltF.le d2)), aC.wf, fun W_ H_2 k_ d_ => ⟨(aB ++ [(x_.2.1, x_.2.2.1, x_.2.2.2.1, x_.2.2.2.2.1, x_.2.2.2.2.2.1, x_.2.2.2.2.2.2.1, x_.2.2.2.2.2.2.2)]), (.slice aL aW aN), bC, bQ, rfl, (eR.fr k_ (Dj.appL d_)), (em.frS k_ (Dj.appR d_)), bB⟩⟩, (Inn.app (Inn.trans Inn.left bZ bE) (Inn.right ir_))⟩
     have eS := (bd.frS V dn_)
     have eT := (bk.fr V dn_)
     have eU := (bl.fr V dn_)
     have eV := (bm.fr V dn_)
     have eW := (bn.fr V dn_)
     have eX := (bo.fr V dn_)
     have aI := (t_ (t_ (t_ J.n O.n) X.n) Y.n)
     have cw := (ab.djn (aF.lt.le aI))
     have cx := (dk.djn bd.ltF)
     have cy := (ab.djn (aG.lt.le aI))
     have cz := (ab.djn (aS.lt.le aI))
     have cA := (ab.djn (aE.lt.le aI))
     have cB := (ab.djn (aD.lt.le aI))
     refine (Zhl V.wf df ⟨(Lt.app Lt.nil (bd.ltF.le V.n)), V.wf, fun W_ H_2 k_ d_ => ⟨[], (.slice none 0 0), [], rfl, rfl, (Ow.nil (by decide)), (eS.frS k_ (Dj.appR d_)), dn_⟩⟩ eT eU eV eW eX dV (Dj.app dn_ cw) (Dj.app dn_ (Dj.symm cx)) (Dj.app dn_ cy) (Dj.app dn_ cz) (Dj.app dn_ cA) (Dj.app dn_ cB) c9).mono ?_
     rintro _ fs ⟨_, rfl, cJ, dW, dp⟩
     obtain ⟨fJ, eO, cN, c0, rfl, dX, dY, cC⟩ := dW.at
     rw [c0] at bL; cases bL
     exact dA _ _ ⟨eO, cN, ha_, cJ.mono (fun t_ ht_ => by simpa using ht_), dX, dY, Inn.off (fun t_ ht_ => dp t_ (List.mem_append_left _ ht_)) (Dj.app dn_ (Dj.symm cC))⟩
    obtain ⟨bf, aQ, bF, Z, aU, bb, dm⟩ := hM
    obtain ⟨β, rfl⟩ := Zi bF
    clear bF
    obtain ⟨ap, ax, aq, rfl⟩ := aU.form
    refine dy _ _ (sq_ fun dE => sq_ fun dF => g_' (lr_ 101 0 (.slice ap ax aq) bb (aU.sq.ln_ 101 (qs_ 1 (Za (dF _ _ ?_))))))
    obtain ⟨cq, c5, be⟩ := bs_ eh
    refine Zv (fun α bv => ∃ b2, cq = Sum.inr b2 /\ Has α [(8, pt_ ae 0)] /\ FrS [] ao bv) (fun _ dG => ?_) (fun α bv hM => ?_)
    ·refine Zl ?_
     obtain ⟨b0, c2⟩ := Zr.1 c5
     refine Zy (fun n α bw => ∃ (am : Int), ZD (fun zz_ => Zcf ad aA az aK ay aJ zz_) n am = some cq /\ Has α [(1, pt_ aM 0), (8, pt_ ae 0), (78, i_ (aJ.length : Int)), (79, i_ am)] /\ FrS [] ao bw) b0 ⟨0, c2, ha_, (fr_ Z.wf)⟩ ?_
     rintro b0 α bw ⟨am, c1, bH, aa⟩ fz dH
     obtain ⟨d3, fe, rfl, aH, aT⟩ := Zt c1
     obtain ⟨β, rfl⟩ := Zi bH
     clear bH
     replace aH : Zcf ad aA az aK ay aJ am = some fe := aH
     unfold Zcf at aH
     refine sn_ (sq_ fun dI => ?_)
     refine wc_ (am < (aJ.length : Int)) (fun a1 => ?_) fun a1 => ?_
     ·have eo := Zf a1 aH
      refine Zg (dI _ _ (sq_ fun dJ => Zl (sn_ (Zl (sq_ fun dK => g_' ?_)))))
      have d4 := (t_ (t_ O.n X.n) Y.n)
      have cD := (ab.djn (ag.ltF.le d4))
      have eY := (((ce.frS V dn_).frS Z cD).frS aa dn_)
      refine lr_ 25 0 (.agg #[aj, al, ak, ai, ah]) eY ?_
      have ch := (bb.frS aa dn_)
      refine lr_ 101 0 (.slice ap ax aq) ch (qs_ 1 ?_)
      have an := (t_ (t_ (t_ J.n O.n) X.n) Y.n)
      have cE := (ab.djn (aS.lt.le an))
      have eZ := (((bk.fr V dn_).fr Z cE).fr aa dn_)
      have cF := (ab.djn (aG.lt.le an))
      have e0 := (((bl.fr V dn_).fr Z cF).fr aa dn_)
      have cG := (ab.djn (aF.lt.le an))
      have e1 := (((bm.fr V dn_).fr Z cG).fr aa dn_)
      have cH := (ab.djn (aE.lt.le an))
      have e2 := (((bn.fr V dn_).fr Z cH).fr aa dn_)
      have cI := (ab.djn (aD.lt.le an))
      have e3 := (((bo.fr V dn_).fr Z cI).fr aa dn_)
      have ci := (aU.fr aa dn_)
      obtain ⟨fc, c_, b6⟩ := bs_ eo
      refine ck_ (Zh2 aa.wf eZ e0 e1 e2 e3 ci.sq c_) ?_
      rintro _ ft ⟨rfl, af⟩
      refine qs_ 2 (Za (dK _ _ ?_))
      refine wb_ ((!fc)) (fun a2 => ?_) fun a2 => ?_
      ·have ep := Zf a2 b6
       refine sq_ fun dL => g_' (qs_ 2 ?_)
       obtain ⟨fU, da, eq⟩ := bs_ ep
       refine ck_ (Zdq af.wf (Ev.no (tf := 195)) da) ?_
       rintro cn fu ⟨_, cO, rfl, cK, dZ, dq⟩
       refine qs_ 2 (Za (dL _ _ ?_))
       refine Zp (ZI (ZI (Zk (Zk (ZI (Zk (Zk ?_)))))))
       obtain ⟨fN, bN, dg⟩ := map_some eq
       subst dg
       obtain rfl := Zw aT
       have c3 := elim_inl be
       rw [c3] at bN
       refine br_ [.slice none 0 0, cn] ?_
       have d5 := (t_ (t_ (t_ (t_ (t_ (t_ (t_ (t_ J.n O.n) X.n) Y.n) ac.n) V.n) Z.n) aa.n) af.n)
       obtain rfl := oi_ bN
       exact ⟨(.slice none 0 0), [], (cn), cO, rfl, (fs_ z (fs_ z (fs_ z (fs_ z (fs_ z ((fs_ z (fs_ z (fs_ z ((f0_ z).extR J) O in_) X in_) Y in_).extR ac) V in_) Z (ab.fresh an)) aa in_) af in_) cK in_), (Ow.nil (by decide)), dZ, in_, (dq.fresh d5), dn_⟩
      have et := ZL a2 b6
      refine sq_ fun dM => g_' ?_
      have e4 := (ch.frS af dn_)
      refine lr_ 101 0 (.slice ap ax aq) e4 (qs_ 1 ?_)
      have e5 := (ci.fr af dn_)
      obtain ⟨fd, db, b7⟩ := bs_ et
      refine ck_ (ZhH af.wf e5.sq db) ?_
      rintro _ fv ⟨rfl, aP⟩
      refine qs_ 2 (Za (dM _ _ ?_))
      refine wb_ ((!fd)) (fun a4 => ?_) fun a4 => ?_
      ·have ev := Zf a4 b7
       refine sq_ fun dN => g_' (qs_ 2 ?_)
       obtain ⟨fV, dc, ew⟩ := bs_ ev
       refine ck_ (Zdq aP.wf (Ev.no (tf := 195)) dc) ?_
       rintro co fw ⟨_, cP, rfl, cL, d0, dr⟩
       refine qs_ 2 (Za (dN _ _ ?_))
       refine Zp (ZI (ZI (Zk (Zk (ZI (Zk (Zk ?_)))))))
       obtain ⟨fO, bO, dh⟩ := map_some ew
       subst dh
       obtain rfl := Zw aT
       have c4 := elim_inl be
       rw [c4] at bO
       refine br_ [.slice none 0 0, co] ?_
       have d6 := (t_ (t_ (t_ (t_ (t_ (t_ (t_ (t_ (t_ J.n O.n) X.n) Y.n) ac.n) V.n) Z.n) aa.n) af.n) aP.n)
       obtain rfl := oi_ bO
       exact ⟨(.slice none 0 0), [], (co), cP, rfl, (fs_ z (fs_ z (fs_ z (fs_ z (fs_ z (fs_ z ((fs_ z (fs_ z (fs_ z ((f0_ z).extR J) O in_) X in_) Y in_).extR ac) V in_) Z (ab.fresh an)) aa in_) af in_) aP in_) cL in_), (Ow.nil (by decide)), d0, in_, (dr.fresh d6), dn_⟩
      have ey := ZL a4 b7
      refine Zg (dJ _ _ (g_' ?_))
      obtain ⟨cY, ez⟩ := Zb ey
      refine w_' ((am + 1)) (Zn cY) (qs_ 1 (Za ?_))
      obtain rfl := oi_ ez
      exact dH d3 _ _ lt_ ⟨(am + 1), aT, ha_, (fs_ Z.wf (fs_ Z.wf (fs_ Z.wf (fr_ Z.wf) aa in_) af in_) aP in_)⟩
     have eA := Zj a1 aH
     refine ZA (Zm (Zm (ZK ?_)))
     obtain rfl := oi_ eA
     obtain rfl := Zw aT
     exact dG _ _ ⟨_, rfl, ha_, (fs_ Z.wf (fr_ Z.wf) aa in_)⟩
    obtain ⟨b2, rfl, bG, aX⟩ := hM
    have eB := elim_inr be
    obtain ⟨β, rfl⟩ := Zi bG
    clear bG
    refine dE _ _ (sq_ fun dO => g_' ?_)
    have e9 := (bb.frS aX dn_)
    refine lr_ 101 0 (.slice ap ax aq) e9 (qs_ 2 (Za (dO _ _ ?_)))
    refine Zp ?_
    refine br_ [.slice ap ax aq, .nilIface] ?_
    have d7 := (t_ (t_ (t_ J.n O.n) X.n) Y.n)
    have e_ := (aU.fr aX dn_)
    have d8 := (t_ (t_ (t_ (t_ (t_ J.n O.n) X.n) Y.n) ac.n) V.n)
    obtain rfl := oi_ eB
    exact ⟨(.slice ap ax aq), aQ, (.nilIface), [], rfl, (fs_ z (fs_ z (fs_ z ((fs_ z (fs_ z (fs_ z ((f0_ z).extR J) O in_) X in_) Y in_).extR ac) V in_) Z (ab.fresh d7)) aX in_), e_, Ev.nil, (dm.fresh d8), in_, Dj.nil_r⟩
   have eC := Zj a0 b4
   refine l_' (.bool true) (Zaw Tryz.prog .neq 33 (.tmp 66) (.const .nilIface) (.iface bh bq) .nilIface) (ZU (by kernel_rfl)) (Za (bR _ _ ?_))
   refine wb_ true (fun _ => ?_) fun h => by cases h
   refine sn_ ?_
   refine Zp (Zk ?_)
   refine br_ [.slice none 0 0, .iface bh bq] ?_
   have d9 := (t_ (t_ J.n O.n) X.n)
   obtain rfl := oi_ eC
   exact ⟨(.slice none 0 0), [], (.iface bh bq), cM, rfl, (fs_ z (fs_ z (fs_ z ((f0_ z).extR J) O in_) X in_) Y in_), (Ow.nil (by decide)), bW, in_, (di.fresh d9), dn_⟩
  have eD := Zj a9 ca
  refine l_' (.bool true) (Zaw Tryz.prog .neq 33 (.tmp 60) (.const .nilIface) (.iface bj bs) .nilIface) (ZU (by kernel_rfl)) (Za (bV _ _ ?_))
  refine wb_ true (fun _ => ?_) fun h => by cases h
  refine sn_ ?_
  refine Zp (Zk ?_)
  refine br_ [.slice none 0 0, .iface bj bs] ?_
  have ea := (t_ J.n O.n)
  obtain rfl := oi_ eD
  exact ⟨(.slice none 0 0), [], (.iface bj bs), cR, rfl, (fs_ z (fs_ z ((f0_ z).extR J) O in_) X in_), (Ow.nil (by decide)), bY, in_, (du.fresh ea), dn_⟩
 have eE := Zj a8 b_
 refine l_' (.bool true) (Zaw Tryz.prog .neq 33 (.tmp 51) (.const .nilIface) (.iface bi br) .nilIface) (ZU (by kernel_rfl)) (Za (bU _ _ ?_))
 refine wb_ true (fun _ => ?_) fun h => by cases h
 refine sn_ ?_
 refine Zp (Zk ?_)
 refine br_ [.slice none 0 0, .iface bi br] ?_
 obtain rfl := oi_ eE
 exact ⟨(.slice none 0 0), [], (.iface bi br), cQ, rfl, (fs_ z ((f0_ z).extR J) O in_), (Ow.nil (by decide)), bX, in_, (dt.fresh J.n), dn_⟩
theorem Zdn {H : AH} {V : Value} {av : Fp} {Y : Value} {ax : Fp} {X : Value} {aw : Fp} {O : Value} {au : Fp} {J : Value} {aq : Fp} {ac : List (Int)} {ae : List (Int)} {ad : List (Int × Int × Int × Int)} {ab : List (Int)} {aa : List (Int × Int × Int × Int)} {r : Er}
    (Z : WF H) (ai : Sq (Zh .u32) 1 H V ac av) (ak : Sq (Zh .u32) 1 H Y ae ax) (aj : Sq Ze 4 H X ad aw) (ah : Sq (Zh .u32) 1 H O ab au) (ag : Sq Ze 4 H J aa aq) (al : ZZ ac ae ad ab aa = some r) :
    ACalls Tryz.prog 10 #[.agg #[V, Y, X, O, J]] H fun v H' => ∃ (an : Value) (af : Fp), v = an /\ FrS [] H H' /\ Ev 92 195 H' an r af /\ Inn [] H af := by
 refine ab_ Tryz.func10 ?_
 unfold ZZ at al
 refine sq_ fun aB => g_' ?_
 refine Z3 Z [V, Y, X, O, J] (Zd (ai.one1) (Zd (ak.one1) (Zd (aj.one1) (Zd (ah.one1) (Zd (ag.one1) (ZN)))))) (by kernel_rfl) fun aO aM z aS aE => ?_
 refine qs_ 1 (Za (aB _ _ (sq_ fun aA => g_' (lr_ 25 0 (.agg #[V, Y, X, O, J]) aE ?_))))
 have aG := (ai.ext z)
 have aH := (ak.ext z)
 have aI := (aj.ext z)
 have aJ := (ah.ext z)
 have aK := (ag.ext z)
 obtain ⟨aW, ay, aF⟩ := bs_ al
 refine ck_ (ZiN z.wf aG aH aI aJ aK ay) ?_
 rintro _ aL ⟨aV, aR, am, ap, rfl, ao, aC, aD, aT, az, aQ⟩
 obtain ⟨aN, aU, aP, rfl⟩ := aC.form
 refine qs_ 5 (Za (aA _ _ (sn_ ?_)))
 refine Zp ?_
 refine br_ [am] ?_
 obtain rfl := oi_ aF
 exact ⟨(am), ap, rfl, (fs_ Z ((f0_ Z).extR z) ao in_), aD, (az.fresh z.n)⟩
end Go.Vd

/-! (KWt2) -/

set_option maxRecDepth 100000
set_option maxHeartbeats 4000000
set_option linter.unusedVariables false
namespace Go.Vd
open Go.Proofs
attribute [local irreducible] Zs Zu aWp
theorem Zfw {H : AH} {ab : Value} {a_ : Fp} {am : Value} {bb : Fp} {al : Value} {ba : Fp} {ak : Value} {a9 : Fp} {aj : Value} {a8 : Fp} {J : List (Int)} {aF : List (Int)} {aE : List (Int × Int × Int × Int)} {aD : List (Int)} {aC : List (Int × Int × Int × Int)} {r : List (Int) × Er}
    (ad : WF H) (ax : Sq (Zh .u32) 1 H ab J a_) (aL : Sq (Zh .u32) 1 H am aF bb) (aK : Sq Ze 4 H al aE ba) (aJ : Sq (Zh .u32) 1 H ak aD a9) (aI : Sq Ze 4 H aj aC a8) (aP : ZbM J aF aE aD aC = some r) :
    ACalls Tryz.prog 54 #[.agg #[ab, am, al, ak, aj]] H fun v H' => ∃ (aX : Value) (au : Fp) (a3 : Value) (av : Fp), v = .tuple #[aX, a3] /\ FrS [] H H' /\ Ow (Zh .i64) 1 H' aX r.1 au /\ Ev 92 195 H' a3 r.2 av /\ Inn [] H au /\ Inn [] H av /\ Dj au av := by
 refine ab_ Tryz.func54 ?_
 unfold ZbM at aP
 refine sq_ fun bj => g_' ?_
 refine Z3 ad [ab, am, al, ak, aj] (Zd (ax.one1) (Zd (aL.one1) (Zd (aK.one1) (Zd (aJ.one1) (Zd (aI.one1) (ZN)))))) (by kernel_rfl) fun bS bO O bT aV => ?_
 refine qs_ 2 (Za (bj _ _ (sq_ fun bk => sq_ fun bl => g_' (lr_ 25 0 (.agg #[ab, am, al, ak, aj]) aV ?_))))
 have aY := (ax.ext O)
 have bI := (aL.ext O)
 have bJ := (aK.ext O)
 have bK := (aJ.ext O)
 have bL := (aI.ext O)
 obtain ⟨bW, bh, aW⟩ := bs_ aP
 refine ck_ (Zdn O.wf aY bI bJ bK bL bh) ?_
 rintro bV bP ⟨_, a7, rfl, aa, aR, bi⟩
 refine qs_ 1 (Za (bl _ _ (sq_ fun aQ => g_' (qs_ 1 ?_))))
 rcases (aR).cases with ⟨aw, rfl⟩ | ⟨aw, aA, aB, rfl⟩
 ·have bC := Zf aw aW
  refine qs_ 1 (Za (aQ _ _ ?_))
  refine wb_ false (fun h => by cases h) fun _ => ?_
  refine Zg (bk _ _ (sq_ fun bm => g_' (qs_ 1 ?_)))
  have aZ := (aV.frS aa dn_)
  refine lr_ 22 0 (ab) aZ ?_
  have a0 := (aY.fr aa dn_)
  refine a0.ln_ 22 ?_
  obtain ⟨aG, bD⟩ := Zb bC
  refine Zej (t := 38) (m := 8) (l := (J.length : Int)) (c := (J.length : Int)) (enc := (Zh .i64)) (sz := 1) aa.wf (0 : Int) (by kernel_rfl) (by decide) aG.1 (Int.le_refl _) (by omega) (by have := aG; omega) (by kernel_rfl) fun bU ac ao Y ay an => ?_
  obtain ⟨V, Z, X, rfl⟩ := an.form
  have an : Ow (Zh .i64) 1 ao (.slice V Z X) (List.replicate J.length (0 : Int)) ac := an
  refine qs_ 1 (Za (bm _ _ (sq_ fun bn => sq_ fun bo => g_' (qs_ 1 ?_))))
  have bM := (aZ.ext Y)
  refine lr_ 22 0 (ab) bM ?_
  have a1 := (a0.ext Y)
  refine a1.ln_ 22 (qs_ 1 (Za (bo _ _ ?_)))
  obtain ⟨aU, bg, bE⟩ := bs_ bD
  refine Zv (fun α ap => Has α [(5, .slice V Z X)] /\ FrS ac ao ap /\ Ow (Zh .i64) 1 ap (.slice V Z X) aU ac) (fun _ bp => ?_) (fun α ap hM => ?_)
  ·refine Zl ?_
   obtain ⟨aT, bf⟩ := Zr.1 bg
   refine Zy (fun n α aq => ∃ (z : Int), ∃ (ag : List (Int)), ZD (fun zz_ => ZcH J zz_.1 zz_.2) n (z, ag) = some aU /\ Has α [(5, .slice V Z X), (18, ab), (19, i_ (J.length : Int)), (20, i_ z)] /\ FrS ac ao aq /\ Ow (Zh .i64) 1 aq (.slice V Z X) ag ac) aT ⟨0, (List.replicate J.length (0 : Int)), bf, ha_, (fr_ Y.wf), an⟩ ?_
   rintro aT α aq ⟨z, ag, bd, aN, ah, az⟩ bR bq
   obtain ⟨bv, bN, rfl, af, aO⟩ := Zt bd
   obtain ⟨β, rfl⟩ := Zi aN
   clear aN
   replace af : ZcH J z ag = some bN := af
   unfold ZcH at af
   refine sn_ (sq_ fun br => ?_)
   refine wc_ (z < (J.length : Int)) (fun ae => ?_) fun ae => ?_
   ·have bF := Zf ae af
    refine Zg (br _ _ (sq_ fun bs => Zl (sq_ fun bt => g_' (qs_ 1 ?_))))
    obtain ⟨aH, bG⟩ := Zb bF
    have bw := (t_ O.n aa.n)
    have a4 := (ay.djn (ax.lt.le bw))
    have a2 := (a1.fr ah a4)
    refine a2.ix_ 22 aH ae (le_ 60 0 (.int .u32 (gt J z)) a2 aH ae (qs_ 2 (Za (bt _ _ (g_' (qs_ 3 ?_))))))
    obtain ⟨ai, bH⟩ := Zb bG
    refine l_' (elp (.slice V Z X) 1 (gt J z).toNat 0) (ZB Tryz.prog 38 (.slice V Z X) (.int .u32 (gt J z))) (az.sq.idxb (by kernel_rfl) ai.1 ai.2) ?_
    obtain ⟨bQ, bx, a6, be⟩ := Ow.store (P := Tryz.prog) (t := 3) (off := 0) ah.wf az ai.1 ai.2 (i_ z) [i_ z] (by kernel_rfl) (by kernel_rfl) rfl z (Nat.le_of_ble_eq_true rfl) (by kernel_rfl)
    refine ek_ bx (Za (bs _ _ (g_' ?_)))
    obtain ⟨bc, bz⟩ := Zb bH
    refine w_' ((z + 1)) (Zn (by have := bc; omega)) (qs_ 1 (Za ?_))
    obtain rfl := oi_ bz
    exact bq bv _ _ lt_ ⟨(z + 1), (ag.set (gt J z).toNat z), aO, ha_, (fs_ Y.wf (fs_ Y.wf (fr_ Y.wf) ah ir_) a6 ir_), be⟩
   have bA := Zj ae af
   refine ZA (Zm (Zm (ZK ?_)))
   obtain rfl := oi_ bA
   obtain rfl := Zw aO
   exact bp _ _ ⟨ha_, (fs_ Y.wf (fr_ Y.wf) ah ir_), az⟩
  obtain ⟨aM, a5, bu⟩ := hM
  obtain ⟨β, rfl⟩ := Zi aM
  clear aM
  refine bn _ _ (sn_ ?_)
  refine Zp ?_
  refine br_ [.slice V Z X, .nilIface] ?_
  have aS := (t_ O.n aa.n)
  obtain rfl := oi_ bE
  exact ⟨(.slice V Z X), ac, (.nilIface), [], rfl, (fs_ ad ((fs_ ad ((f0_ ad).extR O) aa in_).extR Y) a5 (ay.fresh aS)), bu, Ev.nil, (ay.fresh aS), in_, Dj.nil_r⟩
 have bB := Zj aw aW
 refine l_' (.bool true) (Zaw Tryz.prog .neq 33 (.tmp 10) (.const .nilIface) (.iface aA aB) .nilIface) (ZU (by kernel_rfl)) (Za (aQ _ _ ?_))
 refine wb_ true (fun _ => ?_) fun h => by cases h
 refine sn_ ?_
 refine Zp (Zk ?_)
 refine br_ [.slice none 0 0, .iface aA aB] ?_
 obtain rfl := oi_ bB
 exact ⟨(.slice none 0 0), [], (.iface aA aB), a7, rfl, (fs_ ad ((f0_ ad).extR O) aa in_), (Ow.nil (by decide)), aR, in_, (bi.fresh O.n), dn_⟩
theorem ZiH {H : AH} {z : Int} {J : Int} {r : (Unit) ⊕ (List (Int × Int) × Int)}
    (au : WF H) (al : Zdw z J = some r) :
    ACalls Tryz.prog 158 #[i_ z, .int .u32 J] H fun v H' => Sum.elim (fun (r : Unit) => v = .tuple #[.pointer none, .iface 92 (i_ 1)] /\ H = H') (fun (r : List (Int × Int) × Int) => ∃ (aq : Value) (aa : Fp) (V : Nat), v = .tuple #[pt_ V 0, .nilIface] /\ FrS [] H H' /\ Ow Zx 2 H' aq r.1 aa /\ Row H' V [aq, .int .u32 r.2, i_ 0] /\ Inn [] H aa /\ Inn [] H [V] /\ Dj aa [V]) r := by
 refine ab_ Tryz.func158 ?_
 unfold Zdw at al
 refine sn_ (sq_ fun ay => sq_ fun az => ?_)
 obtain ⟨ao, am, ap⟩ := bs_ al
 refine Zv (fun α ae => Has α [(0, i_ z), (1, .int .u32 J), (11, .bool ao)] /\ H = ae) (fun _ an => ?_) (fun α ae hM => ?_)
 ·refine g_' (qs_ 1 ?_)
  refine sb_ (z < 0) (fun ab => ?_) fun ab => ?_
  ·have aB := Zf ab am
   refine qs_ 4 (Za ?_)
   obtain rfl := oi_ aB
   exact an _ _ ⟨ha_, rfl⟩
  have aC := Zj ab am
  refine qs_ 4 (Za ?_)
  obtain rfl := oi_ aC
  exact an _ _ ⟨ha_, rfl⟩
 obtain ⟨ak, rfl⟩ := hM
 obtain ⟨β, rfl⟩ := Zi ak
 clear ak
 refine az _ _ ?_
 refine wb_ (ao) (fun ac => ?_) fun ac => ?_
 ·have aD := Zf ac ap
  refine sn_ ?_
  refine Zp (Zk ?_)
  refine br_ [.pointer none, .iface 92 (i_ 1)] ?_
  obtain rfl := oi_ aD
  exact (Zhi ⟨rfl, rfl⟩)
 have aE := ZL ac ap
 refine Zg (ay _ _ (sq_ fun aA => g_' (qs_ 1 ?_)))
 obtain ⟨ai, aF⟩ := Zb aE
 refine Zej (t := 278) (m := 16) (l := z) (c := z) (enc := Zx) (sz := 2) au ((0, 0) : Int × Int) (by kernel_rfl) (by decide) ai.1 (Int.le_refl _) (by omega) (by have := ai; omega) (by kernel_rfl) fun aJ ah av Z ax O => ?_
 obtain ⟨X, ad, Y, rfl⟩ := O.form
 have O : Ow Zx 2 av (.slice X ad Y) (List.replicate z.toNat ((0, 0) : Int × Int)) ah := O
 refine qs_ 1 (l_' (.int .u32 (max J 1)) (Zhj Tryz.prog [.int .u32 J, .int .u32 1]) (ZkB _ _) (qs_ 1 ?_))
 refine rl_ Z.wf [.slice X ad Y, .int .u32 (max J 1), i_ 0] fun af aI ag aj aG => ?_
 refine qs_ 2 (Za (aA _ _ ?_))
 refine Zp ?_
 refine br_ [pt_ af 0, .nilIface] ?_
 have aH := (O.ext ag)
 have aw := (aj.djn O.lt)
 obtain rfl := oi_ aF
 exact (Zhc ⟨(.slice X ad Y), ah, af, rfl, (((f0_ au).extR Z).extR ag), aH, aG, (ax.fresh (Nat.le_refl _)), (aj.fresh Z.n), (Dj.symm aw)⟩)
theorem ZgI {H : AH} {z : Int} {r : (Unit) ⊕ (List (Int))}
    (aq : WF H) (ak : Zdr z = some r) :
    ACalls Tryz.prog 85 #[i_ z] H fun v H' => Sum.elim (fun (r : Unit) => v = .tuple #[.pointer none, .iface 92 (i_ 1)] /\ H = H') (fun (r : List (Int)) => ∃ (ap : Value) (Z : Fp) (O : Nat), v = .tuple #[pt_ O 0, .nilIface] /\ FrS [] H H' /\ Ow (Zh .i64) 1 H' ap r Z /\ Row H' O [.slice none 0 0, ap] /\ Inn [] H Z /\ Inn [] H [O] /\ Dj Z [O]) r := by
 refine ab_ Tryz.func85 ?_
 unfold Zdr at ak
 refine sn_ (sq_ fun ax => sq_ fun ay => ?_)
 obtain ⟨an, al, ao⟩ := bs_ ak
 refine Zv (fun α ad => Has α [(0, i_ z), (9, .bool an)] /\ H = ad) (fun _ am => ?_) (fun α ad hM => ?_)
 ·refine g_' (qs_ 1 ?_)
  refine sb_ (z < 0) (fun aa => ?_) fun aa => ?_
  ·have aA := Zf aa al
   refine qs_ 4 (Za ?_)
   obtain rfl := oi_ aA
   exact am _ _ ⟨ha_, rfl⟩
  have aB := Zj aa al
  refine qs_ 4 (Za ?_)
  obtain rfl := oi_ aB
  exact am _ _ ⟨ha_, rfl⟩
 obtain ⟨aj, rfl⟩ := hM
 obtain ⟨β, rfl⟩ := Zi aj
 clear aj
 refine ay _ _ ?_
 refine wb_ (an) (fun ab => ?_) fun ab => ?_
 ·have aC := Zf ab ao
  refine sn_ ?_
  refine Zp (Zk ?_)
  refine br_ [.pointer none, .iface 92 (i_ 1)] ?_
  obtain rfl := oi_ aC
  exact (Zhi ⟨rfl, rfl⟩)
 have aD := ZL ab ao
 refine Zg (ax _ _ (sq_ fun az => g_' (qs_ 1 ?_)))
 obtain ⟨ah, aE⟩ := Zb aD
 refine Zej (t := 38) (m := 8) (l := z) (c := z) (enc := (Zh .i64)) (sz := 1) aq (0 : Int) (by kernel_rfl) (by decide) ah.1 (Int.le_refl _) (by omega) (by have := ah; omega) (by kernel_rfl) fun aI ag au Y aw J => ?_
 obtain ⟨V, ac, X, rfl⟩ := J.form
 have J : Ow (Zh .i64) 1 au (.slice V ac X) (List.replicate z.toNat (0 : Int)) ag := J
 refine qs_ 1 ?_
 refine rl_ Y.wf [.slice none 0 0, .slice V ac X] fun ae aH af ai aF => ?_
 refine qs_ 2 (Za (az _ _ ?_))
 refine Zp ?_
 refine br_ [pt_ ae 0, .nilIface] ?_
 have aG := (J.ext af)
 have av := (ai.djn J.lt)
 obtain rfl := oi_ aE
 exact (Zhc ⟨(.slice V ac X), ag, ae, rfl, (((f0_ aq).extR Y).extR af), aG, aF, (aw.fresh (Nat.le_refl _)), (ai.fresh Y.n), (Dj.symm av)⟩)
theorem Zei {H : AH} {X : Nat} {aa : Value} {ae : Fp} {V : Value} {af : Fp} {Z : List (Int × Int)} {O : List (Int)} {z : Int} {r : Er}
    (ap : WF H) (ao : Sq Zx 2 H aa Z ae) (ai : Sq (Zh .i64) 1 H V O af) (ah : Row H X [aa, V]) (ab : Zab Z O z = some r) :
    ACalls Tryz.prog 136 #[pt_ X 0, .int .u32 z] H fun v H' => ∃ (ad : Value) (Y : Fp), v = ad /\ H = H' /\ Ev 92 195 H' ad r Y /\ Inn [] H Y := by
 refine ab_ Tryz.func136 ?_
 unfold Zab at ab
 refine sn_ (sq_ fun ak => sn_ ?_)
 refine wb_ false (fun h => by cases h) fun _ => ?_
 refine Zg (ak _ _ (sq_ fun al => sq_ fun aj => g_' (qs_ 1 ?_)))
 obtain ⟨ag, ac⟩ := Zb ab
 refine w_' (z) (Zn ag) (qs_ 3 (lr_ 38 1 (V) ah (ai.ln_ 38 (qs_ 1 (Za (aj _ _ ?_))))))
 refine wc_ (z ≥ (O.length : Int)) (fun J => ?_) fun J => ?_
 ·have am := Zf J ac
  refine sn_ ?_
  refine Zp (Zk ?_)
  refine br_ [.iface 92 (i_ 7)] ?_
  obtain rfl := oi_ am
  exact ⟨(.iface 92 (i_ 7)), [], rfl, rfl, Ev.no, in_⟩
 have an := Zj J ac
 refine Zg (al _ _ (sn_ ?_))
 refine Zp ?_
 refine br_ [.nilIface] ?_
 obtain rfl := oi_ an
 exact ⟨(.nilIface), [], rfl, rfl, Ev.nil, in_⟩
theorem ZeG {H : AH} {ae : Nat} {Y : Value} {ao : Fp} {O : Value} {ap : Fp} {ab : List (Int × Int)} {J : List (Int)} {z : Int} {r : Int × Bool}
    (aJ : WF H) (ad : Sq Zx 2 H Y ab ao) (X : Sq (Zh .i64) 1 H O J ap) (ac : Row H ae [Y, O]) (aj : ZaV ab J z = some r) :
    ACalls Tryz.prog 164 #[pt_ ae 0, .int .u32 z] H fun v H' => v = .tuple #[.int .u64 r.1, .bool r.2] /\ H = H' := by
 refine ab_ Tryz.func164 ?_
 unfold ZaV at aj
 refine sn_ (sq_ fun aw => sq_ fun ax => ?_)
 obtain ⟨al, au, an⟩ := bs_ aj
 refine Zv (fun α ah => Has α [(0, pt_ ae 0), (1, .int .u32 z), (19, .bool al)] /\ H = ah) (fun _ ak => ?_) (fun α ah hM => ?_)
 ·refine g_' (qs_ 2 ?_)
  obtain ⟨aO, av, am⟩ := bs_ au
  refine ck_ (Zei aJ ad X ac av) ?_
  rintro aN _ ⟨_, aL, rfl, rfl, az, aM⟩
  rcases (az).cases with ⟨af, rfl⟩ | ⟨af, aI, aK, rfl⟩
  ·have aA := Zf af am
   refine qs_ 5 (lr_ 38 1 (O) ac (qs_ 1 ?_))
   obtain ⟨Z, aB⟩ := Zb aA
   refine l_' (elp O 1 z.toNat 0) (ZB Tryz.prog 38 O (.int .u32 z)) (X.idxb (by kernel_rfl) Z.1 Z.2) (le_ 3 0 (i_ (gt J z)) X Z.1 Z.2 (qs_ 2 (Za ?_)))
   obtain rfl := oi_ aB
   exact ak _ _ ⟨ha_, rfl⟩
  have aC := Zj af am
  refine l_' (.bool true) (Zaw Tryz.prog .neq 33 (.tmp 8) (.const .nilIface) (.iface aI aK) .nilIface) (ZU (by kernel_rfl)) (qs_ 10 (Za ?_))
  obtain rfl := oi_ aC
  exact ak _ _ ⟨ha_, rfl⟩
 obtain ⟨ai, rfl⟩ := hM
 obtain ⟨β, rfl⟩ := Zi ai
 clear ai
 refine ax _ _ ?_
 refine wb_ (al) (fun ag => ?_) fun ag => ?_
 ·have aD := Zf ag an
  refine sn_ ?_
  refine Zp (Zk ?_)
  refine br_ [.int .u64 0, .bool false] ?_
  obtain rfl := oi_ aD
  exact ⟨rfl, rfl⟩
 have aE := ZL ag an
 refine Zg (aw _ _ (sq_ fun ay => ?_))
 refine ZJ [0, 1, 2, 3, 4, 5, 6, 7, 8, 9, 10, 11, 12, 13, 14, 15, 16] (by kernel_rfl) ?_
 refine es_ 3 (mr_ 238 0 (Y) ac (es_ 3 (mr_ 38 1 (O) ac (es_ 1 ?_))))
 obtain ⟨aa, aF⟩ := Zb aE
 refine m_' (elp O 1 z.toNat 0) (ZB Tryz.prog 38 O (.int .u32 z)) (X.idxb (by kernel_rfl) aa.1 aa.2) (me_ 3 0 (i_ (gt J z)) X aa.1 aa.2 ?_)
 obtain ⟨aq, aG⟩ := Zb aF
 refine d_w (((gt J z) - 1)) (k := .i64) (x := ((gt J z) - 1)) (by kernel_rfl) (Zn aq) ?_
 obtain ⟨V, aH⟩ := Zb aG
 refine ad.mx_ 238 V.1 V.2 (m_' (elp Y 2 ((gt J z) - 1).toNat 0) (ZS Tryz.prog 243 (elp Y 2 ((gt J z) - 1).toNat 0) 0) (Sq.fldq (d := 0) ad V.1 V.2 (by kernel_rfl)) (me_ 35 0 (.int .u64 ((gt ab ((gt J z) - 1)).1)) ad V.1 V.2 (es_ 2 ?_)))
 refine ZE ?_
 refine ay _ _ ?_
 refine Zp ?_
 refine br_ [.int .u64 ((gt ab ((gt J z) - 1)).1), .bool true] ?_
 obtain rfl := oi_ aH
 exact ⟨rfl, rfl⟩
theorem ZbS {H : AH} {ad : Nat} {ab : Value} {X : Fp} {J : Value} {Y : Fp} {ag : List (Int × Int)} {ah : List (Int)} {i : Int} {key : Int} {z : Int} {r : List (Int × Int) × List (Int)}
    (ac : WF H) (ai : Ow Zx 2 H ab ag X) (av : Ow (Zh .i64) 1 H J ah Y) (au : Row H ad [ab, J]) (ap : Dj X [ad]) (ae : Dj X Y) (aj : Zaf ag ah i key z = some r) :
    ACalls Tryz.prog 137 #[pt_ ad 0, i_ i, .agg #[.int .u64 key, .int .u32 z]] H fun v H' => v = .tuple #[] /\ FrS (X ++ Y) H H' /\ Ow Zx 2 H' ab r.1 X /\ Ow (Zh .i64) 1 H' J r.2 Y := by
 refine ab_ Tryz.func137 ?_
 unfold Zaf at aj
 refine sq_ fun aA => g_' ?_
 refine rl_ ac [.int .u64 key, .int .u32 z] fun aM aL V aw ak => ?_
 refine Za (aA _ _ (sq_ fun az => ?_))
 refine ZJ [0, 1, 2, 3, 4, 5, 6, 7] (by kernel_rfl) ?_
 refine es_ 3 ?_
 have al := (au.ext V)
 refine mr_ 238 0 (ab) al (es_ 1 (mr_ 243 0 (.agg #[.int .u64 key, .int .u32 z]) ak ?_))
 obtain ⟨Z, aD⟩ := Zb aj
 have am := (ai.ext V)
 refine am.sq.mx_ 238 Z.1 Z.2 ?_
 obtain ⟨aJ, aB, O, ax⟩ := Ow.store (P := Tryz.prog) (t := 243) (off := 0) V.wf am Z.1 Z.2 (.agg #[.int .u64 key, .int .u32 z]) [.int .u64 key, .int .u32 z] (by kernel_rfl) (by kernel_rfl) rfl (key, z) (Nat.le_of_ble_eq_true rfl) (by kernel_rfl)
 refine fk_ aB (ZP) ?_
 refine ZE ?_
 refine az _ _ ?_
 refine ZJ [0, 1, 2, 3, 4, 5, 6, 7, 8, 9] (by kernel_rfl) ?_
 refine es_ 3 ?_
 have aG := (al.frS O ap)
 refine mr_ 38 1 (J) aG (es_ 1 ?_)
 have ao := (aw.djn ai.lt)
 have aH := (ak.frS O (Dj.symm ao))
 refine mr_ 60 1 (.int .u32 z) aH (es_ 1 ?_)
 obtain ⟨aq, aE⟩ := Zb aD
 refine d_w ((i + 1)) (k := .i64) (x := (i + 1)) (by kernel_rfl) (Zn (by have := aq; omega)) ?_
 obtain ⟨aa, aF⟩ := Zb aE
 have an := ((av.ext V).fr O ae)
 refine m_' (elp J 1 z.toNat 0) (ZB Tryz.prog 38 J (.int .u32 z)) (an.sq.idxb (by kernel_rfl) aa.1 aa.2) ?_
 obtain ⟨aK, aC, af, ay⟩ := Ow.store (P := Tryz.prog) (t := 3) (off := 0) O.wf an aa.1 aa.2 (i_ (i + 1)) [i_ (i + 1)] (by kernel_rfl) (by kernel_rfl) rfl (i + 1) (Nat.le_of_ble_eq_true rfl) (by kernel_rfl)
 refine fk_ aC (ZP) ?_
 refine ZE ?_
 refine ZgX (vs := []) (rfl) ?_
 have aI := (ax.fr af (Dj.symm ae))
 obtain rfl := oi_ aF
 exact ⟨rfl, (fs_ ac (fs_ ac ((fr_ ac).extR V) O Inn.left) af (Inn.right ir_)), aI, ay⟩
theorem ZdD {H : AH} {key : Int} {J : Int} {z : Int} {O : Int} {r : Bool}
    (Y : WF H) (ab : Zbd key J z O = some r) :
    ACalls Tryz.prog 170 #[.agg #[.int .u64 key, .int .u32 J], .agg #[.int .u64 z, .int .u32 O]] H fun v H' => v = .bool r /\ FrS [] H H' := by
 refine ab_ Tryz.func170 ?_
 unfold Zbd at ab
 refine sq_ fun ag => g_' ?_
 refine rl_ Y [.int .u64 key, .int .u32 J] fun an al X aq ak => ?_
 refine rl_ X.wf [.int .u64 z, .int .u32 O] fun ao am V ap ad => ?_
 refine qs_ 1 (Za (ag _ _ (sq_ fun ac => g_' (qs_ 1 ?_))))
 have ae := (ak.ext V)
 refine lr_ 35 0 (.int .u64 key) ae (qs_ 1 (lr_ 35 0 (.int .u64 z) ad ?_))
 refine sb_ (key < z) (fun Z => ?_) fun Z => ?_
 ·have ah := Zf Z ab
  refine qs_ 15 (Za (ac _ _ ?_))
  refine Zp ?_
  refine br_ [.bool true] ?_
  obtain rfl := oi_ ah
  exact ⟨rfl, (((f0_ Y).extR X).extR V)⟩
 have af := Zj Z ab
 refine qs_ 2 (lr_ 35 0 (.int .u64 key) ae (qs_ 1 (lr_ 35 0 (.int .u64 z) ad ?_)))
 refine sb_ (key = z) (fun aa => ?_) fun aa => ?_
 ·have ai := Zf aa af
  refine qs_ 2 (lr_ 60 1 (.int .u32 J) ae (qs_ 1 (lr_ 60 1 (.int .u32 O) ad (qs_ 4 (Za (ac _ _ ?_))))))
  refine Zp ?_
  refine br_ [.bool (decide (J < O))] ?_
  obtain rfl := oi_ ai
  exact ⟨rfl, (((f0_ Y).extR X).extR V)⟩
 have aj := Zj aa af
 refine qs_ 9 (Za (ac _ _ ?_))
 refine Zp ?_
 refine br_ [.bool false] ?_
 obtain rfl := oi_ aj
 exact ⟨rfl, (((f0_ Y).extR X).extR V)⟩
theorem Ze1 {H : AH} {ad : Nat} {ac : Value} {V : Fp} {ai : Value} {X : Fp} {J : List (Int × Int)} {az : List (Int)} {i : Int} {r : List (Int × Int) × List (Int)}
    (al : WF H) (ag : Ow Zx 2 H ac J V) (av : Ow (Zh .i64) 1 H ai az X) (ah : Row H ad [ac, ai]) (ao : Dj V [ad]) (aG : Dj V X) (aF : Dj X [ad]) (aJ : ZaJ J az i = some r) :
    ACalls Tryz.prog 138 #[pt_ ad 0, i_ i] H fun v H' => v = .tuple #[] /\ FrS (V ++ X) H H' /\ Ow Zx 2 H' ac r.1 V /\ Ow (Zh .i64) 1 H' ai r.2 X := by
 refine ab_ Tryz.func138 ?_
 unfold ZaJ at aJ
 refine sq_ fun a8 => g_' (qs_ 3 (lr_ 238 0 (ac) ah (qs_ 1 ?_)))
 obtain ⟨aq, bq⟩ := Zb aJ
 refine ag.sq.ix_ 238 aq.1 aq.2 (le_ 243 0 (.agg #[.int .u64 ((gt J i).1), .int .u32 ((gt J i).2)]) ag.sq aq.1 aq.2 ?_)
 refine rk_ al [.int .u64 0, .int .u32 0] fun aE bJ ae Y bk => ?_
 obtain ⟨aD, bj, z, aM⟩ := ra_ 243 0 ae.wf bk [.int .u64 ((gt J i).1), .int .u32 ((gt J i).2)] [.int .u64 ((gt J i).1), .int .u32 ((gt J i).2)]
 refine ek_ bj (Za (a8 _ _ (sq_ fun a5 => ?_)))
 obtain ⟨aw, a1, bl⟩ := bs_ bq
 refine Zv (fun α am => Has α [(0, pt_ ad 0), (1, i_ aw.2.2), (4, pt_ aE 0)] /\ FrS (V ++ X) aD am /\ Ow Zx 2 am ac aw.1 V /\ Ow (Zh .i64) 1 am ai aw.2.1 X) (fun _ aK => ?_) (fun α am hM => ?_)
 ·refine Zl ?_
  obtain ⟨aL, a0⟩ := Zr.1 a1
  have bw := ((ag.ext ae).fr z (Y.djn ag.lt))
  have bx := ((av.ext ae).fr z (Y.djn av.lt))
  refine Zy (fun n α an => ∃ (ab : List (Int × Int)), ∃ (au : List (Int)), ∃ (O : Int), ZD (fun zz_ => Zbw J i zz_.1 zz_.2.1 zz_.2.2) n (ab, au, O) = some aw /\ Has α [(0, pt_ ad 0), (1, i_ O), (4, pt_ aE 0)] /\ FrS (V ++ X) aD an /\ Ow Zx 2 an ac ab V /\ Ow (Zh .i64) 1 an ai au X) aL ⟨J, az, i, a0, ha_, (fr_ z.wf), bw, bx⟩ ?_
  rintro aL α an ⟨ab, au, O, aZ, aI, af, ak, aB⟩ bL a6
  obtain ⟨bi, bG, rfl, aj, aA⟩ := Zt aZ
  obtain ⟨β, rfl⟩ := Zi aI
  clear aI
  replace aj : Zbw J i ab au O = some bG := aj
  unfold Zbw at aj
  refine sq_ fun a7 => sn_ ?_
  refine wc_ (O > 0) (fun ax => ?_) fun ax => ?_
  ·have bm := Zf ax aj
   refine Zg (a7 _ _ (Zl (sq_ fun a9 => g_' (qs_ 1 ?_))))
   obtain ⟨aX, bn⟩ := Zb bm
   refine w_' ((O - 1)) (Zn aX) ?_
   obtain ⟨aY, bo⟩ := Zb bn
   refine w_' ((Int.tdiv (O - 1) 4)) (Zn aY) (qs_ 1 (Za (a9 _ _ (sq_ fun a_ => sq_ fun ba => ?_))))
   refine ZJ [0, 1, 2, 3, 4, 5, 6, 7, 8, 9] (by kernel_rfl) ?_
   have aR := (Y.djn av.lt)
   have aS := (Y.djn ag.lt)
   have bz := (aM.frS af (Dj.app (Dj.symm aS) (Dj.symm aR)))
   refine mr_ 243 0 (.agg #[.int .u64 ((gt J i).1), .int .u32 ((gt J i).2)]) bz (es_ 3 ?_)
   have aO := (((ah.ext ae).frS z (Y.djn ah.ltF)).frS af (Dj.app ao aF))
   refine mr_ 238 0 (ac) aO (es_ 1 ?_)
   obtain ⟨aa, bp⟩ := Zb bo
   refine ak.sq.mx_ 238 aa.1 aa.2 (me_ 243 0 (.agg #[.int .u64 ((gt ab (Int.tdiv (O - 1) 4)).1), .int .u32 ((gt ab (Int.tdiv (O - 1) 4)).2)]) ak.sq aa.1 aa.2 ?_)
   obtain ⟨bF, a2, aN⟩ := bs_ bp
   refine dk_ (ZdD af.wf a2) ?_
   rintro _ bH ⟨rfl, Z⟩
   refine ⟨ZP, ?_⟩
   refine es_ 1 ?_
   refine ZE ?_
   refine ba _ _ ?_
   refine wb_ ((!bF)) (fun ay => ?_) fun ay => ?_
   ·have br := Zf ay aN
    refine ZA (Zm (ZkJ (by decide) (Zm (ZK ?_))))
    have bA := (ak.fr Z dn_)
    have bB := (aB.fr Z dn_)
    obtain rfl := oi_ br
    obtain rfl := Zw aA
    exact aK _ _ ⟨ha_, (fs_ z.wf (fs_ z.wf (fr_ z.wf) af ir_) Z in_), bA, bB⟩
   have bs := ZL ay aN
   refine Zg (a_ _ _ (sq_ fun bb => g_' (qs_ 5 ?_)))
   have aP := (aO.frS Z dn_)
   refine lr_ 238 0 (ac) aP (qs_ 1 ?_)
   have aC := (ak.fr Z dn_)
   refine aC.sq.ix_ 238 aa.1 aa.2 (le_ 243 0 (.agg #[.int .u64 ((gt ab (Int.tdiv (O - 1) 4)).1), .int .u32 ((gt ab (Int.tdiv (O - 1) 4)).2)]) aC.sq aa.1 aa.2 ?_)
   have bC := (aB.fr Z dn_)
   obtain ⟨aQ, a3, bt⟩ := bs_ bs
   refine ck_ (ZbS Z.wf aC bC aP ao aG a3) ?_
   rintro _ bI ⟨rfl, aV, be, bf⟩
   refine Za (bb _ _ (g_' (qs_ 2 (Za ?_))))
   obtain rfl := oi_ bt
   exact a6 bi _ _ lt_ ⟨aQ.1, aQ.2, (Int.tdiv (O - 1) 4), aA, ha_, (fs_ z.wf (fs_ z.wf (fs_ z.wf (fr_ z.wf) af ir_) Z in_) aV ir_), be, bf⟩
  have bu := Zj ax aj
  refine ZA (Zm (Zm (ZK ?_)))
  obtain rfl := oi_ bu
  obtain rfl := Zw aA
  exact aK _ _ ⟨ha_, (fs_ z.wf (fr_ z.wf) af ir_), ak, aB⟩
 obtain ⟨aH, ap, bc, bd⟩ := hM
 obtain ⟨β, rfl⟩ := Zi aH
 clear aH
 refine a5 _ _ (g_' (qs_ 2 ?_))
 have aT := (Y.djn av.lt)
 have aU := (Y.djn ag.lt)
 have bD := (aM.frS ap (Dj.app (Dj.symm aU) (Dj.symm aT)))
 refine lr_ 243 0 (.agg #[.int .u64 ((gt J i).1), .int .u32 ((gt J i).2)]) bD ?_
 have bE := (((ah.ext ae).frS z (Y.djn ah.ltF)).frS ap (Dj.app ao aF))
 obtain ⟨bM, a4, bv⟩ := bs_ bl
 refine ck_ (ZbS ap.wf bc bd bE ao aG a4) ?_
 rintro _ bK ⟨rfl, aW, bg, bh⟩
 refine Za ?_
 refine ZgX (vs := []) (rfl) ?_
 obtain rfl := oi_ bv
 exact ⟨rfl, (fs_ al (fs_ al (fs_ al ((fr_ al).extR ae) z (Y.fresh (Nat.le_refl _))) ap ir_) aW ir_), bg, bh⟩
theorem Zet {H : AH} {ac : Nat} {ab : Value} {ad : Fp} {ap : Value} {ae : Fp} {Y : List (Int × Int)} {aS : List (Int)} {i : Int} {r : List (Int × Int) × List (Int)}
    (aw : WF H) (am : Ow Zx 2 H ab Y ad) (aF : Ow (Zh .i64) 1 H ap aS ae) (af : Row H ac [ab, ap]) (al : Dj ad [ac]) (aZ : Dj ad ae) (ay : Dj ae [ac]) (a8 : Zbg Y aS i = some r) :
    ACalls Tryz.prog 139 #[pt_ ac 0, i_ i] H fun v H' => v = .tuple #[] /\ FrS (ad ++ ae) H H' /\ Ow Zx 2 H' ab r.1 ad /\ Ow (Zh .i64) 1 H' ap r.2 ae := by
 refine ab_ Tryz.func139 ?_
 unfold Zbg at a8
 refine sq_ fun bS => g_' (qs_ 3 (lr_ 238 0 (ab) af (qs_ 1 ?_)))
 obtain ⟨aC, cm⟩ := Zb a8
 refine am.sq.ix_ 238 aC.1 aC.2 (le_ 243 0 (.agg #[.int .u64 ((gt Y i).1), .int .u32 ((gt Y i).2)]) am.sq aC.1 aC.2 ?_)
 refine rk_ aw [.int .u64 0, .int .u32 0] fun an cL ah aa ca => ?_
 obtain ⟨aX, b3, O, bf⟩ := ra_ 243 0 ah.wf ca [.int .u64 ((gt Y i).1), .int .u32 ((gt Y i).2)] [.int .u64 ((gt Y i).1), .int .u32 ((gt Y i).2)]
 refine ek_ b3 (Za (bS _ _ (sq_ fun bO => ?_)))
 obtain ⟨aL, bF, ck⟩ := bs_ cm
 refine Zv (fun α ax => Has α [(0, pt_ ac 0), (1, i_ aL.2.2), (4, pt_ an 0)] /\ FrS (ad ++ ae) aX ax /\ Ow Zx 2 ax ab aL.1 ad /\ Ow (Zh .i64) 1 ax ap aL.2.1 ae) (fun _ bP => ?_) (fun α ax hM => ?_)
 ·refine Zl ?_
  obtain ⟨bb, bD⟩ := Zr.1 bF
  have cD := ((am.ext ah).fr O (aa.djn am.lt))
  have cE := ((aF.ext ah).fr O (aa.djn aF.lt))
  refine Zy (fun n α ak => ∃ (X : List (Int × Int)), ∃ (aE : List (Int)), ∃ (V : Int), ZD (fun zz_ => ZbF Y i zz_.1 zz_.2.1 zz_.2.2) n (X, aE, V) = some aL /\ Has α [(0, pt_ ac 0), (1, i_ V), (4, pt_ an 0)] /\ FrS (ad ++ ae) aX ak /\ Ow Zx 2 ak ab X ad /\ Ow (Zh .i64) 1 ak ap aE ae) bb ⟨Y, aS, i, bD, ha_, (fr_ O.wf), cD, cE⟩ ?_
  rintro bb α ak ⟨X, aE, V, bB, a4, z, aJ, ba⟩ cN bQ
  obtain ⟨b2, cG, rfl, aG, a7⟩ := Zt bB
  obtain ⟨β, rfl⟩ := Zi a4
  clear a4
  replace aG : ZbF Y i X aE V = some cG := aG
  unfold ZbF at aG
  refine Zl (sn_ (sq_ fun bR => sn_ ?_))
  obtain ⟨ag, bG, cl⟩ := bs_ aG
  refine Zv (fun α aM => Has α [(0, pt_ ac 0), (1, i_ V), (4, pt_ an 0), (5, i_ ag)] /\ FrS [] ak aM) (fun _ bT => ?_) (fun α aM hM => ?_)
  ·refine Zl ?_
   obtain ⟨bc, bE⟩ := Zr.1 bG
   refine Zy (fun n α aY => ∃ (J : Int), ∃ (best1 : Int), ZD (fun zz_ => ZaY X V zz_.1 zz_.2) n (J, best1) = some ag /\ Has α [(0, pt_ ac 0), (1, i_ V), (4, pt_ an 0), (5, i_ best1), (15, i_ J)] /\ FrS [] ak aY) bc ⟨0, (-1), bE, ha_, (fr_ z.wf)⟩ ?_
   rintro bc α aY ⟨J, best1, bC, a6, aj⟩ cO aH
   obtain ⟨aK, cH, rfl, au, aq⟩ := Zt bC
   obtain ⟨β, rfl⟩ := Zi a6
   clear a6
   replace au : ZaY X V J best1 = some cH := au
   unfold ZaY at au
   refine sn_ (sq_ fun bU => ?_)
   refine wc_ (J < 4) (fun aQ => ?_) fun aQ => ?_
   ·have cn := Zf aQ au
    refine Zg (bU _ _ (sq_ fun aI => Zl (sn_ (sq_ fun bV => g_' (qs_ 1 ?_)))))
    obtain ⟨bw, co⟩ := Zb cn
    refine w_' ((V * 4)) (Zn bw) ?_
    obtain ⟨bx, cp⟩ := Zb co
    refine w_' (((V * 4) + 1)) (Zn bx) (qs_ 1 ?_)
    obtain ⟨bz, bg⟩ := Zb cp
    refine w_' ((((V * 4) + 1) + J)) (Zn bz) (qs_ 1 (Za (bV _ _ (sq_ fun aT => ?_))))
    refine ZJ [0, 1, 2, 3, 4, 5, 6, 7, 8, 9, 10, 11, 12, 13, 14, 15, 16, 17, 18, 19, 20, 21, 22, 23, 24, 25, 26, 27] (by kernel_rfl) ?_
    refine es_ 4 ?_
    have aV := ((((af.ext ah).frS O (aa.djn af.ltF)).frS z (Dj.app al ay)).frS aj dn_)
    refine mr_ 238 0 (ab) aV ?_
    have av := (aJ.fr aj dn_)
    refine av.sq.mn_ 238 ?_
    refine db_ ((((V * 4) + 1) + J) < (X.length : Int)) (fun ao => ?_) fun ao => ?_
    ·have bh := Zf ao bg
     refine es_ 2 ?_
     refine db_ (best1 < 0) (fun aR => ?_) fun aR => ?_
     ·have cq := Zf aR bh
      refine es_ 18 ?_
      refine ZE ?_
      refine aT _ _ ?_
      refine wb_ true (fun _ => ?_) fun h => by cases h
      refine g_' (qs_ 2 (Za (aI _ _ (g_' ?_))))
      obtain ⟨bA, cr⟩ := Zb cq
      refine w_' ((J + 1)) (Zn bA) (qs_ 1 (Za ?_))
      obtain rfl := oi_ cr
      exact aH aK _ _ lt_ ⟨(J + 1), (((V * 4) + 1) + J), aq, ha_, (fs_ z.wf (fr_ z.wf) aj in_)⟩
     have ct := Zj aR bh
     refine es_ 4 (mr_ 238 0 (ab) aV (es_ 1 ?_))
     obtain ⟨a1, cu⟩ := Zb ct
     refine av.sq.mx_ 238 a1 ao (me_ 243 0 (.agg #[.int .u64 ((gt X (((V * 4) + 1) + J)).1), .int .u32 ((gt X (((V * 4) + 1) + J)).2)]) av.sq a1 ao (es_ 3 (mr_ 238 0 (ab) aV (es_ 1 ?_))))
     obtain ⟨aD, cv⟩ := Zb cu
     refine av.sq.mx_ 238 aD.1 aD.2 (me_ 243 0 (.agg #[.int .u64 ((gt X best1).1), .int .u32 ((gt X best1).2)]) av.sq aD.1 aD.2 ?_)
     obtain ⟨cF, bK, bi⟩ := bs_ cv
     refine dk_ (ZdD aj.wf bK) ?_
     rintro _ cM ⟨rfl, a0⟩
     refine ⟨ZP, ?_⟩
     refine es_ 2 ?_
     refine ZE ?_
     refine aT _ _ ?_
     refine wb_ (cF) (fun aN => ?_) fun aN => ?_
     ·have b4 := Zf aN bi
      refine g_' (qs_ 2 (Za (aI _ _ (g_' ?_))))
      obtain ⟨bt, b5⟩ := Zb b4
      refine w_' ((J + 1)) (Zn bt) (qs_ 1 (Za ?_))
      obtain rfl := oi_ b5
      exact aH aK _ _ lt_ ⟨(J + 1), (((V * 4) + 1) + J), aq, ha_, (fs_ z.wf (fs_ z.wf (fr_ z.wf) aj in_) a0 in_)⟩
     have b6 := ZL aN bi
     refine Zg (aI _ _ (g_' ?_))
     obtain ⟨bu, b7⟩ := Zb b6
     refine w_' ((J + 1)) (Zn bu) (qs_ 1 (Za ?_))
     obtain rfl := oi_ b7
     exact aH aK _ _ lt_ ⟨(J + 1), best1, aq, ha_, (fs_ z.wf (fs_ z.wf (fr_ z.wf) aj in_) a0 in_)⟩
    have b8 := Zj ao bg
    refine es_ 21 ?_
    refine ZE ?_
    refine aT _ _ ?_
    refine wb_ false (fun h => by cases h) fun _ => ?_
    refine Zg (aI _ _ (g_' ?_))
    obtain ⟨bv, b9⟩ := Zb b8
    refine w_' ((J + 1)) (Zn bv) (qs_ 1 (Za ?_))
    obtain rfl := oi_ b9
    exact aH aK _ _ lt_ ⟨(J + 1), best1, aq, ha_, (fs_ z.wf (fr_ z.wf) aj in_)⟩
   have b_ := Zj aQ au
   refine ZA (Zm (Zm (ZK ?_)))
   obtain rfl := oi_ b_
   obtain rfl := Zw aq
   exact bT _ _ ⟨ha_, (fs_ z.wf (fr_ z.wf) aj in_)⟩
  obtain ⟨a5, Z⟩ := hM
  obtain ⟨β, rfl⟩ := Zi a5
  clear a5
  refine bR _ _ (sq_ fun bL => sq_ fun bM => ?_)
  obtain ⟨bd, a9, be⟩ := bs_ cl
  refine Zv (fun α aW => Has α [(0, pt_ ac 0), (1, i_ V), (4, pt_ an 0), (5, i_ ag), (66, .bool bd)] /\ FrS [] aM aW) (fun _ a_ => ?_) (fun α aW hM => ?_)
  ·refine ZJ [0, 1, 2, 3, 4, 5, 6, 7, 8, 9, 10, 11, 12, 13] (by kernel_rfl) ?_
   refine es_ 1 ?_
   refine db_ (ag < 0) (fun aO => ?_) fun aO => ?_
   ·have cb := Zf aO a9
    refine es_ 12 ?_
    refine ZE ?_
    obtain rfl := oi_ cb
    exact a_ _ _ ⟨ha_, (fr_ Z.wf)⟩
   have cc := Zj aO a9
   refine es_ 4 ?_
   have cw := ((((af.ext ah).frS O (aa.djn af.ltF)).frS z (Dj.app al ay)).frS Z dn_)
   refine mr_ 238 0 (ab) cw (es_ 1 ?_)
   obtain ⟨aA, cd⟩ := Zb cc
   have bj := (aJ.fr Z dn_)
   refine bj.sq.mx_ 238 aA.1 aA.2 (me_ 243 0 (.agg #[.int .u64 ((gt X ag).1), .int .u32 ((gt X ag).2)]) bj.sq aA.1 aA.2 ?_)
   have bm := (aa.djn aF.lt)
   have bn := (aa.djn am.lt)
   have cx := ((bf.frS z (Dj.app (Dj.symm bn) (Dj.symm bm))).frS Z dn_)
   refine mr_ 243 0 (.agg #[.int .u64 ((gt Y i).1), .int .u32 ((gt Y i).2)]) cx ?_
   obtain ⟨cP, bH, ce⟩ := bs_ cd
   refine dk_ (ZdD Z.wf bH) ?_
   rintro _ cI ⟨rfl, bq⟩
   refine ⟨ZP, ?_⟩
   refine es_ 2 ?_
   refine ZE ?_
   obtain rfl := oi_ ce
   exact a_ _ _ ⟨ha_, (fs_ Z.wf (fr_ Z.wf) bq in_)⟩
  obtain ⟨a2, ai⟩ := hM
  obtain ⟨β, rfl⟩ := Zi a2
  clear a2
  refine bM _ _ ?_
  refine wb_ (bd) (fun aP => ?_) fun aP => ?_
  ·have cf := Zf aP be
   refine ZA (Zm (ZkJ (by decide) (Zm (ZK ?_))))
   have cy := ((aJ.fr Z dn_).fr ai dn_)
   have cz := ((ba.fr Z dn_).fr ai dn_)
   obtain rfl := oi_ cf
   obtain rfl := Zw a7
   exact bP _ _ ⟨ha_, (fs_ O.wf (fs_ O.wf (fs_ O.wf (fr_ O.wf) z ir_) Z in_) ai in_), cy, cz⟩
  have cg := ZL aP be
  refine Zg (bL _ _ (sq_ fun bN => g_' (qs_ 5 ?_)))
  have bk := (((((af.ext ah).frS O (aa.djn af.ltF)).frS z (Dj.app al ay)).frS Z dn_).frS ai dn_)
  refine lr_ 238 0 (ab) bk (qs_ 1 ?_)
  obtain ⟨aB, ch⟩ := Zb cg
  have aU := ((aJ.fr Z dn_).fr ai dn_)
  refine aU.sq.ix_ 238 aB.1 aB.2 (le_ 243 0 (.agg #[.int .u64 ((gt X ag).1), .int .u32 ((gt X ag).2)]) aU.sq aB.1 aB.2 ?_)
  have cA := ((ba.fr Z dn_).fr ai dn_)
  obtain ⟨bl, bI, ci⟩ := bs_ ch
  refine ck_ (ZbS ai.wf aU cA bk al aZ bI) ?_
  rintro _ cJ ⟨rfl, br, bW, bX⟩
  refine Za (bN _ _ (g_' (qs_ 2 (Za ?_))))
  obtain rfl := oi_ ci
  exact bQ b2 _ _ lt_ ⟨bl.1, bl.2, ag, a7, ha_, (fs_ O.wf (fs_ O.wf (fs_ O.wf (fs_ O.wf (fr_ O.wf) z ir_) Z in_) ai in_) br ir_), bW, bX⟩
 obtain ⟨a3, az, b0, b1⟩ := hM
 obtain ⟨β, rfl⟩ := Zi a3
 clear a3
 refine bO _ _ (g_' (qs_ 2 ?_))
 have bo := (aa.djn aF.lt)
 have bp := (aa.djn am.lt)
 have cB := (bf.frS az (Dj.app (Dj.symm bp) (Dj.symm bo)))
 refine lr_ 243 0 (.agg #[.int .u64 ((gt Y i).1), .int .u32 ((gt Y i).2)]) cB ?_
 have cC := (((af.ext ah).frS O (aa.djn af.ltF)).frS az (Dj.app al ay))
 obtain ⟨cQ, bJ, cj⟩ := bs_ ck
 refine ck_ (ZbS az.wf b0 b1 cC al aZ bJ) ?_
 rintro _ cK ⟨rfl, bs, bY, bZ⟩
 refine Za ?_
 refine ZgX (vs := []) (rfl) ?_
 obtain rfl := oi_ cj
 exact ⟨rfl, (fs_ aw (fs_ aw (fs_ aw ((fr_ aw).extR ah) O (aa.fresh (Nat.le_refl _))) az ir_) bs ir_), bY, bZ⟩
theorem ZgT {H : AH} {V : Nat} {af : Value} {X : Fp} {z : Value} {ah : Fp} {aK : List (Int × Int)} {ai : List (Int)} {J : Int} {key : Int} {r : Er × List (Int) × List (Int × Int)}
    (O : WF H) (ad : Ow Zx 2 H af aK X) (ae : Ow (Zh .i64) 1 H z ai ah) (Y : Row H V [af, z]) (ap : Dj X [V]) (aG : Dj X ah) (aa : Dj [V] ah) (aP : ZcJ aK ai J key = some r) :
    ACalls Tryz.prog 86 #[pt_ V 0, .int .u32 J, .int .u64 key] H fun v H' => ∃ (a1 : Value) (ay : Fp) (aZ : Value) (ax : Fp), v = a1 /\ FrS ([V] ++ (X ++ ah)) H H' /\ Ev 92 195 H' a1 r.1 ay /\ Ow (Zh .i64) 1 H' z r.2.1 ah /\ Ow Zx 2 H' aZ r.2.2 ax /\ Row H' V [aZ, z] /\ Inn [] H ay /\ Inn X H ax /\ Dj ay ax := by
 refine ab_ Tryz.func86 ?_
 unfold ZcJ at aP
 refine sn_ (sq_ fun bg => sq_ fun bh => g_' (qs_ 2 ?_))
 obtain ⟨b3, bc, aY⟩ := bs_ aP
 refine ck_ (Zei O ad.sq ae.sq Y bc) ?_
 rintro b1 _ ⟨_, a6, rfl, rfl, aU, aR⟩
 refine qs_ 1 (Za (bh _ _ (sq_ fun aS => g_' (qs_ 1 ?_))))
 rcases (aU).cases with ⟨az, rfl⟩ | ⟨az, aD, aF, rfl⟩
 ·have bA := Zf az aY
  refine qs_ 1 (Za (aS _ _ ?_))
  refine wb_ false (fun h => by cases h) fun _ => ?_
  refine Zg (bg _ _ (sq_ fun bi => g_' (qs_ 3 (lr_ 38 1 (z) Y (qs_ 1 ?_)))))
  obtain ⟨ac, bB⟩ := Zb bA
  refine l_' (elp z 1 J.toNat 0) (ZB Tryz.prog 38 z (.int .u32 J)) (ae.sq.idxb (by kernel_rfl) ac.1 ac.2) (le_ 3 0 (i_ (gt ai J)) ae.sq ac.1 ac.2 ?_)
  obtain ⟨a9, bC⟩ := Zb bB
  refine w_' (((gt ai J) - 1)) (Zn a9) (qs_ 1 (Za (bi _ _ (sq_ fun bj => sn_ ?_))))
  obtain ⟨aX, aQ, bD⟩ := bs_ bC
  refine Zv (fun α aj => ∃ (aC : Value) (am : Fp), Has α [(0, pt_ V 0), (1, .int .u32 J), (2, .int .u64 key), (8, i_ aX.2)] /\ FrS ([V] ++ X) H aj /\ Ow Zx 2 aj aC aX.1 am /\ Row aj V [aC, z] /\ Inn X H am) (fun _ aT => ?_) (fun α aj hM => ?_)
  ·refine wc_ (((gt ai J) - 1) < 0) (fun aA => ?_) fun aA => ?_
   ·have bE := Zf aA aQ
    refine sq_ fun bk => g_' (qs_ 3 (lr_ 238 0 (af) Y (ad.sq.ln_ 238 (qs_ 1 (Za (bk _ _ (g_' (qs_ 4 (lr_ 238 0 (af) Y (qs_ 1 ?_))))))))))
    refine ZaK (enc := Zx) (sz := 2) O [(0, 0)] 1 (by decide) (fun _ _ => rfl) (fun _ _ => rfl) rfl (by kernel_rfl) fun bZ bW bR ab bX aN => ?_
    obtain ⟨bU, bY, bV, rfl⟩ := aN.form
    have bK := (ad.ext ab)
    obtain ⟨a_, bF⟩ := Zb bE
    obtain ⟨b0, bS, a7, bs, aw, aO, aL⟩ := Ow.append (P := Tryz.prog) 16 ab.wf bK aN.sq (fun _ _ => rfl) (at_ := #[238, 238]) rfl rfl (by kernel_rfl) (by kernel_rfl) (by decide) (by have := a_; first | omega | (simp only [List.length_cons, List.length_nil] at this ⊢; omega) | (simp at this ⊢; omega))
    obtain ⟨ak, an, al, rfl⟩ := aO.form
    refine ZbX (.slice ak an al) (by kernel_rfl) (bs) ?_
    refine qs_ 2 ?_
    have bL := ((Y.ext ab).frS aw ap)
    obtain ⟨bT, bt, aI, bG⟩ := rb_ 238 0 aw.wf bL (.slice ak an al) [.slice ak an al, z]
    refine ek_ bt (Za ?_)
    have a5 := (aL.dj ap (Y.ltF.le ab.n))
    have bM := (aO.fr aI (Dj.symm a5))
    obtain rfl := oi_ bF
    exact aT _ _ ⟨(.slice ak an al), a7, ha_, (fs_ O (fs_ O ((fr_ O).extR ab) aw (Inn.right ir_)) aI Inn.left), bM, bG, (Inn.trans ir_ ab.n aL)⟩
   have bH := Zj aA aQ
   refine Zg ?_
   obtain rfl := oi_ bH
   exact aT _ _ ⟨(af), X, ha_, (fr_ O), ad, Y, ir_⟩
  obtain ⟨aC, am, aM, av, aV, aW, ag⟩ := hM
  obtain ⟨β, rfl⟩ := Zi aM
  clear aM
  obtain ⟨a3, br, a4, rfl⟩ := aV.form
  refine bj _ _ (sq_ fun bl => g_' (qs_ 5 ?_))
  have bN := (ae.fr av (Dj.app aa aG))
  have Z := (ag.dj ap Y.ltF)
  have ao := (ag.dj aG ae.lt)
  obtain ⟨b4, bd, bI⟩ := bs_ bD
  refine ck_ (ZbS av.wf aV bN aW Z ao bd) ?_
  rintro _ bO ⟨rfl, aq, bm, bn⟩
  refine Za (bl _ _ (sq_ fun be => g_' (qs_ 2 ?_)))
  have a0 := (aW.frS aq (Dj.app Z (Dj.symm aa)))
  obtain ⟨a2, ba, bu⟩ := bs_ bI
  refine ck_ (Ze1 aq.wf bm bn a0 Z ao (Dj.symm aa) ba) ?_
  rintro _ bP ⟨rfl, au, bo, aB⟩
  refine Za (be _ _ (sq_ fun bf => g_' (qs_ 4 ?_)))
  have aE := (a0.frS au (Dj.app Z (Dj.symm aa)))
  refine lr_ 38 1 (z) aE (qs_ 1 ?_)
  obtain ⟨aJ, bv⟩ := Zb bu
  refine l_' (elp z 1 J.toNat 0) (ZB Tryz.prog 38 z (.int .u32 J)) (aB.sq.idxb (by kernel_rfl) ac.1 aJ) (le_ 3 0 (i_ (gt a2.2 J)) aB.sq ac.1 aJ ?_)
  obtain ⟨a8, bw⟩ := Zb bv
  refine w_' (((gt a2.2 J) - 1)) (Zn a8) ?_
  obtain ⟨b2, bb, bx⟩ := bs_ bw
  refine ck_ (Zet au.wf bo aB aE Z ao (Dj.symm aa) bb) ?_
  rintro _ bQ ⟨rfl, aH, bp, bq⟩
  refine Za (bf _ _ (sn_ ?_))
  refine Zp ?_
  refine br_ [.nilIface] ?_
  have bJ := (aE.frS aH (Dj.app Z (Dj.symm aa)))
  obtain rfl := oi_ bx
  exact ⟨(.nilIface), [], (.slice a3 br a4), am, rfl, (fs_ O (fs_ O (fs_ O (fs_ O (fr_ O) av (Inn.app Inn.left (Inn.right Inn.left))) aq (Inn.app (Inn.trans (Inn.right Inn.left) (Nat.le_refl _) ag) (Inn.right (Inn.right ir_)))) au (Inn.app (Inn.trans (Inn.right Inn.left) (Nat.le_refl _) ag) (Inn.right (Inn.right ir_)))) aH (Inn.app (Inn.trans (Inn.right Inn.left) (Nat.le_refl _) ag) (Inn.right (Inn.right ir_)))), Ev.nil, bq, bp, bJ, in_, (Inn.trans ir_ (Nat.le_refl _) ag), dn_⟩
 have bz := Zj az aY
 refine l_' (.bool true) (Zaw Tryz.prog .neq 33 (.tmp 12) (.const .nilIface) (.iface aD aF) .nilIface) (ZU (by kernel_rfl)) (Za (aS _ _ ?_))
 refine wb_ true (fun _ => ?_) fun h => by cases h
 refine sn_ ?_
 refine Zp (Zk ?_)
 refine br_ [.iface aD aF] ?_
 obtain rfl := oi_ bz
 exact ⟨(.iface aD aF), a6, (af), X, rfl, (fr_ O), aU, ae, ad, Y, (aR.fresh (Nat.le_refl _)), ir_, (aR.djn ad.lt)⟩
theorem Zc7 {H : AH} {z : Nat} {af : Value} {J : Fp} {Y : Value} {O : Fp} {aj : List (Int × Int)} {ak : List (Int)} {ag : Int} {key : Int} {r : Er × List (Int) × List (Int × Int)}
    (V : WF H) (ad : Ow Zx 2 H af aj J) (ae : Ow (Zh .i64) 1 H Y ak O) (ac : Row H z [af, Y]) (aC : Dj J [z]) (aD : Dj J O) (aB : Dj [z] O) (am : ZaF aj ak ag key = some r) :
    ACalls Tryz.prog 129 #[pt_ z 0, .int .u32 ag, .int .u64 key] H fun v H' => ∃ (aw : Value) (aa : Fp) (av : Value) (Z : Fp), v = aw /\ FrS ([z] ++ (J ++ O)) H H' /\ Ev 92 195 H' aw r.1 aa /\ Ow (Zh .i64) 1 H' Y r.2.1 O /\ Ow Zx 2 H' av r.2.2 Z /\ Row H' z [av, Y] /\ Inn [] H aa /\ Inn J H Z /\ Dj aa Z := by
 refine ab_ Tryz.func129 ?_
 unfold ZaF at am
 refine sn_ (sq_ fun aL => sq_ fun aM => g_' (qs_ 2 ?_))
 obtain ⟨ah, aH, aT⟩ := bs_ am
 refine ck_ (ZeG V ad.sq ae.sq ac aH) ?_
 rintro _ _ ⟨rfl, rfl⟩
 refine qs_ 5 (Za (aM _ _ (sq_ fun aN => ?_)))
 obtain ⟨aq, an, au⟩ := bs_ aT
 refine Zv (fun α ai => Has α [(0, pt_ z 0), (1, .int .u32 ag), (2, .int .u64 key), (20, .bool aq)] /\ H = ai) (fun _ ao => ?_) (fun α ai hM => ?_)
 ·refine g_' (q_ (.bool ah.2) (q_ (.bool ah.2) ?_))
  by_cases X : ah.2 = true
  ·have aU := Zf X an
   rw [X]
   refine qs_ 4 (Za ?_)
   obtain rfl := oi_ aU
   exact ao _ _ ⟨ha_, rfl⟩
  have aV := Zj X an
  rw [nb X]
  refine qs_ 4 (Za ?_)
  obtain rfl := oi_ aV
  exact ao _ _ ⟨ha_, rfl⟩
 obtain ⟨al, rfl⟩ := hM
 obtain ⟨β, rfl⟩ := Zi al
 clear al
 refine aN _ _ ?_
 refine wb_ (aq) (fun ab => ?_) fun ab => ?_
 ·have aW := Zf ab au
  refine sn_ ?_
  refine Zp (Zk ?_)
  refine br_ [.nilIface] ?_
  obtain rfl := oi_ aW
  exact ⟨(.nilIface), [], (af), J, rfl, (fr_ V), Ev.nil, ae, ad, ac, in_, ir_, dn_⟩
 have aX := ZL ab au
 refine Zg (aL _ _ (sq_ fun aO => g_' (qs_ 3 ?_)))
 obtain ⟨a1, aI, aY⟩ := bs_ aX
 refine ck_ (ZgT V ad ae ac aC aD aB aI) ?_
 rintro ax aZ ⟨_, aF, a0, aG, rfl, aE, aP, aQ, ap, aR, aJ, aK, aA⟩
 obtain ⟨ay, aS, az, rfl⟩ := ap.form
 refine qs_ 1 (Za (aO _ _ ?_))
 refine Zp ?_
 refine br_ [ax] ?_
 obtain rfl := oi_ aY
 exact ⟨(ax), aF, (.slice ay aS az), aG, rfl, (fs_ V (fr_ V) aE ir_), aP, aQ, ap, aR, (aJ.fresh (Nat.le_refl _)), (Inn.trans ir_ (Nat.le_refl _) aK), aA⟩
theorem ZgU {H : AH} {aa : Nat} {z : Value} {ad : Fp} {ac : Value} {ae : Fp} {J : List (Int × Int)} {ab : List (Int)} {r : Int × Int × Bool}
    (am : WF H) (O : Sq Zx 2 H z J ad) (al : Sq (Zh .i64) 1 H ac ab ae) (Y : Row H aa [z, ac]) (Z : ZbQ J ab = some r) :
    ACalls Tryz.prog 88 #[pt_ aa 0] H fun v H' => v = .tuple #[.int .u32 r.1, .int .u64 r.2.1, .bool r.2.2] /\ H = H' := by
 refine ab_ Tryz.func88 ?_
 unfold ZbQ at Z
 refine sn_ (sq_ fun af => sq_ fun ag => g_' (qs_ 6 (lr_ 238 0 (z) Y (O.ln_ 238 (qs_ 2 (Za (ag _ _ ?_)))))))
 refine wc_ ((J.length : Int) = 0) (fun X => ?_) fun X => ?_
 ·have aj := Zf X Z
  refine sn_ ?_
  refine Zp (Zk ?_)
  refine br_ [.int .u32 0, .int .u64 0, .bool false] ?_
  obtain rfl := oi_ aj
  exact ⟨rfl, rfl⟩
 have ak := Zj X Z
 refine Zg (af _ _ (sq_ fun ah => ?_))
 refine ZJ [0, 1, 2, 3, 4, 5, 6, 7, 8, 9, 10, 11, 12, 13, 14, 15, 16] (by kernel_rfl) ?_
 refine es_ 3 (mr_ 238 0 (z) Y ?_)
 obtain ⟨V, ai⟩ := Zb ak
 refine O.mx_ 238 (by decide) V (m_' (elp z 2 (0 : Int).toNat 1) (ZS Tryz.prog 243 (elp z 2 (0 : Int).toNat 0) 1) (Sq.fldq (d := 1) O (by decide) V (by kernel_rfl)) (me_ 60 1 (.int .u32 ((gt J 0).2)) O (by decide) V (es_ 3 (mr_ 238 0 (z) Y (O.mx_ 238 (by decide) V (m_' (elp z 2 (0 : Int).toNat 0) (ZS Tryz.prog 243 (elp z 2 (0 : Int).toNat 0) 0) (Sq.fldq (d := 0) O (by decide) V (by kernel_rfl)) (me_ 35 0 (.int .u64 ((gt J 0).1)) O (by decide) V (es_ 3 ?_))))))))
 refine ZE ?_
 refine ah _ _ ?_
 refine Zp ?_
 refine br_ [.int .u32 ((gt J 0).2), .int .u64 ((gt J 0).1), .bool true] ?_
 obtain rfl := oi_ ai
 exact ⟨rfl, rfl⟩
end Go.Vd

/-! (KWt3) -/

set_option maxRecDepth 100000
set_option maxHeartbeats 4000000
set_option linter.unusedVariables false
namespace Go.Vd
open Go.Proofs
attribute [local irreducible] Zs Zu aWp
theorem ZfJ {H : AH} {ag : Nat} {ak : Value} {ao : Fp} {J : Value} {ap : Fp} {z : List (Int × Int)} {aj : List (Int)} {V : Int} {r : Bool × List (Int) × List (Int × Int)}
    (O : WF H) (ac : Ow Zx 2 H ak z ao) (af : Ow (Zh .i64) 1 H J aj ap) (ab : Row H ag [ak, J]) (Y : Dj [ag] ap) (X : Dj [ag] ao) (an : Dj ap ao) (aK : ZbO z aj V = some r) :
    ACalls Tryz.prog 140 #[pt_ ag 0, .int .u32 V] H fun v H' => ∃ (aO : Value), v = .bool r.1 /\ FrS ([ag] ++ (ao ++ ap)) H H' /\ Ow (Zh .i64) 1 H' J r.2.1 ap /\ Ow Zx 2 H' aO r.2.2 ao /\ Row H' ag [aO, J] := by
 refine ab_ Tryz.func140 ?_
 unfold ZbO at aK
 refine sn_ (sq_ fun a9 => sq_ fun a2 => g_' (qs_ 2 ?_))
 obtain ⟨bE, aY, aM⟩ := bs_ aK
 refine ck_ (ZeG O ac.sq af.sq ab aY) ?_
 rintro _ _ ⟨rfl, rfl⟩
 refine qs_ 5 (Za (a2 _ _ (sn_ ?_)))
 refine wb_ ((!bE.2)) (fun az => ?_) fun az => ?_
 ·have bj := Zf az aM
  refine sn_ ?_
  refine Zp (Zk ?_)
  refine br_ [.bool false] ?_
  obtain rfl := oi_ bj
  exact ⟨(ak), rfl, (fr_ O), af, ac, ab⟩
 have bk := ZL az aM
 refine Zg (a9 _ _ (sq_ fun a3 => ?_))
 refine ZJ [0, 1, 2, 3, 4, 5, 6, 7, 8, 9, 10, 11, 12, 13, 14, 15] (by kernel_rfl) ?_
 refine es_ 3 (mr_ 38 1 (J) ab (es_ 1 ?_))
 obtain ⟨aa, bl⟩ := Zb bk
 refine m_' (elp J 1 V.toNat 0) (ZB Tryz.prog 38 J (.int .u32 V)) (af.sq.idxb (by kernel_rfl) aa.1 aa.2) (me_ 3 0 (i_ (gt aj V)) af.sq aa.1 aa.2 ?_)
 obtain ⟨aV, bm⟩ := Zb bl
 refine d_w (((gt aj V) - 1)) (k := .i64) (x := ((gt aj V) - 1)) (by kernel_rfl) (Zn aV) ?_
 refine es_ 3 (mr_ 238 0 (ak) ab (ac.sq.mn_ 238 ?_))
 obtain ⟨aW, bn⟩ := Zb bm
 refine d_w (((z.length : Int) - 1)) (k := .i64) (x := ((z.length : Int) - 1)) (by kernel_rfl) (Zn aW) ?_
 refine es_ 2 ?_
 refine ZE ?_
 refine a3 _ _ (sq_ fun a4 => g_' (qs_ 3 (lr_ 238 0 (ak) ab (qs_ 1 ?_))))
 obtain ⟨aw, bo⟩ := Zb bn
 refine ac.sq.ix_ 238 aw.1 aw.2 (le_ 243 0 (.agg #[.int .u64 ((gt z ((z.length : Int) - 1)).1), .int .u32 ((gt z ((z.length : Int) - 1)).2)]) ac.sq aw.1 aw.2 ?_)
 refine rk_ O [.int .u64 0, .int .u32 0] fun bM bF ah ad bp => ?_
 obtain ⟨bG, be, ai, bq⟩ := ra_ 243 0 ah.wf bp [.int .u64 ((gt z ((z.length : Int) - 1)).1), .int .u32 ((gt z ((z.length : Int) - 1)).2)] [.int .u64 ((gt z ((z.length : Int) - 1)).1), .int .u32 ((gt z ((z.length : Int) - 1)).2)]
 refine ek_ be (Za (a4 _ _ (sq_ fun a5 => g_' (qs_ 4 ?_))))
 have aP := ((ab.ext ah).frS ai (ad.djn ab.ltF))
 refine lr_ 238 0 (ak) aP (qs_ 1 ?_)
 obtain ⟨aI, aN⟩ := Zb bo
 have bB := ((ac.ext ah).fr ai (ad.djn ac.lt))
 obtain ⟨bN, bf, aB⟩ := Ow.head (P := Tryz.prog) bB (t := 238) (by kernel_rfl) (hi := (some (i_ ((z.length : Int) - 1)))) (r := ((z.length : Int) - 1).toNat) (ZQ _ (by have := aI; omega)) (by have := aI; omega)
 obtain ⟨al, aq, am, rfl⟩ := aB.form
 refine Zc5 (.slice al aq am) (by kernel_rfl) bf ?_
 refine qs_ 2 ?_
 obtain ⟨bH, bg, ae, aD⟩ := rb_ 238 0 ai.wf aP (.slice al aq am) [.slice al aq am, J]
 refine ek_ bg (Za (a5 _ _ (sq_ fun a6 => g_' (qs_ 3 (lr_ 38 1 (J) aD (qs_ 1 ?_))))))
 have aQ := (((af.ext ah).fr ai (ad.djn af.lt)).fr ae Y)
 refine l_' (elp J 1 V.toNat 0) (ZB Tryz.prog 38 J (.int .u32 V)) (aQ.sq.idxb (by kernel_rfl) aa.1 aa.2) ?_
 obtain ⟨bI, bh, Z, aJ⟩ := Ow.store (P := Tryz.prog) (t := 3) (off := 0) ae.wf aQ aa.1 aa.2 (i_ 0) [i_ 0] (by kernel_rfl) (by kernel_rfl) rfl 0 (Nat.le_of_ble_eq_true rfl) (by kernel_rfl)
 refine ek_ bh (Za (a6 _ _ (sq_ fun aL => sn_ ?_)))
 refine wc_ (((gt aj V) - 1) < ((z.length : Int) - 1)) (fun aA => ?_) fun aA => ?_
 ·have br := Zf aA aN
  refine sq_ fun a7 => g_' (qs_ 2 ?_)
  have aU := (ad.djn ab.ltF)
  have ay := (ad.djn af.lt)
  have aR := ((bq.frS ae (Dj.symm aU)).frS Z (Dj.symm ay))
  refine lr_ 243 0 (.agg #[.int .u64 ((gt z ((z.length : Int) - 1)).1), .int .u32 ((gt z ((z.length : Int) - 1)).2)]) aR ?_
  have bC := ((aB.fr ae X).fr Z an)
  have aS := (aD.frS Z (Dj.symm Y))
  obtain ⟨bO, aZ, bs⟩ := bs_ br
  refine ck_ (ZbS Z.wf bC aJ aS (Dj.symm X) (Dj.symm an) aZ) ?_
  rintro _ bJ ⟨rfl, au, bb, bc⟩
  refine Za (a7 _ _ (sq_ fun a8 => g_' (qs_ 2 ?_)))
  have aT := (aS.frS au (Dj.app (Dj.symm X) (Dj.symm Y)))
  obtain ⟨aF, a0, bt⟩ := bs_ bs
  refine ck_ (Ze1 au.wf bb bc aT (Dj.symm X) (Dj.symm an) (Dj.symm Y) a0) ?_
  rintro _ bK ⟨rfl, av, bd, aC⟩
  refine Za (a8 _ _ ?_)
  refine ZJ [0, 1, 2, 3, 4, 5, 6, 7, 8, 9, 10] (by kernel_rfl) ?_
  refine es_ 4 ?_
  have aE := (aT.frS av (Dj.app (Dj.symm X) (Dj.symm Y)))
  refine mr_ 38 1 (J) aE (es_ 1 ?_)
  have aG := (ad.djn ac.lt)
  have bD := ((aR.frS au (Dj.app (Dj.symm aG) (Dj.symm ay))).frS av (Dj.app (Dj.symm aG) (Dj.symm ay)))
  refine mr_ 60 1 (.int .u32 ((gt z ((z.length : Int) - 1)).2)) bD ?_
  obtain ⟨ax, bu⟩ := Zb bt
  refine m_' (elp J 1 ((gt z ((z.length : Int) - 1)).2).toNat 0) (ZB Tryz.prog 38 J (.int .u32 ((gt z ((z.length : Int) - 1)).2))) (aC.sq.idxb (by kernel_rfl) ax.1 ax.2) (me_ 3 0 (i_ (gt aF.2 ((gt z ((z.length : Int) - 1)).2))) aC.sq ax.1 ax.2 ?_)
  obtain ⟨aX, bv⟩ := Zb bu
  refine d_w (((gt aF.2 ((gt z ((z.length : Int) - 1)).2)) - 1)) (k := .i64) (x := ((gt aF.2 ((gt z ((z.length : Int) - 1)).2)) - 1)) (by kernel_rfl) (Zn aX) ?_
  obtain ⟨bP, a1, bw⟩ := bs_ bv
  refine dk_ (Zet av.wf bd aC aE (Dj.symm X) (Dj.symm an) (Dj.symm Y) a1) ?_
  rintro _ bL ⟨rfl, aH, a_, ba⟩
  refine ⟨ZP, ?_⟩
  refine ZE ?_
  refine aL _ _ (sn_ ?_)
  refine Zp ?_
  refine br_ [.bool true] ?_
  have bx := (aE.frS aH (Dj.app (Dj.symm X) (Dj.symm Y)))
  obtain rfl := oi_ bw
  exact ⟨(.slice al aq am), rfl, (fs_ O (fs_ O (fs_ O (fs_ O (fs_ O (fs_ O ((fr_ O).extR ah) ai (ad.fresh (Nat.le_refl _))) ae Inn.left) Z (Inn.right (Inn.right ir_))) au (Inn.app (Inn.right Inn.left) (Inn.right (Inn.right ir_)))) av (Inn.app (Inn.right Inn.left) (Inn.right (Inn.right ir_)))) aH (Inn.app (Inn.right Inn.left) (Inn.right (Inn.right ir_)))), ba, a_, bx⟩
 have bi := Zj aA aN
 refine Zg (aL _ _ (sn_ ?_))
 refine Zp ?_
 refine br_ [.bool true] ?_
 have bz := ((aB.fr ae X).fr Z an)
 have bA := (aD.frS Z (Dj.symm Y))
 obtain rfl := oi_ bi
 exact ⟨(.slice al aq am), rfl, (fs_ O (fs_ O (fs_ O ((fr_ O).extR ah) ai (ad.fresh (Nat.le_refl _))) ae Inn.left) Z (Inn.right (Inn.right ir_))), aJ, bz, bA⟩
theorem ZeI {H : AH} {J : Nat} {ad : Value} {O : Fp} {Y : Value} {V : Fp} {ae : List (Int × Int)} {af : List (Int)} {r : Int × Int × Bool × List (Int) × List (Int × Int)}
    (X : WF H) (ab : Ow Zx 2 H ad ae O) (ac : Ow (Zh .i64) 1 H Y af V) (aa : Row H J [ad, Y]) (ao : Dj [J] V) (an : Dj [J] O) (ap : Dj V O) (ag : Zal ae af = some r) :
    ACalls Tryz.prog 89 #[pt_ J 0] H fun v H' => ∃ (ak : Value), v = .tuple #[.int .u32 r.1, .int .u64 r.2.1, .bool r.2.2.1] /\ FrS ([J] ++ (O ++ V)) H H' /\ Ow (Zh .i64) 1 H' Y r.2.2.2.1 V /\ Ow Zx 2 H' ak r.2.2.2.2 O /\ Row H' J [ak, Y] := by
 refine ab_ Tryz.func89 ?_
 unfold Zal at ag
 refine sn_ (sq_ fun aw => g_' (qs_ 1 ?_))
 obtain ⟨z, au, aj⟩ := bs_ ag
 refine ck_ (ZgU X ab.sq ac.sq aa au) ?_
 rintro _ _ ⟨rfl, rfl⟩
 refine qs_ 7 (Za (aw _ _ (sq_ fun ah => sn_ ?_)))
 refine wb_ (z.2.2) (fun Z => ?_) fun Z => ?_
 ·have aA := Zf Z aj
  refine g_' (qs_ 2 ?_)
  obtain ⟨aF, av, aB⟩ := bs_ aA
  refine ck_ (ZfJ X ab ac aa ao an ap av) ?_
  rintro _ aD ⟨aE, rfl, aq, ax, ai, ay⟩
  obtain ⟨al, az, am, rfl⟩ := ai.form
  refine Za (ah _ _ (sn_ ?_))
  refine Zp ?_
  refine br_ [.int .u32 z.1, .int .u64 z.2.1, .bool z.2.2] ?_
  obtain rfl := oi_ aB
  exact ⟨(.slice al az am), rfl, (fs_ X (fr_ X) aq ir_), ax, ai, ay⟩
 have aC := ZL Z aj
 refine Zg (ah _ _ (sn_ ?_))
 refine Zp ?_
 refine br_ [.int .u32 z.1, .int .u64 z.2.1, .bool z.2.2] ?_
 obtain rfl := oi_ aC
 exact ⟨(ad), rfl, (fr_ X), ac, ab, aa⟩
theorem Zf6 {H : AH} {V : Nat} {z : Value} {ac : Fp} {ad : List (Int × Int)} {J : Int} {ab : Int} {i : Int} {Z : Int} {r : Er × List (Int × Int) × Int}
    (X : WF H) (aa : Ow Zx 2 H z ad ac) (Y : Row H V [z, .int .u32 J, i_ ab]) (al : Dj [V] ac) (aq : Zb7 ad J ab i Z = some r) :
    ACalls Tryz.prog 159 #[pt_ V 0, i_ i, .int .u64 Z] H fun v H' => ∃ (aB : Value) (an : Fp), v = aB /\ FrS ([V] ++ ac) H H' /\ Ev 92 195 H' aB r.1 an /\ Ow Zx 2 H' z r.2.1 ac /\ Row H' V [z, .int .u32 J, i_ r.2.2] /\ Inn [] H an := by
 refine ab_ Tryz.func159 ?_
 unfold Zb7 at aq
 refine sn_ (sq_ fun aF => sn_ ?_)
 refine wb_ false (fun h => by cases h) fun _ => ?_
 refine Zg (aF _ _ (sq_ fun aG => sq_ fun aH => ?_))
 obtain ⟨ay, au, az⟩ := bs_ aq
 refine Zv (fun α ak => Has α [(0, pt_ V 0), (1, i_ i), (2, .int .u64 Z), (20, .bool ay)] /\ H = ak) (fun _ aw => ?_) (fun α ak hM => ?_)
 ·refine g_' (qs_ 1 ?_)
  refine sb_ (i < 0) (fun ag => ?_) fun ag => ?_
  ·have aO := Zf ag au
   refine qs_ 9 (Za ?_)
   obtain rfl := oi_ aO
   exact aw _ _ ⟨ha_, rfl⟩
  have aP := Zj ag au
  refine qs_ 5 (lr_ 278 0 (z) Y (aa.sq.ln_ 278 (qs_ 2 (Za ?_))))
  obtain rfl := oi_ aP
  exact aw _ _ ⟨ha_, rfl⟩
 obtain ⟨ao, rfl⟩ := hM
 obtain ⟨β, rfl⟩ := Zi ao
 clear ao
 refine aH _ _ ?_
 refine wb_ (ay) (fun ah => ?_) fun ah => ?_
 ·have aQ := Zf ah az
  refine sn_ ?_
  refine Zp (Zk ?_)
  refine br_ [.iface 92 (i_ 7)] ?_
  obtain rfl := oi_ aQ
  exact ⟨(.iface 92 (i_ 7)), [], rfl, (fr_ X), Ev.no, aa, Y, in_⟩
 have aR := ZL ah az
 refine Zg (aG _ _ (sq_ fun aI => sq_ fun aJ => ?_))
 refine ZJ [0, 1, 2, 3, 4, 5, 6, 7, 8, 9, 10, 11, 12] (by kernel_rfl) ?_
 refine es_ 3 (mr_ 278 0 (z) Y (es_ 1 ?_))
 obtain ⟨O, aS⟩ := Zb aR
 refine aa.sq.mx_ 278 O.1 O.2 (m_' (elp z 2 i.toNat 1) (ZS Tryz.prog 282 (elp z 2 i.toNat 0) 1) (Sq.fldq (d := 1) aa.sq O.1 O.2 (by kernel_rfl)) (me_ 60 1 (.int .u32 ((gt ad i).2)) aa.sq O.1 O.2 (es_ 3 (mr_ 60 1 (.int .u32 J) Y (es_ 1 ?_)))))
 refine ZE ?_
 refine aJ _ _ ?_
 obtain ⟨aL, av, aT⟩ := bs_ aS
 refine Zv (fun α ae => Has α [(0, pt_ V 0), (1, i_ i), (2, .int .u64 Z)] /\ FrS [V] H ae /\ Row ae V [z, .int .u32 J, i_ aL]) (fun _ ax => ?_) (fun α ae hM => ?_)
 ·refine ZcS (((gt ad i).2) = J) (by kernel_rfl) rfl (fun ai => ?_) (fun ai => ?_)
  ·have aU := Zj ai av
   refine g_' (qs_ 3 (lr_ 3 2 (i_ ab) Y ?_))
   obtain ⟨aD, aV⟩ := Zb aU
   refine w_' ((ab + 1)) (Zn aD) (qs_ 2 ?_)
   obtain ⟨aZ, aM, aC, aW⟩ := rb_ 3 2 X Y (i_ (ab + 1)) [z, .int .u32 J, i_ (ab + 1)]
   refine ek_ aM (Za ?_)
   obtain rfl := oi_ aV
   exact ax _ _ ⟨ha_, (fs_ X (fr_ X) aC ir_), aW⟩
  have aX := Zf ai av
  refine Zg ?_
  obtain rfl := oi_ aX
  exact ax _ _ ⟨ha_, (fr_ X), Y⟩
 obtain ⟨ap, af, aj⟩ := hM
 obtain ⟨β, rfl⟩ := Zi ap
 clear ap
 refine aI _ _ (sq_ fun aK => ?_)
 refine ZJ [0, 1, 2, 3, 4, 5, 6, 7, 8, 9, 10, 11, 12] (by kernel_rfl) ?_
 refine es_ 3 (mr_ 278 0 (z) aj (es_ 5 (mr_ 60 1 (.int .u32 J) aj (es_ 1 ?_))))
 have aA := (aa.fr af al)
 refine aA.sq.mx_ 278 O.1 O.2 ?_
 obtain ⟨a0, aN, am, aE⟩ := Ow.store (P := Tryz.prog) (t := 282) (off := 0) af.wf aA O.1 O.2 (.agg #[.int .u64 Z, .int .u32 J]) [.int .u64 Z, .int .u32 J] (by kernel_rfl) (by kernel_rfl) rfl (Z, J) (Nat.le_of_ble_eq_true rfl) (by kernel_rfl)
 refine fk_ aN (ZP) ?_
 refine ZE ?_
 refine aK _ _ (sn_ ?_)
 refine Zp ?_
 refine br_ [.nilIface] ?_
 have aY := (aj.frS am (Dj.symm al))
 obtain rfl := oi_ aT
 exact ⟨(.nilIface), [], rfl, (fs_ X (fs_ X (fr_ X) af Inn.left) am (Inn.right ir_)), Ev.nil, aE, aY, in_⟩
theorem Zdu {H : AH} {Z : Nat} {z : Value} {an : Fp} {X : List (Int × Int)} {ae : Int} {am : Int} {i : Int} {r : Int × Bool}
    (aB : WF H) (J : Sq Zx 2 H z X an) (Y : Row H Z [z, .int .u32 ae, i_ am]) (ah : ZaR X ae am i = some r) :
    ACalls Tryz.prog 118 #[pt_ Z 0, i_ i] H fun v H' => v = .tuple #[.int .u64 r.1, .bool r.2] /\ H = H' := by
 refine ab_ Tryz.func118 ?_
 unfold ZaR at ah
 refine sn_ (sq_ fun ao => sq_ fun aq => ?_)
 obtain ⟨aj, ai, al⟩ := bs_ ah
 refine Zv (fun α af => Has α [(0, pt_ Z 0), (1, i_ i), (35, .bool aj)] /\ H = af) (fun _ ad => ?_) (fun α af hM => ?_)
 ·refine ZJ [0, 1, 2, 3, 4, 5, 6, 7, 8, 9, 10, 11, 12, 13, 14, 15, 16, 17, 18, 19, 20, 21, 22, 23, 24, 25, 26, 27, 28, 29] (by kernel_rfl) ?_
  refine es_ 4 ?_
  refine db_ (i < 0) (fun aa => ?_) fun aa => ?_
  ·have au := Zf aa ai
   refine es_ 25 ?_
   refine ZE ?_
   obtain rfl := oi_ au
   exact ad _ _ ⟨ha_, rfl⟩
  have ak := Zj aa ai
  refine es_ 6 (mr_ 278 0 (z) Y (J.mn_ 278 ?_))
  refine db_ (i ≥ (X.length : Int)) (fun ab => ?_) fun ab => ?_
  ·have av := Zf ab ak
   refine es_ 16 ?_
   refine ZE ?_
   obtain rfl := oi_ av
   exact ad _ _ ⟨ha_, rfl⟩
  have aw := Zj ab ak
  refine es_ 5 (mr_ 278 0 (z) Y (es_ 1 ?_))
  obtain ⟨O, ax⟩ := Zb aw
  refine J.mx_ 278 O.1 O.2 (m_' (elp z 2 i.toNat 1) (ZS Tryz.prog 282 (elp z 2 i.toNat 0) 1) (Sq.fldq (d := 1) J O.1 O.2 (by kernel_rfl)) (me_ 60 1 (.int .u32 ((gt X i).2)) J O.1 O.2 (es_ 3 (mr_ 60 1 (.int .u32 ae) Y (es_ 2 ?_)))))
  refine ZE ?_
  obtain rfl := oi_ ax
  exact ad _ _ ⟨ha_, rfl⟩
 obtain ⟨ag, rfl⟩ := hM
 obtain ⟨β, rfl⟩ := Zi ag
 clear ag
 refine aq _ _ ?_
 refine wb_ (aj) (fun ac => ?_) fun ac => ?_
 ·have ay := Zf ac al
  refine sn_ ?_
  refine Zp (Zk ?_)
  refine br_ [.int .u64 0, .bool false] ?_
  obtain rfl := oi_ ay
  exact ⟨rfl, rfl⟩
 have az := ZL ac al
 refine Zg (ao _ _ (sq_ fun ap => g_' (qs_ 3 (lr_ 278 0 (z) Y (qs_ 1 ?_)))))
 obtain ⟨V, aA⟩ := Zb az
 refine J.ix_ 278 V.1 V.2 (l_' (elp z 2 i.toNat 0) (ZS Tryz.prog 282 (elp z 2 i.toNat 0) 0) (Sq.fldq (d := 0) J V.1 V.2 (by kernel_rfl)) (le_ 35 0 (.int .u64 ((gt X i).1)) J V.1 V.2 (qs_ 2 (Za (ap _ _ ?_)))))
 refine Zp ?_
 refine br_ [.int .u64 ((gt X i).1), .bool true] ?_
 obtain rfl := oi_ aA
 exact ⟨rfl, rfl⟩
theorem ZdU {H : AH} {aq : Value} {dd : Fp} {a3 : Value} {de : Fp} {bn : Value} {dc : Fp} {bm : Value} {db : Fp} {aR : Int} {first : List (Int)} {X : List (Int × Int × Int × Int)} {bG : List (Int)} {bF : List (Int × Int × Int × Int)} {s : Int} {r : (Er) ⊕ (List (Int × Int) × Int × Int)}
    (ah : WF H) (av : Sq (Zh .u32) 1 H aq first dd) (aw : Sq Ze 4 H a3 X de) (dr : Sq (Zh .u32) 1 H bn bG dc) (dq : Sq Ze 4 H bm bF db) (bZ : ZbB aR first X bG bF s = some r) :
    ACalls Tryz.prog 116 #[.agg #[i_ aR, aq, a3, bn, bm], i_ s] H fun v H' => Sum.elim (fun (r : Er) => ∃ (cD : Value) (bU : Fp), v = .tuple #[.pointer none, cD] /\ FrS [] H H' /\ Ev 92 195 H' cD r bU /\ Inn [] H bU) (fun (r : List (Int × Int) × Int × Int) => ∃ (cA : Value) (bi : Fp) (aU : Nat), v = .tuple #[pt_ aU 0, .nilIface] /\ FrS [] H H' /\ Ow Zx 2 H' cA r.1 bi /\ Row H' aU [cA, .int .u32 r.2.1, i_ r.2.2] /\ Inn [] H bi /\ Inn [] H [aU] /\ Dj bi [aU]) r := by
 refine ab_ Tryz.func116 ?_
 unfold ZbB at bZ
 refine sq_ fun dQ => g_' ?_
 refine Z3 ah [i_ aR, aq, a3, bn, bm] (Zd (rfl) (Zd (av.one1) (Zd (aw.one1) (Zd (dr.one1) (Zd (dq.one1) (ZN)))))) (by kernel_rfl) fun a9 fm J fF ao => ?_
 refine qs_ 2 (Za (dQ _ _ (sq_ fun dU => g_' (qs_ 1 (lr_ 3 0 (i_ aR) ao ?_)))))
 obtain ⟨fd, dD, cw⟩ := bs_ bZ
 rcases fd with fX | aL
 ·exact (ZfT (ZgE cw)).elim
 have eE := ZgF cw
 refine ck_ (ZiH J.wf dD) ?_
 rintro _ ft ⟨fO, bg, aA, rfl, ac, ad, ae, ax, ay, bT⟩
 obtain ⟨a8, bt, a_, rfl⟩ := ad.form
 refine qs_ 5 (Za (dU _ _ (sq_ fun dZ => sn_ ?_)))
 refine wb_ false (fun h => by cases h) fun _ => ?_
 refine Zg (dZ _ _ (sq_ fun d0 => g_' (qs_ 1 ?_)))
 have cC := (ao.frS ac dn_)
 refine lr_ 3 0 (i_ aR) cC ?_
 obtain ⟨ff, dG, cy⟩ := bs_ eE
 rcases ff with fY | fZ
 ·exact (ZfT (ZgE cy)).elim
 have eQ := ZgF cy
 refine ck_ (ZgI ac.wf dG) ?_
 rintro _ fv ⟨fQ, aE, ap, rfl, Y, aB, aH, aa, ab, be⟩
 obtain ⟨aC, aK, aD, rfl⟩ := aB.form
 refine qs_ 5 (Za (d0 _ _ (sq_ fun d1 => sn_ ?_)))
 refine wb_ false (fun h => by cases h) fun _ => ?_
 refine Zg (d1 _ _ (sq_ fun d2 => g_' (qs_ 2 ?_)))
 obtain ⟨dp, eR⟩ := Zb eQ
 refine s_w (s) (k := .u32) (x := s) (by kernel_rfl) (ZcX dp) ?_
 obtain ⟨cF, dH, eS⟩ := bs_ eR
 refine ck_ (Zc7 Y.wf (Ow.nil (enc := Zx) (sz := 2) (by decide)) aB aH dn_ dn_ (Dj.symm be) dH) ?_
 rintro fW bC ⟨_, fE, fR, bh, rfl, V, fK, ea, cd, eb, fH, al, fC⟩
 obtain ⟨cK, ep, cO, rfl⟩ := cd.form
 refine Za (d2 _ _ ?_)
 obtain ⟨fj, dA, cz⟩ := bs_ eS
 refine Zv (fun α cG => False) (fun _ fI => ?_) (fun α cG hM => ?_)
 ·refine Zl ?_
  obtain ⟨ce, dv⟩ := Zr.1 dA
  have eT := ((ad.fr Y dn_).fr V (Dj.app (ab.djn ad.lt) (Dj.app dn_ (aa.djn ad.lt))))
  have eU := ((ae.frS Y dn_).frS V (Dj.app (ab.djn ae.ltF) (Dj.app dn_ (aa.djn ae.ltF))))
  refine Zy (fun n α az => ∃ (dist3 : List (Int × Int)), ∃ (dist4 : Int), ∃ (queue5 : List (Int × Int)), ∃ (queue6 : List (Int)), ∃ (bv : Value), ∃ (au : Fp), ZD (fun zz_ => Za1 first X aL zz_.1 zz_.2.1 zz_.2.2.1 zz_.2.2.2) n (dist3, dist4, queue5, queue6) = some fj /\ Has α [(2, pt_ a9 0), (6, pt_ aA 0), (8, pt_ ap 0)] /\ FrS ([aA] ++ ([ap] ++ (bg ++ (aE ++ bh)))) bC az /\ Ow Zx 2 az (.slice a8 bt a_) dist3 bg /\ Row az aA [.slice a8 bt a_, .int .u32 aL.2, i_ dist4] /\ Ow Zx 2 az bv queue5 au /\ Ow (Zh .i64) 1 az (.slice aC aK aD) queue6 aE /\ Row az ap [bv, .slice aC aK aD] /\ Inn bh bC au) ce ⟨aL.1, 0, cF.2.2, cF.2.1, (.slice cK ep cO), bh, dv, ha_, (fr_ V.wf), eT, eU, cd, ea, eb, ir_⟩ ?_
  rintro ce α az ⟨dist3, dist4, queue5, queue6, bv, au, dt, bW, ai, b5, b6, b7, d3, d4, ag⟩ fw dN
  obtain ⟨ec, fg, rfl, a4, bo⟩ := Zt dt
  obtain ⟨β, rfl⟩ := Zi bW
  clear bW
  replace a4 : Za1 first X aL dist3 dist4 queue5 queue6 = some fg := a4
  unfold Za1 at a4
  obtain ⟨fy, fL, fA, rfl⟩ := b7.form
  refine Zl (sq_ fun dO => g_' (qs_ 1 ?_))
  have bJ := (ag.dj (al.djn aH.ltF) (aH.ltF.le V.n))
  have bK := (ag.dj (al.djn aB.lt) (aB.lt.le V.n))
  obtain ⟨z, dB, cu⟩ := bs_ a4
  refine ck_ (ZeI ai.wf b7 d3 d4 (Dj.symm be) (Dj.symm bJ) (Dj.symm bK) dB) ?_
  rintro _ fk ⟨fM, rfl, af, d5, b8, d6⟩
  obtain ⟨cH, ed, cL, rfl⟩ := b8.form
  refine qs_ 7 (Za (dO _ _ (sq_ fun dP => sn_ ?_)))
  refine wb_ ((!z.2.2.1)) (fun bj => ?_) fun bj => ?_
  ·have et := Zf bj cu
   refine sn_ ?_
   refine Zp (Zk (ZI (Zk (ZI (Zk ?_)))))
   obtain ⟨fS, b0, dI⟩ := map_some et
   subst dI
   obtain rfl := Zw bo
   have dx := elim_inl cz
   rw [dx] at b0
   refine br_ [pt_ aA 0, .nilIface] ?_
   have aI := (t_ J.n ac.n)
   have cf := (t_ (t_ J.n ac.n) Y.n)
   have ee := (t_ (t_ (t_ J.n ac.n) Y.n) V.n)
   have cP := (al.djn (ad.lt.le Y.n))
   have cg := (t_ Y.n V.n)
   have cQ := (ag.dj cP (ad.lt.le cg))
   have eV := (b5.fr af (Dj.app (ab.djn ad.lt) (Dj.app cQ (aa.djn ad.lt))))
   have cR := (al.djn (ae.ltF.le Y.n))
   have cS := (ag.dj cR (ae.ltF.le cg))
   have eW := (b6.frS af (Dj.app (ab.djn ae.ltF) (Dj.app cS (aa.djn ae.ltF))))
   obtain rfl := oi_ b0
   exact (Zhc ⟨(.slice a8 bt a_), bg, aA, rfl, (fs_ ah (fs_ ah (fs_ ah (fs_ ah (fs_ ah ((f0_ ah).extR J) ac in_) Y in_) V (Inn.app (ab.fresh aI) (Inn.app in_ (aa.fresh aI)))) ai (Inn.app (ay.fresh J.n) (Inn.app (ab.fresh aI) (Inn.app (ax.fresh J.n) (Inn.app (aa.fresh aI) (al.fresh cf)))))) af (Inn.app (ab.fresh aI) (Inn.app (Inn.trans (al.fresh cf) ee ag) (aa.fresh aI)))), eV, eW, (ax.fresh J.n), (ay.fresh J.n), bT⟩)
  have eu := ZL bj cu
  refine Zg (dP _ _ (sq_ fun dR => sq_ fun dS => g_' (qs_ 2 ?_)))
  obtain ⟨df, ev⟩ := Zb eu
  refine w_' (z.1) (Zn df) (qs_ 1 ?_)
  have cT := (al.djn (ad.lt.le Y.n))
  have ch := (t_ Y.n V.n)
  have aV := (ag.dj cT (ad.lt.le ch))
  have eX := (b5.fr af (Dj.app (ab.djn ad.lt) (Dj.app aV (aa.djn ad.lt))))
  have cU := (al.djn (ae.ltF.le Y.n))
  have aW := (ag.dj cU (ae.ltF.le ch))
  have eY := (b6.frS af (Dj.app (ab.djn ae.ltF) (Dj.app aW (aa.djn ae.ltF))))
  obtain ⟨a7, dC, cv⟩ := bs_ ev
  refine ck_ (Zf6 af.wf eX eY (Dj.symm bT) dC) ?_
  rintro fT aT ⟨_, c_, rfl, Z, b9, b_, ca, dK⟩
  refine qs_ 1 (Za (dS _ _ (sq_ fun b2 => g_' (qs_ 1 ?_))))
  rcases (b9).cases with ⟨bk, rfl⟩ | ⟨bk, bz, bB, rfl⟩
  ·have ew := Zf bk cv
   refine qs_ 1 (Za (b2 _ _ ?_))
   refine wb_ false (fun h => by cases h) fun _ => ?_
   refine Zg (dR _ _ (sq_ fun dT => ?_))
   refine ZJ [0, 1, 2, 3, 4, 5, 6, 7, 8, 9, 10, 11, 12, 13, 14, 15] (by kernel_rfl) ?_
   refine es_ 1 ?_
   have ba := (aa.djn (ao.ltF.le ac.n))
   have bb := (ab.djn (ao.ltF.le ac.n))
   have ef := (t_ ac.n Y.n)
   have bL := (al.djn (ao.ltF.le ef))
   have eg := (t_ (t_ ac.n Y.n) V.n)
   have cV := (ag.dj bL (ao.ltF.le eg))
   have bA := (((((cC.frS Y dn_).frS V (Dj.app bb (Dj.app dn_ ba))).frS ai (Dj.app (ay.djn ao.ltF) (Dj.app bb (Dj.app (ax.djn ao.ltF) (Dj.app ba bL))))).frS af (Dj.app bb (Dj.app cV ba))).frS Z (Dj.app (ay.djn ao.ltF) (ax.djn ao.ltF)))
   refine mr_ 23 2 (a3) bA (es_ 1 (mr_ 22 1 (aq) bA (es_ 1 ?_)))
   obtain ⟨a0, ey⟩ := Zb ew
   have a5 := (t_ J.n ac.n)
   have bc := (aa.djn (av.lt.le a5))
   have bd := (ab.djn (av.lt.le a5))
   have ci := (t_ (t_ J.n ac.n) Y.n)
   have bM := (al.djn (av.lt.le ci))
   have bN := (ax.djn (av.lt.le J.n))
   have bO := (ay.djn (av.lt.le J.n))
   have cj := (t_ (t_ (t_ J.n ac.n) Y.n) V.n)
   have cW := (ag.dj bM (av.lt.le cj))
   have a6 := (((((((av.ext J).fr ac dn_).fr Y dn_).fr V (Dj.app bd (Dj.app dn_ bc))).fr ai (Dj.app bO (Dj.app bd (Dj.app bN (Dj.app bc bM))))).fr af (Dj.app bd (Dj.app cW bc))).fr Z (Dj.app bO bN))
   refine m_' (elp aq 1 z.1.toNat 0) (ZB Tryz.prog 22 aq (.int .u32 z.1)) (a6.idxb (by kernel_rfl) a0.1 a0.2) (me_ 60 0 (.int .u32 (gt first z.1)) a6 a0.1 a0.2 (es_ 1 (mr_ 22 1 (aq) bA (es_ 1 ?_))))
   obtain ⟨dg, ez⟩ := Zb ey
   refine d_w ((z.1 + 1)) (k := .u32) (x := (z.1 + 1)) (by kernel_rfl) (ZcX (by have := dg; omega)) ?_
   obtain ⟨a1, eA⟩ := Zb ez
   refine m_' (elp aq 1 (z.1 + 1).toNat 0) (ZB Tryz.prog 22 aq (.int .u32 (z.1 + 1))) (a6.idxb (by kernel_rfl) a1.1 a1.2) (me_ 60 0 (.int .u32 (gt first (z.1 + 1))) a6 a1.1 a1.2 ?_)
   obtain ⟨a2, eB⟩ := Zb eA
   have aX := (aa.djn (aw.lt.le a5))
   have aY := (ab.djn (aw.lt.le a5))
   have bP := (al.djn (aw.lt.le ci))
   have bQ := (ax.djn (aw.lt.le J.n))
   have bR := (ay.djn (aw.lt.le J.n))
   have bS := (ag.dj bP (aw.lt.le cj))
   have eZ := (((((((aw.ext J).fr ac dn_).fr Y dn_).fr V (Dj.app aY (Dj.app dn_ aX))).fr ai (Dj.app bR (Dj.app aY (Dj.app bQ (Dj.app aX bP))))).fr af (Dj.app aY (Dj.app bS aX))).fr Z (Dj.app bR bQ))
   obtain ⟨fN, eq, bq⟩ := Sq.cut (P := Tryz.prog) eZ (t := 23) (by kernel_rfl) (lo := (some (.int .u32 (gt first z.1)))) (hi := (some (.int .u32 (gt first (z.1 + 1))))) (l := (gt first z.1).toNat) (r := (gt first (z.1 + 1)).toNat) (ZQ _ (by have := a2; omega)) (ZQ _ (by have := a2; omega)) (by have := a2; omega) (by have := a2; omega)
   obtain ⟨bD, ck, bH, rfl⟩ := bq.form
   refine Zdv (.slice bD ck bH) (by kernel_rfl) eq ?_
   refine bq.mn_ 23 (es_ 1 ?_)
   refine ZE ?_
   refine dT _ _ ?_
   obtain ⟨aS, dz, eC⟩ := bs_ eB
   refine Zv (fun α aM => ∃ (bw : Value) (aZ : Fp), Has α [(2, pt_ a9 0), (6, pt_ aA 0), (8, pt_ ap 0)] /\ FrS ([ap] ++ (au ++ aE)) aT aM /\ Ow Zx 2 aM bw aS.1 aZ /\ Ow (Zh .i64) 1 aM (.slice aC aK aD) aS.2 aE /\ Row aM ap [bw, .slice aC aK aD] /\ Inn au aT aZ) (fun _ dV => ?_) (fun α aM hM => ?_)
   ·refine Zl ?_
    obtain ⟨cl, dw⟩ := Zr.1 dz
    have e0 := (b8.fr Z (Dj.app (Dj.symm aW) (Dj.symm aV)))
    have cX := (aa.djn ad.lt)
    have cY := (aa.djn ae.ltF)
    have e1 := (d5.fr Z (Dj.app (Dj.symm cY) (Dj.symm cX)))
    have cZ := (ab.djn ad.lt)
    have c0 := (ab.djn ae.ltF)
    have e2 := (d6.frS Z (Dj.app (Dj.symm c0) (Dj.symm cZ)))
    refine Zy (fun n α aN => ∃ (O : Int), ∃ (queue1 : List (Int × Int)), ∃ (queue2 : List (Int)), ∃ (bx : Value), ∃ (aO : Fp), ZD (fun zz_ => Zay first X aL z a7 zz_.1 zz_.2.1 zz_.2.2) n (O, queue1, queue2) = some aS /\ Has α [(2, pt_ a9 0), (6, pt_ aA 0), (8, pt_ ap 0), (10, .int .u64 z.2.1), (69, .slice bD ck bH), (70, i_ (((X.take (gt first (z.1 + 1)).toNat).drop (gt first z.1).toNat).length : Int)), (71, i_ O)] /\ FrS ([ap] ++ (au ++ aE)) aT aN /\ Ow Zx 2 aN bx queue1 aO /\ Ow (Zh .i64) 1 aN (.slice aC aK aD) queue2 aE /\ Row aN ap [bx, .slice aC aK aD] /\ Inn au aT aO) cl ⟨0, z.2.2.2.2, z.2.2.2.1, (.slice cH ed cL), au, dw, ha_, (fr_ Z.wf), e0, e1, e2, ir_⟩ ?_
    rintro cl α aN ⟨O, queue1, queue2, bx, aO, du, bY, aj, aG, br, bs, aF⟩ fx b3
    obtain ⟨cm, fh, rfl, aQ, bp⟩ := Zt du
    obtain ⟨β, rfl⟩ := Zi bY
    clear bY
    replace aQ : Zay first X aL z a7 O queue1 queue2 = some fh := aQ
    unfold Zay at aQ
    obtain ⟨bE, cn, bI, rfl⟩ := aG.form
    refine sn_ (sq_ fun dW => ?_)
    refine wc_ (O < (((X.take (gt first (z.1 + 1)).toNat).drop (gt first z.1).toNat).length : Int)) (fun aP => ?_) fun aP => ?_
    ·have eD := Zf aP aQ
     refine Zg (dW _ _ (sq_ fun b4 => Zl (sq_ fun dX => g_' ?_)))
     obtain ⟨bV, eF⟩ := Zb eD
     have cB := (bq.fr aj (Dj.app aY (Dj.app bS aX)))
     refine cB.ix_ 23 bV aP (le_ 62 0 (.agg #[.int .u32 ((gt ((X.take (gt first (z.1 + 1)).toNat).drop (gt first z.1).toNat) O).1), .int .u64 ((gt ((X.take (gt first (z.1 + 1)).toNat).drop (gt first z.1).toNat) O).2.1), .int .u32 ((gt ((X.take (gt first (z.1 + 1)).toNat).drop (gt first z.1).toNat) O).2.2.1), .int .u32 ((gt ((X.take (gt first (z.1 + 1)).toNat).drop (gt first z.1).toNat) O).2.2.2)]) cB bV aP ?_)
     refine rk_ aj.wf [.int .u32 0, .int .u64 0, .int .u32 0, .int .u32 0] fun fz fo am an eG => ?_
     obtain ⟨fs, es, ak, bu⟩ := ra_ 62 0 am.wf eG [.int .u32 ((gt ((X.take (gt first (z.1 + 1)).toNat).drop (gt first z.1).toNat) O).1), .int .u64 ((gt ((X.take (gt first (z.1 + 1)).toNat).drop (gt first z.1).toNat) O).2.1), .int .u32 ((gt ((X.take (gt first (z.1 + 1)).toNat).drop (gt first z.1).toNat) O).2.2.1), .int .u32 ((gt ((X.take (gt first (z.1 + 1)).toNat).drop (gt first z.1).toNat) O).2.2.2)] [.int .u32 ((gt ((X.take (gt first (z.1 + 1)).toNat).drop (gt first z.1).toNat) O).1), .int .u64 ((gt ((X.take (gt first (z.1 + 1)).toNat).drop (gt first z.1).toNat) O).2.1), .int .u32 ((gt ((X.take (gt first (z.1 + 1)).toNat).drop (gt first z.1).toNat) O).2.2.1), .int .u32 ((gt ((X.take (gt first (z.1 + 1)).toNat).drop (gt first z.1).toNat) O).2.2.2)]
     refine ek_ es (Za (dX _ _ (sq_ fun dY => g_' (qs_ 2 (lr_ 60 0 (.int .u32 ((gt ((X.take (gt first (z.1 + 1)).toNat).drop (gt first z.1).toNat) O).1)) bu ?_)))))
     obtain ⟨dh, eH⟩ := Zb eF
     refine w_' ((gt ((X.take (gt first (z.1 + 1)).toNat).drop (gt first z.1).toNat) O).1) (Zn dh) ?_
     have co := (t_ (t_ (t_ (t_ (t_ Y.n V.n) ai.n) af.n) Z.n) aj.n)
     have c1 := (an.djn (ad.lt.le co))
     have e3 := (((b_.fr aj (Dj.app (ab.djn ad.lt) (Dj.app aV (aa.djn ad.lt)))).ext am).fr ak c1)
     have c2 := (an.djn (ae.ltF.le co))
     have e4 := (((ca.frS aj (Dj.app (ab.djn ae.ltF) (Dj.app aW (aa.djn ae.ltF)))).ext am).frS ak c2)
     obtain ⟨fe, dE, cx⟩ := bs_ eH
     refine ck_ (Zdu ak.wf e3.sq e4 dE) ?_
     rintro _ _ ⟨rfl, rfl⟩
     refine qs_ 5 (Za (dY _ _ (sn_ ?_)))
     refine wb_ ((!fe.2)) (fun bl => ?_) fun bl => ?_
     ·have eI := Zf bl cx
      refine g_' (qs_ 2 (lr_ 60 0 (.int .u32 ((gt ((X.take (gt first (z.1 + 1)).toNat).drop (gt first z.1).toNat) O).1)) bu (qs_ 2 (lr_ 35 1 (.int .u64 ((gt ((X.take (gt first (z.1 + 1)).toNat).drop (gt first z.1).toNat) O).2.1)) bu ?_))))
      obtain ⟨di, eJ⟩ := Zb eI
      refine s_w ((z.2.1 + ((gt ((X.take (gt first (z.1 + 1)).toNat).drop (gt first z.1).toNat) O).2.1))) (k := .u64) (x := (z.2.1 + ((gt ((X.take (gt first (z.1 + 1)).toNat).drop (gt first z.1).toNat) O).2.1))) (by kernel_rfl) (Zag di) ?_
      have e5 := ((aG.ext am).fr ak (an.djn aG.lt))
      have cp := (t_ (t_ (t_ (t_ V.n ai.n) af.n) Z.n) aj.n)
      have c3 := (an.djn (aB.lt.le cp))
      have e6 := ((br.ext am).fr ak c3)
      have c4 := (an.djn (aH.ltF.le cp))
      have e8 := ((bs.ext am).frS ak c4)
      have cq := (t_ (t_ (t_ V.n ai.n) af.n) Z.n)
      have c5 := (aF.dj bJ (aH.ltF.le cq))
      have c6 := (aF.dj bK (aB.lt.le cq))
      obtain ⟨cE, dF, eK⟩ := bs_ eJ
      refine ck_ (Zc7 ak.wf e5 e6 e8 c5 c6 (Dj.symm be) dF) ?_
      rintro fU fu ⟨_, fD, fP, da, rfl, c9, fJ, d9, cc, d_, fG, dM, fB⟩
      obtain ⟨cI, eh, cM, rfl⟩ := cc.form
      refine Za (b4 _ _ (g_' ?_))
      obtain ⟨dk, eL⟩ := Zb eK
      refine w_' ((O + 1)) (Zn (by have := dk; omega)) (qs_ 1 (Za ?_))
      have ej := (t_ (t_ aj.n am.n) ak.n)
      obtain rfl := oi_ eL
      exact b3 cm _ _ lt_ ⟨(O + 1), cE.2.2, cE.2.1, (.slice cI eh cM), da, bp, ha_, (fs_ Z.wf (fs_ Z.wf ((fs_ Z.wf (fr_ Z.wf) aj ir_).extR am) ak (an.fresh aj.n)) c9 (Inn.app Inn.left (Inn.app (Inn.trans (Inn.right Inn.left) (Nat.le_refl _) aF) (Inn.right (Inn.right ir_))))), cc, d9, d_, (Inn.trans (Inn.trans ir_ (Nat.le_refl _) aF) ej dM)⟩
     have eM := ZL bl cx
     refine Zg (b4 _ _ (g_' ?_))
     obtain ⟨dm, eN⟩ := Zb eM
     refine w_' ((O + 1)) (Zn (by have := dm; omega)) (qs_ 1 (Za ?_))
     have e9 := ((aG.ext am).fr ak (an.djn aG.lt))
     have cr := (t_ (t_ (t_ (t_ V.n ai.n) af.n) Z.n) aj.n)
     have c7 := (an.djn (aB.lt.le cr))
     have e_ := ((br.ext am).fr ak c7)
     have c8 := (an.djn (aH.ltF.le cr))
     have fa := ((bs.ext am).frS ak c8)
     obtain rfl := oi_ eN
     exact b3 cm _ _ lt_ ⟨(O + 1), queue1, queue2, (.slice bE cn bI), aO, bp, ha_, (fs_ Z.wf ((fs_ Z.wf (fr_ Z.wf) aj ir_).extR am) ak (an.fresh aj.n)), e9, e_, fa, (Inn.trans ir_ (Nat.le_refl _) aF)⟩
    have eO := Zj aP aQ
    refine ZA (Zm (Zm (ZK ?_)))
    obtain rfl := oi_ eO
    obtain rfl := Zw bp
    exact dV _ _ ⟨(.slice bE cn bI), aO, ha_, (fs_ Z.wf (fr_ Z.wf) aj ir_), aG, br, bs, (Inn.trans ir_ (Nat.le_refl _) aF)⟩
   obtain ⟨bw, aZ, bX, bf, cb, d7, d8, dL⟩ := hM
   obtain ⟨β, rfl⟩ := Zi bX
   clear bX
   obtain ⟨cJ, ek, cN, rfl⟩ := cb.form
   have fb := (b_.fr bf (Dj.app (ab.djn ad.lt) (Dj.app aV (aa.djn ad.lt))))
   have fc := (ca.frS bf (Dj.app (ab.djn ae.ltF) (Dj.app aW (aa.djn ae.ltF))))
   have el := (t_ (t_ ai.n af.n) Z.n)
   obtain rfl := oi_ eC
   exact dN ec _ _ lt_ ⟨a7.2.1, a7.2.2, aS.1, aS.2, (.slice cJ ek cN), aZ, bo, ha_, (fs_ V.wf (fs_ V.wf (fs_ V.wf (fs_ V.wf (fr_ V.wf) ai ir_) af (Inn.app (Inn.right Inn.left) (Inn.app (Inn.trans (Inn.right (Inn.right (Inn.right (Inn.right ir_)))) (Nat.le_refl _) ag) (Inn.right (Inn.right (Inn.right Inn.left)))))) Z (Inn.app Inn.left (Inn.right (Inn.right Inn.left)))) bf (Inn.app (Inn.right Inn.left) (Inn.app (Inn.trans (Inn.right (Inn.right (Inn.right (Inn.right ir_)))) (Nat.le_refl _) ag) (Inn.right (Inn.right (Inn.right Inn.left)))))), fb, fc, cb, d7, d8, (Inn.trans (Inn.trans ir_ (Nat.le_refl _) ag) el dL)⟩
  have eP := Zj bk cv
  refine l_' (.bool true) (Zaw Tryz.prog .neq 33 (.tmp 53) (.const .nilIface) (.iface bz bB) .nilIface) (ZU (by kernel_rfl)) (Za (b2 _ _ ?_))
  refine wb_ true (fun _ => ?_) fun h => by cases h
  refine sn_ ?_
  refine Zp (Zk (ZI (Zk (ZI (Zk ?_)))))
  obtain ⟨fV, b1, dJ⟩ := map_some eP
  subst dJ
  obtain rfl := Zw bo
  have dy := elim_inl cz
  rw [dy] at b1
  refine br_ [.pointer none, .iface bz bB] ?_
  have aJ := (t_ J.n ac.n)
  have ct := (t_ (t_ J.n ac.n) Y.n)
  have em := (t_ (t_ (t_ J.n ac.n) Y.n) V.n)
  have eo := (t_ (t_ (t_ (t_ (t_ J.n ac.n) Y.n) V.n) ai.n) af.n)
  obtain rfl := oi_ b1
  exact (Zhi ⟨(.iface bz bB), c_, rfl, (fs_ ah (fs_ ah (fs_ ah (fs_ ah (fs_ ah (fs_ ah ((f0_ ah).extR J) ac in_) Y in_) V (Inn.app (ab.fresh aJ) (Inn.app in_ (aa.fresh aJ)))) ai (Inn.app (ay.fresh J.n) (Inn.app (ab.fresh aJ) (Inn.app (ax.fresh J.n) (Inn.app (aa.fresh aJ) (al.fresh ct)))))) af (Inn.app (ab.fresh aJ) (Inn.app (Inn.trans (al.fresh ct) em ag) (aa.fresh aJ)))) Z (Inn.app (ay.fresh J.n) (ax.fresh J.n))), b9, (dK.fresh eo)⟩)
 exact hM.elim
theorem ZeT {H : AH} {r : Unit}
    (O : WF H) (z : ZcW = some r) :
    ACalls Tryz.prog 117 #[.pointer none] H fun v H' => v = .slice none 0 0 /\ H = H' := by
 refine ab_ Tryz.func117 ?_
 unfold ZcW at z
 refine sn_ (sq_ fun J => sn_ ?_)
 refine wb_ true (fun _ => ?_) fun h => by cases h
 refine sn_ ?_
 refine Zp (Zk ?_)
 refine br_ [.slice none 0 0] ?_
 obtain rfl := oi_ z
 exact ⟨rfl, rfl⟩
theorem Zf3 {H : AH} {am : Nat} {ai : Value} {a0 : Fp} {J : List (Int × Int)} {ab : Int} {aU : Int} {r : List (Int)}
    (O : WF H) (aD : Sq Zx 2 H ai J a0) (ao : Row H am [ai, .int .u32 ab, i_ aU]) (aI : Zb9 J ab aU = some r) :
    ACalls Tryz.prog 117 #[pt_ am 0] H fun v H' => ∃ (aT : Value) (aB : Fp), v = aT /\ FrS [] H H' /\ Ow (Zh .i64) 1 H' aT r aB /\ Inn [] H aB := by
 refine ab_ Tryz.func117 ?_
 unfold Zb9 at aI
 refine sn_ (sq_ fun be => sn_ ?_)
 refine wb_ false (fun h => by cases h) fun _ => ?_
 refine Zg (be _ _ (sn_ (sq_ fun a9 => sq_ fun a_ => g_' (qs_ 3 (lr_ 278 0 (ai) ao (aD.ln_ 278 (qs_ 1 (Za (a_ _ _ ?_)))))))))
 obtain ⟨aR, a7, bi⟩ := bs_ aI
 refine Zv (fun α ak => ∃ (aq : Value) (ah : Fp), Has α [(3, aq)] /\ FrS [] H ak /\ Ow (Zh .i64) 1 ak aq aR ah /\ Inn [] H ah) (fun _ ba => ?_) (fun α ak hM => ?_)
 ·refine Zl ?_
  obtain ⟨aN, a6⟩ := Zr.1 a7
  refine Zy (fun n α al => ∃ (z : Int), ∃ (Z : List (Int)), ∃ (au : Value), ∃ (ac : Fp), ZD (fun zz_ => Zbs J ab zz_.1 zz_.2) n (z, Z) = some aR /\ Has α [(0, pt_ am 0), (3, au), (11, ai), (12, i_ (J.length : Int)), (13, i_ z)] /\ FrS [] H al /\ Ow (Zh .i64) 1 al au Z ac /\ Inn [] H ac) aN ⟨0, [], (.slice none 0 0), [], a6, ha_, (f0_ O), (Ow.nil (by decide)), in_⟩ ?_
  rintro aN α al ⟨z, Z, au, ac, a5, aF, V, aa, aj⟩ bB aJ
  obtain ⟨aO, bv, rfl, af, ap⟩ := Zt a5
  obtain ⟨β, rfl⟩ := Zi aF
  clear aF
  replace af : Zbs J ab z Z = some bv := af
  unfold Zbs at af
  obtain ⟨av, aP, az, rfl⟩ := aa.form
  refine sn_ (sq_ fun bb => ?_)
  refine wc_ (z < (J.length : Int)) (fun ad => ?_) fun ad => ?_
  ·have bj := Zf ad af
   refine Zg (bb _ _ (sq_ fun aK => Zl (sq_ fun bc => g_' (qs_ 1 ?_))))
   obtain ⟨aC, aS⟩ := Zb bj
   have aV := (aD.fr V dn_)
   refine aV.ix_ 278 aC ad (le_ 282 0 (.agg #[.int .u64 ((gt J z).1), .int .u32 ((gt J z).2)]) aV aC ad ?_)
   refine rk_ V.wf [.int .u64 0, .int .u32 0] fun bD bw X ae bk => ?_
   refine qs_ 1 ?_
   obtain ⟨bx, bg, Y, bl⟩ := ra_ 282 0 X.wf bk [.int .u64 ((gt J z).1), .int .u32 ((gt J z).2)] [.int .u64 ((gt J z).1), .int .u32 ((gt J z).2)]
   refine ek_ bg (Za (bc _ _ (sq_ fun bd => ?_)))
   refine ZJ [0, 1, 2, 3, 4, 5, 6] (by kernel_rfl) ?_
   refine es_ 1 (mr_ 60 1 (.int .u32 ((gt J z).2)) bl (es_ 3 ?_))
   have aW := (ae.djn (ao.ltF.le V.n))
   have bs := (((ao.frS V dn_).ext X).frS Y aW)
   refine mr_ 60 1 (.int .u32 ab) bs (es_ 1 ?_)
   refine ZE ?_
   refine bd _ _ ?_
   refine wc_ (((gt J z).2) = ab) (fun an => ?_) fun an => ?_
   ·have bm := Zf an aS
    refine g_' (qs_ 2 ?_)
    refine ZaK (enc := (Zh .i64)) (sz := 1) Y.wf [z] 1 (by decide) (fun _ _ => rfl) (fun _ _ => rfl) rfl (by kernel_rfl) fun bI bF bz ag bG aG => ?_
    obtain ⟨bC, bH, bE, rfl⟩ := aG.form
    have bt := (((aa.ext X).fr Y (ae.djn aa.lt)).ext ag)
    obtain ⟨a1, bn⟩ := Zb bm
    obtain ⟨bJ, bA, aZ, bh, aY, aH, a4⟩ := Ow.append (P := Tryz.prog) 8 ag.wf bt aG.sq (fun _ _ => rfl) (at_ := #[38, 38]) rfl rfl (by kernel_rfl) (by kernel_rfl) (by decide) (by have := a1; first | omega | (simp only [List.length_cons, List.length_nil] at this ⊢; omega) | (simp at this ⊢; omega))
    obtain ⟨aw, aQ, aA, rfl⟩ := aH.form
    refine ZbX (.slice aw aQ aA) (by kernel_rfl) (bh) ?_
    refine qs_ 1 (Za (aK _ _ (g_' ?_)))
    obtain ⟨a2, bo⟩ := Zb bn
    refine w_' ((z + 1)) (Zn (by have := a2; omega)) (qs_ 1 (Za ?_))
    have bf := (t_ (t_ (t_ V.n X.n) Y.n) ag.n)
    obtain rfl := oi_ bo
    exact aJ aO _ _ lt_ ⟨(z + 1), (Z ++ [z]), (.slice aw aQ aA), aZ, ap, ha_, (fs_ O ((fs_ O ((fs_ O (f0_ O) V in_).extR X) Y (ae.fresh V.n)).extR ag) aY (aj.fresh (Nat.le_refl _))), aH, (Inn.trans (aj.fresh (Nat.le_refl _)) bf a4)⟩
   have bp := Zj an aS
   refine Zg (aK _ _ (g_' ?_))
   obtain ⟨a3, bq⟩ := Zb bp
   refine w_' ((z + 1)) (Zn (by have := a3; omega)) (qs_ 1 (Za ?_))
   have bu := ((aa.ext X).fr Y (ae.djn aa.lt))
   obtain rfl := oi_ bq
   exact aJ aO _ _ lt_ ⟨(z + 1), Z, (.slice av aP az), ac, ap, ha_, (fs_ O ((fs_ O (f0_ O) V in_).extR X) Y (ae.fresh V.n)), bu, (aj.fresh (Nat.le_refl _))⟩
  have br := Zj ad af
  refine ZA (Zm (Zm (ZK ?_)))
  obtain rfl := oi_ br
  obtain rfl := Zw ap
  exact ba _ _ ⟨(.slice av aP az), ac, ha_, (fs_ O (f0_ O) V in_), aa, (aj.fresh (Nat.le_refl _))⟩
 obtain ⟨aq, ah, aE, aX, aL, a8⟩ := hM
 obtain ⟨β, rfl⟩ := Zi aE
 clear aE
 obtain ⟨ax, aM, ay, rfl⟩ := aL.form
 refine a9 _ _ (sn_ ?_)
 refine Zp ?_
 refine br_ [.slice ax aM ay] ?_
 obtain rfl := oi_ bi
 exact ⟨(.slice ax aM ay), ah, rfl, (fs_ O (f0_ O) aX in_), aL, (a8.fresh (Nat.le_refl _))⟩
theorem Ze7 {H : AH} {aw : Value} {ba : Fp} {ax : Value} {bb : Fp} {af : Value} {a9 : Fp} {ao : Value} {a8 : Fp} {au : Nat} {aM : Value} {a_ : Fp} {aA : Int} {first : List (Int)} {aU : List (Int × Int × Int × Int)} {J : List (Int)} {V : List (Int × Int × Int × Int)} {ah : List (Int × Int)} {ai : Int} {aj : Int} {z : Int} {d : Int} {r : Bool}
    (ac : WF H) (bh : Sq (Zh .u32) 1 H aw first ba) (bi : Sq Ze 4 H ax aU bb) (aJ : Sq (Zh .u32) 1 H af J a9) (aI : Sq Ze 4 H ao V a8) (aL : Sq Zx 2 H aM ah a_) (aK : Row H au [aM, .int .u32 ai, i_ aj]) (aP : Zbr aA first aU J V ah ai aj z d = some r) :
    ACalls Tryz.prog 119 #[.agg #[i_ aA, aw, ax, af, ao], pt_ au 0, i_ z, .int .u64 d] H fun v H' => v = .bool r /\ FrS [] H H' := by
 refine ab_ Tryz.func119 ?_
 unfold Zbr at aP
 refine sq_ fun bp => g_' ?_
 refine Z3 ac [i_ aA, aw, ax, af, ao] (Zd (rfl) (Zd (bh.one1) (Zd (bi.one1) (Zd (aJ.one1) (Zd (aI.one1) (ZN)))))) (by kernel_rfl) fun bW aC X bY aB => ?_
 refine qs_ 1 (Za (bp _ _ (sq_ fun bu => sq_ fun bv => ?_)))
 refine ZJ [0, 1, 2, 3, 4, 5, 6, 7, 8, 9, 10, 11, 12, 13, 14, 15] (by kernel_rfl) ?_
 refine es_ 1 (mr_ 23 4 (ao) aB (es_ 1 (mr_ 22 3 (af) aB (es_ 1 ?_))))
 obtain ⟨ak, bz⟩ := Zb aP
 have aq := (aJ.ext X)
 refine aq.mx_ 22 ak.1 ak.2 (me_ 60 0 (.int .u32 (gt J z)) aq ak.1 ak.2 (es_ 1 (mr_ 22 3 (af) aB (es_ 1 ?_))))
 obtain ⟨bc, bA⟩ := Zb bz
 refine d_w ((z + 1)) (k := .i64) (x := (z + 1)) (by kernel_rfl) (Zn (by have := bc; omega)) ?_
 obtain ⟨al, bB⟩ := Zb bA
 refine aq.mx_ 22 al.1 al.2 (me_ 60 0 (.int .u32 (gt J (z + 1))) aq al.1 al.2 ?_)
 obtain ⟨am, bC⟩ := Zb bB
 have bP := (aI.ext X)
 obtain ⟨bZ, bw, ay⟩ := Sq.cut (P := Tryz.prog) bP (t := 23) (by kernel_rfl) (lo := (some (.int .u32 (gt J z)))) (hi := (some (.int .u32 (gt J (z + 1))))) (l := (gt J z).toNat) (r := (gt J (z + 1)).toNat) (ZQ _ (by have := am; omega)) (ZQ _ (by have := am; omega)) (by have := am; omega) (by have := am; omega)
 obtain ⟨aF, aV, aG, rfl⟩ := ay.form
 refine Zdv (.slice aF aV aG) (by kernel_rfl) bw ?_
 refine ay.mn_ 23 (es_ 1 ?_)
 refine ZE ?_
 refine bv _ _ ?_
 obtain ⟨a4, bm, aZ⟩ := bs_ bC
 refine Zv (fun α aD => ∃ aY, a4 = Sum.inr aY /\ Has α [] /\ FrS [] aC aD) (fun _ bq => ?_) (fun α aD hM => ?_)
 ·refine Zl ?_
  obtain ⟨aW, bk⟩ := Zr.1 bm
  refine Zy (fun n α aE => ∃ (O : Int), ZD (fun zz_ => ZaN J V ah ai aj z d zz_) n O = some a4 /\ Has α [(1, pt_ au 0), (3, .int .u64 d), (26, .slice aF aV aG), (27, i_ (((V.take (gt J (z + 1)).toNat).drop (gt J z).toNat).length : Int)), (28, i_ O)] /\ FrS [] aC aE) aW ⟨0, bk, ha_, (fr_ X.wf)⟩ ?_
  rintro aW α aE ⟨O, bj, aO, Z⟩ bV aR
  obtain ⟨aX, bS, rfl, ag, ap⟩ := Zt bj
  obtain ⟨β, rfl⟩ := Zi aO
  clear aO
  replace ag : ZaN J V ah ai aj z d O = some bS := ag
  unfold ZaN at ag
  refine sn_ (sq_ fun br => ?_)
  refine wc_ (O < (((V.take (gt J (z + 1)).toNat).drop (gt J z).toNat).length : Int)) (fun ad => ?_) fun ad => ?_
  ·have bD := Zf ad ag
   refine Zg (br _ _ (sq_ fun aS => Zl (sq_ fun bs => g_' ?_)))
   obtain ⟨aH, bE⟩ := Zb bD
   have a3 := (ay.fr Z dn_)
   refine a3.ix_ 23 aH ad (le_ 62 0 (.agg #[.int .u32 ((gt ((V.take (gt J (z + 1)).toNat).drop (gt J z).toNat) O).1), .int .u64 ((gt ((V.take (gt J (z + 1)).toNat).drop (gt J z).toNat) O).2.1), .int .u32 ((gt ((V.take (gt J (z + 1)).toNat).drop (gt J z).toNat) O).2.2.1), .int .u32 ((gt ((V.take (gt J (z + 1)).toNat).drop (gt J z).toNat) O).2.2.2)]) a3 aH ad ?_)
   refine rk_ Z.wf [.int .u32 0, .int .u64 0, .int .u32 0, .int .u32 0] fun bX bT aa ae bF => ?_
   obtain ⟨bU, bx, ab, a0⟩ := ra_ 62 0 aa.wf bF [.int .u32 ((gt ((V.take (gt J (z + 1)).toNat).drop (gt J z).toNat) O).1), .int .u64 ((gt ((V.take (gt J (z + 1)).toNat).drop (gt J z).toNat) O).2.1), .int .u32 ((gt ((V.take (gt J (z + 1)).toNat).drop (gt J z).toNat) O).2.2.1), .int .u32 ((gt ((V.take (gt J (z + 1)).toNat).drop (gt J z).toNat) O).2.2.2)] [.int .u32 ((gt ((V.take (gt J (z + 1)).toNat).drop (gt J z).toNat) O).1), .int .u64 ((gt ((V.take (gt J (z + 1)).toNat).drop (gt J z).toNat) O).2.1), .int .u32 ((gt ((V.take (gt J (z + 1)).toNat).drop (gt J z).toNat) O).2.2.1), .int .u32 ((gt ((V.take (gt J (z + 1)).toNat).drop (gt J z).toNat) O).2.2.2)]
   refine ek_ bx (Za (bs _ _ (sq_ fun bt => g_' (qs_ 2 (lr_ 60 0 (.int .u32 ((gt ((V.take (gt J (z + 1)).toNat).drop (gt J z).toNat) O).1)) a0 ?_)))))
   obtain ⟨bd, bG⟩ := Zb bE
   refine w_' ((gt ((V.take (gt J (z + 1)).toNat).drop (gt J z).toNat) O).1) (Zn bd) ?_
   have az := (t_ X.n Z.n)
   have a5 := (ae.djn (aL.lt.le az))
   have bQ := ((((aL.ext X).fr Z dn_).ext aa).fr ab a5)
   have a6 := (ae.djn (aK.ltF.le az))
   have bR := ((((aK.ext X).frS Z dn_).ext aa).frS ab a6)
   obtain ⟨Y, bn, a1⟩ := bs_ bG
   refine ck_ (Zdu ab.wf bQ bR bn) ?_
   rintro _ _ ⟨rfl, rfl⟩
   refine q_ (.tuple #[.int .u64 Y.1, .bool Y.2]) (q_ (.int .u64 Y.1) (q_ (.bool Y.2) (q_ (.int .u64 Y.1) (q_ (.bool Y.2) (Za (bt _ _ (sq_ fun aT => g_' (q_ (.bool Y.2) (q_ (.bool Y.2) ?_)))))))))
   by_cases an : Y.2 = true
   ·have bH := Zf an a1
    rw [an]
    refine qs_ 2 (lr_ 35 1 (.int .u64 ((gt ((V.take (gt J (z + 1)).toNat).drop (gt J z).toNat) O).2.1)) a0 ?_)
    obtain ⟨be, a2⟩ := Zb bH
    refine s_w ((Y.1 + ((gt ((V.take (gt J (z + 1)).toNat).drop (gt J z).toNat) O).2.1))) (k := .u64) (x := (Y.1 + ((gt ((V.take (gt J (z + 1)).toNat).drop (gt J z).toNat) O).2.1))) (by kernel_rfl) (Zag be) ?_
    refine qs_ 3 (Za (aT _ _ ?_))
    refine wc_ ((Y.1 + ((gt ((V.take (gt J (z + 1)).toNat).drop (gt J z).toNat) O).2.1)) < d) (fun av => ?_) fun av => ?_
    ·have bI := Zf av a2
     refine sn_ ?_
     refine Zp (ZI (Zk (Zk (ZI (Zk (Zk ?_))))))
     obtain ⟨b0, aQ, bo⟩ := map_some bI
     subst bo
     obtain rfl := Zw ap
     have bl := elim_inl aZ
     rw [bl] at aQ
     refine br_ [.bool true] ?_
     obtain rfl := oi_ aQ
     exact ⟨rfl, (fs_ ac ((fs_ ac ((f0_ ac).extR X) Z in_).extR aa) ab (ae.fresh az))⟩
    have bJ := Zj av a2
    refine Zg (aS _ _ (g_' ?_))
    obtain ⟨bf, bK⟩ := Zb bJ
    refine w_' ((O + 1)) (Zn (by have := bf; omega)) (qs_ 1 (Za ?_))
    obtain rfl := oi_ bK
    exact aR aX _ _ lt_ ⟨(O + 1), ap, ha_, (fs_ X.wf ((fs_ X.wf (fr_ X.wf) Z in_).extR aa) ab (ae.fresh Z.n))⟩
   have bL := Zj an a1
   rw [nb an]
   refine qs_ 7 (Za (aT _ _ ?_))
   refine wb_ false (fun h => by cases h) fun _ => ?_
   refine Zg (aS _ _ (g_' ?_))
   obtain ⟨bg, bM⟩ := Zb bL
   refine w_' ((O + 1)) (Zn (by have := bg; omega)) (qs_ 1 (Za ?_))
   obtain rfl := oi_ bM
   exact aR aX _ _ lt_ ⟨(O + 1), ap, ha_, (fs_ X.wf ((fs_ X.wf (fr_ X.wf) Z in_).extR aa) ab (ae.fresh Z.n))⟩
  have bN := Zj ad ag
  refine ZA (Zm (Zm (ZK ?_)))
  obtain rfl := oi_ bN
  obtain rfl := Zw ap
  exact bq _ _ ⟨_, rfl, trivial, (fs_ X.wf (fr_ X.wf) Z in_)⟩
 obtain ⟨aY, rfl, aN, a7⟩ := hM
 have bO := elim_inr aZ
 obtain ⟨β, rfl⟩ := Zi aN
 clear aN
 refine bu _ _ (sn_ ?_)
 refine Zp ?_
 refine br_ [.bool false] ?_
 obtain rfl := oi_ bO
 exact ⟨rfl, (fs_ ac ((f0_ ac).extR X) a7 in_)⟩
end Go.Vd

/-! (KWt4) -/

set_option maxRecDepth 100000
set_option maxHeartbeats 4000000
set_option linter.unusedVariables false
namespace Go.Vd
open Go.Proofs
attribute [local irreducible] Zs Zu aWp
theorem Zec {H : AH} {ae : Value} {bN : Fp} {af : Value} {bO : Fp} {ad : Value} {bM : Fp} {ac : Value} {bL : Fp} {Z : Int} {first : List (Int)} {aq : List (Int × Int × Int × Int)} {ak : List (Int)} {aj : List (Int × Int × Int × Int)} {s : Int} {r : List (Int × Int × Bool) × Er}
    (X : WF H) (a1 : Sq (Zh .u32) 1 H ae first bN) (a2 : Sq Ze 4 H af aq bO) (a0 : Sq (Zh .u32) 1 H ad ak bM) (aZ : Sq Ze 4 H ac aj bL) (ba : Zbi Z first aq ak aj s = some r) :
    ACalls Tryz.prog 62 #[.agg #[i_ Z, ae, af, ad, ac], i_ s] H fun v H' => ∃ (bs : Value) (ay : Fp) (bw : Value) (az : Fp), v = .tuple #[bs, bw] /\ FrS [] H H' /\ Ow Zau 3 H' bs r.1 ay /\ Ev 92 195 H' bw r.2 az /\ Inn [] H ay /\ Inn [] H az /\ Dj ay az := by
 refine ab_ Tryz.func62 ?_
 unfold Zbi at ba
 refine sq_ fun b8 => g_' ?_
 refine Z3 X [i_ Z, ae, af, ad, ac] (Zd (rfl) (Zd (a1.one1) (Zd (a2.one1) (Zd (a0.one1) (Zd (aZ.one1) (ZN)))))) (by kernel_rfl) fun aw bB O c7 aH => ?_
 refine qs_ 2 (Za (b8 _ _ (sq_ fun ce => sq_ fun cf => ?_)))
 obtain ⟨bo, bb, bp⟩ := bs_ ba
 refine Zv (fun α aQ => Has α [(1, i_ s), (2, pt_ aw 0), (20, .bool bo)] /\ bB = aQ) (fun _ bd => ?_) (fun α aQ hM => ?_)
 ·refine g_' (qs_ 1 ?_)
  refine sb_ (s < 0) (fun aA => ?_) fun aA => ?_
  ·have cB := Zf aA bb
   refine qs_ 6 (Za ?_)
   obtain rfl := oi_ cB
   exact bd _ _ ⟨ha_, rfl⟩
  have cC := Zj aA bb
  refine qs_ 3 (lr_ 3 0 (i_ Z) aH (qs_ 2 (Za ?_)))
  obtain rfl := oi_ cC
  exact bd _ _ ⟨ha_, rfl⟩
 obtain ⟨a5, rfl⟩ := hM
 obtain ⟨β, rfl⟩ := Zi a5
 clear a5
 refine cf _ _ ?_
 refine wb_ (bo) (fun aB => ?_) fun aB => ?_
 ·have cD := Zf aB bp
  refine sn_ ?_
  refine Zp (Zk ?_)
  refine br_ [.slice none 0 0, .iface 92 (i_ 7)] ?_
  obtain rfl := oi_ cD
  exact ⟨(.slice none 0 0), [], (.iface 92 (i_ 7)), [], rfl, ((f0_ X).extR O), (Ow.nil (by decide)), Ev.no, in_, in_, dn_⟩
 have cE := ZL aB bp
 refine Zg (ce _ _ (sq_ fun be => g_' (lr_ 122 0 (.agg #[i_ Z, ae, af, ad, ac]) aH (qs_ 1 ?_))))
 have aL := (a1.ext O)
 have aM := (a2.ext O)
 have aN := (a0.ext O)
 have aO := (aZ.ext O)
 obtain ⟨cQ, bc, bq⟩ := bs_ cE
 rcases cQ with dp | bA
 ·have br := ZgE bq
  refine ck_ (ZdU O.wf aL aM aN aO bc) ?_
  rintro _ aR ⟨dm, bK, rfl, ax, bh, b4⟩
  refine qs_ 5 (Za (be _ _ (sq_ fun cg => sq_ fun bf => g_' (qs_ 1 ?_))))
  rcases (bh).cases with ⟨aC, rfl⟩ | ⟨aC, aK, aP, rfl⟩
  ·have cF := Zf aC br
   refine qs_ 1 (Za (bf _ _ ?_))
   refine wb_ false (fun h => by cases h) fun _ => ?_
   refine Zg (cg _ _ (sn_ (sq_ fun ch => sq_ fun ci => g_' (qs_ 1 ?_))))
   obtain ⟨dq, b2, cG⟩ := bs_ cF
   refine ck_ (ZeT ax.wf b2) ?_
   rintro _ _ ⟨rfl, rfl⟩
   refine qs_ 2 (Za (ci _ _ ?_))
   obtain ⟨cp, bY, cH⟩ := bs_ cG
   refine Zv (fun α aS => Has α [(8, .slice none 0 0)] /\ aR = aS) (fun _ cj => ?_) (fun α aS hM => ?_)
   ·refine Zl ?_
    obtain ⟨bm, bV⟩ := Zr.1 bY
    refine Zy (fun n α aT => ZD (fun _ : Unit => ZbT) n () = some cp /\ Has α [(2, pt_ aw 0), (6, .pointer none), (8, .slice none 0 0), (32, .slice none 0 0), (33, i_ 0), (34, i_ 0)] /\ aR = aT) bm ⟨bV, ha_, rfl⟩ ?_
    rintro bm α aT ⟨bT, a7, rfl⟩ cY db
    obtain ⟨df, cS, rfl, ap, bW⟩ := Zt bT
    obtain ⟨β, rfl⟩ := Zi a7
    clear a7
    replace ap : ZbT = some cS := ap
    unfold ZbT at ap
    refine sn_ (sq_ fun dc => ?_)
    refine wb_ false (fun h => by cases h) fun _ => ?_
    refine ZA (Zm (Zm (ZK ?_)))
    obtain rfl := oi_ ap
    obtain rfl := Zw bW
    exact cj _ _ ⟨ha_, rfl⟩
   obtain ⟨a6, rfl⟩ := hM
   obtain ⟨β, rfl⟩ := Zi a6
   clear a6
   refine ch _ _ (sn_ ?_)
   refine Zp ?_
   refine br_ [.slice none 0 0, .nilIface] ?_
   obtain rfl := oi_ cH
   exact ⟨(.slice none 0 0), [], (.nilIface), [], rfl, (fs_ X ((f0_ X).extR O) ax in_), (Ow.nil (by decide)), Ev.nil, in_, in_, dn_⟩
  have cI := Zj aC br
  refine l_' (.bool true) (Zaw Tryz.prog .neq 33 (.tmp 28) (.const .nilIface) (.iface aK aP) .nilIface) (ZU (by kernel_rfl)) (Za (bf _ _ ?_))
  refine wb_ true (fun _ => ?_) fun h => by cases h
  refine sn_ ?_
  refine Zp (Zk ?_)
  refine br_ [.slice none 0 0, .iface aK aP] ?_
  obtain rfl := oi_ cI
  exact ⟨(.slice none 0 0), [], (.iface aK aP), bK, rfl, (fs_ X ((f0_ X).extR O) ax in_), (Ow.nil (by decide)), bh, in_, (b4.fresh O.n), dn_⟩
 have cJ := ZgF bq
 refine ck_ (ZdU O.wf aL aM aN aO bc) ?_
 rintro _ cW ⟨dk, c6, bE, rfl, Y, aG, bi, c_, da, c3⟩
 obtain ⟨cZ, dd, c1, rfl⟩ := aG.form
 refine qs_ 5 (Za (be _ _ (sq_ fun b5 => sn_ ?_)))
 refine wb_ false (fun h => by cases h) fun _ => ?_
 refine Zg (b5 _ _ (sn_ (sq_ fun b6 => sq_ fun b7 => g_' (qs_ 1 ?_))))
 obtain ⟨aa, bZ, cr⟩ := bs_ cJ
 refine ck_ (Zf3 Y.wf aG.sq bi bZ) ?_
 rintro dg ai ⟨_, c4, rfl, z, aE, c9⟩
 obtain ⟨bC, ck, bF, rfl⟩ := aE.form
 refine aE.sq.ln_ 38 (qs_ 1 (Za (b7 _ _ ?_)))
 obtain ⟨bn, bX, ct⟩ := bs_ cr
 refine Zv (fun α au => ∃ (aI : Value) (an : Fp), Has α [(8, aI)] /\ FrS [] ai au /\ Ow Zau 3 au aI bn an /\ Inn [] ai an) (fun _ b9 => ?_) (fun α au hM => ?_)
 ·refine Zl ?_
  obtain ⟨bj, bU⟩ := Zr.1 bX
  refine Zy (fun n α av => ∃ (V : Int), ∃ (ah : List (Int × Int × Bool)), ∃ (aJ : Value), ∃ (ao : Fp), ZD (fun zz_ => Zbh Z first aq ak aj bA aa zz_.1 zz_.2) n (V, ah) = some bn /\ Has α [(2, pt_ aw 0), (6, pt_ bE 0), (8, aJ), (32, .slice bC ck bF), (33, i_ (aa.length : Int)), (34, i_ V)] /\ FrS [] ai av /\ Ow Zau 3 av aJ ah ao /\ Inn [] ai ao) bj ⟨0, [], (.slice none 0 0), [], bU, ha_, (fr_ z.wf), (Ow.nil (by decide)), in_⟩ ?_
  rintro bj α av ⟨V, ah, aJ, ao, bS, a4, J, aF, aD⟩ cX b_
  obtain ⟨cl, cR, rfl, ag, a_⟩ := Zt bS
  obtain ⟨β, rfl⟩ := Zi a4
  clear a4
  replace ag : Zbh Z first aq ak aj bA aa V ah = some cR := ag
  unfold Zbh at ag
  obtain ⟨bD, cm, bG, rfl⟩ := aF.form
  refine sn_ (sq_ fun ca => ?_)
  refine wc_ (V < (aa.length : Int)) (fun ab => ?_) fun ab => ?_
  ·have cu := Zf ab ag
   refine Zg (ca _ _ (sq_ fun cb => Zl (sq_ fun cc => g_' ?_)))
   obtain ⟨aY, cv⟩ := Zb cu
   have bt := (aE.fr J dn_)
   refine bt.sq.ix_ 38 aY ab (le_ 3 0 (i_ (gt aa V)) bt.sq aY ab (qs_ 1 (Za (cc _ _ (sq_ fun cd => g_' (qs_ 2 ?_))))))
   have bu := ((aG.fr z dn_).fr J dn_)
   have bv := ((bi.frS z dn_).frS J dn_)
   obtain ⟨bx, b0, cw⟩ := bs_ cv
   refine ck_ (Zdu J.wf bu.sq bv b0) ?_
   rintro _ _ ⟨rfl, rfl⟩
   refine qs_ 5 (Za (cd _ _ (g_' (qs_ 3 ?_))))
   have cK := (((aH.frS Y dn_).frS z dn_).frS J dn_)
   refine lr_ 122 0 (.agg #[i_ Z, ae, af, ad, ac]) cK (qs_ 3 ?_)
   have cL := (((aL.fr Y dn_).fr z dn_).fr J dn_)
   have cM := (((aM.fr Y dn_).fr z dn_).fr J dn_)
   have cN := (((aN.fr Y dn_).fr z dn_).fr J dn_)
   have cO := (((aO.fr Y dn_).fr z dn_).fr J dn_)
   obtain ⟨bz, b1, cx⟩ := bs_ cw
   refine ck_ (Ze7 J.wf cL cM cN cO bu.sq bv b1) ?_
   rintro _ cT ⟨rfl, al⟩
   refine qs_ 1 ?_
   refine ZaK (enc := Zau) (sz := 3) al.wf [((gt aa V), bx.1, bz)] 1 (by decide) (fun _ _ => rfl) (fun _ _ => rfl) rfl (by kernel_rfl) fun dh c5 cU am c8 a8 => ?_
   obtain ⟨c0, de, c2, rfl⟩ := a8.form
   have cP := ((aF.fr al dn_).ext am)
   obtain ⟨bP, cy⟩ := Zb cx
   obtain ⟨di, cV, bJ, cq, bI, a9, bR⟩ := Ow.append (P := Tryz.prog) 24 am.wf cP a8.sq (fun _ _ => rfl) (at_ := #[41, 41]) rfl rfl (by kernel_rfl) (by kernel_rfl) (by decide) (by have := bP; first | omega | (simp only [List.length_cons, List.length_nil] at this ⊢; omega) | (simp at this ⊢; omega))
   obtain ⟨aU, bk, aW, rfl⟩ := a9.form
   refine ZbX (.slice aU bk aW) (by kernel_rfl) (cq) ?_
   refine qs_ 1 (Za (cb _ _ (g_' ?_)))
   obtain ⟨bQ, cz⟩ := Zb cy
   refine w_' ((V + 1)) (Zn (by have := bQ; omega)) (qs_ 1 (Za ?_))
   have cn := (t_ (t_ J.n al.n) am.n)
   obtain rfl := oi_ cz
   exact b_ cl _ _ lt_ ⟨(V + 1), (ah ++ [((gt aa V), bx.1, bz)]), (.slice aU bk aW), bJ, a_, ha_, (fs_ z.wf ((fs_ z.wf (fs_ z.wf (fr_ z.wf) J in_) al in_).extR am) bI (aD.fresh (Nat.le_refl _))), a9, (Inn.trans (aD.fresh (Nat.le_refl _)) cn bR)⟩
  have cA := Zj ab ag
  refine ZA (Zm (Zm (ZK ?_)))
  obtain rfl := oi_ cA
  obtain rfl := Zw a_
  exact b9 _ _ ⟨(.slice bD cm bG), ao, ha_, (fs_ z.wf (fr_ z.wf) J in_), aF, (aD.fresh (Nat.le_refl _))⟩
 obtain ⟨aI, an, a3, bH, bg, b3⟩ := hM
 obtain ⟨β, rfl⟩ := Zi a3
 clear a3
 obtain ⟨aV, bl, aX, rfl⟩ := bg.form
 refine b6 _ _ (sn_ ?_)
 refine Zp ?_
 refine br_ [.slice aV bl aX, .nilIface] ?_
 have co := (t_ (t_ O.n Y.n) z.n)
 obtain rfl := oi_ ct
 exact ⟨(.slice aV bl aX), an, (.nilIface), [], rfl, (fs_ X (fs_ X (fs_ X ((f0_ X).extR O) Y in_) z in_) bH in_), bg, Ev.nil, (b3.fresh co), in_, Dj.nil_r⟩
theorem Zfc {H : AH} {Y : Value} {aX : Fp} {aa : Value} {aZ : Fp} {Z : Value} {aY : Fp} {X : Value} {aW : Fp} {V : Value} {aV : Fp} {aj : List (Int)} {al : List (Int)} {ak : List (Int × Int × Int × Int)} {ai : List (Int)} {ah : List (Int × Int × Int × Int)} {s : Int} {r : List (Int × Int × Bool) × Er}
    (O : WF H) (aq : Sq (Zh .u32) 1 H Y aj aX) (av : Sq (Zh .u32) 1 H aa al aZ) (au : Sq Ze 4 H Z ak aY) (ap : Sq (Zh .u32) 1 H X ai aW) (ao : Sq Ze 4 H V ah aV) (aw : Zcb aj al ak ai ah s = some r) :
    ACalls Tryz.prog 14 #[.agg #[Y, aa, Z, X, V], i_ s] H fun v H' => ∃ (aE : Value) (ac : Fp) (aP : Value) (ad : Fp), v = .tuple #[aE, aP] /\ FrS [] H H' /\ Ow Zau 3 H' aE r.1 ac /\ Ev 92 195 H' aP r.2 ad /\ Inn [] H ac /\ Inn [] H ad /\ Dj ac ad := by
 refine ab_ Tryz.func14 ?_
 unfold Zcb at aw
 refine sq_ fun a5 => g_' ?_
 refine Z3 O [Y, aa, Z, X, V] (Zd (aq.one1) (Zd (av.one1) (Zd (au.one1) (Zd (ap.one1) (Zd (ao.one1) (ZN)))))) (by kernel_rfl) fun bk bd z bp aC => ?_
 refine qs_ 2 (Za (a5 _ _ (sq_ fun a6 => sq_ fun a7 => g_' (lr_ 25 0 (.agg #[Y, aa, Z, X, V]) aC ?_))))
 have aF := (aq.ext z)
 have aG := (av.ext z)
 have aH := (au.ext z)
 have aI := (ap.ext z)
 have aJ := (ao.ext z)
 obtain ⟨bw, a0, aD⟩ := bs_ aw
 refine ck_ (Zdn z.wf aF aG aH aI aJ a0) ?_
 rintro bv be ⟨_, aS, rfl, J, ay, a2⟩
 refine qs_ 1 (Za (a7 _ _ (sq_ fun ax => g_' (qs_ 1 ?_))))
 rcases (ay).cases with ⟨ae, rfl⟩ | ⟨ae, af, ag, rfl⟩
 ·have a_ := Zf ae aD
  refine qs_ 1 (Za (ax _ _ ?_))
  refine wb_ false (fun h => by cases h) fun _ => ?_
  refine Zg (a6 _ _ (sq_ fun a8 => g_' (qs_ 1 ?_)))
  have ab := (aC.frS J dn_)
  refine lr_ 22 0 (Y) ab ?_
  have bc := (aF.fr J dn_)
  refine bc.ln_ 22 (qs_ 1 (lr_ 22 1 (aa) ab (qs_ 1 (lr_ 23 2 (Z) ab (qs_ 1 (lr_ 22 3 (X) ab (qs_ 1 (lr_ 23 4 (V) ab ?_))))))))
  have aK := (aG.fr J dn_)
  obtain ⟨bg, bq, bl, rfl⟩ := aK.form
  have aL := (aH.fr J dn_)
  obtain ⟨bh, br, bm, rfl⟩ := aL.form
  have aM := (aI.fr J dn_)
  obtain ⟨bi, bs, bn, rfl⟩ := aM.form
  have aN := (aJ.fr J dn_)
  obtain ⟨bj, bt, bo, rfl⟩ := aN.form
  refine qs_ 2 ?_
  obtain ⟨bx, a1, ba⟩ := bs_ a_
  refine ck_ (Zec J.wf aK aL aM aN a1) ?_
  rintro _ bf ⟨bu, aT, aO, aU, rfl, aR, az, a9, a3, a4, aQ⟩
  obtain ⟨am, aA, an, rfl⟩ := az.form
  refine qs_ 4 (Za (a8 _ _ ?_))
  refine Zp ?_
  refine br_ [.slice am aA an, aO] ?_
  have aB := (t_ z.n J.n)
  obtain rfl := oi_ ba
  exact ⟨(.slice am aA an), aT, (aO), aU, rfl, (fs_ O (fs_ O ((f0_ O).extR z) J in_) aR in_), az, a9, (a3.fresh aB), (a4.fresh aB), aQ⟩
 have bb := Zj ae aD
 refine l_' (.bool true) (Zaw Tryz.prog .neq 33 (.tmp 9) (.const .nilIface) (.iface af ag) .nilIface) (ZU (by kernel_rfl)) (Za (ax _ _ ?_))
 refine wb_ true (fun _ => ?_) fun h => by cases h
 refine sn_ ?_
 refine Zp (Zk ?_)
 refine br_ [.slice none 0 0, .iface af ag] ?_
 obtain rfl := oi_ bb
 exact ⟨(.slice none 0 0), [], (.iface af ag), aS, rfl, (fs_ O ((f0_ O).extR z) J in_), (Ow.nil (by decide)), ay, in_, (a2.fresh z.n), dn_⟩
theorem ZfO {H : AH} {Y : Value} {aX : Fp} {aa : Value} {aZ : Fp} {Z : Value} {aY : Fp} {X : Value} {aW : Fp} {V : Value} {aV : Fp} {aj : List (Int)} {al : List (Int)} {ak : List (Int × Int × Int × Int)} {ai : List (Int)} {ah : List (Int × Int × Int × Int)} {t : Int} {r : List (Int × Int × Bool) × Er}
    (O : WF H) (aq : Sq (Zh .u32) 1 H Y aj aX) (av : Sq (Zh .u32) 1 H aa al aZ) (au : Sq Ze 4 H Z ak aY) (ap : Sq (Zh .u32) 1 H X ai aW) (ao : Sq Ze 4 H V ah aV) (aw : ZcU aj al ak ai ah t = some r) :
    ACalls Tryz.prog 108 #[.agg #[Y, aa, Z, X, V], i_ t] H fun v H' => ∃ (aE : Value) (ac : Fp) (aP : Value) (ad : Fp), v = .tuple #[aE, aP] /\ FrS [] H H' /\ Ow Zau 3 H' aE r.1 ac /\ Ev 92 195 H' aP r.2 ad /\ Inn [] H ac /\ Inn [] H ad /\ Dj ac ad := by
 refine ab_ Tryz.func108 ?_
 unfold ZcU at aw
 refine sq_ fun a5 => g_' ?_
 refine Z3 O [Y, aa, Z, X, V] (Zd (aq.one1) (Zd (av.one1) (Zd (au.one1) (Zd (ap.one1) (Zd (ao.one1) (ZN)))))) (by kernel_rfl) fun bk bd z bp aC => ?_
 refine qs_ 2 (Za (a5 _ _ (sq_ fun a6 => sq_ fun a7 => g_' (lr_ 25 0 (.agg #[Y, aa, Z, X, V]) aC ?_))))
 have aF := (aq.ext z)
 have aG := (av.ext z)
 have aH := (au.ext z)
 have aI := (ap.ext z)
 have aJ := (ao.ext z)
 obtain ⟨bw, a0, aD⟩ := bs_ aw
 refine ck_ (Zdn z.wf aF aG aH aI aJ a0) ?_
 rintro bv be ⟨_, aS, rfl, J, ay, a2⟩
 refine qs_ 1 (Za (a7 _ _ (sq_ fun ax => g_' (qs_ 1 ?_))))
 rcases (ay).cases with ⟨ae, rfl⟩ | ⟨ae, af, ag, rfl⟩
 ·have a_ := Zf ae aD
  refine qs_ 1 (Za (ax _ _ ?_))
  refine wb_ false (fun h => by cases h) fun _ => ?_
  refine Zg (a6 _ _ (sq_ fun a8 => g_' (qs_ 1 ?_)))
  have ab := (aC.frS J dn_)
  refine lr_ 22 0 (Y) ab ?_
  have bc := (aF.fr J dn_)
  refine bc.ln_ 22 (qs_ 1 (lr_ 22 3 (X) ab (qs_ 1 (lr_ 23 4 (V) ab (qs_ 1 (lr_ 22 1 (aa) ab (qs_ 1 (lr_ 23 2 (Z) ab ?_))))))))
  have aK := (aI.fr J dn_)
  obtain ⟨bg, bq, bl, rfl⟩ := aK.form
  have aL := (aJ.fr J dn_)
  obtain ⟨bh, br, bm, rfl⟩ := aL.form
  have aM := (aG.fr J dn_)
  obtain ⟨bi, bs, bn, rfl⟩ := aM.form
  have aN := (aH.fr J dn_)
  obtain ⟨bj, bt, bo, rfl⟩ := aN.form
  refine qs_ 2 ?_
  obtain ⟨bx, a1, ba⟩ := bs_ a_
  refine ck_ (Zec J.wf aK aL aM aN a1) ?_
  rintro _ bf ⟨bu, aT, aO, aU, rfl, aR, az, a9, a3, a4, aQ⟩
  obtain ⟨am, aA, an, rfl⟩ := az.form
  refine qs_ 4 (Za (a8 _ _ ?_))
  refine Zp ?_
  refine br_ [.slice am aA an, aO] ?_
  have aB := (t_ z.n J.n)
  obtain rfl := oi_ ba
  exact ⟨(.slice am aA an), aT, (aO), aU, rfl, (fs_ O (fs_ O ((f0_ O).extR z) J in_) aR in_), az, a9, (a3.fresh aB), (a4.fresh aB), aQ⟩
 have bb := Zj ae aD
 refine l_' (.bool true) (Zaw Tryz.prog .neq 33 (.tmp 9) (.const .nilIface) (.iface af ag) .nilIface) (ZU (by kernel_rfl)) (Za (ax _ _ ?_))
 refine wb_ true (fun _ => ?_) fun h => by cases h
 refine sn_ ?_
 refine Zp (Zk ?_)
 refine br_ [.slice none 0 0, .iface af ag] ?_
 obtain rfl := oi_ bb
 exact ⟨(.slice none 0 0), [], (.iface af ag), aS, rfl, (fs_ O ((f0_ O).extR z) J in_), (Ow.nil (by decide)), ay, in_, (a2.fresh z.n), dn_⟩
theorem ZfG {H : AH} {aH : Value} {el : Fp} {aJ : Value} {eo : Fp} {aI : Value} {em : Fp} {aG : Value} {ek : Fp} {aF : Value} {ej : Fp} {bV : List (Int)} {bX : List (Int)} {bW : List (Int × Int × Int × Int)} {bN : List (Int)} {bM : List (Int × Int × Int × Int)} {s : Int} {t : Int} {r : Int × Int × Er}
    (V : WF H) (cg : Sq (Zh .u32) 1 H aH bV el) (ci : Sq (Zh .u32) 1 H aJ bX eo) (ch : Sq Ze 4 H aI bW em) (cf : Sq (Zh .u32) 1 H aG bN ek) (ce : Sq Ze 4 H aF bM ej) (cr : Za2 bV bX bW bN bM s t = some r) :
    ACalls Tryz.prog 52 #[.agg #[aH, aJ, aI, aG, aF], i_ s, i_ t] H fun v H' => ∃ (dw : Value) (cb : Fp), v = .tuple #[.agg #[i_ r.1, .int .u64 r.2.1], dw] /\ FrS [] H H' /\ Ev 92 195 H' dw r.2.2 cb /\ Inn [] H cb := by
 refine ab_ Tryz.func52 ?_
 unfold Za2 at cr
 refine sq_ fun e8 => g_' ?_
 refine Z3 V [aH, aJ, aI, aG, aF] (Zd (cg.one1) (Zd (ci.one1) (Zd (ch.one1) (Zd (cf.one1) (Zd (ce.one1) (ZN)))))) (by kernel_rfl) fun a_ hF aa hO f_ => ?_
 refine rk_ aa.wf [i_ 0, .int .u64 0] fun ai hx ae aE aq => ?_
 refine qs_ 1 (Za (e8 _ _ (sq_ fun eK => g_' ?_)))
 have di := (f_.ext ae)
 refine lr_ 25 0 (.agg #[aH, aJ, aI, aG, aF]) di ?_
 have dk := ((cg.ext aa).ext ae)
 have dm := ((ci.ext aa).ext ae)
 have dp := ((ch.ext aa).ext ae)
 have dq := ((cf.ext aa).ext ae)
 have dr := ((ce.ext aa).ext ae)
 obtain ⟨a4, eE, c6⟩ := bs_ cr
 refine ck_ (Zfw ae.wf dk dm dp dq dr eE) ?_
 rintro _ hD ⟨hV, hL, h3, eh, rfl, X, bw, cP, hS, cD, hK⟩
 obtain ⟨a9, bz, bb, rfl⟩ := bw.form
 refine qs_ 5 (Za (eK _ _ (sq_ fun e1 => sq_ fun cK => g_' (qs_ 1 ?_))))
 rcases (cP).cases with ⟨bs, rfl⟩ | ⟨bs, bF, bL, rfl⟩
 ·have gT := Zf bs c6
  refine qs_ 1 (Za (cK _ _ ?_))
  refine wb_ false (fun h => by cases h) fun _ => ?_
  refine Zg (e1 _ _ (sq_ fun e5 => sq_ fun e6 => g_' (qs_ 2 ?_)))
  refine ZaK (enc := (Zh .i64)) (sz := 1) X.wf [s, t] 2 (by decide) (fun _ _ => rfl) (fun _ _ => rfl) rfl (by kernel_rfl) fun hZ hN a7 Y hP aX => ?_
  obtain ⟨b0, cV, b5, rfl⟩ := aX.form
  refine aX.sq.ln_ 38 (qs_ 1 (Za (e6 _ _ ?_)))
  obtain ⟨dx, eA, c_⟩ := bs_ gT
  refine Zv (fun α bS => ∃ cZ, dx = Sum.inr cZ /\ Has α [(1, i_ s), (2, i_ t), (3, pt_ a_ 0), (6, pt_ ai 0), (8, .slice a9 bz bb)] /\ a7 = bS) (fun _ e9 => ?_) (fun α bS hM => ?_)
  ·refine Zl ?_
   obtain ⟨cW, ew⟩ := Zr.1 eA
   refine Zy (fun n α bT => ∃ (av : Int), ZD (fun zz_ => ZcI s t a4 zz_) n av = some dx /\ Has α [(1, i_ s), (2, i_ t), (3, pt_ a_ 0), (6, pt_ ai 0), (8, .slice a9 bz bb), (28, .slice b0 cV b5), (29, i_ ([s, t].length : Int)), (30, i_ av)] /\ a7 = bT) cW ⟨0, ew, ha_, rfl⟩ ?_
   rintro cW α bT ⟨av, eu, cp, rfl⟩ hH e_
   obtain ⟨fT, hv, rfl, aP, bu⟩ := Zt eu
   obtain ⟨β, rfl⟩ := Zi cp
   clear cp
   replace aP : ZcI s t a4 av = some hv := aP
   unfold ZcI at aP
   refine sn_ (sq_ fun fa => ?_)
   refine wc_ (av < ([s, t].length : Int)) (fun aN => ?_) fun aN => ?_
   ·have gU := Zf aN aP
    refine Zg (fa _ _ (sq_ fun fb => Zl (sq_ fun fc => g_' (qs_ 1 ?_))))
    obtain ⟨cd, gV⟩ := Zb gU
    refine aX.sq.ix_ 38 cd aN (le_ 3 0 (i_ (gt [s, t] av)) aX.sq cd aN (qs_ 2 (Za (fc _ _ (sq_ fun fd => ?_)))))
    obtain ⟨c0, cz, da⟩ := bs_ gV
    refine Zv (fun α bU => Has α [(1, i_ s), (2, i_ t), (3, pt_ a_ 0), (6, pt_ ai 0), (8, .slice a9 bz bb), (10, i_ av), (28, .slice b0 cV b5), (29, i_ ([s, t].length : Int)), (30, i_ av), (42, .bool c0)] /\ a7 = bU) (fun _ cL => ?_) (fun α bU hM => ?_)
    ·refine g_' (qs_ 1 ?_)
     refine sb_ ((gt [s, t] av) < 0) (fun bt => ?_) fun bt => ?_
     ·have gW := Zf bt cz
      refine qs_ 6 (Za ?_)
      obtain rfl := oi_ gW
      exact cL _ _ ⟨ha_, rfl⟩
     have f7 := Zj bt cz
     refine qs_ 3 ?_
     have gX := (bw.ext Y)
     refine gX.sq.ln_ 38 (qs_ 2 (Za ?_))
     obtain rfl := oi_ f7
     exact cL _ _ ⟨ha_, rfl⟩
    obtain ⟨cq, rfl⟩ := hM
    obtain ⟨β, rfl⟩ := Zi cq
    clear cq
    refine fd _ _ ?_
    refine wb_ (c0) (fun bh => ?_) fun bh => ?_
    ·have f8 := Zf bh da
     refine sq_ fun eG => g_' (qs_ 3 ?_)
     obtain ⟨h4, eB, f9⟩ := bs_ f8
     refine ck_ (Zdq Y.wf (Ev.no (tf := 195)) eB) ?_
     rintro dv hw ⟨_, ec, rfl, bc, fe, cA⟩
     have gY := (((aq.frS X dn_).ext Y).frS bc dn_)
     obtain ⟨dy, fU, b8, gb⟩ := ra_ 111 0 bc.wf gY [i_ 0, .int .u64 0] [i_ 0, .int .u64 0]
     refine ek_ fU (qs_ 1 (Za (eG _ _ ?_)))
     refine Zp (ZI (Zk (Zk (ZI (Zk (Zk ?_))))))
     obtain ⟨h0, cv, eF⟩ := map_some f9
     subst eF
     obtain rfl := Zw bu
     have ey := elim_inl c_
     rw [ey] at cv
     refine ZX (vs := [.agg #[i_ 0, .int .u64 0], dv]) (ZC (Eq.trans (b := aL_ 111 (pt_ ai 0) dy) (by kernel_rfl) (gb.l_)) (rt_ (rfl))) ?_
     have ff := (t_ X.n Y.n)
     have dJ := (cA.djn (aq.ltF.le ff))
     have gZ := (fe.fr b8 (Dj.symm dJ))
     have fg := (t_ (t_ (t_ aa.n ae.n) X.n) Y.n)
     obtain rfl := oi_ cv
     exact ⟨(dv), ec, rfl, (fs_ V (fs_ V ((fs_ V (((f0_ V).extR aa).extR ae) X in_).extR Y) bc in_) b8 (aE.fresh aa.n)), gZ, (cA.fresh fg)⟩
    have gc := ZL bh da
    refine Zg (fb _ _ (g_' ?_))
    obtain ⟨ep, gd⟩ := Zb gc
    refine w_' ((av + 1)) (Zn (by have := ep; omega)) (qs_ 1 (Za ?_))
    obtain rfl := oi_ gd
    exact e_ fT _ _ lt_ ⟨(av + 1), bu, ha_, rfl⟩
   have gf := Zj aN aP
   refine ZA (Zm (Zm (ZK ?_)))
   obtain rfl := oi_ gf
   obtain rfl := Zw bu
   exact e9 _ _ ⟨_, rfl, ha_, rfl⟩
  obtain ⟨cZ, rfl, co, rfl⟩ := hM
  have gg := elim_inr c_
  obtain ⟨β, rfl⟩ := Zi co
  clear co
  refine e5 _ _ (sq_ fun eH => ?_)
  refine ZJ [0, 1, 2, 3, 4, 5, 6, 7, 8, 9, 10] (by kernel_rfl) ?_
  have db := ((di.frS X dn_).ext Y)
  refine mr_ 25 0 (.agg #[aH, aJ, aI, aG, aF]) db (es_ 2 ?_)
  obtain ⟨aV, gh⟩ := Zb gg
  have bG := (bw.ext Y)
  refine bG.sq.mx_ 38 aV.1 aV.2 (me_ 3 0 (i_ (gt a4.1 s)) bG.sq aV.1 aV.2 ?_)
  have dc := ((dk.fr X dn_).ext Y)
  have dd := ((dm.fr X dn_).ext Y)
  have de := ((dp.fr X dn_).ext Y)
  have df := ((dq.fr X dn_).ext Y)
  have dg := ((dr.fr X dn_).ext Y)
  obtain ⟨hs, eC, c1⟩ := bs_ gh
  refine dk_ (Zfc Y.wf dc dd de df dg eC) ?_
  rintro _ hy ⟨hT, ed, h1, ee, rfl, ab, ao, cM, hQ, cB, hI⟩
  obtain ⟨dF, fh, dH, rfl⟩ := ao.form
  refine ⟨ZP, ?_⟩
  refine es_ 5 ?_
  refine ZE ?_
  refine eH _ _ (sq_ fun eI => sq_ fun cE => g_' (qs_ 1 ?_))
  rcases (cM).cases with ⟨bi, rfl⟩ | ⟨bi, bD, bJ, rfl⟩
  ·have gi := Zf bi c1
   refine qs_ 1 (Za (cE _ _ ?_))
   refine wb_ false (fun h => by cases h) fun _ => ?_
   refine Zg (eI _ _ (sq_ fun eJ => ?_))
   refine ZJ [0, 1, 2, 3, 4, 5, 6, 7, 8, 9, 10] (by kernel_rfl) ?_
   have g0 := (db.frS ab dn_)
   refine mr_ 25 0 (.agg #[aH, aJ, aI, aG, aF]) g0 (es_ 2 ?_)
   obtain ⟨aW, gj⟩ := Zb gi
   have dh := (bG.fr ab dn_)
   refine dh.sq.mx_ 38 aW.1 aW.2 (me_ 3 0 (i_ (gt a4.1 t)) dh.sq aW.1 aW.2 ?_)
   have g1 := (dc.fr ab dn_)
   have g2 := (dd.fr ab dn_)
   have g3 := (de.fr ab dn_)
   have g4 := (df.fr ab dn_)
   have g5 := (dg.fr ab dn_)
   obtain ⟨ht, eD, c2⟩ := bs_ gj
   refine dk_ (ZfO ab.wf g1 g2 g3 g4 g5 eD) ?_
   rintro _ hz ⟨hU, ef, h2, eg, rfl, ac, ap, cN, hR, cC, hJ⟩
   obtain ⟨dG, fj, dI, rfl⟩ := ap.form
   refine ⟨ZP, ?_⟩
   refine es_ 5 ?_
   refine ZE ?_
   refine eJ _ _ (sq_ fun eL => sq_ fun cF => g_' (qs_ 1 ?_))
   rcases (cN).cases with ⟨bj, rfl⟩ | ⟨bj, bE, bK, rfl⟩
   ·have gk := Zf bj c2
    refine qs_ 1 (Za (cF _ _ ?_))
    refine wb_ false (fun h => by cases h) fun _ => ?_
    refine Zg (eL _ _ (sq_ fun eM => g_' (qs_ 1 ?_)))
    refine rk_ ac.wf [i_ 0, .int .u64 0] fun au hA af ah ax => ?_
    obtain ⟨bO, fV, z, gl⟩ := ra_ 111 0 af.wf ax [i_ 0, .int .u64 18446744073709551615] [i_ 0, .int .u64 18446744073709551615]
    refine ek_ fV (Za (eM _ _ (sq_ fun eN => ?_)))
    obtain ⟨am, ez, c3⟩ := bs_ gk
    refine Zv (fun α a5 => Has α [(6, pt_ ai 0), (14, pt_ au 0)] /\ FrS [au] bO a5 /\ Row a5 au [i_ am.1, .int .u64 am.2]) (fun _ eO => ?_) (fun α a5 hM => ?_)
    ·refine Zl ?_
     obtain ⟨cQ, ev⟩ := Zr.1 ez
     have dK := (ah.djn (ao.lt.le ac.n))
     have g6 := (((ao.fr ac dn_).ext af).fr z dK)
     have g7 := ((ap.ext af).fr z (ah.djn ap.lt))
     refine Zy (fun n α ay => ∃ (J : List (Int × Int × Bool)), ∃ (down2 : List (Int × Int × Bool)), ∃ (aT : Int), ∃ (aL : Int), ∃ (bB : Value), ∃ (bC : Value), ZD (fun zz_ => ZbP zz_.1 zz_.2.1 zz_.2.2.1 zz_.2.2.2) n (J, down2, aT, aL) = some am /\ Has α [(6, pt_ ai 0), (12, bB), (13, bC), (14, pt_ au 0)] /\ FrS [au] bO ay /\ Sq Zau 3 ay bB J ed /\ Sq Zau 3 ay bC down2 ef /\ Row ay au [i_ aT, .int .u64 aL]) cQ ⟨hs.1, ht.1, 0, 18446744073709551615, (.slice dF fh dH), (.slice dG fj dI), ev, ha_, (fr_ z.wf), g6.sq, g7.sq, gl⟩ ?_
     rintro cQ α ay ⟨J, down2, aT, aL, bB, bC, et, ck, O, aB, aQ, a0⟩ hG aZ
     obtain ⟨a2, hu, rfl, aY, aO⟩ := Zt et
     obtain ⟨β, rfl⟩ := Zi ck
     clear ck
     replace aY : ZbP J down2 aT aL = some hu := aY
     unfold ZbP at aY
     obtain ⟨aK, aR, aM, rfl⟩ := aB.form
     obtain ⟨az, aC, aA, rfl⟩ := aQ.form
     refine sq_ fun eP => sq_ fun eQ => ?_
     obtain ⟨cX, cw, c4⟩ := bs_ aY
     refine Zv (fun α bP => Has α [(6, pt_ ai 0), (12, .slice aK aR aM), (13, .slice az aC aA), (14, pt_ au 0), (82, .bool cX)] /\ ay = bP) (fun _ cG => ?_) (fun α bP hM => ?_)
     ·refine g_' (qs_ 1 (aB.ln_ 41 ?_))
      refine sb_ ((J.length : Int) > 0) (fun bk => ?_) fun bk => ?_
      ·have gm := Zf bk cw
       refine qs_ 2 (aQ.ln_ 41 (qs_ 2 (Za ?_)))
       obtain rfl := oi_ gm
       exact cG _ _ ⟨ha_, rfl⟩
      have gn := Zj bk cw
      refine qs_ 5 (Za ?_)
      obtain rfl := oi_ gn
      exact cG _ _ ⟨ha_, rfl⟩
     obtain ⟨cl, rfl⟩ := hM
     obtain ⟨β, rfl⟩ := Zi cl
     clear cl
     refine eQ _ _ ?_
     refine wb_ (cX) (fun bl => ?_) fun bl => ?_
     ·have go := Zf bl c4
      refine Zg (eP _ _ (Zl (sq_ fun eR => ?_)))
      refine ZJ [0, 1, 2, 3, 4, 5, 6, 7, 8, 9] (by kernel_rfl) ?_
      refine es_ 1 ?_
      obtain ⟨cc, gp⟩ := Zb go
      refine aB.mx_ 41 (by decide) cc (me_ 199 0 (.agg #[i_ ((gt J 0).1), .int .u64 ((gt J 0).2.1), .bool ((gt J 0).2.2)]) aB (by decide) cc (es_ 1 ?_))
      obtain ⟨bd, gq⟩ := Zb gp
      refine aQ.mx_ 41 (by decide) bd ?_
      refine ZcR (.agg #[i_ ((gt down2 0).1), .int .u64 ((gt down2 0).2.1), .bool ((gt down2 0).2.2)]) (x := aL_ 199 (elp (.slice az aC aA) 3 (0 : Int).toNat 0) ay) (by kernel_rfl) (aQ.ld (by decide) bd (by kernel_rfl)) ?_
      refine Zem O.wf [i_ 0, .int .u64 0, .bool false] (by kernel_rfl) fun b1 hB Z an c5 => ?_
      refine Zem Z.wf [i_ 0, .int .u64 0, .bool false] (by kernel_rfl) fun b2 hC aj ag gr => ?_
      have g8 := (c5.ext aj)
      obtain ⟨dz, fW, ak, bA⟩ := ra_ 199 0 aj.wf g8 [i_ ((gt J 0).1), .int .u64 ((gt J 0).2.1), .bool ((gt J 0).2.2)] [i_ ((gt J 0).1), .int .u64 ((gt J 0).2.1), .bool ((gt J 0).2.2)]
      have fk := (t_ (t_ af.n z.n) O.n)
      have dL := (an.djn (ap.lt.le fk))
      have aS := (((aQ.ext Z).ext aj).fr ak dL)
      refine fk_ fW (Zbb (y := aL_ 199 (elp (.slice az aC aA) 3 (0 : Int).toNat 0) dz) (by kernel_rfl) (aS.ld (by decide) bd (by kernel_rfl)) (ZP)) ?_
      have aU := (ag.djn c5.ltF)
      have g9 := (gr.frS ak (Dj.symm aU))
      obtain ⟨bQ, fX, ad, a3⟩ := ra_ 199 0 ak.wf g9 [i_ ((gt down2 0).1), .int .u64 ((gt down2 0).2.1), .bool ((gt down2 0).2.2)] [i_ ((gt down2 0).1), .int .u64 ((gt down2 0).2.1), .bool ((gt down2 0).2.2)]
      refine fk_ fX (Z0 (by kernel_rfl) (ZP)) ?_
      refine ZE ?_
      refine eR _ _ (sq_ fun eS => sq_ fun eT => ?_)
      obtain ⟨cY, cx, gs⟩ := bs_ gq
      refine Zv (fun α bR => Has α [(6, pt_ ai 0), (12, .slice aK aR aM), (13, .slice az aC aA), (14, pt_ au 0), (15, pt_ b1 0), (16, pt_ b2 0), (103, .bool cY)] /\ bQ = bR) (fun _ cH => ?_) (fun α bR hM => ?_)
      ·refine g_' (qs_ 1 ?_)
       have dt := (bA.frS ad aU)
       refine lr_ 3 0 (i_ ((gt J 0).1)) dt (qs_ 1 (lr_ 3 0 (i_ ((gt down2 0).1)) a3 ?_))
       refine sb_ (((gt J 0).1) = ((gt down2 0).1)) (fun bm => ?_) fun bm => ?_
       ·have gu := Zf bm cx
        refine qs_ 2 (lr_ 35 1 (.int .u64 ((gt J 0).2.1)) dt (qs_ 1 (lr_ 35 1 (.int .u64 ((gt down2 0).2.1)) a3 ?_)))
        obtain ⟨eq, gv⟩ := Zb gu
        refine s_w ((((gt J 0).2.1) + ((gt down2 0).2.1))) (k := .u64) (x := (((gt J 0).2.1) + ((gt down2 0).2.1))) (by kernel_rfl) (Zag eq) ?_
        refine qs_ 1 ?_
        have fm := (t_ z.n O.n)
        have dM := (an.djn (ax.ltF.le fm))
        have fo := (t_ (t_ z.n O.n) Z.n)
        have dN := (ag.djn (ax.ltF.le fo))
        have g_ := ((((a0.ext Z).ext aj).frS ak dM).frS ad dN)
        refine lr_ 35 1 (.int .u64 aL) g_ (qs_ 2 (Za ?_))
        obtain rfl := oi_ gv
        exact cH _ _ ⟨ha_, rfl⟩
       have gw := Zj bm cx
       refine qs_ 10 (Za ?_)
       obtain rfl := oi_ gw
       exact cH _ _ ⟨ha_, rfl⟩
      obtain ⟨cm, rfl⟩ := hM
      obtain ⟨β, rfl⟩ := Zi cm
      clear cm
      refine eT _ _ ?_
      obtain ⟨aw, cy, c7⟩ := bs_ gs
      refine Zv (fun α a6 => Has α [(6, pt_ ai 0), (12, .slice aK aR aM), (13, .slice az aC aA), (14, pt_ au 0), (15, pt_ b1 0), (16, pt_ b2 0)] /\ FrS [au] bQ a6 /\ Row a6 au [i_ aw.1, .int .u64 aw.2]) (fun _ cI => ?_) (fun α a6 hM => ?_)
      ·refine wb_ (cY) (fun bn => ?_) fun bn => ?_
       ·have gx := Zf bn cy
        refine g_' (qs_ 1 ?_)
        have du := (bA.frS ad aU)
        refine lr_ 3 0 (i_ ((gt J 0).1)) du (qs_ 1 (lr_ 35 1 (.int .u64 ((gt J 0).2.1)) du (qs_ 1 (lr_ 35 1 (.int .u64 ((gt down2 0).2.1)) a3 ?_))))
        obtain ⟨es, gy⟩ := Zb gx
        refine s_w ((((gt J 0).2.1) + ((gt down2 0).2.1))) (k := .u64) (x := (((gt J 0).2.1) + ((gt down2 0).2.1))) (by kernel_rfl) (Zag es) ?_
        refine qs_ 1 ?_
        have fs := (t_ z.n O.n)
        have dO := (an.djn (ax.ltF.le fs))
        have ft := (t_ (t_ z.n O.n) Z.n)
        have dP := (ag.djn (ax.ltF.le ft))
        have ha := ((((a0.ext Z).ext aj).frS ak dO).frS ad dP)
        obtain ⟨hE, fY, d_, gz⟩ := ra_ 111 0 ad.wf ha [i_ ((gt J 0).1), .int .u64 (((gt J 0).2.1) + ((gt down2 0).2.1))] [i_ ((gt J 0).1), .int .u64 (((gt J 0).2.1) + ((gt down2 0).2.1))]
        refine ek_ fY (Za ?_)
        obtain rfl := oi_ gy
        exact cI _ _ ⟨ha_, (fs_ ad.wf (fr_ ad.wf) d_ ir_), gz⟩
       have gA := ZL bn cy
       refine Zg ?_
       have fu := (t_ z.n O.n)
       have dQ := (an.djn (ax.ltF.le fu))
       have fv := (t_ (t_ z.n O.n) Z.n)
       have dR := (ag.djn (ax.ltF.le fv))
       have hb := ((((a0.ext Z).ext aj).frS ak dQ).frS ad dR)
       obtain rfl := oi_ gA
       exact cI _ _ ⟨ha_, (fr_ ad.wf), hb⟩
      obtain ⟨cn, al, a1⟩ := hM
      obtain ⟨β, rfl⟩ := Zi cn
      clear cn
      refine eS _ _ (sq_ fun cJ => sq_ fun eU => g_' (qs_ 1 ?_))
      have fw := (t_ z.n O.n)
      have dS := (an.djn (ax.ltF.le fw))
      have bH := ((bA.frS ad aU).frS al (Dj.symm dS))
      refine lr_ 3 0 (i_ ((gt J 0).1)) bH (qs_ 1 ?_)
      have fx := (t_ (t_ z.n O.n) Z.n)
      have dT := (ag.djn (ax.ltF.le fx))
      have bI := (a3.frS al (Dj.symm dT))
      refine lr_ 3 0 (i_ ((gt down2 0).1)) bI (qs_ 1 (Za (eU _ _ ?_)))
      refine wc_ (((gt J 0).1) ≤ ((gt down2 0).1)) (fun bo => ?_) fun bo => ?_
      ·have gB := Zf bo c7
       refine g_' (qs_ 1 ?_)
       obtain ⟨be, c8⟩ := Zb gB
       have fy := (t_ (t_ (t_ ac.n af.n) z.n) O.n)
       have dU := (an.djn (ao.lt.le fy))
       have fz := (t_ (t_ (t_ (t_ ac.n af.n) z.n) O.n) Z.n)
       have dV := (ag.djn (ao.lt.le fz))
       have dW := (ah.djn (ao.lt.le ac.n))
       have hc := (((((aB.ext Z).ext aj).fr ak dU).fr ad dV).fr al dW)
       obtain ⟨hW, fZ, bv⟩ := Sq.cut (P := Tryz.prog) hc (t := 41) (by kernel_rfl) (lo := (some (i_ 1))) (hi := none) (l := (1 : Int).toNat) (r := J.length) (ZQ _ (by have := be; omega)) (rfl) (by have := be; omega) (by have := be; omega)
       obtain ⟨a8, bx, ba, rfl⟩ := bv.form
       refine Zc5 (.slice a8 bx ba) (by kernel_rfl) fZ ?_
       refine qs_ 1 (Za (cJ _ _ (sq_ fun eV => g_' (qs_ 1 (lr_ 3 0 (i_ ((gt down2 0).1)) bI (qs_ 1 (lr_ 3 0 (i_ ((gt J 0).1)) bH (qs_ 1 (Za (eV _ _ ?_))))))))))
       refine wc_ (((gt down2 0).1) ≤ ((gt J 0).1)) (fun bp => ?_) fun bp => ?_
       ·have gC := Zf bp c8
        refine g_' (qs_ 1 ?_)
        obtain ⟨bf, gD⟩ := Zb gC
        have fA := (t_ (t_ (t_ af.n z.n) O.n) Z.n)
        have dX := (ag.djn (ap.lt.le fA))
        have hd := ((aS.fr ad dX).fr al (ah.djn ap.lt))
        obtain ⟨hX, f0, ct⟩ := Sq.cut (P := Tryz.prog) hd (t := 41) (by kernel_rfl) (lo := (some (i_ 1))) (hi := none) (l := (1 : Int).toNat) (r := down2.length) (ZQ _ (by have := bf; omega)) (rfl) (by have := bf; omega) (by have := bf; omega)
        obtain ⟨bY, cR, b3, rfl⟩ := ct.form
        refine Zc5 (.slice bY cR b3) (by kernel_rfl) f0 ?_
        refine qs_ 1 (Za ?_)
        have fB := (t_ O.n Z.n)
        obtain rfl := oi_ gD
        exact aZ a2 _ _ lt_ ⟨((J.take J.length).drop (1 : Int).toNat), ((down2.take down2.length).drop (1 : Int).toNat), aw.1, aw.2, (.slice a8 bx ba), (.slice bY cR b3), aO, ha_, (fs_ z.wf (fs_ z.wf (fs_ z.wf (((fs_ z.wf (fr_ z.wf) O ir_).extR Z).extR aj) ak (an.fresh O.n)) ad (ag.fresh fB)) al ir_), bv, ct, a1⟩
       have gE := Zj bp c8
       refine Zg ?_
       have fC := (t_ O.n Z.n)
       have fD := (t_ (t_ (t_ af.n z.n) O.n) Z.n)
       have dY := (ag.djn (ap.lt.le fD))
       have he := ((aS.fr ad dY).fr al (ah.djn ap.lt))
       obtain rfl := oi_ gE
       exact aZ a2 _ _ lt_ ⟨((J.take J.length).drop (1 : Int).toNat), down2, aw.1, aw.2, (.slice a8 bx ba), (.slice az aC aA), aO, ha_, (fs_ z.wf (fs_ z.wf (fs_ z.wf (((fs_ z.wf (fr_ z.wf) O ir_).extR Z).extR aj) ak (an.fresh O.n)) ad (ag.fresh fC)) al ir_), bv, he, a1⟩
      have c9 := Zj bo c7
      refine Zg (cJ _ _ (sq_ fun eW => g_' (qs_ 1 (lr_ 3 0 (i_ ((gt down2 0).1)) bI (qs_ 1 (lr_ 3 0 (i_ ((gt J 0).1)) bH (qs_ 1 (Za (eW _ _ ?_)))))))))
      refine wc_ (((gt down2 0).1) ≤ ((gt J 0).1)) (fun bq => ?_) fun bq => ?_
      ·have gF := Zf bq c9
       refine g_' (qs_ 1 ?_)
       obtain ⟨bg, gG⟩ := Zb gF
       have fE := (t_ (t_ (t_ af.n z.n) O.n) Z.n)
       have dZ := (ag.djn (ap.lt.le fE))
       have hf := ((aS.fr ad dZ).fr al (ah.djn ap.lt))
       obtain ⟨hY, f1, cu⟩ := Sq.cut (P := Tryz.prog) hf (t := 41) (by kernel_rfl) (lo := (some (i_ 1))) (hi := none) (l := (1 : Int).toNat) (r := down2.length) (ZQ _ (by have := bg; omega)) (rfl) (by have := bg; omega) (by have := bg; omega)
       obtain ⟨bZ, cS, b4, rfl⟩ := cu.form
       refine Zc5 (.slice bZ cS b4) (by kernel_rfl) f1 ?_
       refine qs_ 1 (Za ?_)
       have fF := (t_ O.n Z.n)
       have fG := (t_ (t_ (t_ ac.n af.n) z.n) O.n)
       have d0 := (an.djn (ao.lt.le fG))
       have fH := (t_ (t_ (t_ (t_ ac.n af.n) z.n) O.n) Z.n)
       have d1 := (ag.djn (ao.lt.le fH))
       have d2 := (ah.djn (ao.lt.le ac.n))
       have hg := (((((aB.ext Z).ext aj).fr ak d0).fr ad d1).fr al d2)
       obtain rfl := oi_ gG
       exact aZ a2 _ _ lt_ ⟨J, ((down2.take down2.length).drop (1 : Int).toNat), aw.1, aw.2, (.slice aK aR aM), (.slice bZ cS b4), aO, ha_, (fs_ z.wf (fs_ z.wf (fs_ z.wf (((fs_ z.wf (fr_ z.wf) O ir_).extR Z).extR aj) ak (an.fresh O.n)) ad (ag.fresh fF)) al ir_), hg, cu, a1⟩
      have gH := Zj bq c9
      refine Zg ?_
      have fI := (t_ O.n Z.n)
      have fJ := (t_ (t_ (t_ ac.n af.n) z.n) O.n)
      have d3 := (an.djn (ao.lt.le fJ))
      have fK := (t_ (t_ (t_ (t_ ac.n af.n) z.n) O.n) Z.n)
      have d4 := (ag.djn (ao.lt.le fK))
      have d5 := (ah.djn (ao.lt.le ac.n))
      have hh := (((((aB.ext Z).ext aj).fr ak d3).fr ad d4).fr al d5)
      have fL := (t_ (t_ (t_ af.n z.n) O.n) Z.n)
      have d6 := (ag.djn (ap.lt.le fL))
      have hj := ((aS.fr ad d6).fr al (ah.djn ap.lt))
      obtain rfl := oi_ gH
      exact aZ a2 _ _ lt_ ⟨J, down2, aw.1, aw.2, (.slice aK aR aM), (.slice az aC aA), aO, ha_, (fs_ z.wf (fs_ z.wf (fs_ z.wf (((fs_ z.wf (fr_ z.wf) O ir_).extR Z).extR aj) ak (an.fresh O.n)) ad (ag.fresh fI)) al ir_), hh, hj, a1⟩
     have gI := ZL bl c4
     refine ZA (Zm (Zm (ZK ?_)))
     obtain rfl := oi_ gI
     obtain rfl := Zw aO
     exact eO _ _ ⟨ha_, (fs_ z.wf (fr_ z.wf) O ir_), a0⟩
    obtain ⟨cj, aD, cO⟩ := hM
    obtain ⟨β, rfl⟩ := Zi cj
    clear cj
    refine eN _ _ (sq_ fun eX => sq_ fun eY => g_' (qs_ 1 (lr_ 35 1 (.int .u64 am.2) cO (qs_ 1 (Za (eY _ _ ?_))))))
    refine wc_ (am.2 = 18446744073709551615) (fun br => ?_) fun br => ?_
    ·have gJ := Zf br c3
     refine sq_ fun eZ => g_' (qs_ 2 ?_)
     have fM := (t_ (t_ (t_ X.n Y.n) ab.n) ac.n)
     have b6 := (ah.djn (aq.ltF.le fM))
     have hk := (((((((aq.frS X dn_).ext Y).frS ab dn_).frS ac dn_).ext af).frS z b6).frS aD b6)
     obtain ⟨dA, f2, ea, gK⟩ := ra_ 111 0 aD.wf hk [i_ 0, .int .u64 0] [i_ 0, .int .u64 0]
     refine ek_ f2 (qs_ 1 (Za (eZ _ _ ?_)))
     refine Zp (Zk ?_)
     refine ZX (vs := [.agg #[i_ 0, .int .u64 0], .iface 92 (i_ 16)]) (ZC (Eq.trans (b := aL_ 111 (pt_ ai 0) dA) (by kernel_rfl) (gK.l_)) (rt_ (rfl))) ?_
     have cT := (t_ (t_ (t_ (t_ (t_ aa.n ae.n) X.n) Y.n) ab.n) ac.n)
     obtain rfl := oi_ gJ
     exact ⟨(.iface 92 (i_ 16)), [], rfl, (fs_ V (fs_ V (fs_ V ((fs_ V (fs_ V ((fs_ V (((f0_ V).extR aa).extR ae) X in_).extR Y) ab in_) ac in_).extR af) z (ah.fresh cT)) aD (ah.fresh cT)) ea (aE.fresh aa.n)), Ev.no, in_⟩
    have gL := Zj br c3
    refine Zg (eX _ _ (sq_ fun e0 => g_' (lr_ 111 0 (.agg #[i_ am.1, .int .u64 am.2]) cO ?_)))
    have fN := (t_ (t_ (t_ X.n Y.n) ab.n) ac.n)
    have b7 := (ah.djn (aq.ltF.le fN))
    have hl := (((((((aq.frS X dn_).ext Y).frS ab dn_).frS ac dn_).ext af).frS z b7).frS aD b7)
    obtain ⟨dB, f3, eb, gM⟩ := ra_ 111 0 aD.wf hl [i_ am.1, .int .u64 am.2] [i_ am.1, .int .u64 am.2]
    refine ek_ f3 (qs_ 1 (Za (e0 _ _ ?_)))
    refine Zp ?_
    refine ZX (vs := [.agg #[i_ am.1, .int .u64 am.2], .nilIface]) (ZC (Eq.trans (b := aL_ 111 (pt_ ai 0) dB) (by kernel_rfl) (gM.l_)) (rt_ (rfl))) ?_
    have cU := (t_ (t_ (t_ (t_ (t_ aa.n ae.n) X.n) Y.n) ab.n) ac.n)
    obtain rfl := oi_ gL
    exact ⟨(.nilIface), [], rfl, (fs_ V (fs_ V (fs_ V ((fs_ V (fs_ V ((fs_ V (((f0_ V).extR aa).extR ae) X in_).extR Y) ab in_) ac in_).extR af) z (ah.fresh cU)) aD (ah.fresh cU)) eb (aE.fresh aa.n)), Ev.nil, in_⟩
   have gN := Zj bj c2
   refine l_' (.bool true) (Zaw Tryz.prog .neq 33 (.tmp 70) (.const .nilIface) (.iface bE bK) .nilIface) (ZU (by kernel_rfl)) (Za (cF _ _ ?_))
   refine wb_ true (fun _ => ?_) fun h => by cases h
   refine sq_ fun e2 => g_' (qs_ 2 ?_)
   have hm := ((((aq.frS X dn_).ext Y).frS ab dn_).frS ac dn_)
   obtain ⟨dC, f4, b9, gO⟩ := ra_ 111 0 ac.wf hm [i_ 0, .int .u64 0] [i_ 0, .int .u64 0]
   refine ek_ f4 (qs_ 1 (Za (e2 _ _ ?_)))
   refine Zp (Zk ?_)
   refine ZX (vs := [.agg #[i_ 0, .int .u64 0], .iface bE bK]) (ZC (Eq.trans (b := aL_ 111 (pt_ ai 0) dC) (by kernel_rfl) (gO.l_)) (rt_ (rfl))) ?_
   have fO := (t_ (t_ X.n Y.n) ab.n)
   have d7 := (cC.djn (aq.ltF.le fO))
   have hn := (cN.fr b9 (Dj.symm d7))
   have fP := (t_ (t_ (t_ (t_ aa.n ae.n) X.n) Y.n) ab.n)
   obtain rfl := oi_ gN
   exact ⟨(.iface bE bK), eg, rfl, (fs_ V (fs_ V (fs_ V ((fs_ V (((f0_ V).extR aa).extR ae) X in_).extR Y) ab in_) ac in_) b9 (aE.fresh aa.n)), hn, (cC.fresh fP)⟩
  have gP := Zj bi c1
  refine l_' (.bool true) (Zaw Tryz.prog .neq 33 (.tmp 57) (.const .nilIface) (.iface bD bJ) .nilIface) (ZU (by kernel_rfl)) (Za (cE _ _ ?_))
  refine wb_ true (fun _ => ?_) fun h => by cases h
  refine sq_ fun e3 => g_' (qs_ 2 ?_)
  have ho := (((aq.frS X dn_).ext Y).frS ab dn_)
  obtain ⟨dD, f5, b_, gQ⟩ := ra_ 111 0 ab.wf ho [i_ 0, .int .u64 0] [i_ 0, .int .u64 0]
  refine ek_ f5 (qs_ 1 (Za (e3 _ _ ?_)))
  refine Zp (Zk ?_)
  refine ZX (vs := [.agg #[i_ 0, .int .u64 0], .iface bD bJ]) (ZC (Eq.trans (b := aL_ 111 (pt_ ai 0) dD) (by kernel_rfl) (gQ.l_)) (rt_ (rfl))) ?_
  have fQ := (t_ X.n Y.n)
  have d8 := (cB.djn (aq.ltF.le fQ))
  have hp := (cM.fr b_ (Dj.symm d8))
  have fR := (t_ (t_ (t_ aa.n ae.n) X.n) Y.n)
  obtain rfl := oi_ gP
  exact ⟨(.iface bD bJ), ee, rfl, (fs_ V (fs_ V ((fs_ V (((f0_ V).extR aa).extR ae) X in_).extR Y) ab in_) b_ (aE.fresh aa.n)), hp, (cB.fresh fR)⟩
 have gR := Zj bs c6
 refine l_' (.bool true) (Zaw Tryz.prog .neq 33 (.tmp 22) (.const .nilIface) (.iface bF bL) .nilIface) (ZU (by kernel_rfl)) (Za (cK _ _ ?_))
 refine wb_ true (fun _ => ?_) fun h => by cases h
 refine sq_ fun e4 => g_' (qs_ 2 ?_)
 have hq := (aq.frS X dn_)
 obtain ⟨dE, f6, ca, gS⟩ := ra_ 111 0 X.wf hq [i_ 0, .int .u64 0] [i_ 0, .int .u64 0]
 refine ek_ f6 (qs_ 1 (Za (e4 _ _ ?_)))
 refine Zp (Zk ?_)
 refine ZX (vs := [.agg #[i_ 0, .int .u64 0], .iface bF bL]) (ZC (Eq.trans (b := aL_ 111 (pt_ ai 0) dE) (by kernel_rfl) (gS.l_)) (rt_ (rfl))) ?_
 have d9 := (cD.djn aq.ltF)
 have hr := (cP.fr ca (Dj.symm d9))
 have fS := (t_ aa.n ae.n)
 obtain rfl := oi_ gR
 exact ⟨(.iface bF bL), eh, rfl, (fs_ V (fs_ V (((f0_ V).extR aa).extR ae) X in_) ca (aE.fresh aa.n)), hr, (cD.fresh fS)⟩
theorem Zew {H : AH} {X : Value} {aA : Fp} {Z : Value} {aC : Fp} {Y : Value} {aB : Fp} {V : Value} {az : Fp} {O : Value} {ay : Fp} {af : List (Int)} {ah : List (Int)} {ag : List (Int × Int × Int × Int)} {ae : List (Int)} {ad : List (Int × Int × Int × Int)} {s : Int} {t : Int} {r : Int × Er}
    (aa : WF H) (am : Sq (Zh .u32) 1 H X af aA) (ao : Sq (Zh .u32) 1 H Z ah aC) (an : Sq Ze 4 H Y ag aB) (al : Sq (Zh .u32) 1 H V ae az) (ak : Sq Ze 4 H O ad ay) (aq : Zbf af ah ag ae ad s t = some r) :
    ACalls Tryz.prog 12 #[.agg #[X, Z, Y, V, O], i_ s, i_ t] H fun v H' => ∃ (aw : Value) (aj : Fp), v = .tuple #[.int .u64 r.1, aw] /\ FrS [] H H' /\ Ev 92 195 H' aw r.2 aj /\ Inn [] H aj := by
 refine ab_ Tryz.func12 ?_
 unfold Zbf at aq
 refine sq_ fun aH => g_' ?_
 refine Z3 aa [X, Z, Y, V, O] (Zd (am.one1) (Zd (ao.one1) (Zd (an.one1) (Zd (al.one1) (Zd (ak.one1) (ZN)))))) (by kernel_rfl) fun aZ aX z a0 aK => ?_
 refine qs_ 2 (Za (aH _ _ (sq_ fun aF => g_' (lr_ 25 0 (.agg #[X, Z, Y, V, O]) aK (qs_ 2 ?_)))))
 have aO := (am.ext z)
 have aP := (ao.ext z)
 have aQ := (an.ext z)
 have aR := (al.ext z)
 have aS := (ak.ext z)
 obtain ⟨J, aD, aL⟩ := bs_ aq
 refine ck_ (ZfG z.wf aO aP aQ aR aS aD) ?_
 rintro _ aU ⟨av, ax, rfl, ab, au, aE⟩
 refine qs_ 3 ?_
 refine rk_ ab.wf [i_ 0, .int .u64 0] fun aY aV ac ap aM => ?_
 obtain ⟨aW, aJ, ai, aN⟩ := ra_ 111 0 ac.wf aM [i_ J.1, .int .u64 J.2.1] [i_ J.1, .int .u64 J.2.1]
 refine ek_ aJ (qs_ 1 (Za (aF _ _ (sq_ fun aG => g_' (qs_ 1 (lr_ 35 1 (.int .u64 J.2.1) aN (qs_ 3 (Za (aG _ _ ?_)))))))))
 refine Zp ?_
 refine br_ [.int .u64 J.2.1, av] ?_
 have aI := (t_ z.n ab.n)
 have aT := ((au.ext ac).fr ai (ap.djn au.lt))
 obtain rfl := oi_ aL
 exact ⟨(av), ax, rfl, (fs_ aa ((fs_ aa ((f0_ aa).extR z) ab in_).extR ac) ai (ap.fresh aI)), aT, (aE.fresh z.n)⟩
theorem Zgh {H : AH} {r : Bool}
    (z : WF H) (X : Zcl = some r) :
    ACalls Tryz.prog 7 #[] H fun v H' => v = .bool r /\ FrS [] H H' := by
 refine ab_ Tryz.func7 ?_
 unfold Zcl at X
 refine sn_ (sq_ fun ah => g_' ?_)
 obtain ⟨ba, af, aj⟩ := bs_ X
 refine ck_ (Zff z af) ?_
 rintro _ ap ⟨a8, aS, a9, aT, a5, aO, a6, aP, a7, aQ, rfl, J, Z, aa, ab, ac, ad, aU, aV, aW, aX, aY, aE, aF, aG, aH, aI, aJ, aK, aL, aM, aN⟩
 obtain ⟨au, a0, az, rfl⟩ := Z.form
 obtain ⟨av, a1, aA, rfl⟩ := aa.form
 obtain ⟨aw, a2, aB, rfl⟩ := ab.form
 obtain ⟨ax, a3, aC, rfl⟩ := ac.form
 obtain ⟨ay, a4, aD, rfl⟩ := ad.form
 obtain ⟨ao, ag, ae⟩ := bs_ aj
 refine ck_ (Zew J.wf Z.sq aa.sq ab.sq ac.sq ad.sq ag) ?_
 rintro _ aq ⟨a_, aR, rfl, V, ai, aZ⟩
 refine qs_ 5 (Za (ah _ _ (sq_ fun Y => g_' (qs_ 1 ?_))))
 rcases (ai).cases with ⟨O, rfl⟩ | ⟨O, am, an, rfl⟩
 ·have ak := Zf O ae
  refine qs_ 6 (Za (Y _ _ ?_))
  refine Zp ?_
  refine br_ [.bool (decide (ao.1 = 5))] ?_
  obtain rfl := oi_ ak
  exact ⟨rfl, (fs_ z (fs_ z (f0_ z) J in_) V in_)⟩
 have al := Zj O ae
 refine l_' (.bool false) (Zaw Tryz.prog .eql 33 (.tmp 8) (.const .nilIface) (.iface am an) .nilIface) (Zgr (by kernel_rfl)) (qs_ 5 (Za (Y _ _ ?_)))
 refine Zp ?_
 refine br_ [.bool false] ?_
 obtain rfl := oi_ al
 exact ⟨rfl, (fs_ z (fs_ z (f0_ z) J in_) V in_)⟩
end Go.Vd
