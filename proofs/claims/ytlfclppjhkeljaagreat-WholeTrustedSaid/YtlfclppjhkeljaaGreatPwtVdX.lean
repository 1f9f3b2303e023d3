/- More steps for printed walks: calls, effects and new rows in regions that draw; errors. -/
import Derived.Test.YtlfclppjhkeljaaGreatPwtVdV
namespace Go.Vd
set_option linter.unusedSectionVars false
variable [Pins]
variable {P : Program} {N : Nat} {ops : Array Oper} {K : AAct → AH → Prop} {α : AAct} {H : AH}
def ZfV (P : Program) (ops : Array Oper) (o : Oper) (α : AAct) : Option (FuncId × Array Value) :=
 if Region.wanted o (ZV ops α) = true then match cls o.op with
  | .call => Zd2 P (Z6 α) o.op
  | _ => none
 else none
theorem Zek {o : Oper} {x : FuncId × Array Value} (h : ZfV P ops o α = some x) : Region.wanted o (ZV ops α) = true ∧ cls o.op = .call ∧ Zd2 P (Z6 α) o.op = some x := by
 unfold ZfV at h
 split at h
 ·rename_i hg
  split at h
  ·rename_i hc; exact ⟨hg, hc, h⟩
  ·cases h
 ·cases h
def Zg6 (P : Program) (ops : Array Oper) (o : Oper) (α : AAct) (H : AH) : Option (Value × AH) :=
 if Region.wanted o (ZV ops α) = true then match cls o.op with
  | .eff => Zgl P (Z6 α) H o.op
  | _ => none
 else none
theorem ZeF {o : Oper} {x : Value × AH} (h : Zg6 P ops o α H = some x) : Region.wanted o (ZV ops α) = true ∧ cls o.op = .eff ∧ Zgl P (Z6 α) H o.op = some x := by
 unfold Zg6 at h
 split at h
 ·rename_i hg
  split at h
  ·rename_i hc; exact ⟨hg, hc, h⟩
  ·cases h
 ·cases h
def Zc3 (P : Program) (ops : Array Oper) (o : Oper) (α : AAct) : Option (AObj × (Nat → Value)) :=
 if Region.wanted o (ZV ops α) = true then match cls o.op with
  | .new => Zfk P (Z6 α) o.op
  | _ => none
 else none
theorem ZaW {o : Oper} {x : AObj × (Nat → Value)} (h : Zc3 P ops o α = some x) : Region.wanted o (ZV ops α) = true ∧ cls o.op = .new ∧ Zfk P (Z6 α) o.op = some x := by
 unfold Zc3 at h
 split at h
 ·rename_i hg
  split at h
  ·rename_i hc; exact ⟨hg, hc, h⟩
  ·cases h
 ·cases h
theorem ZN : ZF [] = true := rfl
theorem Zd {v : Value} {l : List Value} (h : v.oneCell' = true) (hl : ZF l = true) : ZF (v :: l) = true := by
 unfold ZF at *
 rw [List.all_cons, h, hl]; rfl
theorem Sl.form {E : Type} {enc : E → List Value} {sz : Nat} {s : Value} {xs : List E} (h : Sl enc sz H s xs) : ∃ a n c, s = .slice a n c := by
 rcases h.is with ⟨rfl, _⟩ | ⟨b, o, c, k, cs, rfl, _⟩
 ·exact ⟨_, _, _, rfl⟩
 ·exact ⟨_, _, _, rfl⟩
theorem Zjc {t : TypeId} {b p : Nat} {cs vs : List Value} {x : Value} (hw : WF H) (h : Row H b cs) (hx : x.cells.toList = vs) (hs : (P.info? t).map (·.size) = some vs.length) (h1 : ZF vs = true) (hl : p + vs.length ≤ cs.length) :
  ∃ H', ZcF P t (.pointer (some ⟨b, p, none⟩)) x H = some H' ∧ Fr b H H' ∧ Row H' b (Z5 cs p vs) ∧ H'.next = H.next := by
 obtain ⟨H', g1, g2⟩ := h.put (vs := vs) (o := p) hw hl
 refine ⟨H', ?_, g2⟩
 unfold ZcF
 cases hi : P.info? t with
 | none => rw [hi] at hs; cases hs
 | some i =>
  rw [hi] at hs
  simp only [Option.map_some, Option.some.injEq] at hs
  dsimp only
  rw [hx, if_pos ⟨by rw [← Array.length_toList, hx, hs], h1⟩]; exact g1
section seq
variable {o : Oper} {rest : List Oper}
theorem Zlp (hw : WF H) (cs : List Value) (h1 : ZF cs = true) (h : Zc3 P ops o α = if ZF cs = true then some (.row .own cs, Zdy) else none)
  (k : ∀ b H', Ext H H' → b = H.next → Row H' b cs → Zs P ops K rest (α.put o.dst (.pointer (some ⟨b, 0, none⟩))) H') : Zs P ops K (o :: rest) α H := by
 rw [if_pos h1] at h
 exact ZkE hw cs (ZaW h).1 (ZaW h).2.1 (ZaW h).2.2 k
theorem s_ck (f : FuncId) (args : Array Value) {K' : Value → AH → Prop} (h : ZfV P ops o α = some (f, args)) (hf : ACalls P f args H K') (k : ∀ v H', K' v H' → Zs P ops K rest (α.put o.dst v) H') : Zs P ops K (o :: rest) α H :=
 s_c f args (Zek h).1 (Zek h).2.1 (Zek h).2.2 hf k
theorem ZbX (v : Value) {H' : AH} {x : Option (Value × AH)} (h1 : Zg6 P ops o α H = x) (h : x = some (v, H')) (k : Zs P ops K rest (α.put o.dst v) H') : Zs P ops K (o :: rest) α H :=
 s_e v H' (ZeF (h1.trans h)).1 (ZeF (h1.trans h)).2.1 (ZeF (h1.trans h)).2.2 k
theorem ZlS (hw : WF H) (cs : List Value) (h : Zc3 P ops o α = some (.row .own cs, Zdy))
  (k : ∀ b H', Ext H H' → b = H.next → Row H' b cs → Zs P ops K rest (α.put o.dst (.pointer (some ⟨b, 0, none⟩))) H') : Zs P ops K (o :: rest) α H :=
 ZkE hw cs (ZaW h).1 (ZaW h).2.1 (ZaW h).2.2 k
end seq
def Zd4 {β : Type} (ops : Array Oper) (i : Nat) (f : Oper → Option β) : Option β :=
 match ops[i]? with
 | some o => f o
 | none => none
theorem ZdG {β : Type} {i : Nat} {f : Oper → Option β} {x : β} (h : Zd4 ops i f = some x) : ∃ o, ops[i]? = some o ∧ f o = some x := by
 unfold Zd4 at h
 split at h
 ·rename_i o ho; exact ⟨o, ho, h⟩
 ·cases h
def lookQ (P : Program) (ops : Array Oper) (i : Nat) (α : AAct) (H : AH) : Option Value := Zd4 ops i fun o => Zaj P (Z6 α) H o.op
theorem ZP {tbl : List (List Nat)} {e : Nat} : Zb2 P ops tbl e H [] := trivial
theorem Z0 {tbl : List (List Nat)} {e : Nat} {x : Nat × AAct × Value} {l : List (Nat × AAct × Value)} (h : ZdT tbl x.1 e = true) (hl : Zb2 P ops tbl e H l) : Zb2 P ops tbl e H (x :: l) := by
 refine ⟨?_, hl⟩
 rw [if_pos h]; trivial
theorem Zbb {tbl : List (List Nat)} {e : Nat} {i : Nat} {α0 : AAct} {v : Value} {l : List (Nat × AAct × Value)} {y : Option Value} (h1 : lookQ P ops i α0 H = y) (h : y = some v) (hl : Zb2 P ops tbl e H l) : Zb2 P ops tbl e H ((i, α0, v) :: l) := by
 refine ⟨?_, hl⟩
 split
 ·trivial
 ·obtain ⟨o, ho, hq⟩ := ZdG (h1.trans h)
  dsimp only
  rw [ho]; exact hq
section draw
variable {tbl : List (List Nat)} {i : Nat} {rest : List Nat} {fl : List (Nat × AAct × Value)}
theorem ZfN {o : Oper} (ho : ops[i]? = some o) : Zac ops i = o.dst := by simp only [Zac, ho, Option.bind_some]
def stepF (P : Program) (ops : Array Oper) (tbl : List (List Nat)) (i : Nat) (rest : List Nat) (α : AAct) (H : AH) : Option Value :=
 Zd4 ops i fun o => if !Zdh P o.op && ZeR ops tbl i rest then ZbA P ops o α H else none
theorem ZcR (v : Value) {x : Option Value} (h1 : stepF P ops tbl i rest α H = x) (h : x = some v) (k : Zu P ops tbl K rest ((i, α, v) :: fl) (α.put (Zac ops i) v) H) : Zu P ops tbl K (i :: rest) fl α H := by
 obtain ⟨o, ho, hq⟩ := ZdG (h1.trans h)
 split at hq
 ·rename_i hf
  have hs := ZdO hq
  refine d_qf o v ho hs.1 hs.2.1 hs.2.2 hf ?_
  rw [← ZfN ho]; exact k
 ·cases hq
theorem d_ck (f : FuncId) (args : Array Value) {K' : Value → AH → Prop} (h : Zd4 ops i (fun o => ZfV P ops o α) = some (f, args)) (hf : ACalls P f args H K')
  (k : ∀ v H', K' v H' → Zb2 P ops tbl i H' fl ∧ Zu P ops tbl K rest fl (α.put (Zac ops i) v) H') : Zu P ops tbl K (i :: rest) fl α H := by
 obtain ⟨o, ho, hq⟩ := ZdG h
 have hs := Zek hq
 refine d_c o f args ho hs.1 hs.2.1 hs.2.2 hf ?_
 rw [← ZfN ho]; exact k
theorem Zjv (v : Value) {H' : AH} {x : Option (Value × AH)} (h1 : Zd4 ops i (fun o => Zg6 P ops o α H) = x) (h : x = some (v, H')) (hst : Zb2 P ops tbl i H' fl) (k : Zu P ops tbl K rest fl (α.put (Zac ops i) v) H') : Zu P ops tbl K (i :: rest) fl α H := by
 obtain ⟨o, ho, hq⟩ := ZdG (h1.trans h)
 have hs := ZeF hq
 refine d_e o v H' ho hs.1 hs.2.1 hs.2.2 hst ?_
 rw [← ZfN ho]; exact k
theorem Zlw (hw : WF H) (cs : List Value) (h : Zd4 ops i (fun o => Zc3 P ops o α) = some (.row .own cs, Zdy))
  (k : ∀ b H', Ext H H' → b = H.next → Row H' b cs → Zu P ops tbl K rest fl (α.put (Zac ops i) (.pointer (some ⟨b, 0, none⟩))) H') : Zu P ops tbl K (i :: rest) fl α H := by
 obtain ⟨o, ho, hq⟩ := ZdG h
 have hs := ZaW hq
 refine d_n o _ _ ho hs.1 hs.2.1 hs.2.2 ?_
 rw [← ZfN ho]; exact k H.next _ (Zdi hw cs).1 rfl (Zdi hw cs).2
end draw
theorem Zg9 {α β : Type} (s : Sem α) (f : α → Sem β) : pr P (s >>= f) = (pr P s).bind fun a => pr P (f a) := by
 show pr P (Sem.bind s f) = _
 induction s with
 | pure a => rfl
 | program k ih => exact ih P
 | mark m k ih => exact ih
 | _ => rfl
theorem ZlJ {t : TypeId} {d : TypeDesc} (h : P.underlying t = some d) : pr P (underlying t) = some d := by
 show pr P (match P.underlying t with | some d => (pure d : Sem TypeDesc) | none => stuck "no such type") = some d
 rw [h]; rfl
def Zh3 (P : Program) (t : TypeId) : Bool := match P.underlying t with
 | some (.interface _) => true
 | _ => false
theorem ZfP {t : TypeId} (h : Zh3 P t = true) : ∃ ms, P.underlying t = some (.interface ms) := by
 unfold Zh3 at h
 split at h
 ·rename_i e he; exact ⟨e, he⟩
 ·cases h
theorem Zhs {t ti : TypeId} {v : Value} (h : Zh3 P t = true) : pr P (Op.equal t (.iface ti v) .nilIface) = some false := by
 obtain ⟨ms, hu⟩ := ZfP h
 unfold Op.equal Op.maxDepth
 rw [Op.equalIn, Zg9, ZlJ hu]
 rfl
theorem Zgr {t ti : TypeId} {v : Value} {x y : Operand} (h : Zh3 P t = true) : Zaw P .eql t x y (.iface ti v) .nilIface = some (.bool false) := by
 unfold Zaw
 split
 ·have : pr P (do eqGuard .eql t x y (.iface ti v) .nilIface; binOp .eql t (.iface ti v) .nilIface) = some (.bool false) := by
   show pr P (do pure (Value.bool (← Op.equal t (.iface ti v) .nilIface))) = _
   rw [Zg9, Zhs h]; rfl
  rw [this]; rfl
 ·obtain ⟨ms, hu⟩ := ZfP h
  simp only [hu]
theorem ZU {t ti : TypeId} {v : Value} {x y : Operand} (h : Zh3 P t = true) : Zaw P .neq t x y (.iface ti v) .nilIface = some (.bool true) := by
 unfold Zaw
 split
 ·have : pr P (do eqGuard .neq t x y (.iface ti v) .nilIface; binOp .neq t (.iface ti v) .nilIface) = some (.bool true) := by
   show pr P (do pure (Value.bool (!(← Op.equal t (.iface ti v) .nilIface)))) = _
   rw [Zg9, Zhs h]; rfl
  rw [this]; rfl
 ·obtain ⟨ms, hu⟩ := ZfP h
  simp only [hu]
end Go.Vd
