/- More steps for printed walks: calls, effects and new rows in regions that draw; errors. -/
import Derived.Test.YtnepbkkdhalbiaaPsbVdV
namespace Go.Vd
set_option linter.unusedSectionVars false
variable [Pins]
variable {P : Program} {N : Nat} {ops : Array Oper} {K : AAct → AH → Prop} {α : AAct} {H : AH}
def ZgB (P : Program) (ops : Array Oper) (o : Oper) (α : AAct) : Option (FuncId × Array Value) :=
 if Region.wanted o (ZT ops α) = true then match cls o.op with
  | .call => Zdd P (ZM α) o.op
  | _ => none
 else none
theorem Zey {o : Oper} {x : FuncId × Array Value} (h : ZgB P ops o α = some x) : Region.wanted o (ZT ops α) = true ∧ cls o.op = .call ∧ Zdd P (ZM α) o.op = some x := by
 unfold ZgB at h
 split at h
 ·rename_i hg
  split at h
  ·rename_i hc; exact ⟨hg, hc, h⟩
  ·cases h
 ·cases h
def ZhN (P : Program) (ops : Array Oper) (o : Oper) (α : AAct) (H : AH) : Option (Value × AH) :=
 if Region.wanted o (ZT ops α) = true then match cls o.op with
  | .eff => ZdI P (ZM α) H o.op
  | _ => none
 else none
theorem Ze0 {o : Oper} {x : Value × AH} (h : ZhN P ops o α H = some x) : Region.wanted o (ZT ops α) = true ∧ cls o.op = .eff ∧ ZdI P (ZM α) H o.op = some x := by
 unfold ZhN at h
 split at h
 ·rename_i hg
  split at h
  ·rename_i hc; exact ⟨hg, hc, h⟩
  ·cases h
 ·cases h
def Zc6 (P : Program) (ops : Array Oper) (o : Oper) (α : AAct) : Option (AObj × (Nat → Value)) :=
 if Region.wanted o (ZT ops α) = true then match cls o.op with
  | .new => Ze9 P (ZM α) o.op
  | _ => none
 else none
theorem ZaM {o : Oper} {x : AObj × (Nat → Value)} (h : Zc6 P ops o α = some x) : Region.wanted o (ZT ops α) = true ∧ cls o.op = .new ∧ Ze9 P (ZM α) o.op = some x := by
 unfold Zc6 at h
 split at h
 ·rename_i hg
  split at h
  ·rename_i hc; exact ⟨hg, hc, h⟩
  ·cases h
 ·cases h
theorem Zau : Zs [] = true := rfl
theorem Zy {v : Value} {l : List Value} (h : v.oneCell' = true) (hl : Zs l = true) : Zs (v :: l) = true := by
 unfold Zs at *
 rw [List.all_cons, h, hl]; rfl
theorem Sl.form {E : Type} {enc : E → List Value} {sz : Nat} {s : Value} {xs : List E} (h : Sl enc sz H s xs) : ∃ a n c, s = .slice a n c := by
 rcases h.is with ⟨rfl, _⟩ | ⟨b, o, c, k, cs, rfl, _⟩
 ·exact ⟨_, _, _, rfl⟩
 ·exact ⟨_, _, _, rfl⟩
theorem Zj4 {t : TypeId} {b p : Nat} {cs vs : List Value} {x : Value} (hw : WF H) (h : Row H b cs) (hx : x.cells.toList = vs) (hs : (P.info? t).map (·.size) = some vs.length) (h1 : Zs vs = true) (hl : p + vs.length ≤ cs.length) :
  ∃ H', Zb1 P t (.pointer (some ⟨b, p, none⟩)) x H = some H' ∧ Fr b H H' ∧ Row H' b (Z2 cs p vs) ∧ H'.next = H.next := by
 obtain ⟨H', g1, g2⟩ := h.put (vs := vs) (o := p) hw hl
 refine ⟨H', ?_, g2⟩
 unfold Zb1
 cases hi : P.info? t with
 | none => rw [hi] at hs; cases hs
 | some i =>
  rw [hi] at hs
  simp only [Option.map_some, Option.some.injEq] at hs
  dsimp only
  rw [hx, if_pos ⟨by rw [← Array.length_toList, hx, hs], h1⟩]; exact g1
section seq
variable {o : Oper} {rest : List Oper}
theorem ZnE (hw : WF H) (cs : List Value) (h1 : Zs cs = true) (h : Zc6 P ops o α = if Zs cs = true then some (.row .own cs, Zdg) else none)
  (k : ∀ b H', Ext H H' → b = H.next → Row H' b cs → Zm P ops K rest (α.put o.dst (.pointer (some ⟨b, 0, none⟩))) H') : Zm P ops K (o :: rest) α H := by
 rw [if_pos h1] at h
 exact Zmd hw cs (ZaM h).1 (ZaM h).2.1 (ZaM h).2.2 k
theorem Zju (f : FuncId) (args : Array Value) {K' : Value → AH → Prop} (h : ZgB P ops o α = some (f, args)) (hf : ACalls P f args H K') (k : ∀ v H', K' v H' → Zm P ops K rest (α.put o.dst v) H') : Zm P ops K (o :: rest) α H :=
 s_c f args (Zey h).1 (Zey h).2.1 (Zey h).2.2 hf k
theorem ZaY (v : Value) {H' : AH} {x : Option (Value × AH)} (h1 : ZhN P ops o α H = x) (h : x = some (v, H')) (k : Zm P ops K rest (α.put o.dst v) H') : Zm P ops K (o :: rest) α H :=
 s_e v H' (Ze0 (h1.trans h)).1 (Ze0 (h1.trans h)).2.1 (Ze0 (h1.trans h)).2.2 k
theorem Zny (hw : WF H) (cs : List Value) (h : Zc6 P ops o α = some (.row .own cs, Zdg))
  (k : ∀ b H', Ext H H' → b = H.next → Row H' b cs → Zm P ops K rest (α.put o.dst (.pointer (some ⟨b, 0, none⟩))) H') : Zm P ops K (o :: rest) α H :=
 Zmd hw cs (ZaM h).1 (ZaM h).2.1 (ZaM h).2.2 k
end seq
def ZdJ {β : Type} (ops : Array Oper) (i : Nat) (f : Oper → Option β) : Option β :=
 match ops[i]? with
 | some o => f o
 | none => none
theorem Zdl {β : Type} {i : Nat} {f : Oper → Option β} {x : β} (h : ZdJ ops i f = some x) : ∃ o, ops[i]? = some o ∧ f o = some x := by
 unfold ZdJ at h
 split at h
 ·rename_i o ho; exact ⟨o, ho, h⟩
 ·cases h
def lookQ (P : Program) (ops : Array Oper) (i : Nat) (α : AAct) (H : AH) : Option Value := ZdJ ops i fun o => Zaj P (ZM α) H o.op
theorem ZS {tbl : List (List Nat)} {e : Nat} : ZbY P ops tbl e H [] := trivial
theorem ZaH {tbl : List (List Nat)} {e : Nat} {x : Nat × AAct × Value} {l : List (Nat × AAct × Value)} (h : Zdw tbl x.1 e = true) (hl : ZbY P ops tbl e H l) : ZbY P ops tbl e H (x :: l) := by
 refine ⟨?_, hl⟩
 rw [if_pos h]; trivial
theorem ZbX {tbl : List (List Nat)} {e : Nat} {i : Nat} {α0 : AAct} {v : Value} {l : List (Nat × AAct × Value)} {y : Option Value} (h1 : lookQ P ops i α0 H = y) (h : y = some v) (hl : ZbY P ops tbl e H l) : ZbY P ops tbl e H ((i, α0, v) :: l) := by
 refine ⟨?_, hl⟩
 split
 ·trivial
 ·obtain ⟨o, ho, hq⟩ := Zdl (h1.trans h)
  dsimp only
  rw [ho]; exact hq
section draw
variable {tbl : List (List Nat)} {i : Nat} {rest : List Nat} {fl : List (Nat × AAct × Value)}
theorem Zfu {o : Oper} (ho : ops[i]? = some o) : Zag ops i = o.dst := by simp only [Zag, ho, Option.bind_some]
def stepF (P : Program) (ops : Array Oper) (tbl : List (List Nat)) (i : Nat) (rest : List Nat) (α : AAct) (H : AH) : Option Value :=
 ZdJ ops i fun o => if !ZcQ P o.op && Zeh ops tbl i rest then ZbV P ops o α H else none
theorem Zdf (v : Value) {x : Option Value} (h1 : stepF P ops tbl i rest α H = x) (h : x = some v) (k : Zp P ops tbl K rest ((i, α, v) :: fl) (α.put (Zag ops i) v) H) : Zp P ops tbl K (i :: rest) fl α H := by
 obtain ⟨o, ho, hq⟩ := Zdl (h1.trans h)
 split at hq
 ·rename_i hf
  have hs := ZdV hq
  refine d_qf o v ho hs.1 hs.2.1 hs.2.2 hf ?_
  rw [← Zfu ho]; exact k
 ·cases hq
theorem d_ck (f : FuncId) (args : Array Value) {K' : Value → AH → Prop} (h : ZdJ ops i (fun o => ZgB P ops o α) = some (f, args)) (hf : ACalls P f args H K')
  (k : ∀ v H', K' v H' → ZbY P ops tbl i H' fl ∧ Zp P ops tbl K rest fl (α.put (Zag ops i) v) H') : Zp P ops tbl K (i :: rest) fl α H := by
 obtain ⟨o, ho, hq⟩ := Zdl h
 have hs := Zey hq
 refine d_c o f args ho hs.1 hs.2.1 hs.2.2 hf ?_
 rw [← Zfu ho]; exact k
theorem Zg3 (v : Value) {H' : AH} {x : Option (Value × AH)} (h1 : ZdJ ops i (fun o => ZhN P ops o α H) = x) (h : x = some (v, H')) (hst : ZbY P ops tbl i H' fl) (k : Zp P ops tbl K rest fl (α.put (Zag ops i) v) H') : Zp P ops tbl K (i :: rest) fl α H := by
 obtain ⟨o, ho, hq⟩ := Zdl (h1.trans h)
 have hs := Ze0 hq
 refine d_e o v H' ho hs.1 hs.2.1 hs.2.2 hst ?_
 rw [← Zfu ho]; exact k
theorem Zno (hw : WF H) (cs : List Value) (h1 : Zs cs = true) (h : ZdJ ops i (fun o => Zc6 P ops o α) = if Zs cs = true then some (.row .own cs, Zdg) else none)
  (k : ∀ b H', Ext H H' → b = H.next → Row H' b cs → Zp P ops tbl K rest fl (α.put (Zag ops i) (.pointer (some ⟨b, 0, none⟩))) H') : Zp P ops tbl K (i :: rest) fl α H := by
 rw [if_pos h1] at h
 obtain ⟨o, ho, hq⟩ := Zdl h
 have hs := ZaM hq
 refine d_n o _ _ ho hs.1 hs.2.1 hs.2.2 ?_
 rw [← Zfu ho]; exact k H.next _ (Zd7 hw cs).1 rfl (Zd7 hw cs).2
theorem Znm (hw : WF H) (cs : List Value) (h : ZdJ ops i (fun o => Zc6 P ops o α) = some (.row .own cs, Zdg))
  (k : ∀ b H', Ext H H' → b = H.next → Row H' b cs → Zp P ops tbl K rest fl (α.put (Zag ops i) (.pointer (some ⟨b, 0, none⟩))) H') : Zp P ops tbl K (i :: rest) fl α H := by
 obtain ⟨o, ho, hq⟩ := Zdl h
 have hs := ZaM hq
 refine d_n o _ _ ho hs.1 hs.2.1 hs.2.2 ?_
 rw [← Zfu ho]; exact k H.next _ (Zd7 hw cs).1 rfl (Zd7 hw cs).2
end draw
theorem Zbg {α β : Type} (s : Sem α) (f : α → Sem β) : pr P (s >>= f) = (pr P s).bind fun a => pr P (f a) := by
 show pr P (Sem.bind s f) = _
 induction s with
 | pure a => rfl
 | program k ih => exact ih P
 | mark m k ih => exact ih
 | _ => rfl
theorem Znb {t : TypeId} {d : TypeDesc} (h : P.underlying t = some d) : pr P (underlying t) = some d := by
 show pr P (match P.underlying t with | some d => (pure d : Sem TypeDesc) | none => stuck "no such type") = some d
 rw [h]; rfl
def ZiH (P : Program) (t : TypeId) : Bool := match P.underlying t with
 | some (.interface _) => true
 | _ => false
theorem Zgq {t : TypeId} (h : ZiH P t = true) : ∃ ms, P.underlying t = some (.interface ms) := by
 unfold ZiH at h
 split at h
 ·rename_i e he; exact ⟨e, he⟩
 ·cases h
theorem Zh8 {t ti : TypeId} {v : Value} (h : ZiH P t = true) : pr P (Op.equal t (.iface ti v) .nilIface) = some false := by
 obtain ⟨ms, hu⟩ := Zgq h
 unfold Op.equal Op.maxDepth
 rw [Op.equalIn, Zbg, Znb hu]
 rfl
theorem ZlW {t ti : TypeId} {v : Value} {x y : Operand} (h : ZiH P t = true) : ZcD P .eql t x y (.iface ti v) .nilIface = some (.bool false) := by
 unfold ZcD
 split
 ·have : pr P (do eqGuard .eql t x y (.iface ti v) .nilIface; binOp .eql t (.iface ti v) .nilIface) = some (.bool false) := by
   show pr P (do pure (Value.bool (← Op.equal t (.iface ti v) .nilIface))) = _
   rw [Zbg, Zh8 h]; rfl
  rw [this]; rfl
 ·obtain ⟨ms, hu⟩ := Zgq h
  simp only [hu]
theorem ZcU {t ti : TypeId} {v : Value} {x y : Operand} (h : ZiH P t = true) : ZcD P .neq t x y (.iface ti v) .nilIface = some (.bool true) := by
 unfold ZcD
 split
 ·have : pr P (do eqGuard .neq t x y (.iface ti v) .nilIface; binOp .neq t (.iface ti v) .nilIface) = some (.bool true) := by
   show pr P (do pure (Value.bool (!(← Op.equal t (.iface ti v) .nilIface)))) = _
   rw [Zbg, Zh8 h]; rfl
  rw [this]; rfl
 ·obtain ⟨ms, hu⟩ := Zgq h
  simp only [hu]
end Go.Vd
