/- More steps for printed walks: calls, effects and new rows in regions that draw; errors. -/
import Derived.Test.YtnepbkkdhalbiaaGreatDoorPsxVdV
namespace Go.Vd
set_option linter.unusedSectionVars false
variable [Pins]
variable {P : Program} {N : Nat} {ops : Array Oper} {K : AAct → AH → Prop} {α : AAct} {H : AH}
def Zf8 (P : Program) (ops : Array Oper) (o : Oper) (α : AAct) : Option (FuncId × Array Value) :=
 if Region.wanted o (ZG ops α) = true then match cls o.op with
  | .call => Zcr P (Zy α) o.op
  | _ => none
 else none
theorem ZdU {o : Oper} {x : FuncId × Array Value} (h : Zf8 P ops o α = some x) : Region.wanted o (ZG ops α) = true ∧ cls o.op = .call ∧ Zcr P (Zy α) o.op = some x := by
 unfold Zf8 at h
 split at h
 ·rename_i hg
  split at h
  ·rename_i hc; exact ⟨hg, hc, h⟩
  ·cases h
 ·cases h
def Zhl (P : Program) (ops : Array Oper) (o : Oper) (α : AAct) (H : AH) : Option (Value × AH) :=
 if Region.wanted o (ZG ops α) = true then match cls o.op with
  | .eff => Zc8 P (Zy α) H o.op
  | _ => none
 else none
theorem Zeg {o : Oper} {x : Value × AH} (h : Zhl P ops o α H = some x) : Region.wanted o (ZG ops α) = true ∧ cls o.op = .eff ∧ Zc8 P (Zy α) H o.op = some x := by
 unfold Zhl at h
 split at h
 ·rename_i hg
  split at h
  ·rename_i hc; exact ⟨hg, hc, h⟩
  ·cases h
 ·cases h
def Zct (P : Program) (ops : Array Oper) (o : Oper) (α : AAct) : Option (AObj × (Nat → Value)) :=
 if Region.wanted o (ZG ops α) = true then match cls o.op with
  | .new => Zev P (Zy α) o.op
  | _ => none
 else none
theorem Zas {o : Oper} {x : AObj × (Nat → Value)} (h : Zct P ops o α = some x) : Region.wanted o (ZG ops α) = true ∧ cls o.op = .new ∧ Zev P (Zy α) o.op = some x := by
 unfold Zct at h
 split at h
 ·rename_i hg
  split at h
  ·rename_i hc; exact ⟨hg, hc, h⟩
  ·cases h
 ·cases h
theorem ZdX : Zl [] = true := rfl
theorem Zbd {v : Value} {l : List Value} (h : v.oneCell' = true) (hl : Zl l = true) : Zl (v :: l) = true := by
 unfold Zl at *
 rw [List.all_cons, h, hl]; rfl
theorem Sl.form {E : Type} {enc : E → List Value} {sz : Nat} {s : Value} {xs : List E} (h : Sl enc sz H s xs) : ∃ a n c, s = .slice a n c := by
 rcases h.is with ⟨rfl, _⟩ | ⟨b, o, c, k, cs, rfl, _⟩
 ·exact ⟨_, _, _, rfl⟩
 ·exact ⟨_, _, _, rfl⟩
theorem Zj0 {t : TypeId} {b p : Nat} {cs vs : List Value} {x : Value} (hw : WF H) (h : Row H b cs) (hx : x.cells.toList = vs) (hs : (P.info? t).map (·.size) = some vs.length) (h1 : Zl vs = true) (hl : p + vs.length ≤ cs.length) :
  ∃ H', ZbI P t (.pointer (some ⟨b, p, none⟩)) x H = some H' ∧ Fr b H H' ∧ Row H' b (ZR cs p vs) ∧ H'.next = H.next := by
 obtain ⟨H', g1, g2⟩ := h.put (vs := vs) (o := p) hw hl
 refine ⟨H', ?_, g2⟩
 unfold ZbI
 cases hi : P.info? t with
 | none => rw [hi] at hs; cases hs
 | some i =>
  rw [hi] at hs
  simp only [Option.map_some, Option.some.injEq] at hs
  dsimp only
  rw [hx, if_pos ⟨by rw [← Array.length_toList, hx, hs], h1⟩]; exact g1
section seq
variable {o : Oper} {rest : List Oper}
theorem Znt (hw : WF H) (cs : List Value) (h1 : Zl cs = true) (h : Zct P ops o α = if Zl cs = true then some (.row .own cs, ZcA) else none)
  (k : ∀ b H', Ext H H' → b = H.next → Row H' b cs → Zh P ops K rest (α.put o.dst (.pointer (some ⟨b, 0, none⟩))) H') : Zh P ops K (o :: rest) α H := by
 rw [if_pos h1] at h
 exact ZlY hw cs (Zas h).1 (Zas h).2.1 (Zas h).2.2 k
theorem ZeX (f : FuncId) (args : Array Value) {K' : Value → AH → Prop} (h : Zf8 P ops o α = some (f, args)) (hf : ACalls P f args H K') (k : ∀ v H', K' v H' → Zh P ops K rest (α.put o.dst v) H') : Zh P ops K (o :: rest) α H :=
 s_c f args (ZdU h).1 (ZdU h).2.1 (ZdU h).2.2 hf k
theorem ZcJ (v : Value) {H' : AH} {x : Option (Value × AH)} (h1 : Zhl P ops o α H = x) (h : x = some (v, H')) (k : Zh P ops K rest (α.put o.dst v) H') : Zh P ops K (o :: rest) α H :=
 s_e v H' (Zeg (h1.trans h)).1 (Zeg (h1.trans h)).2.1 (Zeg (h1.trans h)).2.2 k
theorem Znv (hw : WF H) (cs : List Value) (h : Zct P ops o α = some (.row .own cs, ZcA))
  (k : ∀ b H', Ext H H' → b = H.next → Row H' b cs → Zh P ops K rest (α.put o.dst (.pointer (some ⟨b, 0, none⟩))) H') : Zh P ops K (o :: rest) α H :=
 ZlY hw cs (Zas h).1 (Zas h).2.1 (Zas h).2.2 k
end seq
def Zc9 {β : Type} (ops : Array Oper) (i : Nat) (f : Oper → Option β) : Option β :=
 match ops[i]? with
 | some o => f o
 | none => none
theorem ZcE {β : Type} {i : Nat} {f : Oper → Option β} {x : β} (h : Zc9 ops i f = some x) : ∃ o, ops[i]? = some o ∧ f o = some x := by
 unfold Zc9 at h
 split at h
 ·rename_i o ho; exact ⟨o, ho, h⟩
 ·cases h
def lookQ (P : Program) (ops : Array Oper) (i : Nat) (α : AAct) (H : AH) : Option Value := Zc9 ops i fun o => Z8 P (Zy α) H o.op
theorem ZN {tbl : List (List Nat)} {e : Nat} : Zbj P ops tbl e H [] := trivial
theorem ZaE {tbl : List (List Nat)} {e : Nat} {x : Nat × AAct × Value} {l : List (Nat × AAct × Value)} (h : ZcS tbl x.1 e = true) (hl : Zbj P ops tbl e H l) : Zbj P ops tbl e H (x :: l) := by
 refine ⟨?_, hl⟩
 rw [if_pos h]; trivial
theorem ZbS {tbl : List (List Nat)} {e : Nat} {i : Nat} {α0 : AAct} {v : Value} {l : List (Nat × AAct × Value)} {y : Option Value} (h1 : lookQ P ops i α0 H = y) (h : y = some v) (hl : Zbj P ops tbl e H l) : Zbj P ops tbl e H ((i, α0, v) :: l) := by
 refine ⟨?_, hl⟩
 split
 ·trivial
 ·obtain ⟨o, ho, hq⟩ := ZcE (h1.trans h)
  dsimp only
  rw [ho]; exact hq
section draw
variable {tbl : List (List Nat)} {i : Nat} {rest : List Nat} {fl : List (Nat × AAct × Value)}
theorem ZeC {o : Oper} (ho : ops[i]? = some o) : Zac ops i = o.dst := by simp only [Zac, ho, Option.bind_some]
def stepF (P : Program) (ops : Array Oper) (tbl : List (List Nat)) (i : Nat) (rest : List Nat) (α : AAct) (H : AH) : Option Value :=
 Zc9 ops i fun o => if !Zce P o.op && ZdF ops tbl i rest then ZbA P ops o α H else none
theorem ZcU (v : Value) {x : Option Value} (h1 : stepF P ops tbl i rest α H = x) (h : x = some v) (k : Zk P ops tbl K rest ((i, α, v) :: fl) (α.put (Zac ops i) v) H) : Zk P ops tbl K (i :: rest) fl α H := by
 obtain ⟨o, ho, hq⟩ := ZcE (h1.trans h)
 split at hq
 ·rename_i hf
  have hs := Zde hq
  refine d_qf o v ho hs.1 hs.2.1 hs.2.2 hf ?_
  rw [← ZeC ho]; exact k
 ·cases hq
theorem ZjL (f : FuncId) (args : Array Value) {K' : Value → AH → Prop} (h : Zc9 ops i (fun o => Zf8 P ops o α) = some (f, args)) (hf : ACalls P f args H K')
  (k : ∀ v H', K' v H' → Zbj P ops tbl i H' fl ∧ Zk P ops tbl K rest fl (α.put (Zac ops i) v) H') : Zk P ops tbl K (i :: rest) fl α H := by
 obtain ⟨o, ho, hq⟩ := ZcE h
 have hs := ZdU hq
 refine d_c o f args ho hs.1 hs.2.1 hs.2.2 hf ?_
 rw [← ZeC ho]; exact k
theorem ZgB (v : Value) {H' : AH} {x : Option (Value × AH)} (h1 : Zc9 ops i (fun o => Zhl P ops o α H) = x) (h : x = some (v, H')) (hst : Zbj P ops tbl i H' fl) (k : Zk P ops tbl K rest fl (α.put (Zac ops i) v) H') : Zk P ops tbl K (i :: rest) fl α H := by
 obtain ⟨o, ho, hq⟩ := ZcE (h1.trans h)
 have hs := Zeg hq
 refine d_e o v H' ho hs.1 hs.2.1 hs.2.2 hst ?_
 rw [← ZeC ho]; exact k
theorem Znk (hw : WF H) (cs : List Value) (h1 : Zl cs = true) (h : Zc9 ops i (fun o => Zct P ops o α) = if Zl cs = true then some (.row .own cs, ZcA) else none)
  (k : ∀ b H', Ext H H' → b = H.next → Row H' b cs → Zk P ops tbl K rest fl (α.put (Zac ops i) (.pointer (some ⟨b, 0, none⟩))) H') : Zk P ops tbl K (i :: rest) fl α H := by
 rw [if_pos h1] at h
 obtain ⟨o, ho, hq⟩ := ZcE h
 have hs := Zas hq
 refine d_n o _ _ ho hs.1 hs.2.1 hs.2.2 ?_
 rw [← ZeC ho]; exact k H.next _ (Zdo hw cs).1 rfl (Zdo hw cs).2
theorem ZmR (hw : WF H) (cs : List Value) (h : Zc9 ops i (fun o => Zct P ops o α) = some (.row .own cs, ZcA))
  (k : ∀ b H', Ext H H' → b = H.next → Row H' b cs → Zk P ops tbl K rest fl (α.put (Zac ops i) (.pointer (some ⟨b, 0, none⟩))) H') : Zk P ops tbl K (i :: rest) fl α H := by
 obtain ⟨o, ho, hq⟩ := ZcE h
 have hs := Zas hq
 refine d_n o _ _ ho hs.1 hs.2.1 hs.2.2 ?_
 rw [← ZeC ho]; exact k H.next _ (Zdo hw cs).1 rfl (Zdo hw cs).2
end draw
theorem ZD {α β : Type} (s : Sem α) (f : α → Sem β) : pr P (s >>= f) = (pr P s).bind fun a => pr P (f a) := by
 show pr P (Sem.bind s f) = _
 induction s with
 | pure a => rfl
 | program k ih => exact ih P
 | mark m k ih => exact ih
 | _ => rfl
theorem Zm3 {t : TypeId} {d : TypeDesc} (h : P.underlying t = some d) : pr P (underlying t) = some d := by
 show pr P (match P.underlying t with | some d => (pure d : Sem TypeDesc) | none => stuck "no such type") = some d
 rw [h]; rfl
def Zie (P : Program) (t : TypeId) : Bool := match P.underlying t with
 | some (.interface _) => true
 | _ => false
theorem Zfk {t : TypeId} (h : Zie P t = true) : ∃ ms, P.underlying t = some (.interface ms) := by
 unfold Zie at h
 split at h
 ·rename_i e he; exact ⟨e, he⟩
 ·cases h
theorem Zht {t ti : TypeId} {v : Value} (h : Zie P t = true) : pr P (Op.equal t (.iface ti v) .nilIface) = some false := by
 obtain ⟨ms, hu⟩ := Zfk h
 unfold Op.equal Op.maxDepth
 rw [Op.equalIn, ZD, Zm3 hu]
 rfl
theorem ZeY {t ti : TypeId} {v : Value} {x y : Operand} (h : Zie P t = true) : Z2 P .eql t x y (.iface ti v) .nilIface = some (.bool false) := by
 unfold Z2
 split
 ·have : pr P (do eqGuard .eql t x y (.iface ti v) .nilIface; binOp .eql t (.iface ti v) .nilIface) = some (.bool false) := by
   show pr P (do pure (Value.bool (← Op.equal t (.iface ti v) .nilIface))) = _
   rw [ZD, Zht h]; rfl
  rw [this]; rfl
 ·obtain ⟨ms, hu⟩ := Zfk h
  simp only [hu]
theorem Z4 {t ti : TypeId} {v : Value} {x y : Operand} (h : Zie P t = true) : Z2 P .neq t x y (.iface ti v) .nilIface = some (.bool true) := by
 unfold Z2
 split
 ·have : pr P (do eqGuard .neq t x y (.iface ti v) .nilIface; binOp .neq t (.iface ti v) .nilIface) = some (.bool true) := by
   show pr P (do pure (Value.bool (!(← Op.equal t (.iface ti v) .nilIface)))) = _
   rw [ZD, Zht h]; rfl
  rw [this]; rfl
 ·obtain ⟨ms, hu⟩ := Zfk h
  simp only [hu]
end Go.Vd
