/- More steps for printed walks: calls, effects and new rows in regions that draw; errors. -/
import Derived.Test.YtnepbkkdhalbiaaGreatDoorPsnVdV
namespace Go.Vd
set_option linter.unusedSectionVars false
variable [Pins]
variable {P : Program} {N : Nat} {ops : Array Oper} {K : AAct → AH → Prop} {α : AAct} {H : AH}
def ZgX (P : Program) (ops : Array Oper) (o : Oper) (α : AAct) : Option (FuncId × Array Value) :=
 if Region.wanted o (ZZ ops α) = true then match cls o.op with
  | .call => ZdS P (ZX α) o.op
  | _ => none
 else none
theorem ZeP {o : Oper} {x : FuncId × Array Value} (h : ZgX P ops o α = some x) : Region.wanted o (ZZ ops α) = true ∧ cls o.op = .call ∧ ZdS P (ZX α) o.op = some x := by
 unfold ZgX at h
 split at h
 ·rename_i hg
  split at h
  ·rename_i hc; exact ⟨hg, hc, h⟩
  ·cases h
 ·cases h
def Zh6 (P : Program) (ops : Array Oper) (o : Oper) (α : AAct) (H : AH) : Option (Value × AH) :=
 if Region.wanted o (ZZ ops α) = true then match cls o.op with
  | .eff => Zhl P (ZX α) H o.op
  | _ => none
 else none
theorem Zfg {o : Oper} {x : Value × AH} (h : Zh6 P ops o α H = some x) : Region.wanted o (ZZ ops α) = true ∧ cls o.op = .eff ∧ Zhl P (ZX α) H o.op = some x := by
 unfold Zh6 at h
 split at h
 ·rename_i hg
  split at h
  ·rename_i hc; exact ⟨hg, hc, h⟩
  ·cases h
 ·cases h
def Zdt (P : Program) (ops : Array Oper) (o : Oper) (α : AAct) : Option (AObj × (Nat → Value)) :=
 if Region.wanted o (ZZ ops α) = true then match cls o.op with
  | .new => ZfV P (ZX α) o.op
  | _ => none
 else none
theorem ZaX {o : Oper} {x : AObj × (Nat → Value)} (h : Zdt P ops o α = some x) : Region.wanted o (ZZ ops α) = true ∧ cls o.op = .new ∧ ZfV P (ZX α) o.op = some x := by
 unfold Zdt at h
 split at h
 ·rename_i hg
  split at h
  ·rename_i hc; exact ⟨hg, hc, h⟩
  ·cases h
 ·cases h
theorem Z1 : Zv [] = true := rfl
theorem Zs {v : Value} {l : List Value} (h : v.oneCell' = true) (hl : Zv l = true) : Zv (v :: l) = true := by
 unfold Zv at *
 rw [List.all_cons, h, hl]; rfl
theorem Sl.form {E : Type} {enc : E → List Value} {sz : Nat} {s : Value} {xs : List E} (h : Sl enc sz H s xs) : ∃ a n c, s = .slice a n c := by
 rcases h.is with ⟨rfl, _⟩ | ⟨b, o, c, k, cs, rfl, _⟩
 ·exact ⟨_, _, _, rfl⟩
 ·exact ⟨_, _, _, rfl⟩
theorem Zk5 {t : TypeId} {b p : Nat} {cs vs : List Value} {x : Value} (hw : WF H) (h : Row H b cs) (hx : x.cells.toList = vs) (hs : (P.info? t).map (·.size) = some vs.length) (h1 : Zv vs = true) (hl : p + vs.length ≤ cs.length) :
  ∃ H', Zc5 P t (.pointer (some ⟨b, p, none⟩)) x H = some H' ∧ Fr b H H' ∧ Row H' b (Z7 cs p vs) ∧ H'.next = H.next := by
 obtain ⟨H', g1, g2⟩ := h.put (vs := vs) (o := p) hw hl
 refine ⟨H', ?_, g2⟩
 unfold Zc5
 cases hi : P.info? t with
 | none => rw [hi] at hs; cases hs
 | some i =>
  rw [hi] at hs
  simp only [Option.map_some, Option.some.injEq] at hs
  dsimp only
  rw [hx, if_pos ⟨by rw [← Array.length_toList, hx, hs], h1⟩]; exact g1
section seq
variable {o : Oper} {rest : List Oper}
theorem ZnM (hw : WF H) (cs : List Value) (h1 : Zv cs = true) (h : Zdt P ops o α = if Zv cs = true then some (.row .own cs, ZdB) else none)
  (k : ∀ b H', Ext H H' → b = H.next → Row H' b cs → Zp P ops K rest (α.put o.dst (.pointer (some ⟨b, 0, none⟩))) H') : Zp P ops K (o :: rest) α H := by
 rw [if_pos h1] at h
 exact ZmO hw cs (ZaX h).1 (ZaX h).2.1 (ZaX h).2.2 k
theorem ZgE (f : FuncId) (args : Array Value) {K' : Value → AH → Prop} (h : ZgX P ops o α = some (f, args)) (hf : ACalls P f args H K') (k : ∀ v H', K' v H' → Zp P ops K rest (α.put o.dst v) H') : Zp P ops K (o :: rest) α H :=
 s_c f args (ZeP h).1 (ZeP h).2.1 (ZeP h).2.2 hf k
theorem ZaN (v : Value) {H' : AH} {x : Option (Value × AH)} (h1 : Zh6 P ops o α H = x) (h : x = some (v, H')) (k : Zp P ops K rest (α.put o.dst v) H') : Zp P ops K (o :: rest) α H :=
 s_e v H' (Zfg (h1.trans h)).1 (Zfg (h1.trans h)).2.1 (Zfg (h1.trans h)).2.2 k
theorem ZnX (hw : WF H) (cs : List Value) (h : Zdt P ops o α = some (.row .own cs, ZdB))
  (k : ∀ b H', Ext H H' → b = H.next → Row H' b cs → Zp P ops K rest (α.put o.dst (.pointer (some ⟨b, 0, none⟩))) H') : Zp P ops K (o :: rest) α H :=
 ZmO hw cs (ZaX h).1 (ZaX h).2.1 (ZaX h).2.2 k
end seq
def Zd6 {β : Type} (ops : Array Oper) (i : Nat) (f : Oper → Option β) : Option β :=
 match ops[i]? with
 | some o => f o
 | none => none
theorem ZdE {β : Type} {i : Nat} {f : Oper → Option β} {x : β} (h : Zd6 ops i f = some x) : ∃ o, ops[i]? = some o ∧ f o = some x := by
 unfold Zd6 at h
 split at h
 ·rename_i o ho; exact ⟨o, ho, h⟩
 ·cases h
def lookQ (P : Program) (ops : Array Oper) (i : Nat) (α : AAct) (H : AH) : Option Value := Zd6 ops i fun o => Zat P (ZX α) H o.op
theorem ZF {tbl : List (List Nat)} {e : Nat} : ZcA P ops tbl e H [] := trivial
theorem Zab {tbl : List (List Nat)} {e : Nat} {x : Nat × AAct × Value} {l : List (Nat × AAct × Value)} (h : Zei tbl x.1 e = true) (hl : ZcA P ops tbl e H l) : ZcA P ops tbl e H (x :: l) := by
 refine ⟨?_, hl⟩
 rw [if_pos h]; trivial
theorem ZaB {tbl : List (List Nat)} {e : Nat} {i : Nat} {α0 : AAct} {v : Value} {l : List (Nat × AAct × Value)} {y : Option Value} (h1 : lookQ P ops i α0 H = y) (h : y = some v) (hl : ZcA P ops tbl e H l) : ZcA P ops tbl e H ((i, α0, v) :: l) := by
 refine ⟨?_, hl⟩
 split
 ·trivial
 ·obtain ⟨o, ho, hq⟩ := ZdE (h1.trans h)
  dsimp only
  rw [ho]; exact hq
section draw
variable {tbl : List (List Nat)} {i : Nat} {rest : List Nat} {fl : List (Nat × AAct × Value)}
theorem ZfF {o : Oper} (ho : ops[i]? = some o) : Z9 ops i = o.dst := by simp only [Z9, ho, Option.bind_some]
def stepF (P : Program) (ops : Array Oper) (tbl : List (List Nat)) (i : Nat) (rest : List Nat) (α : AAct) (H : AH) : Option Value :=
 Zd6 ops i fun o => if !ZdD P o.op && ZfH ops tbl i rest then Zb2 P ops o α H else none
theorem Zcb (v : Value) {x : Option Value} (h1 : stepF P ops tbl i rest α H = x) (h : x = some v) (k : Zr P ops tbl K rest ((i, α, v) :: fl) (α.put (Z9 ops i) v) H) : Zr P ops tbl K (i :: rest) fl α H := by
 obtain ⟨o, ho, hq⟩ := ZdE (h1.trans h)
 split at hq
 ·rename_i hf
  have hs := Zea hq
  refine d_qf o v ho hs.1 hs.2.1 hs.2.2 hf ?_
  rw [← ZfF ho]; exact k
 ·cases hq
theorem ZkQ (f : FuncId) (args : Array Value) {K' : Value → AH → Prop} (h : Zd6 ops i (fun o => ZgX P ops o α) = some (f, args)) (hf : ACalls P f args H K')
  (k : ∀ v H', K' v H' → ZcA P ops tbl i H' fl ∧ Zr P ops tbl K rest fl (α.put (Z9 ops i) v) H') : Zr P ops tbl K (i :: rest) fl α H := by
 obtain ⟨o, ho, hq⟩ := ZdE h
 have hs := ZeP hq
 refine d_c o f args ho hs.1 hs.2.1 hs.2.2 hf ?_
 rw [← ZfF ho]; exact k
theorem ZgT (v : Value) {H' : AH} {x : Option (Value × AH)} (h1 : Zd6 ops i (fun o => Zh6 P ops o α H) = x) (h : x = some (v, H')) (hst : ZcA P ops tbl i H' fl) (k : Zr P ops tbl K rest fl (α.put (Z9 ops i) v) H') : Zr P ops tbl K (i :: rest) fl α H := by
 obtain ⟨o, ho, hq⟩ := ZdE (h1.trans h)
 have hs := Zfg hq
 refine d_e o v H' ho hs.1 hs.2.1 hs.2.2 hst ?_
 rw [← ZfF ho]; exact k
theorem Zof (hw : WF H) (cs : List Value) (h1 : Zv cs = true) (h : Zd6 ops i (fun o => Zdt P ops o α) = if Zv cs = true then some (.row .own cs, ZdB) else none)
  (k : ∀ b H', Ext H H' → b = H.next → Row H' b cs → Zr P ops tbl K rest fl (α.put (Z9 ops i) (.pointer (some ⟨b, 0, none⟩))) H') : Zr P ops tbl K (i :: rest) fl α H := by
 rw [if_pos h1] at h
 obtain ⟨o, ho, hq⟩ := ZdE h
 have hs := ZaX hq
 refine d_n o _ _ ho hs.1 hs.2.1 hs.2.2 ?_
 rw [← ZfF ho]; exact k H.next _ (Zer hw cs).1 rfl (Zer hw cs).2
theorem ZnL (hw : WF H) (cs : List Value) (h : Zd6 ops i (fun o => Zdt P ops o α) = some (.row .own cs, ZdB))
  (k : ∀ b H', Ext H H' → b = H.next → Row H' b cs → Zr P ops tbl K rest fl (α.put (Z9 ops i) (.pointer (some ⟨b, 0, none⟩))) H') : Zr P ops tbl K (i :: rest) fl α H := by
 obtain ⟨o, ho, hq⟩ := ZdE h
 have hs := ZaX hq
 refine d_n o _ _ ho hs.1 hs.2.1 hs.2.2 ?_
 rw [← ZfF ho]; exact k H.next _ (Zer hw cs).1 rfl (Zer hw cs).2
end draw
theorem Z8 {α β : Type} (s : Sem α) (f : α → Sem β) : pr P (s >>= f) = (pr P s).bind fun a => pr P (f a) := by
 show pr P (Sem.bind s f) = _
 induction s with
 | pure a => rfl
 | program k ih => exact ih P
 | mark m k ih => exact ih
 | _ => rfl
theorem ZnY {t : TypeId} {d : TypeDesc} (h : P.underlying t = some d) : pr P (underlying t) = some d := by
 show pr P (match P.underlying t with | some d => (pure d : Sem TypeDesc) | none => stuck "no such type") = some d
 rw [h]; rfl
def Zjy (P : Program) (t : TypeId) : Bool := match P.underlying t with
 | some (.interface _) => true
 | _ => false
theorem ZgA {t : TypeId} (h : Zjy P t = true) : ∃ ms, P.underlying t = some (.interface ms) := by
 unfold Zjy at h
 split at h
 ·rename_i e he; exact ⟨e, he⟩
 ·cases h
theorem Ziv {t ti : TypeId} {v : Value} (h : Zjy P t = true) : pr P (Op.equal t (.iface ti v) .nilIface) = some false := by
 obtain ⟨ms, hu⟩ := ZgA h
 unfold Op.equal Op.maxDepth
 rw [Op.equalIn, Z8, ZnY hu]
 rfl
theorem ZeY {t ti : TypeId} {v : Value} {x y : Operand} (h : Zjy P t = true) : Zb1 P .eql t x y (.iface ti v) .nilIface = some (.bool false) := by
 unfold Zb1
 split
 ·have : pr P (do eqGuard .eql t x y (.iface ti v) .nilIface; binOp .eql t (.iface ti v) .nilIface) = some (.bool false) := by
   show pr P (do pure (Value.bool (← Op.equal t (.iface ti v) .nilIface))) = _
   rw [Z8, Ziv h]; rfl
  rw [this]; rfl
 ·obtain ⟨ms, hu⟩ := ZgA h
  simp only [hu]
theorem Zd7 {t ti : TypeId} {v : Value} {x y : Operand} (h : Zjy P t = true) : Zb1 P .neq t x y (.iface ti v) .nilIface = some (.bool true) := by
 unfold Zb1
 split
 ·have : pr P (do eqGuard .neq t x y (.iface ti v) .nilIface; binOp .neq t (.iface ti v) .nilIface) = some (.bool true) := by
   show pr P (do pure (Value.bool (!(← Op.equal t (.iface ti v) .nilIface)))) = _
   rw [Z8, Ziv h]; rfl
  rw [this]; rfl
 ·obtain ⟨ms, hu⟩ := ZgA h
  simp only [hu]
end Go.Vd
