/- More steps for printed walks: calls, effects and new rows in regions that draw; errors. -/
import Derived.Test.YtmcecdjpconioaaGreatDoorPscVdV
namespace Go.Vd
set_option linter.unusedSectionVars false
variable [Pins]
variable {P : Program} {N : Nat} {ops : Array Oper} {K : AAct → AH → Prop} {α : AAct} {H : AH}
def Zg1 (P : Program) (ops : Array Oper) (o : Oper) (α : AAct) : Option (FuncId × Array Value) :=
 if Region.wanted o (ZX ops α) = true then match cls o.op with
  | .call => ZdV P (ZW α) o.op
  | _ => none
 else none
theorem ZeX {o : Oper} {x : FuncId × Array Value} (h : Zg1 P ops o α = some x) : Region.wanted o (ZX ops α) = true ∧ cls o.op = .call ∧ ZdV P (ZW α) o.op = some x := by
 unfold Zg1 at h
 split at h
 ·rename_i hg
  split at h
  ·rename_i hc; exact ⟨hg, hc, h⟩
  ·cases h
 ·cases h
def Zib (P : Program) (ops : Array Oper) (o : Oper) (α : AAct) (H : AH) : Option (Value × AH) :=
 if Region.wanted o (ZX ops α) = true then match cls o.op with
  | .eff => Zhg P (ZW α) H o.op
  | _ => none
 else none
theorem Zfp {o : Oper} {x : Value × AH} (h : Zib P ops o α H = some x) : Region.wanted o (ZX ops α) = true ∧ cls o.op = .eff ∧ Zhg P (ZW α) H o.op = some x := by
 unfold Zib at h
 split at h
 ·rename_i hg
  split at h
  ·rename_i hc; exact ⟨hg, hc, h⟩
  ·cases h
 ·cases h
def Zdv (P : Program) (ops : Array Oper) (o : Oper) (α : AAct) : Option (AObj × (Nat → Value)) :=
 if Region.wanted o (ZX ops α) = true then match cls o.op with
  | .new => ZfW P (ZW α) o.op
  | _ => none
 else none
theorem ZaU {o : Oper} {x : AObj × (Nat → Value)} (h : Zdv P ops o α = some x) : Region.wanted o (ZX ops α) = true ∧ cls o.op = .new ∧ ZfW P (ZW α) o.op = some x := by
 unfold Zdv at h
 split at h
 ·rename_i hg
  split at h
  ·rename_i hc; exact ⟨hg, hc, h⟩
  ·cases h
 ·cases h
theorem Z1 : Zw [] = true := rfl
theorem Zu {v : Value} {l : List Value} (h : v.oneCell' = true) (hl : Zw l = true) : Zw (v :: l) = true := by
 unfold Zw at *
 rw [List.all_cons, h, hl]; rfl
theorem Sl.form {E : Type} {enc : E → List Value} {sz : Nat} {s : Value} {xs : List E} (h : Sl enc sz H s xs) : ∃ a n c, s = .slice a n c := by
 rcases h.is with ⟨rfl, _⟩ | ⟨b, o, c, k, cs, rfl, _⟩
 ·exact ⟨_, _, _, rfl⟩
 ·exact ⟨_, _, _, rfl⟩
theorem ZkL {t : TypeId} {b p : Nat} {cs vs : List Value} {x : Value} (hw : WF H) (h : Row H b cs) (hx : x.cells.toList = vs) (hs : (P.info? t).map (·.size) = some vs.length) (h1 : Zw vs = true) (hl : p + vs.length ≤ cs.length) :
  ∃ H', Zda P t (.pointer (some ⟨b, p, none⟩)) x H = some H' ∧ Fr b H H' ∧ Row H' b (Z9 cs p vs) ∧ H'.next = H.next := by
 obtain ⟨H', g1, g2⟩ := h.put (vs := vs) (o := p) hw hl
 refine ⟨H', ?_, g2⟩
 unfold Zda
 cases hi : P.info? t with
 | none => rw [hi] at hs; cases hs
 | some i =>
  rw [hi] at hs
  simp only [Option.map_some, Option.some.injEq] at hs
  dsimp only
  rw [hx, if_pos ⟨by rw [← Array.length_toList, hx, hs], h1⟩]; exact g1
section seq
variable {o : Oper} {rest : List Oper}
theorem Zoi (hw : WF H) (cs : List Value) (h1 : Zw cs = true) (h : Zdv P ops o α = if Zw cs = true then some (.row .own cs, ZdG) else none)
  (k : ∀ b H', Ext H H' → b = H.next → Row H' b cs → Zp P ops K rest (α.put o.dst (.pointer (some ⟨b, 0, none⟩))) H') : Zp P ops K (o :: rest) α H := by
 rw [if_pos h1] at h
 exact ZmO hw cs (ZaU h).1 (ZaU h).2.1 (ZaU h).2.2 k
theorem Zgu (f : FuncId) (args : Array Value) {K' : Value → AH → Prop} (h : Zg1 P ops o α = some (f, args)) (hf : ACalls P f args H K') (k : ∀ v H', K' v H' → Zp P ops K rest (α.put o.dst v) H') : Zp P ops K (o :: rest) α H :=
 s_c f args (ZeX h).1 (ZeX h).2.1 (ZeX h).2.2 hf k
theorem ZaL (v : Value) {H' : AH} {x : Option (Value × AH)} (h1 : Zib P ops o α H = x) (h : x = some (v, H')) (k : Zp P ops K rest (α.put o.dst v) H') : Zp P ops K (o :: rest) α H :=
 s_e v H' (Zfp (h1.trans h)).1 (Zfp (h1.trans h)).2.1 (Zfp (h1.trans h)).2.2 k
theorem Zop (hw : WF H) (cs : List Value) (h : Zdv P ops o α = some (.row .own cs, ZdG))
  (k : ∀ b H', Ext H H' → b = H.next → Row H' b cs → Zp P ops K rest (α.put o.dst (.pointer (some ⟨b, 0, none⟩))) H') : Zp P ops K (o :: rest) α H :=
 ZmO hw cs (ZaU h).1 (ZaU h).2.1 (ZaU h).2.2 k
end seq
def Zeb {β : Type} (ops : Array Oper) (i : Nat) (f : Oper → Option β) : Option β :=
 match ops[i]? with
 | some o => f o
 | none => none
theorem ZdL {β : Type} {i : Nat} {f : Oper → Option β} {x : β} (h : Zeb ops i f = some x) : ∃ o, ops[i]? = some o ∧ f o = some x := by
 unfold Zeb at h
 split at h
 ·rename_i o ho; exact ⟨o, ho, h⟩
 ·cases h
def lookQ (P : Program) (ops : Array Oper) (i : Nat) (α : AAct) (H : AH) : Option Value := Zeb ops i fun o => Zas P (ZW α) H o.op
theorem ZL {tbl : List (List Nat)} {e : Nat} : ZcL P ops tbl e H [] := trivial
theorem Zap {tbl : List (List Nat)} {e : Nat} {x : Nat × AAct × Value} {l : List (Nat × AAct × Value)} (h : Zeq tbl x.1 e = true) (hl : ZcL P ops tbl e H l) : ZcL P ops tbl e H (x :: l) := by
 refine ⟨?_, hl⟩
 rw [if_pos h]; trivial
theorem ZaP {tbl : List (List Nat)} {e : Nat} {i : Nat} {α0 : AAct} {v : Value} {l : List (Nat × AAct × Value)} {y : Option Value} (h1 : lookQ P ops i α0 H = y) (h : y = some v) (hl : ZcL P ops tbl e H l) : ZcL P ops tbl e H ((i, α0, v) :: l) := by
 refine ⟨?_, hl⟩
 split
 ·trivial
 ·obtain ⟨o, ho, hq⟩ := ZdL (h1.trans h)
  dsimp only
  rw [ho]; exact hq
section draw
variable {tbl : List (List Nat)} {i : Nat} {rest : List Nat} {fl : List (Nat × AAct × Value)}
theorem ZfL {o : Oper} (ho : ops[i]? = some o) : Z4 ops i = o.dst := by simp only [Z4, ho, Option.bind_some]
def stepF (P : Program) (ops : Array Oper) (tbl : List (List Nat)) (i : Nat) (rest : List Nat) (α : AAct) (H : AH) : Option Value :=
 Zeb ops i fun o => if !ZdK P o.op && ZfC ops tbl i rest then ZbM P ops o α H else none
theorem Zcz (v : Value) {x : Option Value} (h1 : stepF P ops tbl i rest α H = x) (h : x = some v) (k : Zq P ops tbl K rest ((i, α, v) :: fl) (α.put (Z4 ops i) v) H) : Zq P ops tbl K (i :: rest) fl α H := by
 obtain ⟨o, ho, hq⟩ := ZdL (h1.trans h)
 split at hq
 ·rename_i hf
  have hs := Zer hq
  refine d_qf o v ho hs.1 hs.2.1 hs.2.2 hf ?_
  rw [← ZfL ho]; exact k
 ·cases hq
theorem ZkI (f : FuncId) (args : Array Value) {K' : Value → AH → Prop} (h : Zeb ops i (fun o => Zg1 P ops o α) = some (f, args)) (hf : ACalls P f args H K')
  (k : ∀ v H', K' v H' → ZcL P ops tbl i H' fl ∧ Zq P ops tbl K rest fl (α.put (Z4 ops i) v) H') : Zq P ops tbl K (i :: rest) fl α H := by
 obtain ⟨o, ho, hq⟩ := ZdL h
 have hs := ZeX hq
 refine d_c o f args ho hs.1 hs.2.1 hs.2.2 hf ?_
 rw [← ZfL ho]; exact k
theorem Zgz (v : Value) {H' : AH} {x : Option (Value × AH)} (h1 : Zeb ops i (fun o => Zib P ops o α H) = x) (h : x = some (v, H')) (hst : ZcL P ops tbl i H' fl) (k : Zq P ops tbl K rest fl (α.put (Z4 ops i) v) H') : Zq P ops tbl K (i :: rest) fl α H := by
 obtain ⟨o, ho, hq⟩ := ZdL (h1.trans h)
 have hs := Zfp hq
 refine d_e o v H' ho hs.1 hs.2.1 hs.2.2 hst ?_
 rw [← ZfL ho]; exact k
theorem Zn2 (hw : WF H) (cs : List Value) (h1 : Zw cs = true) (h : Zeb ops i (fun o => Zdv P ops o α) = if Zw cs = true then some (.row .own cs, ZdG) else none)
  (k : ∀ b H', Ext H H' → b = H.next → Row H' b cs → Zq P ops tbl K rest fl (α.put (Z4 ops i) (.pointer (some ⟨b, 0, none⟩))) H') : Zq P ops tbl K (i :: rest) fl α H := by
 rw [if_pos h1] at h
 obtain ⟨o, ho, hq⟩ := ZdL h
 have hs := ZaU hq
 refine d_n o _ _ ho hs.1 hs.2.1 hs.2.2 ?_
 rw [← ZfL ho]; exact k H.next _ (ZeA hw cs).1 rfl (ZeA hw cs).2
theorem ZnO (hw : WF H) (cs : List Value) (h : Zeb ops i (fun o => Zdv P ops o α) = some (.row .own cs, ZdG))
  (k : ∀ b H', Ext H H' → b = H.next → Row H' b cs → Zq P ops tbl K rest fl (α.put (Z4 ops i) (.pointer (some ⟨b, 0, none⟩))) H') : Zq P ops tbl K (i :: rest) fl α H := by
 obtain ⟨o, ho, hq⟩ := ZdL h
 have hs := ZaU hq
 refine d_n o _ _ ho hs.1 hs.2.1 hs.2.2 ?_
 rw [← ZfL ho]; exact k H.next _ (ZeA hw cs).1 rfl (ZeA hw cs).2
end draw
theorem Zaa {α β : Type} (s : Sem α) (f : α → Sem β) : pr P (s >>= f) = (pr P s).bind fun a => pr P (f a) := by
 show pr P (Sem.bind s f) = _
 induction s with
 | pure a => rfl
 | program k ih => exact ih P
 | mark m k ih => exact ih
 | _ => rfl
theorem Zok {t : TypeId} {d : TypeDesc} (h : P.underlying t = some d) : pr P (underlying t) = some d := by
 show pr P (match P.underlying t with | some d => (pure d : Sem TypeDesc) | none => stuck "no such type") = some d
 rw [h]; rfl
def Zjm (P : Program) (t : TypeId) : Bool := match P.underlying t with
 | some (.interface _) => true
 | _ => false
theorem ZgS {t : TypeId} (h : Zjm P t = true) : ∃ ms, P.underlying t = some (.interface ms) := by
 unfold Zjm at h
 split at h
 ·rename_i e he; exact ⟨e, he⟩
 ·cases h
theorem ZiE {t ti : TypeId} {v : Value} (h : Zjm P t = true) : pr P (Op.equal t (.iface ti v) .nilIface) = some false := by
 obtain ⟨ms, hu⟩ := ZgS h
 unfold Op.equal Op.maxDepth
 rw [Op.equalIn, Zaa, Zok hu]
 rfl
theorem Zfd {t ti : TypeId} {v : Value} {x y : Operand} (h : Zjm P t = true) : Zbl P .eql t x y (.iface ti v) .nilIface = some (.bool false) := by
 unfold Zbl
 split
 ·have : pr P (do eqGuard .eql t x y (.iface ti v) .nilIface; binOp .eql t (.iface ti v) .nilIface) = some (.bool false) := by
   show pr P (do pure (Value.bool (← Op.equal t (.iface ti v) .nilIface))) = _
   rw [Zaa, ZiE h]; rfl
  rw [this]; rfl
 ·obtain ⟨ms, hu⟩ := ZgS h
  simp only [hu]
theorem ZcT {t ti : TypeId} {v : Value} {x y : Operand} (h : Zjm P t = true) : Zbl P .neq t x y (.iface ti v) .nilIface = some (.bool true) := by
 unfold Zbl
 split
 ·have : pr P (do eqGuard .neq t x y (.iface ti v) .nilIface; binOp .neq t (.iface ti v) .nilIface) = some (.bool true) := by
   show pr P (do pure (Value.bool (!(← Op.equal t (.iface ti v) .nilIface)))) = _
   rw [Zaa, ZiE h]; rfl
  rw [this]; rfl
 ·obtain ⟨ms, hu⟩ := ZgS h
  simp only [hu]
end Go.Vd
