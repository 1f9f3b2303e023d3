/- More steps for printed walks: calls, effects and new rows in regions that draw; errors. -/
import Derived.Test.YtmcecdjpconioaaGreatDoorPscVdV
namespace Go.Vd
set_option linter.unusedSectionVars false
variable [Pins]
variable {P : Program} {N : Nat} {ops : Array Oper} {K : AAct → AH → Prop} {α : AAct} {H : AH}
def ZgV (P : Program) (ops : Array Oper) (o : Oper) (α : AAct) : Option (FuncId × Array Value) :=
 if Region.wanted o (ZX ops α) = true then match cls o.op with
  | .call => ZdU P (ZW α) o.op
  | _ => none
 else none
theorem ZeX {o : Oper} {x : FuncId × Array Value} (h : ZgV P ops o α = some x) : Region.wanted o (ZX ops α) = true ∧ cls o.op = .call ∧ ZdU P (ZW α) o.op = some x := by
 unfold ZgV at h
 split at h
 ·rename_i hg
  split at h
  ·rename_i hc; exact ⟨hg, hc, h⟩
  ·cases h
 ·cases h
def Zh4 (P : Program) (ops : Array Oper) (o : Oper) (α : AAct) (H : AH) : Option (Value × AH) :=
 if Region.wanted o (ZX ops α) = true then match cls o.op with
  | .eff => Zhq P (ZW α) H o.op
  | _ => none
 else none
theorem Zfn {o : Oper} {x : Value × AH} (h : Zh4 P ops o α H = some x) : Region.wanted o (ZX ops α) = true ∧ cls o.op = .eff ∧ Zhq P (ZW α) H o.op = some x := by
 unfold Zh4 at h
 split at h
 ·rename_i hg
  split at h
  ·rename_i hc; exact ⟨hg, hc, h⟩
  ·cases h
 ·cases h
def Zdt (P : Program) (ops : Array Oper) (o : Oper) (α : AAct) : Option (AObj × (Nat → Value)) :=
 if Region.wanted o (ZX ops α) = true then match cls o.op with
  | .new => Zf3 P (ZW α) o.op
  | _ => none
 else none
theorem ZaU {o : Oper} {x : AObj × (Nat → Value)} (h : Zdt P ops o α = some x) : Region.wanted o (ZX ops α) = true ∧ cls o.op = .new ∧ Zf3 P (ZW α) o.op = some x := by
 unfold Zdt at h
 split at h
 ·rename_i hg
  split at h
  ·rename_i hc; exact ⟨hg, hc, h⟩
  ·cases h
 ·cases h
theorem Z1 : Zw [] = true := rfl
theorem Zu {v : Value} {l : List Value} (h : v.oneCell' = true) (hl : Zw l = true) : Zw (v :: l) = true := by
 unfold Zw at *
 rw [List.all_cons, h, hl]; rfl
theorem Sl.form {E : Type} {enc : E → List Value} {sz : Nat} {s : Value} {xs : List E} (h : Sl enc sz H s xs) : ∃ a n c, s = .slice a n c := by
 rcases h.is with ⟨rfl, _⟩ | ⟨b, o, c, k, cs, rfl, _⟩
 ·exact ⟨_, _, _, rfl⟩
 ·exact ⟨_, _, _, rfl⟩
theorem Zkz {t : TypeId} {b p : Nat} {cs vs : List Value} {x : Value} (hw : WF H) (h : Row H b cs) (hx : x.cells.toList = vs) (hs : (P.info? t).map (·.size) = some vs.length) (h1 : Zw vs = true) (hl : p + vs.length ≤ cs.length) :
  ∃ H', Zc8 P t (.pointer (some ⟨b, p, none⟩)) x H = some H' ∧ Fr b H H' ∧ Row H' b (Z9 cs p vs) ∧ H'.next = H.next := by
 obtain ⟨H', g1, g2⟩ := h.put (vs := vs) (o := p) hw hl
 refine ⟨H', ?_, g2⟩
 unfold Zc8
 cases hi : P.info? t with
 | none => rw [hi] at hs; cases hs
 | some i =>
  rw [hi] at hs
  simp only [Option.map_some, Option.some.injEq] at hs
  dsimp only
  rw [hx, if_pos ⟨by rw [← Array.length_toList, hx, hs], h1⟩]; exact g1
section seq
variable {o : Oper} {rest : List Oper}
theorem Zn6 (hw : WF H) (cs : List Value) (h1 : Zw cs = true) (h : Zdt P ops o α = if Zw cs = true then some (.row .own cs, ZdG) else none)
  (k : ∀ b H', Ext H H' → b = H.next → Row H' b cs → Zp P ops K rest (α.put o.dst (.pointer (some ⟨b, 0, none⟩))) H') : Zp P ops K (o :: rest) α H := by
 rw [if_pos h1] at h
 exact Zm0 hw cs (ZaU h).1 (ZaU h).2.1 (ZaU h).2.2 k
theorem ZgC (f : FuncId) (args : Array Value) {K' : Value → AH → Prop} (h : ZgV P ops o α = some (f, args)) (hf : ACalls P f args H K') (k : ∀ v H', K' v H' → Zp P ops K rest (α.put o.dst v) H') : Zp P ops K (o :: rest) α H :=
 s_c f args (ZeX h).1 (ZeX h).2.1 (ZeX h).2.2 hf k
theorem ZaL (v : Value) {H' : AH} {x : Option (Value × AH)} (h1 : Zh4 P ops o α H = x) (h : x = some (v, H')) (k : Zp P ops K rest (α.put o.dst v) H') : Zp P ops K (o :: rest) α H :=
 s_e v H' (Zfn (h1.trans h)).1 (Zfn (h1.trans h)).2.1 (Zfn (h1.trans h)).2.2 k
theorem Zn9 (hw : WF H) (cs : List Value) (h : Zdt P ops o α = some (.row .own cs, ZdG))
  (k : ∀ b H', Ext H H' → b = H.next → Row H' b cs → Zp P ops K rest (α.put o.dst (.pointer (some ⟨b, 0, none⟩))) H') : Zp P ops K (o :: rest) α H :=
 Zm0 hw cs (ZaU h).1 (ZaU h).2.1 (ZaU h).2.2 k
end seq
def Zea {β : Type} (ops : Array Oper) (i : Nat) (f : Oper → Option β) : Option β :=
 match ops[i]? with
 | some o => f o
 | none => none
theorem ZdL {β : Type} {i : Nat} {f : Oper → Option β} {x : β} (h : Zea ops i f = some x) : ∃ o, ops[i]? = some o ∧ f o = some x := by
 unfold Zea at h
 split at h
 ·rename_i o ho; exact ⟨o, ho, h⟩
 ·cases h
def lookQ (P : Program) (ops : Array Oper) (i : Nat) (α : AAct) (H : AH) : Option Value := Zea ops i fun o => Zat P (ZW α) H o.op
theorem ZL {tbl : List (List Nat)} {e : Nat} : ZcF P ops tbl e H [] := trivial
theorem Zao {tbl : List (List Nat)} {e : Nat} {x : Nat × AAct × Value} {l : List (Nat × AAct × Value)} (h : Zen tbl x.1 e = true) (hl : ZcF P ops tbl e H l) : ZcF P ops tbl e H (x :: l) := by
 refine ⟨?_, hl⟩
 rw [if_pos h]; trivial
theorem ZaP {tbl : List (List Nat)} {e : Nat} {i : Nat} {α0 : AAct} {v : Value} {l : List (Nat × AAct × Value)} {y : Option Value} (h1 : lookQ P ops i α0 H = y) (h : y = some v) (hl : ZcF P ops tbl e H l) : ZcF P ops tbl e H ((i, α0, v) :: l) := by
 refine ⟨?_, hl⟩
 split
 ·trivial
 ·obtain ⟨o, ho, hq⟩ := ZdL (h1.trans h)
  dsimp only
  rw [ho]; exact hq
section draw
variable {tbl : List (List Nat)} {i : Nat} {rest : List Nat} {fl : List (Nat × AAct × Value)}
theorem ZfT {o : Oper} (ho : ops[i]? = some o) : Z4 ops i = o.dst := by simp only [Z4, ho, Option.bind_some]
def stepF (P : Program) (ops : Array Oper) (tbl : List (List Nat)) (i : Nat) (rest : List Nat) (α : AAct) (H : AH) : Option Value :=
 Zea ops i fun o => if !ZdK P o.op && ZfS ops tbl i rest then ZbN P ops o α H else none
theorem ZcB (v : Value) {x : Option Value} (h1 : stepF P ops tbl i rest α H = x) (h : x = some v) (k : Zq P ops tbl K rest ((i, α, v) :: fl) (α.put (Z4 ops i) v) H) : Zq P ops tbl K (i :: rest) fl α H := by
 obtain ⟨o, ho, hq⟩ := ZdL (h1.trans h)
 split at hq
 ·rename_i hf
  have hs := Zem hq
  refine d_qf o v ho hs.1 hs.2.1 hs.2.2 hf ?_
  rw [← ZfT ho]; exact k
 ·cases hq
theorem ZkW (f : FuncId) (args : Array Value) {K' : Value → AH → Prop} (h : Zea ops i (fun o => ZgV P ops o α) = some (f, args)) (hf : ACalls P f args H K')
  (k : ∀ v H', K' v H' → ZcF P ops tbl i H' fl ∧ Zq P ops tbl K rest fl (α.put (Z4 ops i) v) H') : Zq P ops tbl K (i :: rest) fl α H := by
 obtain ⟨o, ho, hq⟩ := ZdL h
 have hs := ZeX hq
 refine d_c o f args ho hs.1 hs.2.1 hs.2.2 hf ?_
 rw [← ZfT ho]; exact k
theorem ZgP (v : Value) {H' : AH} {x : Option (Value × AH)} (h1 : Zea ops i (fun o => Zh4 P ops o α H) = x) (h : x = some (v, H')) (hst : ZcF P ops tbl i H' fl) (k : Zq P ops tbl K rest fl (α.put (Z4 ops i) v) H') : Zq P ops tbl K (i :: rest) fl α H := by
 obtain ⟨o, ho, hq⟩ := ZdL (h1.trans h)
 have hs := Zfn hq
 refine d_e o v H' ho hs.1 hs.2.1 hs.2.2 hst ?_
 rw [← ZfT ho]; exact k
theorem ZnX (hw : WF H) (cs : List Value) (h1 : Zw cs = true) (h : Zea ops i (fun o => Zdt P ops o α) = if Zw cs = true then some (.row .own cs, ZdG) else none)
  (k : ∀ b H', Ext H H' → b = H.next → Row H' b cs → Zq P ops tbl K rest fl (α.put (Z4 ops i) (.pointer (some ⟨b, 0, none⟩))) H') : Zq P ops tbl K (i :: rest) fl α H := by
 rw [if_pos h1] at h
 obtain ⟨o, ho, hq⟩ := ZdL h
 have hs := ZaU hq
 refine d_n o _ _ ho hs.1 hs.2.1 hs.2.2 ?_
 rw [← ZfT ho]; exact k H.next _ (Zey hw cs).1 rfl (Zey hw cs).2
theorem Zn3 (hw : WF H) (cs : List Value) (h : Zea ops i (fun o => Zdt P ops o α) = some (.row .own cs, ZdG))
  (k : ∀ b H', Ext H H' → b = H.next → Row H' b cs → Zq P ops tbl K rest fl (α.put (Z4 ops i) (.pointer (some ⟨b, 0, none⟩))) H') : Zq P ops tbl K (i :: rest) fl α H := by
 obtain ⟨o, ho, hq⟩ := ZdL h
 have hs := ZaU hq
 refine d_n o _ _ ho hs.1 hs.2.1 hs.2.2 ?_
 rw [← ZfT ho]; exact k H.next _ (Zey hw cs).1 rfl (Zey hw cs).2
end draw
theorem Zaa {α β : Type} (s : Sem α) (f : α → Sem β) : pr P (s >>= f) = (pr P s).bind fun a => pr P (f a) := by
 show pr P (Sem.bind s f) = _
 induction s with
 | pure a => rfl
 | program k ih => exact ih P
 | mark m k ih => exact ih
 | _ => rfl
theorem ZnN {t : TypeId} {d : TypeDesc} (h : P.underlying t = some d) : pr P (underlying t) = some d := by
 show pr P (match P.underlying t with | some d => (pure d : Sem TypeDesc) | none => stuck "no such type") = some d
 rw [h]; rfl
def Zi5 (P : Program) (t : TypeId) : Bool := match P.underlying t with
 | some (.interface _) => true
 | _ => false
theorem ZgB {t : TypeId} (h : Zi5 P t = true) : ∃ ms, P.underlying t = some (.interface ms) := by
 unfold Zi5 at h
 split at h
 ·rename_i e he; exact ⟨e, he⟩
 ·cases h
theorem Ziz {t ti : TypeId} {v : Value} (h : Zi5 P t = true) : pr P (Op.equal t (.iface ti v) .nilIface) = some false := by
 obtain ⟨ms, hu⟩ := ZgB h
 unfold Op.equal Op.maxDepth
 rw [Op.equalIn, Zaa, ZnN hu]
 rfl
theorem Ze8 {t ti : TypeId} {v : Value} {x y : Operand} (h : Zi5 P t = true) : Zbl P .eql t x y (.iface ti v) .nilIface = some (.bool false) := by
 unfold Zbl
 split
 ·have : pr P (do eqGuard .eql t x y (.iface ti v) .nilIface; binOp .eql t (.iface ti v) .nilIface) = some (.bool false) := by
   show pr P (do pure (Value.bool (← Op.equal t (.iface ti v) .nilIface))) = _
   rw [Zaa, Ziz h]; rfl
  rw [this]; rfl
 ·obtain ⟨ms, hu⟩ := ZgB h
  simp only [hu]
theorem ZcR {t ti : TypeId} {v : Value} {x y : Operand} (h : Zi5 P t = true) : Zbl P .neq t x y (.iface ti v) .nilIface = some (.bool true) := by
 unfold Zbl
 split
 ·have : pr P (do eqGuard .neq t x y (.iface ti v) .nilIface; binOp .neq t (.iface ti v) .nilIface) = some (.bool true) := by
   show pr P (do pure (Value.bool (!(← Op.equal t (.iface ti v) .nilIface)))) = _
   rw [Zaa, Ziz h]; rfl
  rw [this]; rfl
 ·obtain ⟨ms, hu⟩ := ZgB h
  simp only [hu]
end Go.Vd
