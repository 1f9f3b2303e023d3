/- More steps for printed walks: calls, effects and new rows in regions that draw; errors. -/
import Derived.Test.YtnepbkkdhalbiaaPsdVdV
namespace Go.Vd
set_option linter.unusedSectionVars false
variable [Pins]
variable {P : Program} {N : Nat} {ops : Array Oper} {K : AAct → AH → Prop} {α : AAct} {H : AH}
def callQ (P : Program) (ops : Array Oper) (o : Oper) (α : AAct) : Option (FuncId × Array Value) :=
 if Region.wanted o (aYield ops α) = true then match cls o.op with
  | .call => aCallee P (aEval α) o.op
  | _ => none
 else none
theorem callQ_spec {o : Oper} {x : FuncId × Array Value} (h : callQ P ops o α = some x) : Region.wanted o (aYield ops α) = true ∧ cls o.op = .call ∧ aCallee P (aEval α) o.op = some x := by
 unfold callQ at h
 split at h
 ·rename_i hg
  split at h
  ·rename_i hc; exact ⟨hg, hc, h⟩
  ·cases h
 ·cases h
def effQ (P : Program) (ops : Array Oper) (o : Oper) (α : AAct) (H : AH) : Option (Value × AH) :=
 if Region.wanted o (aYield ops α) = true then match cls o.op with
  | .eff => aEff P (aEval α) H o.op
  | _ => none
 else none
theorem effQ_spec {o : Oper} {x : Value × AH} (h : effQ P ops o α H = some x) : Region.wanted o (aYield ops α) = true ∧ cls o.op = .eff ∧ aEff P (aEval α) H o.op = some x := by
 unfold effQ at h
 split at h
 ·rename_i hg
  split at h
  ·rename_i hc; exact ⟨hg, hc, h⟩
  ·cases h
 ·cases h
def newQ (P : Program) (ops : Array Oper) (o : Oper) (α : AAct) : Option (AObj × (Nat → Value)) :=
 if Region.wanted o (aYield ops α) = true then match cls o.op with
  | .new => aNew P (aEval α) o.op
  | _ => none
 else none
theorem newQ_spec {o : Oper} {x : AObj × (Nat → Value)} (h : newQ P ops o α = some x) : Region.wanted o (aYield ops α) = true ∧ cls o.op = .new ∧ aNew P (aEval α) o.op = some x := by
 unfold newQ at h
 split at h
 ·rename_i hg
  split at h
  ·rename_i hc; exact ⟨hg, hc, h⟩
  ·cases h
 ·cases h
theorem one_nil : allOne [] = true := rfl
theorem one_cons {v : Value} {l : List Value} (h : v.oneCell' = true) (hl : allOne l = true) : allOne (v :: l) = true := by
 unfold allOne at *
 rw [List.all_cons, h, hl]; rfl
theorem Sl.form {E : Type} {enc : E → List Value} {sz : Nat} {s : Value} {xs : List E} (h : Sl enc sz H s xs) : ∃ a n c, s = .slice a n c := by
 rcases h.is with ⟨rfl, _⟩ | ⟨b, o, c, k, cs, rfl, _⟩
 ·exact ⟨_, _, _, rfl⟩
 ·exact ⟨_, _, _, rfl⟩
theorem aStore_row {t : TypeId} {b p : Nat} {cs vs : List Value} {x : Value} (hw : WF H) (h : Row H b cs) (hx : x.cells.toList = vs) (hs : (P.info? t).map (·.size) = some vs.length) (h1 : allOne vs = true) (hl : p + vs.length ≤ cs.length) :
  ∃ H', aStore P t (.pointer (some ⟨b, p, none⟩)) x H = some H' ∧ Fr b H H' ∧ Row H' b (splice cs p vs) ∧ H'.next = H.next := by
 obtain ⟨H', g1, g2⟩ := h.put (vs := vs) (o := p) hw hl
 refine ⟨H', ?_, g2⟩
 unfold aStore
 cases hi : P.info? t with
 | none => rw [hi] at hs; cases hs
 | some i =>
  rw [hi] at hs
  simp only [Option.map_some, Option.some.injEq] at hs
  dsimp only
  rw [hx, if_pos ⟨by rw [← Array.length_toList, hx, hs], h1⟩]; exact g1
section seq
variable {o : Oper} {rest : List Oper}
theorem s_rowl (hw : WF H) (cs : List Value) (h1 : allOne cs = true) (h : newQ P ops o α = if allOne cs = true then some (.row .own cs, ptrTo) else none)
  (k : ∀ b H', Ext H H' → b = H.next → Row H' b cs → wpSeq P ops K rest (α.put o.dst (.pointer (some ⟨b, 0, none⟩))) H') : wpSeq P ops K (o :: rest) α H := by
 rw [if_pos h1] at h
 exact s_row hw cs (newQ_spec h).1 (newQ_spec h).2.1 (newQ_spec h).2.2 k
theorem s_ck (f : FuncId) (args : Array Value) {K' : Value → AH → Prop} (h : callQ P ops o α = some (f, args)) (hf : ACalls P f args H K') (k : ∀ v H', K' v H' → wpSeq P ops K rest (α.put o.dst v) H') : wpSeq P ops K (o :: rest) α H :=
 s_c f args (callQ_spec h).1 (callQ_spec h).2.1 (callQ_spec h).2.2 hf k
theorem s_ek (v : Value) {H' : AH} {x : Option (Value × AH)} (h1 : effQ P ops o α H = x) (h : x = some (v, H')) (k : wpSeq P ops K rest (α.put o.dst v) H') : wpSeq P ops K (o :: rest) α H :=
 s_e v H' (effQ_spec (h1.trans h)).1 (effQ_spec (h1.trans h)).2.1 (effQ_spec (h1.trans h)).2.2 k
theorem s_rowk (hw : WF H) (cs : List Value) (h : newQ P ops o α = some (.row .own cs, ptrTo))
  (k : ∀ b H', Ext H H' → b = H.next → Row H' b cs → wpSeq P ops K rest (α.put o.dst (.pointer (some ⟨b, 0, none⟩))) H') : wpSeq P ops K (o :: rest) α H :=
 s_row hw cs (newQ_spec h).1 (newQ_spec h).2.1 (newQ_spec h).2.2 k
end seq
def atOp {β : Type} (ops : Array Oper) (i : Nat) (f : Oper → Option β) : Option β :=
 match ops[i]? with
 | some o => f o
 | none => none
theorem atOp_spec {β : Type} {i : Nat} {f : Oper → Option β} {x : β} (h : atOp ops i f = some x) : ∃ o, ops[i]? = some o ∧ f o = some x := by
 unfold atOp at h
 split at h
 ·rename_i o ho; exact ⟨o, ho, h⟩
 ·cases h
def lookQ (P : Program) (ops : Array Oper) (i : Nat) (α : AAct) (H : AH) : Option Value := atOp ops i fun o => aQuiet P (aEval α) H o.op
theorem st_nil {tbl : List (List Nat)} {e : Nat} : Stable P ops tbl e H [] := trivial
theorem st_anc {tbl : List (List Nat)} {e : Nat} {x : Nat × AAct × Value} {l : List (Nat × AAct × Value)} (h : ancB tbl x.1 e = true) (hl : Stable P ops tbl e H l) : Stable P ops tbl e H (x :: l) := by
 refine ⟨?_, hl⟩
 rw [if_pos h]; trivial
theorem st_ql {tbl : List (List Nat)} {e : Nat} {i : Nat} {α0 : AAct} {v : Value} {l : List (Nat × AAct × Value)} {y : Option Value} (h1 : lookQ P ops i α0 H = y) (h : y = some v) (hl : Stable P ops tbl e H l) : Stable P ops tbl e H ((i, α0, v) :: l) := by
 refine ⟨?_, hl⟩
 split
 ·trivial
 ·obtain ⟨o, ho, hq⟩ := atOp_spec (h1.trans h)
  dsimp only
  rw [ho]; exact hq
section draw
variable {tbl : List (List Nat)} {i : Nat} {rest : List Nat} {fl : List (Nat × AAct × Value)}
theorem dst_eq {o : Oper} (ho : ops[i]? = some o) : dstOf ops i = o.dst := by simp only [dstOf, ho, Option.bind_some]
def stepF (P : Program) (ops : Array Oper) (tbl : List (List Nat)) (i : Nat) (rest : List Nat) (α : AAct) (H : AH) : Option Value :=
 atOp ops i fun o => if !pureOp P o.op && floats ops tbl i rest then stepQ P ops o α H else none
theorem d_fl (v : Value) {x : Option Value} (h1 : stepF P ops tbl i rest α H = x) (h : x = some v) (k : wpOrd P ops tbl K rest ((i, α, v) :: fl) (α.put (dstOf ops i) v) H) : wpOrd P ops tbl K (i :: rest) fl α H := by
 obtain ⟨o, ho, hq⟩ := atOp_spec (h1.trans h)
 split at hq
 ·rename_i hf
  have hs := stepQ_spec hq
  refine d_qf o v ho hs.1 hs.2.1 hs.2.2 hf ?_
  rw [← dst_eq ho]; exact k
 ·cases hq
theorem d_ck (f : FuncId) (args : Array Value) {K' : Value → AH → Prop} (h : atOp ops i (fun o => callQ P ops o α) = some (f, args)) (hf : ACalls P f args H K')
  (k : ∀ v H', K' v H' → Stable P ops tbl i H' fl ∧ wpOrd P ops tbl K rest fl (α.put (dstOf ops i) v) H') : wpOrd P ops tbl K (i :: rest) fl α H := by
 obtain ⟨o, ho, hq⟩ := atOp_spec h
 have hs := callQ_spec hq
 refine d_c o f args ho hs.1 hs.2.1 hs.2.2 hf ?_
 rw [← dst_eq ho]; exact k
theorem d_ek (v : Value) {H' : AH} {x : Option (Value × AH)} (h1 : atOp ops i (fun o => effQ P ops o α H) = x) (h : x = some (v, H')) (hst : Stable P ops tbl i H' fl) (k : wpOrd P ops tbl K rest fl (α.put (dstOf ops i) v) H') : wpOrd P ops tbl K (i :: rest) fl α H := by
 obtain ⟨o, ho, hq⟩ := atOp_spec (h1.trans h)
 have hs := effQ_spec hq
 refine d_e o v H' ho hs.1 hs.2.1 hs.2.2 hst ?_
 rw [← dst_eq ho]; exact k
theorem d_rowl (hw : WF H) (cs : List Value) (h1 : allOne cs = true) (h : atOp ops i (fun o => newQ P ops o α) = if allOne cs = true then some (.row .own cs, ptrTo) else none)
  (k : ∀ b H', Ext H H' → b = H.next → Row H' b cs → wpOrd P ops tbl K rest fl (α.put (dstOf ops i) (.pointer (some ⟨b, 0, none⟩))) H') : wpOrd P ops tbl K (i :: rest) fl α H := by
 rw [if_pos h1] at h
 obtain ⟨o, ho, hq⟩ := atOp_spec h
 have hs := newQ_spec hq
 refine d_n o _ _ ho hs.1 hs.2.1 hs.2.2 ?_
 rw [← dst_eq ho]; exact k H.next _ (push_row hw cs).1 rfl (push_row hw cs).2
theorem d_rowk (hw : WF H) (cs : List Value) (h : atOp ops i (fun o => newQ P ops o α) = some (.row .own cs, ptrTo))
  (k : ∀ b H', Ext H H' → b = H.next → Row H' b cs → wpOrd P ops tbl K rest fl (α.put (dstOf ops i) (.pointer (some ⟨b, 0, none⟩))) H') : wpOrd P ops tbl K (i :: rest) fl α H := by
 obtain ⟨o, ho, hq⟩ := atOp_spec h
 have hs := newQ_spec hq
 refine d_n o _ _ ho hs.1 hs.2.1 hs.2.2 ?_
 rw [← dst_eq ho]; exact k H.next _ (push_row hw cs).1 rfl (push_row hw cs).2
end draw
theorem pr_bind {α β : Type} (s : Sem α) (f : α → Sem β) : pr P (s >>= f) = (pr P s).bind fun a => pr P (f a) := by
 show pr P (Sem.bind s f) = _
 induction s with
 | pure a => rfl
 | program k ih => exact ih P
 | mark m k ih => exact ih
 | _ => rfl
theorem pr_und {t : TypeId} {d : TypeDesc} (h : P.underlying t = some d) : pr P (underlying t) = some d := by
 show pr P (match P.underlying t with | some d => (pure d : Sem TypeDesc) | none => stuck "no such type") = some d
 rw [h]; rfl
def isIf (P : Program) (t : TypeId) : Bool := match P.underlying t with
 | some (.interface _) => true
 | _ => false
theorem isIf_spec {t : TypeId} (h : isIf P t = true) : ∃ ms, P.underlying t = some (.interface ms) := by
 unfold isIf at h
 split at h
 ·rename_i e he; exact ⟨e, he⟩
 ·cases h
theorem pr_eq_nil {t ti : TypeId} {v : Value} (h : isIf P t = true) : pr P (Op.equal t (.iface ti v) .nilIface) = some false := by
 obtain ⟨ms, hu⟩ := isIf_spec h
 unfold Op.equal Op.maxDepth
 rw [Op.equalIn, pr_bind, pr_und hu]
 rfl
theorem aBin_nil {t ti : TypeId} {v : Value} {x y : Operand} (h : isIf P t = true) : aBin P .eql t x y (.iface ti v) .nilIface = some (.bool false) := by
 unfold aBin
 split
 ·have : pr P (do eqGuard .eql t x y (.iface ti v) .nilIface; binOp .eql t (.iface ti v) .nilIface) = some (.bool false) := by
   show pr P (do pure (Value.bool (← Op.equal t (.iface ti v) .nilIface))) = _
   rw [pr_bind, pr_eq_nil h]; rfl
  rw [this]; rfl
 ·obtain ⟨ms, hu⟩ := isIf_spec h
  simp only [hu]
theorem aBin_nnil {t ti : TypeId} {v : Value} {x y : Operand} (h : isIf P t = true) : aBin P .neq t x y (.iface ti v) .nilIface = some (.bool true) := by
 unfold aBin
 split
 ·have : pr P (do eqGuard .neq t x y (.iface ti v) .nilIface; binOp .neq t (.iface ti v) .nilIface) = some (.bool true) := by
   show pr P (do pure (Value.bool (!(← Op.equal t (.iface ti v) .nilIface)))) = _
   rw [pr_bind, pr_eq_nil h]; rfl
  rw [this]; rfl
 ·obtain ⟨ms, hu⟩ := isIf_spec h
  simp only [hu]
end Go.Vd
