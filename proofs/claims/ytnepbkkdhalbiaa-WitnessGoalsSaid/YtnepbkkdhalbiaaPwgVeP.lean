/- Maps from numbers to structs of plain data. -/
import Derived.Test.YtnepbkkdhalbiaaPwgVeB
namespace Go.Vd
set_option linter.unusedSectionVars false
set_option linter.unusedVariables false
variable [Pins]
variable {P : Program} {H H' : AH} {E : Type}
def encS (enc : E → List Value) (k : IntKind) (p : Int × E) : Value × Value := (.int k p.1, .agg (enc p.2).toArray)
def lkS : List (Int × E) → Int → Option E
 | [], _ => none
 | p :: l, k => if k = p.1 then some p.2 else lkS l k
structure Ms (ki : IntKind) (enc : E → List Value) (H : AH) (b : Nat) (f : Int → Option E) : Prop where
 lt : b < H.next
 is : ∃ m clock, H.get b = some (.map (m.map (encS enc ki)) clock) ∧ (m.map (·.1)).Nodup ∧ ∀ k, lkS m k = f k
variable {ki : IntKind} {enc : E → List Value} {b : Nat} {f : Int → Option E} {z : E} {W : Fp}
theorem Ms.ext (h : Ms ki enc H b f) (k : Ext H H') : Ms ki enc H' b f := by
 obtain ⟨m, c, h1, h2⟩ := h.is
 exact ⟨Nat.lt_of_lt_of_le h.lt k.next, m, c, (k.same b h.lt).trans h1, h2⟩
theorem Ms.frS (h : Ms ki enc H b f) (k : FrS W H H') (hd : Dj W [b]) : Ms ki enc H' b f := by
 obtain ⟨h1, m, clock, h2, h3⟩ := h
 exact ⟨Nat.lt_of_lt_of_le h1 k.next, m, clock, (k.same b h1 (by unfold tokOf; rw [h2]; exact fun hm => hd _ hm (List.mem_singleton.2 rfl))).trans h2, h3⟩
theorem Ms.ltF (h : Ms ki enc H b f) : Lt H [b] := fun t ht => by rw [List.mem_singleton.1 ht]; exact h.lt
def mapT (P : Program) (t : TypeId) : Option (TypeDesc × Value) :=
 match P.underlying t with
 | some (.map kt et) => match P.underlying kt, (P.info? et).bind (·.zero) with
  | some d, some y => some (d, y)
  | _, _ => none
 | _ => none
theorem mapT_spec {t : TypeId} {zv : Value} (h : mapT P t = some (.int ki, zv)) : ∃ kt et, P.underlying t = some (.map kt et) ∧ P.underlying kt = some (.int ki) ∧ (P.info? et).bind (·.zero) = some zv := by
 unfold mapT at h
 split at h
 ·rename_i kt et hu
  split at h
  ·rename_i d y hd hy
   cases h
   exact ⟨kt, et, hu, hd, hy⟩
  ·cases h
 ·cases h
theorem aFind_encS (m : List (Int × E)) (k : Int) (i : Nat) : ∃ r, aFind (.int ki) (.int ki k) (m.map (encS enc ki)) i = some r ∧ (match r with
  | none => lkS m k = none
  | some (j, v) => ∃ n x, j = i + n ∧ m[n]? = some (k, x) ∧ v = .agg (enc x).toArray ∧ lkS m k = some x) := by
 induction m generalizing i with
 | nil => exact ⟨none, rfl, rfl⟩
 | cons p l ih =>
  simp only [List.map_cons, aFind, encS, Instr.sameNow, if_true]
  by_cases hk : k = p.1
  ·refine ⟨some (i, .agg (enc p.2).toArray), ?_, 0, p.2, rfl, ?_, rfl, ?_⟩
   ·rw [show (k == p.1) = true from by simp [hk]]
   ·simp [hk]
   ·simp [lkS, hk]
  ·rw [show (k == p.1) = false from by simp [hk]]
   dsimp only
   obtain ⟨r, h1, h2⟩ := ih (i + 1)
   refine ⟨r, h1, ?_⟩
   cases r with
   | none => simp only [lkS, if_neg hk]; exact h2
   | some q =>
    obtain ⟨j, v⟩ := q
    obtain ⟨n, x, g1, g2, g3, g4⟩ := h2
    exact ⟨n + 1, x, by omega, by simpa using g2, g3, by simp only [lkS, if_neg hk]; exact g4⟩
theorem Ms.look (h : Ms ki enc H b f) (z : E) {t : TypeId} {zv v : Value} (hz : zv = .agg (enc z).toArray) (hp : plain zv = true) (ht : mapT P t = some (.int ki, zv)) (k : Int) (hv : v = .agg (enc ((f k).getD z)).toArray) : aLookup P t (.map (some b)) (.int ki k) false H = some v := by
 subst hz hv
 obtain ⟨kt, et, h1, h2, h3⟩ := mapT_spec ht
 obtain ⟨m, c, g1, g2, g3⟩ := h.is
 obtain ⟨r, r1, r2⟩ := aFind_encS (ki := ki) (enc := enc) m k 0
 unfold aLookup
 rw [h1]
 simp only [h2, h3, keyT_int h2, g1, hp]
 rw [if_pos (by rfl)]
 simp only [r1]
 rw [← g3]
 cases r with
 | none => rw [r2]; rfl
 | some q =>
  obtain ⟨j, v⟩ := q
  obtain ⟨n, x, _, _, e3, e4⟩ := r2
  rw [e4, e3]; rfl
theorem Ms.look2 (h : Ms ki enc H b f) (z : E) {t : TypeId} {zv v : Value} (hz : zv = .agg (enc z).toArray) (hp : plain zv = true) (ht : mapT P t = some (.int ki, zv)) (k : Int) (hv : v = .tuple #[.agg (enc ((f k).getD z)).toArray, .bool (f k).isSome]) : aLookup P t (.map (some b)) (.int ki k) true H = some v := by
 subst hz hv
 obtain ⟨kt, et, h1, h2, h3⟩ := mapT_spec ht
 obtain ⟨m, c, g1, g2, g3⟩ := h.is
 obtain ⟨r, r1, r2⟩ := aFind_encS (ki := ki) (enc := enc) m k 0
 unfold aLookup
 rw [h1]
 simp only [h2, h3, keyT_int h2, g1, hp]
 rw [if_pos (by rfl)]
 simp only [r1]
 rw [← g3]
 cases r with
 | none => rw [r2]; rfl
 | some q =>
  obtain ⟨j, v⟩ := q
  obtain ⟨n, x, _, _, e3, e4⟩ := r2
  rw [e4, e3]; rfl
theorem lkS_set {m : List (Int × E)} {n : Nat} {k : Int} {x v : E} (hn : m[n]? = some (k, x)) (hd : (m.map (·.1)).Nodup) (y : Int) : lkS (m.set n (k, v)) y = if y = k then some v else lkS m y := by
 induction m generalizing n with
 | nil => simp at hn
 | cons p l ih =>
  cases n with
  | zero =>
   simp at hn; subst hn
   simp only [List.set_cons_zero, lkS]
   by_cases hy : y = k <;> simp [hy]
  | succ n =>
   simp only [List.map_cons, List.nodup_cons] at hd
   simp only [List.getElem?_cons_succ] at hn
   simp only [List.set_cons_succ, lkS]
   have hmem : k ∈ l.map (·.1) := List.mem_map.2 ⟨(k, x), List.mem_of_getElem? hn, rfl⟩
   by_cases hy : y = p.1
   ·rw [if_pos hy, if_neg (fun e => hd.1 (by rw [← hy, e]; exact hmem)), if_pos hy]
   ·rw [if_neg hy, if_neg hy]; exact ih hn hd.2
theorem lkS_app {m : List (Int × E)} {k : Int} {v : E} (hk : lkS m k = none) (y : Int) : lkS (m ++ [(k, v)]) y = if y = k then some v else lkS m y := by
 induction m with
 | nil => simp [lkS]
 | cons p l ih =>
  simp only [lkS] at hk
  split at hk
  ·cases hk
  ·rename_i hkp
   simp only [List.cons_append, lkS, ih hk]
   by_cases hy : y = p.1
   ·rw [if_pos hy, if_neg (fun e => hkp (by rw [← e, hy])), if_pos hy]
   ·rw [if_neg hy, if_neg hy]
theorem lkS_none {m : List (Int × E)} {k : Int} : lkS m k = none ↔ k ∉ m.map (·.1) := by
 induction m with
 | nil => simp [lkS]
 | cons p l ih =>
  simp only [lkS, List.map_cons, List.mem_cons, not_or]
  by_cases hk : k = p.1
  ·simp [hk]
  ·simp [hk, ih]
theorem Ms.put (hw : WF H) (h : Ms ki enc H b f) {t : TypeId} {zv val : Value} (ht : mapT P t = some (.int ki, zv)) (k : Int) (v : E) (hv : val = .agg (enc v).toArray) :
  ∃ H', aUpdate P t (.map (some b)) (.int ki k) val H = some H' ∧ Fr b H H' ∧ Ms ki enc H' b (fun x => if x = k then some v else f x) := by
 subst hv
 obtain ⟨kt, et, h1, h2, h3⟩ := mapT_spec ht
 obtain ⟨m, c, g1, g2, g3⟩ := h.is
 obtain ⟨r, r1, r2⟩ := aFind_encS (ki := ki) (enc := enc) m k 0
 have hred : ∀ X, (match aFind (.int ki) (.int ki k) (m.map (encS enc ki)) 0 with
    | some (some (i, _)) => some (H.upd b (.map ((m.map (encS enc ki)).set i (.int ki k, .agg (enc v).toArray)) c))
    | some none => some (H.upd b (.map (m.map (encS enc ki) ++ [(.int ki k, .agg (enc v).toArray)]) (c + 1)))
    | none => none) = some X → aUpdate P t (.map (some b)) (.int ki k) (.agg (enc v).toArray) H = some X := by
  intro X hX
  unfold aUpdate
  rw [h1]
  simp only [h2, g1, keyT_int h2]
  rw [if_pos (by rfl)]
  exact hX
 rw [r1] at hred
 cases r with
 | none =>
  refine ⟨_, hred _ rfl, upd_map hw h.lt g1, h.lt, m ++ [(k, v)], c + 1, by simp [AH.upd, encS], ?_, fun y => by rw [lkS_app r2, g3]⟩
  rw [List.map_append, List.nodup_append]
  refine ⟨g2, by simp, fun x hx y hy => ?_⟩
  simp at hy; subst hy
  rintro rfl
  exact lkS_none.1 r2 hx
 | some q =>
  obtain ⟨j, u⟩ := q
  obtain ⟨n, x, e1, e2, e3, e4⟩ := r2
  have : j = n := by omega
  subst this
  refine ⟨_, hred _ rfl, upd_map hw h.lt g1, h.lt, m.set j (k, v), c, by simp [AH.upd, encS, List.map_set], ?_, fun y => by rw [lkS_set e2 g2, g3]⟩
  rw [List.map_set]
  have : (m.map (·.1)).set j k = m.map (·.1) := by
   apply List.ext_getElem?
   intro i
   rw [List.getElem?_set]
   split
   ·rename_i hij; subst hij; simp [e2]; have := (List.getElem?_eq_some_iff.1 e2).1; omega
   ·rfl
  show (List.set (m.map (·.1)) j k).Nodup
  rw [this]; exact g2
theorem push_mapS (hw : WF H) : Ext H (H.push (.map [] 0)) ∧ Ms ki enc (H.push (.map [] 0)) H.next (fun _ => none) :=
 ⟨push_ext hw _ (fun _ _ _ e => by cases e), Nat.lt_succ_self _, [], 0, AH.push_get _ _, by simp, fun _ => rfl⟩
section seq
variable {ops : Array Oper} {K : AAct → AH → Prop} {α : AAct} {o : Oper} {rest : List Oper}
theorem s_ms (ki : IntKind) (enc : E → List Value) (hw : WF H) (h : newQ P ops o α = some (.map [] 0, fun b => .map (some b)))
  (k : ∀ b H', Ext H H' → Inn [] H [b] → Ms ki enc H' b (fun _ => none) → wpSeq P ops K rest (α.put o.dst (.map (some b))) H') : wpSeq P ops K (o :: rest) α H :=
 s_n _ _ (newQ_spec h).1 (newQ_spec h).2.1 (newQ_spec h).2.2 (k H.next _ (push_mapS (ki := ki) (enc := enc) hw).1 (.one (.inr rfl)) (push_mapS hw).2)
end seq
def recvO (P : Program) (ρ : Operand → Value) : Op → Option (FuncId × TypeId × Addr × Array Value)
 | .call { callee := .invoke r name, args, argTypes := _ } => match ρ r with
  | .iface t (.pointer (some a)) => match aMethodL P t name with
   | some (g, e) => if canEnter P g then some (g, e, a, args.map ρ) else none
   | none => none
  | _ => none
 | _ => none
def recvQ (P : Program) (ops : Array Oper) (o : Oper) (α : AAct) : Option (FuncId × TypeId × Addr × Array Value) :=
 if Region.wanted o (aYield ops α) = true then match cls o.op with
  | .call => match aCallee P (aEval α) o.op with
   | none => recvO P (aEval α) o.op
   | some _ => none
  | _ => none
 else none
theorem recvO_L {ρ : Operand → Value} {op : Op} {g : FuncId} {e : TypeId} {a : Addr} {as : Array Value} {v : Value} (h : recvO P ρ op = some (g, e, a, as)) (hl : aLoad P e (.pointer (some a)) H = some v) : aCalleeL P ρ H op = some (g, #[v] ++ as) := by
 unfold recvO at h
 split at h
 ·split at h
  ·split at h
   ·split at h
    ·cases h
     rename_i hm hc
     unfold aCalleeL
     simp only [*, if_true]
    ·cases h
   ·cases h
  ·cases h
 ·cases h
theorem recvQ_spec {ops : Array Oper} {o : Oper} {α : AAct} {x : FuncId × TypeId × Addr × Array Value} (h : recvQ P ops o α = some x) : Region.wanted o (aYield ops α) = true ∧ cls o.op = .call ∧ aCallee P (aEval α) o.op = none ∧ recvO P (aEval α) o.op = some x := by
 unfold recvQ at h
 split at h
 ·rename_i hg
  split at h
  ·rename_i hc
   split at h
   ·rename_i hn; exact ⟨hg, hc, hn, h⟩
   ·cases h
  ·cases h
 ·cases h
section seq
variable {ops : Array Oper} {K : AAct → AH → Prop} {α : AAct} {o : Oper} {rest : List Oper}
theorem s_cl (f : FuncId) (e : TypeId) (a : Addr) (as : Array Value) (v : Value) (args : Array Value) (hargs : #[v] ++ as = args) {K' : Value → AH → Prop} (h : recvQ P ops o α = some (f, e, a, as)) (hl : aLoad P e (.pointer (some a)) H = some v) (hf : ACalls P f args H K')
  (k : ∀ v H', K' v H' → wpSeq P ops K rest (α.put o.dst v) H') : wpSeq P ops K (o :: rest) α H := by
 subst hargs
 obtain ⟨h1, h2, h3, h4⟩ := recvQ_spec h
 simp only [wpSeq, h1, if_true]
 exact .inl (by simp only [wpOne, h2, h3, recvO_L h4 hl]; exact hf.mono k)
end seq
section draw
variable {ops : Array Oper} {K : AAct → AH → Prop} {α : AAct} {tbl : List (List Nat)} {i : Nat} {rest : List Nat} {fl : List (Nat × AAct × Value)}
end draw
end Go.Vd
