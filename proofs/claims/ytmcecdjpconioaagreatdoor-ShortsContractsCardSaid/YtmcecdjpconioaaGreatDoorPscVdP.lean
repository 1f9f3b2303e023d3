/- Steps of a walk over the abstract heap. -/
import Derived.Test.YtmcecdjpconioaaGreatDoorPscVdO
set_option linter.unusedVariables false
set_option linter.unusedSimpArgs false
namespace Go.Vd
set_option linter.unusedSectionVars false
variable [Pins]
variable {P : Program} {N : Nat} {ops : Array Oper} {K : AAct → AH → Prop} {Q : Exit → AAct → AH → Prop} {α : AAct} {H : AH}
theorem Zlq {x y : Code} (h : ∀ K : AAct → AH → Prop, (∀ α H, aWp P N y Q α H → K α H) → aWp P N x (Zds K Q) α H) : aWp P N (.seq x y) Q α H := h _ fun _ _ h => h
theorem Zg (h : Q .normal α H) : aWp P N .skip Q α H := h
theorem Zh (h : Q .ret α H) : aWp P N .ret Q α H := h
theorem ZH {id : Nat} (h : Q (.exit id) α H) : aWp P N (.exit id) Q α H := h
theorem Zl {id : Nat} {c : Code} (h : aWp P N c (Zeo id Q) α H) : aWp P N (.block id c) Q α H := h
theorem ZmR {id : Nat} {l : List Oper} (hok : ZeV N l = true) (h : Zp P l.toArray (Q .normal) l α H) : aWp P N (.region id l.toArray false) Q α H := ⟨hok, h⟩
theorem ZR {id : Nat} {l : List Oper} (ord : List Nat) (hok : Zgt N l.toArray ord = true) (h : Zq P l.toArray (Zcl l) (Q .normal) ord [] α H) : aWp P N (.region id l.toArray true) Q α H := ⟨ord, hok, h⟩
theorem Zjt {c : Operand} {x y : Code} (b : Bool) (hb : ZW α c = .bool b) (hok : ZdO c = true) (ht : b = true → aWp P N x Q α H) (hf : b = false → aWp P N y Q α H) : aWp P N (.cond c x y) Q α H := ⟨hok, b, hb, ht, hf⟩
theorem ZgX {c : Operand} {x y : Code} (p : Prop) [Decidable p] (hb : ZW α c = .bool (decide p)) (hok : ZdO c = true) (ht : p → aWp P N x Q α H) (hf : ¬ p → aWp P N y Q α H) : aWp P N (.cond c x y) Q α H :=
 ⟨hok, decide p, hb, fun h => ht (of_decide_eq_true h), fun h => hf (of_decide_eq_false h)⟩
theorem Zmv (c : Code) : ∀ {Q Q' : Exit → AAct → AH → Prop} {α : AAct} {H : AH}, aWp P N c Q α H → (∀ e α H, Q e α H → Q' e α H) → aWp P N c Q' α H := by
 have thn : ∀ {K K' : AAct → AH → Prop} {Q Q' : Exit → AAct → AH → Prop}, (∀ α H, K α H → K' α H) → (∀ e α H, Q e α H → Q' e α H) → ∀ e α H, Zds K Q e α H → Zds K' Q' e α H := by
  intro K K' Q Q' hk hq e α H h
  cases e <;> first | exact hk _ _ h | exact hq _ _ _ h
 induction c with
 | skip => intro Q Q' α H h hq; exact hq _ _ _ h
 | label l => intro Q Q' α H h hq; exact hq _ _ _ h
 | exit id => intro Q Q' α H h hq; exact hq _ _ _ h
 | ret => intro Q Q' α H h hq; exact hq _ _ _ h
 | seq x y ix iy => intro Q Q' α H h hq; exact ix h (thn (fun _ _ h => iy h hq) hq)
 | cond c x y ix iy =>
  intro Q Q' α H h hq
  obtain ⟨h1, b, h2, h3, h4⟩ := h
  exact ⟨h1, b, h2, fun hb => ix (h3 hb) hq, fun hb => iy (h4 hb) hq⟩
 | block id c ic =>
  intro Q Q' α H h hq
  refine ic h fun e α H h => ?_
  cases e with
  | exit id' =>
   simp only [Zeo] at h ⊢
   split at h
   ·rename_i hid; rw [if_pos hid]; exact hq _ _ _ h
   ·rename_i hid; rw [if_neg hid]; exact hq _ _ _ h
  | _ => exact hq _ _ _ h
 | loop c ic =>
  intro Q Q' α H h hq R hR
  exact h R fun α H hs => hR α H (ic hs (thn (fun _ _ h => h) hq))
 | region id ops d =>
  intro Q Q' α H h hq
  cases d with
  | false =>
   refine ⟨h.1, ?_⟩
   have : ∀ (l : List Oper) (α : AAct) (H : AH), Zp P ops (Q .normal) l α H → Zp P ops (Q' .normal) l α H := by
    intro l
    induction l with
    | nil => intro α H h; exact hq _ _ _ h
    | cons o l ih =>
     intro α H h
     simp only [Zp] at h ⊢
     split at h
     ·rename_i hw; rw [if_pos hw]; exact Zj0 h fun v H' h => ih _ _ h
     ·rename_i hw; rw [if_neg hw]; exact ih _ _ h
   exact this _ _ _ h.2
  | true =>
   obtain ⟨ord, h1, h2⟩ := h
   refine ⟨ord, h1, ?_⟩
   have : ∀ (l : List Nat) (fl : List (Nat × AAct × Value)) (α : AAct) (H : AH), Zq P ops (Zcl ops.toList) (Q .normal) l fl α H → Zq P ops (Zcl ops.toList) (Q' .normal) l fl α H := by
    intro l
    induction l with
    | nil => intro fl α H h; exact hq _ _ _ h
    | cons i l ih =>
     intro fl α H h
     simp only [Zq] at h ⊢
     split at h
     ·exact h
     ·split at h
      ·rename_i hw; rw [if_pos hw]; exact ZhW h fun v H' h => ⟨h.1, ih _ _ _ h.2⟩
      ·rename_i hw; rw [if_neg hw]; exact ih _ _ _ h
   exact this _ _ _ _ h2
 | rangeFunc g ps assign body _ _ =>
  intro Q Q' α H h hq
  obtain ⟨h1, h2, gf, lb, h3, h4, h5⟩ := h
  exact ⟨h1, h2, gf, lb, h3, h4, fun p1 l hy => @ACalls.mono p1 _ _ _ _ _ _ (h5 p1 l hy) fun _ H' h => hq _ _ _ h⟩
 | _ => intro Q Q' α H h _; exact h
def ZbM (P : Program) (ops : Array Oper) (o : Oper) (α : AAct) (H : AH) : Option Value :=
 if Region.wanted o (ZX ops α) = true then match cls o.op with
  | .quiet => Zas P (ZW α) H o.op
  | _ => none
 else none
theorem Zer {ops : Array Oper} {o : Oper} {α : AAct} {H : AH} {v : Value} (h : ZbM P ops o α H = some v) : Region.wanted o (ZX ops α) = true ∧ cls o.op = .quiet ∧ Zas P (ZW α) H o.op = some v := by
 unfold ZbM at h
 split at h
 ·rename_i hg
  split at h
  ·rename_i hc; exact ⟨hg, hc, h⟩
  ·cases h
 ·cases h
section seq
variable {o : Oper} {rest : List Oper}
theorem Za (h : K α H) : Zp P ops K [] α H := h
theorem s_q (v : Value) (hg : Region.wanted o (ZX ops α) = true) (hc : cls o.op = .quiet) (h : Zas P (ZW α) H o.op = some v) (k : Zp P ops K rest (α.put o.dst v) H) : Zp P ops K (o :: rest) α H := by
 simp only [Zp, hg, if_true]; exact .inl (by simp only [Zcj, hc, h]; exact k)
theorem Zgo (v : Value) (h : ZbM P ops o α H = some v) (k : Zp P ops K rest (α.put o.dst v) H) : Zp P ops K (o :: rest) α H :=
 s_q v (Zer h).1 (Zer h).2.1 (Zer h).2.2 k
theorem s_n (ob : AObj) (f : Nat → Value) (hg : Region.wanted o (ZX ops α) = true) (hc : cls o.op = .new) (h : ZfW P (ZW α) o.op = some (ob, f)) (k : Zp P ops K rest (α.put o.dst (f H.next)) (H.push ob)) : Zp P ops K (o :: rest) α H := by
 simp only [Zp, hg, if_true]; exact .inl (by simp only [Zcj, hc, h]; exact k)
theorem s_e (v : Value) (H' : AH) (hg : Region.wanted o (ZX ops α) = true) (hc : cls o.op = .eff) (h : Zhg P (ZW α) H o.op = some (v, H')) (k : Zp P ops K rest (α.put o.dst v) H') : Zp P ops K (o :: rest) α H := by
 simp only [Zp, hg, if_true]; exact .inl (by simp only [Zcj, hc, h]; exact k)
theorem s_c (f : FuncId) (args : Array Value) {K' : Value → AH → Prop} (hg : Region.wanted o (ZX ops α) = true) (hc : cls o.op = .call) (h : ZdV P (ZW α) o.op = some (f, args)) (hf : ACalls P f args H K')
  (k : ∀ v H', K' v H' → Zp P ops K rest (α.put o.dst v) H') : Zp P ops K (o :: rest) α H := by
 simp only [Zp, hg, if_true]; exact .inl (by simp only [Zcj, hc, h]; exact hf.mono k)
theorem s_no (hg : Region.wanted o (ZX ops α) = false) (k : Zp P ops K rest (α.put o.dst undef) H) : Zp P ops K (o :: rest) α H := by
 simp only [Zp, hg, Bool.false_eq_true, if_false]; exact k
end seq
section draw
variable {tbl : List (List Nat)} {i : Nat} {rest : List Nat} {fl : List (Nat × AAct × Value)}
theorem ZK (h : K α H) : Zq P ops tbl K [] fl α H := h
theorem d_q (o : Oper) (v : Value) (ho : ops[i]? = some o) (hg : Region.wanted o (ZX ops α) = true) (hc : cls o.op = .quiet) (h : Zas P (ZW α) H o.op = some v)
  (hfl : (ZdK P o.op || !ZfC ops tbl i rest) = true) (k : Zq P ops tbl K rest fl (α.put o.dst v) H) : Zq P ops tbl K (i :: rest) fl α H := by
 simp only [Zq, ho, hg, if_true, Zcj, hc, h]
 refine ⟨fun he => ?_, ?_⟩
 ·simp [Zdr, hc] at he
 ·rw [if_neg]; exact k
  rintro ⟨_, h2, h3⟩
  rw [h2, h3] at hfl; cases hfl
theorem d_qf (o : Oper) (v : Value) (ho : ops[i]? = some o) (hg : Region.wanted o (ZX ops α) = true) (hc : cls o.op = .quiet) (h : Zas P (ZW α) H o.op = some v)
  (hfl : (!ZdK P o.op && ZfC ops tbl i rest) = true) (k : Zq P ops tbl K rest ((i, α, v) :: fl) (α.put o.dst v) H) : Zq P ops tbl K (i :: rest) fl α H := by
 simp only [Zq, ho, hg, if_true, Zcj, hc, h]
 refine ⟨fun he => ?_, ?_⟩
 ·simp [Zdr, hc] at he
 ·simp only [Bool.and_eq_true, Bool.not_eq_true'] at hfl
  rw [if_pos ⟨trivial, hfl.1, hfl.2⟩]; exact k
theorem d_n (o : Oper) (ob : AObj) (f : Nat → Value) (ho : ops[i]? = some o) (hg : Region.wanted o (ZX ops α) = true) (hc : cls o.op = .new) (h : ZfW P (ZW α) o.op = some (ob, f))
  (k : Zq P ops tbl K rest fl (α.put o.dst (f H.next)) (H.push ob)) : Zq P ops tbl K (i :: rest) fl α H := by
 simp only [Zq, ho, hg, if_true, Zcj, hc, h]
 refine ⟨fun he => ?_, ?_⟩
 ·simp [Zdr, hc] at he
 ·rw [if_neg (by simp)]; exact k
theorem d_e (o : Oper) (v : Value) (H' : AH) (ho : ops[i]? = some o) (hg : Region.wanted o (ZX ops α) = true) (hc : cls o.op = .eff) (h : Zhg P (ZW α) H o.op = some (v, H')) (hst : ZcL P ops tbl i H' fl)
  (k : Zq P ops tbl K rest fl (α.put o.dst v) H') : Zq P ops tbl K (i :: rest) fl α H := by
 simp only [Zq, ho, hg, if_true, Zcj, hc, h]
 exact ⟨fun _ => hst, by rw [if_neg (by simp)]; exact k⟩
theorem d_c (o : Oper) (f : FuncId) (args : Array Value) {K' : Value → AH → Prop} (ho : ops[i]? = some o) (hg : Region.wanted o (ZX ops α) = true) (hc : cls o.op = .call) (h : ZdV P (ZW α) o.op = some (f, args)) (hf : ACalls P f args H K')
  (k : ∀ v H', K' v H' → ZcL P ops tbl i H' fl ∧ Zq P ops tbl K rest fl (α.put o.dst v) H') : Zq P ops tbl K (i :: rest) fl α H := by
 simp only [Zq, ho, hg, if_true, Zcj, hc, h]
 exact hf.mono fun v H' hk => ⟨fun _ => (k v H' hk).1, by rw [if_neg (by simp)]; exact (k v H' hk).2⟩
theorem d_no (o : Oper) (ho : ops[i]? = some o) (hg : Region.wanted o (ZX ops α) = false) (k : Zq P ops tbl K rest fl (α.put o.dst undef) H) : Zq P ops tbl K (i :: rest) fl α H := by
 simp only [Zq, ho, hg, Bool.false_eq_true, if_false]; exact k
end draw
end Go.Vd
