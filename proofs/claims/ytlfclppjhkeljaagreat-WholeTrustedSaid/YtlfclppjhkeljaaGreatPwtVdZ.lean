/- Maps from numbers to numbers. -/
import Derived.Test.YtlfclppjhkeljaaGreatPwtVdX
namespace Go.Vd
set_option linter.unusedSectionVars false
variable [Pins]
variable {P : Program} {H H' : AH}
def ZeA (k e : IntKind) (p : Int × Int) : Value × Value := (.int k p.1, .int e p.2)
def lk : List (Int × Int) → Int → Option Int
 | [], _ => none
 | p :: l, k => if k = p.1 then some p.2 else lk l k
structure Mp (ki ei : IntKind) (H : AH) (b : Nat) (f : Int → Option Int) : Prop where
 lt : b < H.next
 is : ∃ m clock, H.get b = some (.map (m.map (ZeA ki ei)) clock) ∧ (m.map (·.1)).Nodup ∧ ∀ k, lk m k = f k
variable {ki ei : IntKind} {b : Nat} {f : Int → Option Int}
theorem Mp.ext (h : Mp ki ei H b f) (k : Ext H H') : Mp ki ei H' b f := by
 obtain ⟨m, c, h1, h2⟩ := h.is
 exact ⟨Nat.lt_of_lt_of_le h.lt k.next, m, c, (k.same b h.lt).trans h1, h2⟩
def ZgC (P : Program) (t : TypeId) (ki ei : IntKind) : Bool :=
 match P.underlying t with
 | some (.map kt et) => (match P.underlying kt with | some (.int k) => decide (k = ki) | _ => false) && (match (P.info? et).bind (·.zero) with | some (.int e 0) => decide (e = ei) | _ => false)
 | _ => false
theorem Zfj {t : TypeId} (h : ZgC P t ki ei = true) : ∃ kt et, P.underlying t = some (.map kt et) ∧ P.underlying kt = some (.int ki) ∧ (P.info? et).bind (·.zero) = some (.int ei 0) := by
 unfold ZgC at h
 split at h
 ·rename_i kt et hu
  rw [Bool.and_eq_true] at h
  refine ⟨kt, et, hu, ?_, ?_⟩
  ·have := h.1
   split at this
   ·rename_i k hk; rw [hk, of_decide_eq_true this]
   ·cases this
  ·have := h.2
   split at this
   ·rename_i e he; rw [he, of_decide_eq_true this]
   ·cases this
 ·cases h
theorem ZfF (m : List (Int × Int)) (k : Int) (i : Nat) : ∃ r, Zdg (.int ki) (.int ki k) (m.map (ZeA ki ei)) i = some r ∧ (match r with
  | none => lk m k = none
  | some (j, v) => ∃ n x, j = i + n ∧ m[n]? = some (k, x) ∧ v = .int ei x ∧ lk m k = some x) := by
 induction m generalizing i with
 | nil => exact ⟨none, rfl, rfl⟩
 | cons p l ih =>
  simp only [List.map_cons, Zdg, ZeA, Instr.sameNow, if_true]
  by_cases hk : k = p.1
  ·refine ⟨some (i, .int ei p.2), ?_, 0, p.2, rfl, ?_, rfl, ?_⟩
   ·rw [show (k == p.1) = true from by simp [hk]]
   ·simp [hk]
   ·simp [lk, hk]
  ·rw [show (k == p.1) = false from by simp [hk]]
   dsimp only
   obtain ⟨r, h1, h2⟩ := ih (i + 1)
   refine ⟨r, h1, ?_⟩
   cases r with
   | none => simp only [lk, if_neg hk]; exact h2
   | some q =>
    obtain ⟨j, v⟩ := q
    obtain ⟨n, x, g1, g2, g3, g4⟩ := h2
    exact ⟨n + 1, x, by omega, by simpa using g2, g3, by simp only [lk, if_neg hk]; exact g4⟩
theorem Zgn {kt : TypeId} {k : IntKind} (h : P.underlying kt = some (.int k)) : ZeM P kt = true := by unfold ZeM; rw [h]
theorem Mp.look (h : Mp ki ei H b f) {t : TypeId} (ht : ZgC P t ki ei = true) (k : Int) : ZdF P t (.map (some b)) (.int ki k) false H = some (.int ei ((f k).getD 0)) := by
 obtain ⟨kt, et, h1, h2, h3⟩ := Zfj ht
 obtain ⟨m, c, g1, g2, g3⟩ := h.is
 obtain ⟨r, r1, r2⟩ := ZfF (ki := ki) (ei := ei) m k 0
 unfold ZdF
 rw [h1]
 simp only [h2, h3, Zgn h2, g1]
 rw [if_pos (by rfl)]
 simp only [r1]
 rw [← g3]
 cases r with
 | none => rw [r2]; rfl
 | some q =>
  obtain ⟨j, v⟩ := q
  obtain ⟨n, x, _, _, e3, e4⟩ := r2
  rw [e4, e3]; rfl
theorem ZfW (hw : WF H) (hlt : b < H.next) {es es' : List (Value × Value)} {c c' : Nat} (hg : H.get b = some (.map es c)) : Fr b H (H.upd b (.map es' c')) := by
 refine ⟨⟨fun x hx => ?_, fun x => ?_⟩, Nat.le_refl _, fun x hx ht => ?_⟩
 ·have hx' : H.next ≤ x := hx
  have : x ≠ b := fun e => by omega
  simp only [AH.upd, if_neg this]; exact hw.fresh x hx'
 ·by_cases hx : x = b
  ·subst hx; simp [ZR, AH.upd]
  ·have : ZR (H.upd b (.map es' c')) x = ZR H x := by unfold ZR AH.upd; dsimp only; rw [if_neg hx]
   rw [this]; exact hw.tok x
 ·have : x ≠ b := fun e => ht (by rw [e]; simp [ZR, hg])
  simp only [AH.upd, if_neg this]
theorem ZlK {m : List (Int × Int)} {n : Nat} {k x v : Int} (hn : m[n]? = some (k, x)) (hd : (m.map (·.1)).Nodup) (y : Int) : lk (m.set n (k, v)) y = if y = k then some v else lk m y := by
 induction m generalizing n with
 | nil => simp at hn
 | cons p l ih =>
  cases n with
  | zero =>
   simp at hn; subst hn
   simp only [List.set_cons_zero, lk]
   by_cases hy : y = k <;> simp [hy]
  | succ n =>
   simp only [List.map_cons, List.nodup_cons] at hd
   simp only [List.getElem?_cons_succ] at hn
   simp only [List.set_cons_succ, lk]
   have hmem : k ∈ l.map (·.1) := List.mem_map.2 ⟨(k, x), List.mem_of_getElem? hn, rfl⟩
   by_cases hy : y = p.1
   ·rw [if_pos hy, if_neg (fun e => hd.1 (by rw [← hy, e]; exact hmem)), if_pos hy]
   ·rw [if_neg hy, if_neg hy]; exact ih hn hd.2
theorem Zlq {m : List (Int × Int)} {k v : Int} (hk : lk m k = none) (y : Int) : lk (m ++ [(k, v)]) y = if y = k then some v else lk m y := by
 induction m with
 | nil => simp [lk]
 | cons p l ih =>
  simp only [lk] at hk
  split at hk
  ·cases hk
  ·rename_i hkp
   simp only [List.cons_append, lk, ih hk]
   by_cases hy : y = p.1
   ·rw [if_pos hy, if_neg (fun e => hkp (by rw [← e, hy])), if_pos hy]
   ·rw [if_neg hy, if_neg hy]
theorem ZiZ {m : List (Int × Int)} {k : Int} : lk m k = none ↔ k ∉ m.map (·.1) := by
 induction m with
 | nil => simp [lk]
 | cons p l ih =>
  simp only [lk, List.map_cons, List.mem_cons, not_or]
  by_cases hk : k = p.1
  ·simp [hk]
  ·simp [hk, ih]
theorem ZlE {m : List (Int × Int)} {n : Nat} {k x : Int} (hn : m[n]? = some (k, x)) (hd : (m.map (·.1)).Nodup) (y : Int) : lk (m.eraseIdx n) y = if y = k then none else lk m y := by
 induction m generalizing n with
 | nil => simp at hn
 | cons p l ih =>
  simp only [List.map_cons, List.nodup_cons] at hd
  cases n with
  | zero =>
   simp at hn; subst hn
   simp only [List.eraseIdx_cons_zero, lk]
   by_cases hy : y = k
   ·rw [if_pos hy, hy]; exact ZiZ.2 hd.1
   ·rw [if_neg hy, if_neg hy]
  | succ n =>
   simp only [List.getElem?_cons_succ] at hn
   simp only [List.eraseIdx_cons_succ, lk]
   have hmem : k ∈ l.map (·.1) := List.mem_map.2 ⟨(k, x), List.mem_of_getElem? hn, rfl⟩
   by_cases hy : y = p.1
   ·rw [if_pos hy, if_neg (fun e => hd.1 (by rw [← hy, e]; exact hmem)), if_pos hy]
   ·rw [if_neg hy, if_neg hy]; exact ih hn hd.2
theorem Zhn {α β : Type} (g : α → β) : ∀ (l : List α) (n : Nat), (l.map g).eraseIdx n = (l.eraseIdx n).map g := by
 intro l
 induction l with
 | nil => intro n; rfl
 | cons x l ih =>
  intro n
  cases n with
  | zero => rfl
  | succ n => simp only [List.map_cons, List.eraseIdx_cons_succ, ih]
theorem Mp.put (hw : WF H) (h : Mp ki ei H b f) {t : TypeId} (ht : ZgC P t ki ei = true) (k v : Int) :
  ∃ H', Zds P t (.map (some b)) (.int ki k) (.int ei v) H = some H' ∧ Fr b H H' ∧ Mp ki ei H' b (fun x => if x = k then some v else f x) := by
 obtain ⟨kt, et, h1, h2, h3⟩ := Zfj ht
 obtain ⟨m, c, g1, g2, g3⟩ := h.is
 obtain ⟨r, r1, r2⟩ := ZfF (ki := ki) (ei := ei) m k 0
 have hred : ∀ X, (match Zdg (.int ki) (.int ki k) (m.map (ZeA ki ei)) 0 with
    | some (some (i, _)) => some (H.upd b (.map ((m.map (ZeA ki ei)).set i (.int ki k, .int ei v)) c))
    | some none => some (H.upd b (.map (m.map (ZeA ki ei) ++ [(.int ki k, .int ei v)]) (c + 1)))
    | none => none) = some X → Zds P t (.map (some b)) (.int ki k) (.int ei v) H = some X := by
  intro X hX
  unfold Zds
  rw [h1]
  simp only [h2, g1, Zgn h2]
  rw [if_pos (by rfl)]
  exact hX
 rw [r1] at hred
 cases r with
 | none =>
  refine ⟨_, hred _ rfl, ZfW hw h.lt g1, h.lt, m ++ [(k, v)], c + 1, by simp [AH.upd, ZeA], ?_, fun y => by rw [Zlq r2, g3]⟩
  rw [List.map_append, List.nodup_append]
  refine ⟨g2, by simp, fun x hx y hy => ?_⟩
  simp at hy; subst hy
  rintro rfl
  exact ZiZ.1 r2 hx
 | some q =>
  obtain ⟨j, u⟩ := q
  obtain ⟨n, x, e1, e2, e3, e4⟩ := r2
  have : j = n := by omega
  subst this
  refine ⟨_, hred _ rfl, ZfW hw h.lt g1, h.lt, m.set j (k, v), c, by simp [AH.upd, ZeA, List.map_set], ?_, fun y => by rw [ZlK e2 g2, g3]⟩
  rw [List.map_set]
  have : (m.map (·.1)).set j k = m.map (·.1) := by
   apply List.ext_getElem?
   intro i
   rw [List.getElem?_set]
   split
   ·rename_i hij; subst hij; simp [e2]; have := (List.getElem?_eq_some_iff.1 e2).1; omega
   ·rfl
  show (List.set (m.map (·.1)) j k).Nodup
  rw [this]; exact g2
theorem Mp.del (hw : WF H) (h : Mp ki ei H b f) {t : TypeId} (ht : ZgC P t ki ei = true) {at_ : Array TypeId} (ha : at_[0]? = some t) (k : Int) :
  ∃ H', Zd3 P at_ (.map (some b)) (.int ki k) H = some H' ∧ Fr b H H' ∧ Mp ki ei H' b (fun x => if x = k then none else f x) := by
 obtain ⟨kt, et, h1, h2, h3⟩ := Zfj ht
 obtain ⟨m, c, g1, g2, g3⟩ := h.is
 obtain ⟨r, r1, r2⟩ := ZfF (ki := ki) (ei := ei) m k 0
 have hred : ∀ X, (match Zdg (.int ki) (.int ki k) (m.map (ZeA ki ei)) 0 with
    | some (some (i, _)) => some (H.upd b (.map ((m.map (ZeA ki ei)).eraseIdx i) c))
    | some none => some (H.upd b (.map (m.map (ZeA ki ei)) c))
    | none => none) = some X → Zd3 P at_ (.map (some b)) (.int ki k) H = some X := by
  intro X hX
  unfold Zd3
  rw [ha]
  simp only [Option.bind_some, h1, h2, g1, Zgn h2, if_true]
  exact hX
 rw [r1] at hred
 cases r with
 | none =>
  refine ⟨_, hred _ rfl, ZfW hw h.lt g1, h.lt, m, c, by simp [AH.upd], g2, fun y => ?_⟩
  by_cases hy : y = k
  ·rw [if_pos hy, hy]; exact r2
  ·rw [if_neg hy]; exact g3 y
 | some q =>
  obtain ⟨j, u⟩ := q
  obtain ⟨n, x, e1, e2, e3, e4⟩ := r2
  have : j = n := by omega
  subst this
  refine ⟨_, hred _ rfl, ZfW hw h.lt g1, h.lt, m.eraseIdx j, c, by simp [AH.upd, Zhn], ?_, fun y => by rw [ZlE e2 g2, g3]⟩
  rw [← Zhn]
  exact g2.sublist (List.eraseIdx_sublist _ _)
theorem Zih (hw : WF H) : Ext H (H.push (.map [] 0)) ∧ Mp ki ei (H.push (.map [] 0)) H.next (fun _ => none) :=
 ⟨Zc6 hw _ (fun _ _ _ e => by cases e), Nat.lt_succ_self _, [], 0, AH.push_get _ _, by simp, fun _ => rfl⟩
section seq
variable {ops : Array Oper} {K : AAct → AH → Prop} {α : AAct} {o : Oper} {rest : List Oper}
theorem ZlQ (ki ei : IntKind) (hw : WF H) (h : Zc3 P ops o α = some (.map [] 0, fun b => .map (some b)))
  (k : ∀ b H', Ext H H' → b = H.next → Mp ki ei H' b (fun _ => none) → Zs P ops K rest (α.put o.dst (.map (some b))) H') : Zs P ops K (o :: rest) α H :=
 s_n _ _ (ZaW h).1 (ZaW h).2.1 (ZaW h).2.2 (k H.next _ (Zih (ki := ki) (ei := ei) hw).1 rfl (Zih hw).2)
end seq
structure SlF {E : Type} (enc : E → List Value) (sz : Nat) (H : AH) (s : Value) (xs : List E) (φ : Nat) : Prop where
 sl : Sl enc sz H s xs
 tok : ∀ b o n c, s = .slice (some ⟨b, o, none⟩) n c → b < H.next ∧ ZR H b = φ
section
variable {E : Type} {enc : E → List Value} {sz : Nat} {s : Value} {xs : List E} {φ ψ : Nat}
theorem Own.slF (h : Own enc sz H s xs φ) : SlF enc sz H s xs φ := by
 refine ⟨h.sl, fun b o n c e => ?_⟩
 rcases h.is with ⟨e1, _⟩ | ⟨b', c', k, cs, e1, h2, h3, h4, _⟩
 ·rw [e1] at e; cases e
 ·rw [e1] at e; cases e
  refine ⟨h2, ?_⟩
  unfold ZR; rw [h3]
  rcases h4 with ⟨rfl, rfl⟩ | rfl <;> rfl
end
end Go.Vd
