/- Steps for walks that a program prints. -/
import Derived.Test.YtnepbkkdhalbiaaPsbVdR
import Derived.Test.YtnepbkkdhalbiaaPsbVdU
import Derived.KernelRfl
import Derived.Laws.BitsLemmas
import Derived.Laws.Bits64
namespace Go.Vd
set_option linter.unusedSectionVars false
variable [Pins]
variable {P : Program} {N : Nat} {ops : Array Oper} {K : AAct → AH → Prop} {Q : Exit → AAct → AH → Prop} {α : AAct} {H : AH}
def ZgK : List (Nat × Value) → AAct → AAct
 | [], α => α
 | (t, v) :: l, α => (ZgK l α).put (some t) v
def Has (α : AAct) : List (Nat × Value) → Prop
 | [] => True
 | (t, v) :: l => α t = v ∧ Has α l
theorem ZlM {α : AAct} {t : Nat} {v : Value} (h : α t = v) : α.put (some t) v = α := by
 funext i
 simp only [AAct.put]
 by_cases hi : i = t
 ·rw [if_pos hi, hi, h]
 ·rw [if_neg hi]
theorem ZiW {α : AAct} : ∀ {l : List (Nat × Value)}, Has α l → ZgK l α = α := by
 intro l
 induction l with
 | nil => intro _; rfl
 | cons p l ih =>
  intro h
  obtain ⟨t, v⟩ := p
  rw [ZgK, ih h.2]; exact ZlM h.1
def Zdy (P : Program) (t : TypeId) : Bool := match P.underlying t with
 | some (.slice _) => true
 | _ => false
theorem Zdj {t : TypeId} (h : Zdy P t = true) : ∃ e, P.underlying t = some (.slice e) := by
 unfold Zdy at h
 split at h
 ·rename_i e he; exact ⟨e, he⟩
 ·cases h
def Ze7 (P : Program) (t : TypeId) : Option (Nat × Nat) := (slT P t).map fun x => (x.1, x.2.1)
theorem Zdi {t : TypeId} {n m : Nat} (h : Ze7 P t = some (n, m)) : ∃ z, slT P t = some (n, m, z) := by
 unfold Ze7 at h
 cases hs : slT P t with
 | none => rw [hs] at h; cases h
 | some x => obtain ⟨a, b, z⟩ := x; rw [hs] at h; cases h; exact ⟨z, rfl⟩
def ZbF (P : Program) (t : TypeId) : Option Nat := (Ze7 P t).map (·.1)
theorem ZaI {t : TypeId} {n : Nat} (h : ZbF P t = some n) : ∃ m z, slT P t = some (n, m, z) := by
 unfold ZbF at h
 cases hs : Ze7 P t with
 | none => rw [hs] at h; cases h
 | some x => obtain ⟨a, b⟩ := x; rw [hs] at h; cases h; obtain ⟨z, hz⟩ := Zdi hs; exact ⟨b, z, hz⟩
section
variable {E : Type} {enc : E → List Value} {sz : Nat} {s : Value} {xs : List E}
theorem Sl.lenb {t : TypeId} (h : Sl enc sz H s xs) (hu : Zdy P t = true) : Zcn P t s H = some (.int .i64 xs.length) := by
 obtain ⟨e, he⟩ := Zdj hu; exact h.lenq he
theorem Sl.idxb {t : TypeId} {k : IntKind} {i : Int} (h : Sl enc sz H s xs) (ht : ZbF P t = some sz) (h0 : 0 ≤ i) (h1 : i < (xs.length : Int)) : ZaB P t s (.int k i) = some (elp s sz i.toNat 0) := by
 obtain ⟨m, z, hz⟩ := ZaI ht; exact h.idx hz h0 h1
theorem Sl.cutb (h : Sl enc sz H s xs) {t : TypeId} (ht : ZbF P t = some sz) {lo hi : Option Value} {l r : Nat} (e1 : ZX 0 lo = some l) (e2 : ZX xs.length hi = some r) (hl : l ≤ r) (hr : r ≤ xs.length) :
  ∃ s', ZH P t s lo hi none H = some s' ∧ Sl enc sz H s' ((xs.take r).drop l) := by
 obtain ⟨m, z, hz⟩ := ZaI ht; exact h.drop_take hz e1 e2 hl hr
end
theorem ZJ {c : Code} (I : Nat → AAct → AH → Prop) (n0 : Nat) (h0 : I n0 α H)
  (step : ∀ n α H, I n α H → ∀ K : AAct → AH → Prop, (∀ n' α' H', n' < n → I n' α' H' → K α' H') → aWp P N c (ZcZ K Q) α H) : aWp P N (.loop c) Q α H := by
 intro R hR
 have key : ∀ n α H, I n α H → R α H := by
  intro n
  induction n using Nat.strongRecOn with
  | _ n ih =>
   intro α H hI
   exact hR α H (step n α H hI R fun n' α' H' hn hI' => ih n' hn α' H' hI')
 exact key _ α H h0
theorem Zj {K : AAct → AH → Prop} {id : Nat} (h : Q (.exit id) α H) : ZcZ K Q (.exit id) α H := h
theorem ZV {id : Nat} (h : Q .normal α H) : ZdF id Q (.exit id) α H := by simp only [ZdF, if_true]; exact h
theorem ZkH {id id' : Nat} (hn : id' ≠ id) (h : Q (.exit id') α H) : ZdF id Q (.exit id') α H := by simp only [ZdF, if_neg hn]; exact h
theorem Zn {K : AAct → AH → Prop} (h : Q .ret α H) : ZcZ K Q .ret α H := h
theorem Z5 {id : Nat} (h : Q .ret α H) : ZdF id Q .ret α H := h
theorem Zan {fn : Func} {K : Value → AH → Prop} {vs : List Value} (h : Zcd P α H fn.results.toList = some vs) (k : K (Zeu vs) H) : ZdS P fn K .ret α H := by
 simp only [ZdS, h]; exact k
theorem ZeY {fn : Func} {K : Value → AH → Prop} {vs : List Value} (h : Zcd P α H fn.results.toList = some vs) (k : K (Zeu vs) H) : ZdS P fn K .normal α H := by
 simp only [ZdS, h]; exact k
section seq
variable {o : Oper} {rest : List Oper}
theorem Zba (v : Value) {x : Option Value} (h1 : ZbV P ops o α H = x) (h : x = some v) (k : Zm P ops K rest (α.put o.dst v) H) : Zm P ops K (o :: rest) α H :=
 Zhb v (h1.trans h) k
theorem s_b (p : Prop) [Decidable p] (h : ZbV P ops o α H = some (.bool (decide p))) (ht : p → Zm P ops K rest (α.put o.dst (.bool true)) H) (hf : ¬p → Zm P ops K rest (α.put o.dst (.bool false)) H) : Zm P ops K (o :: rest) α H := by
 by_cases hp : p
 ·rw [decide_eq_true hp] at h; exact Zhb _ h (ht hp)
 ·rw [decide_eq_false hp] at h; exact Zhb _ h (hf hp)
theorem s_w {k : IntKind} {x : Int} (y : Int) (h : ZbV P ops o α H = some (.int k (k.wrap x))) (hw : k.wrap x = y) (kk : Zm P ops K rest (α.put o.dst (.int k y)) H) : Zm P ops K (o :: rest) α H := by
 rw [hw] at h; exact Zhb _ h kk
theorem Zmd (hw : WF H) (cs : List Value) (hg : Region.wanted o (ZT ops α) = true) (hc : cls o.op = .new) (h : Ze9 P (ZM α) o.op = some (.row .own cs, Zdg))
  (k : ∀ b H', Ext H H' → b = H.next → Row H' b cs → Zm P ops K rest (α.put o.dst (.pointer (some ⟨b, 0, none⟩))) H') : Zm P ops K (o :: rest) α H :=
 s_n _ _ hg hc h (k H.next _ (Zd7 hw cs).1 rfl (Zd7 hw cs).2)
theorem Sl.cells {E : Type} {enc : E → List Value} {sz b o n c : Nat} {ys : List E} (h : Sl enc sz H (.slice (some ⟨b, o, none⟩) n c) ys) : n = ys.length ∧ H.cells b o (ys.length * sz) = some (ys.flatMap enc) := by
 rcases h.is with ⟨e, _⟩ | ⟨b', o', c', k, cs, e, h2, h3, h4, h5, h6⟩
 ·cases e
 ·cases e
  refine ⟨rfl, ?_⟩
  have hm : ys.length * sz ≤ c * sz := Nat.mul_le_mul_right _ h4
  unfold AH.cells
  rw [h3]
  dsimp only
  rw [if_pos (by omega)]
  congr 1
  have hl := ZaC h.len
  apply List.ext_getElem?
  intro i
  rw [List.getElem?_take]
  by_cases hi : i < ys.length * sz
  ·rw [if_pos hi, List.getElem?_drop]
   have hp := h.pos
   have hq : i / sz < ys.length := Nat.div_lt_of_lt_mul (by rw [Nat.mul_comm]; exact hi)
   have hx : ys[i / sz]? = some ys[i / sz] := by simp [hq]
   have hr := Nat.mod_lt i hp
   have he : i = i / sz * sz + i % sz := (Nat.div_add_mod' i sz).symm
   have g1 := h6 _ _ hx _ hr
   have g2 := ZbA h.len hx hr
   rw [← he] at g2
   rw [g2, ← g1]
   congr 1
   omega
  ·rw [if_neg hi, List.getElem?_eq_none (by omega)]
theorem Ze5 {E : Type} {enc : E → List Value} {ys : List E} (h : ∀ y ∈ ys, Zs (enc y) = true) : Zs (ys.flatMap enc) = true := by
 unfold Zs
 rw [List.all_flatMap]
 exact List.all_eq_true.2 fun y hy => h y hy
theorem ZjK {E : Type} {enc : E → List Value} {sz : Nat} {s t : Value} {xs ys : List E} {φ : Nat} (m : Nat) {at_ : Array TypeId} {t0 t1 : TypeId} (hw : WF H) (h : Own enc sz H s xs φ) (hy : Sl enc sz H t ys) (h1 : ∀ y ∈ ys, Zs (enc y) = true)
  (a0 : at_[0]? = some t0) (a1 : at_[1]? = some t1) (hT' : Ze7 P t0 = some (sz, m)) (hT1' : Zdy P t1 = true) (hm : m ≠ 0) (hcap : ((xs.length + ys.length) + (xs.length + ys.length) / 4 + 512) * m ≤ 2 ^ 48) :
  ∃ s' H' ψ, Zaf P at_ s t H = some (s', H') ∧ Fr φ H H' ∧ Own enc sz H' s' (xs ++ ys) ψ ∧ (ψ = φ ∨ ψ = H.next) := by
 obtain ⟨z, hT⟩ := Zdi hT'
 obtain ⟨e1, hT1⟩ := Zdj hT1'
 obtain ⟨e, i, h2, h3, h4, h5, h6⟩ := Zas hT
 have main := h.append hw (ys := ys) hm hcap hy.len h1
 rcases hy.is with ⟨rfl, rfl⟩ | ⟨b, o, c, k, cs, rfl, _⟩
 ·have : Zaf P at_ s (.slice none 0 0) H = H.append i.size i.bytes s 0 [] := by
   unfold Zaf
   rw [a0, a1]
   simp only [Option.bind_some, h4, hT1]
  rw [this, h5, h6]; exact main
 ·have hc := hy.cells.2
  have : Zaf P at_ s (.slice (some ⟨b, o, none⟩) ys.length c) H = H.append sz m s ys.length (ys.flatMap enc) := by
   unfold Zaf
   rw [a0, a1]
   simp only [Option.bind_some, h4, hT1, h5, hc, Ze5 h1, if_true, h6]
  rw [this]; exact main
end seq
def ZcJ (P : Program) (ops : Array Oper) (tbl : List (List Nat)) (i : Nat) (rest : List Nat) (α : AAct) (H : AH) : Option Value :=
 match ops[i]? with
 | some o => if ZcQ P o.op || !Zeh ops tbl i rest then ZbV P ops o α H else none
 | none => none
def Zag (ops : Array Oper) (i : Nat) : Option Tmp := (ops[i]?).bind (·.dst)
def idle (ops : Array Oper) (i : Nat) (α : AAct) : Bool :=
 match ops[i]? with
 | some o => !Region.wanted o (ZT ops α)
 | none => false
section draw
variable {tbl : List (List Nat)} {i : Nat} {rest : List Nat} {fl : List (Nat × AAct × Value)}
theorem ZcP (v : Value) (h : ZcJ P ops tbl i rest α H = some v) (k : Zp P ops tbl K rest fl (α.put (Zag ops i) v) H) : Zp P ops tbl K (i :: rest) fl α H := by
 unfold ZcJ at h
 cases ho : ops[i]? with
 | none => rw [ho] at h; cases h
 | some o =>
  rw [ho] at h
  dsimp only at h
  split at h
  ·rename_i hf
   have hs := ZdV h
   refine d_q o v ho hs.1 hs.2.1 hs.2.2 hf ?_
   simpa only [Zag, ho, Option.bind_some] using k
  ·cases h
theorem ZdL (v : Value) {x : Option Value} (h1 : ZcJ P ops tbl i rest α H = x) (h : x = some v) (k : Zp P ops tbl K rest fl (α.put (Zag ops i) v) H) : Zp P ops tbl K (i :: rest) fl α H :=
 ZcP v (h1.trans h) k
theorem d_b (p : Prop) [Decidable p] (h : ZcJ P ops tbl i rest α H = some (.bool (decide p))) (ht : p → Zp P ops tbl K rest fl (α.put (Zag ops i) (.bool true)) H)
  (hf : ¬p → Zp P ops tbl K rest fl (α.put (Zag ops i) (.bool false)) H) : Zp P ops tbl K (i :: rest) fl α H := by
 by_cases hp : p
 ·rw [decide_eq_true hp] at h; exact ZcP _ h (ht hp)
 ·rw [decide_eq_false hp] at h; exact ZcP _ h (hf hp)
theorem d_w {k : IntKind} {x : Int} (y : Int) (h : ZcJ P ops tbl i rest α H = some (.int k (k.wrap x))) (hw : k.wrap x = y) (kk : Zp P ops tbl K rest fl (α.put (Zag ops i) (.int k y)) H) : Zp P ops tbl K (i :: rest) fl α H := by
 rw [hw] at h; exact ZcP _ h kk
theorem ZnF (h : idle ops i α = true) (k : Zp P ops tbl K rest fl (α.put (Zag ops i) undef) H) : Zp P ops tbl K (i :: rest) fl α H := by
 unfold idle at h
 cases ho : ops[i]? with
 | none => rw [ho] at h; cases h
 | some o =>
  rw [ho] at h
  refine d_no o ho (by simpa using h) ?_
  simpa only [Zag, ho, Option.bind_some] using k
end draw
theorem Zo {x : Int} (h : -9223372036854775808 ≤ x ∧ x ≤ 9223372036854775807) : IntKind.i64.wrap x = x := by
 rw [IntKind.wrap_i64]; omega
theorem Zdr {x : Int} (h : 0 ≤ x ∧ x ≤ 18446744073709551615) : IntKind.u64.wrap x = x := by
 rw [IntKind.wrap_u64]; omega
def Zal (k : IntKind) (x : Int) : List Value := [.int k x]
def AH.bump (H : AH) : AH := { H with next := H.next + 1 }
theorem ZlQ (h : WF H) : Ext H H.bump := ⟨⟨fun b hb => h.fresh b (by have : H.next + 1 ≤ b := hb; omega), h.tok⟩, Nat.le_succ _, fun _ _ => rfl⟩
end Go.Vd
namespace Go.Vd
set_option linter.unusedSectionVars false
variable [Pins]
variable {P : Program} {N : Nat} {ops : Array Oper} {K : AAct → AH → Prop} {α : AAct} {H : AH}
theorem ZcG {t : Nat} {v : Value} {l : List ResultVar} {vs : List Value} (h : α t = v) (hr : Zcd P α H l = some vs) : Zcd P α H (.tmp t :: l) = some (v :: vs) := by
 simp only [Zcd, hr, Option.map_some, h]
theorem ZQ {a : Nat} {t : TypeId} {v : Value} {l : List ResultVar} {vs : List Value} (h : Za7 P t (α a) H = some v) (hr : Zcd P α H l = some vs) : Zcd P α H (.cell a t :: l) = some (v :: vs) := by
 simp only [Zcd, hr, h]
theorem Zcp {d : Nat} {k : IntKind} (i : Int) (h : 0 ≤ i) : ZX d (some (.int k i)) = some i.toNat := by
 simp only [ZX, h, if_true]
section
variable {o : Oper} {rest : List Oper}
theorem Zjp (p : Prop) [Decidable p] (h : ZbV P ops o α H = some (.bool (!decide p))) (ht : p → Zm P ops K rest (α.put o.dst (.bool false)) H) (hf : ¬p → Zm P ops K rest (α.put o.dst (.bool true)) H) : Zm P ops K (o :: rest) α H := by
 by_cases hp : p
 ·rw [decide_eq_true hp] at h; exact Zhb _ h (ht hp)
 ·rw [decide_eq_false hp] at h; exact Zhb _ h (hf hp)
end
section
variable {tbl : List (List Nat)} {i : Nat} {rest : List Nat} {fl : List (Nat × AAct × Value)}
end
end Go.Vd
