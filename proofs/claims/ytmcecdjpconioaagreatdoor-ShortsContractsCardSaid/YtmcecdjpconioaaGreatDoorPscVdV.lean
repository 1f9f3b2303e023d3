/- Steps for walks that a program prints. -/
import Derived.Test.YtmcecdjpconioaaGreatDoorPscVdR
import Derived.Test.YtmcecdjpconioaaGreatDoorPscVdP
import Derived.KernelRfl
import Derived.Laws.BitsLemmas
import Derived.Laws.Bits64
namespace Go.Vd
set_option linter.unusedSectionVars false
variable [Pins]
variable {P : Program} {N : Nat} {ops : Array Oper} {K : AAct → AH → Prop} {Q : Exit → AAct → AH → Prop} {α : AAct} {H : AH}
def Zg0 : List (Nat × Value) → AAct → AAct
 | [], α => α
 | (t, v) :: l, α => (Zg0 l α).put (some t) v
def Has (α : AAct) : List (Nat × Value) → Prop
 | [] => True
 | (t, v) :: l => α t = v ∧ Has α l
theorem Zms {α : AAct} {t : Nat} {v : Value} (h : α t = v) : α.put (some t) v = α := by
 funext i
 simp only [AAct.put]
 by_cases hi : i = t
 ·rw [if_pos hi, hi, h]
 ·rw [if_neg hi]
theorem Zjl {α : AAct} : ∀ {l : List (Nat × Value)}, Has α l → Zg0 l α = α := by
 intro l
 induction l with
 | nil => intro _; rfl
 | cons p l ih =>
  intro h
  obtain ⟨t, v⟩ := p
  rw [Zg0, ih h.2]; exact Zms h.1
def Zd4 (P : Program) (t : TypeId) : Bool := match P.underlying t with
 | some (.slice _) => true
 | _ => false
theorem ZdQ {t : TypeId} (h : Zd4 P t = true) : ∃ e, P.underlying t = some (.slice e) := by
 unfold Zd4 at h
 split at h
 ·rename_i e he; exact ⟨e, he⟩
 ·cases h
def Zfz (P : Program) (t : TypeId) : Option (Nat × Nat) := (slT P t).map fun x => (x.1, x.2.1)
theorem ZdH {t : TypeId} {n m : Nat} (h : Zfz P t = some (n, m)) : ∃ z, slT P t = some (n, m, z) := by
 unfold Zfz at h
 cases hs : slT P t with
 | none => rw [hs] at h; cases h
 | some x => obtain ⟨a, b, z⟩ := x; rw [hs] at h; cases h; exact ⟨z, rfl⟩
def Za8 (P : Program) (t : TypeId) : Option Nat := (Zfz P t).map (·.1)
theorem ZaH {t : TypeId} {n : Nat} (h : Za8 P t = some n) : ∃ m z, slT P t = some (n, m, z) := by
 unfold Za8 at h
 cases hs : Zfz P t with
 | none => rw [hs] at h; cases h
 | some x => obtain ⟨a, b⟩ := x; rw [hs] at h; cases h; obtain ⟨z, hz⟩ := ZdH hs; exact ⟨b, z, hz⟩
section
variable {E : Type} {enc : E → List Value} {sz : Nat} {s : Value} {xs : List E}
theorem Sl.lenb {t : TypeId} (h : Sl enc sz H s xs) (hu : Zd4 P t = true) : ZcQ P t s H = some (.int .i64 xs.length) := by
 obtain ⟨e, he⟩ := ZdQ hu; exact h.lenq he
theorem Sl.idxb {t : TypeId} {k : IntKind} {i : Int} (h : Sl enc sz H s xs) (ht : Za8 P t = some sz) (h0 : 0 ≤ i) (h1 : i < (xs.length : Int)) : Zad P t s (.int k i) = some (elp s sz i.toNat 0) := by
 obtain ⟨m, z, hz⟩ := ZaH ht; exact h.idx hz h0 h1
theorem Sl.cutb (h : Sl enc sz H s xs) {t : TypeId} (ht : Za8 P t = some sz) {lo hi : Option Value} {l r : Nat} (e1 : Z0 0 lo = some l) (e2 : Z0 xs.length hi = some r) (hl : l ≤ r) (hr : r ≤ xs.length) :
  ∃ s', ZP P t s lo hi none H = some s' ∧ Sl enc sz H s' ((xs.take r).drop l) := by
 obtain ⟨m, z, hz⟩ := ZaH ht; exact h.drop_take hz e1 e2 hl hr
end
theorem ZI {c : Code} (I : Nat → AAct → AH → Prop) (n0 : Nat) (h0 : I n0 α H)
  (step : ∀ n α H, I n α H → ∀ K : AAct → AH → Prop, (∀ n' α' H', n' < n → I n' α' H' → K α' H') → aWp P N c (Zds K Q) α H) : aWp P N (.loop c) Q α H := by
 intro R hR
 have key : ∀ n α H, I n α H → R α H := by
  intro n
  induction n using Nat.strongRecOn with
  | _ n ih =>
   intro α H hI
   exact hR α H (step n α H hI R fun n' α' H' hn hI' => ih n' hn α' H' hI')
 exact key _ α H h0
theorem Zj {K : AAct → AH → Prop} {id : Nat} (h : Q (.exit id) α H) : Zds K Q (.exit id) α H := h
theorem ZT {id : Nat} (h : Q .normal α H) : Zeo id Q (.exit id) α H := by simp only [Zeo, if_true]; exact h
theorem Zi4 {id id' : Nat} (hn : id' ≠ id) (h : Q (.exit id') α H) : Zeo id Q (.exit id') α H := by simp only [Zeo, if_neg hn]; exact h
theorem Zf {K : AAct → AH → Prop} (h : Q .ret α H) : Zds K Q .ret α H := h
theorem ZD {id : Nat} (h : Q .ret α H) : Zeo id Q .ret α H := h
theorem Zac {fn : Func} {K : Value → AH → Prop} {vs : List Value} (h : Zdc P α H fn.results.toList = some vs) (k : K (Zfw vs) H) : Zfn P fn K .ret α H := by
 simp only [Zfn, h]; exact k
theorem Zfj {fn : Func} {K : Value → AH → Prop} {vs : List Value} (h : Zdc P α H fn.results.toList = some vs) (k : K (Zfw vs) H) : Zfn P fn K .normal α H := by
 simp only [Zfn, h]; exact k
section seq
variable {o : Oper} {rest : List Oper}
theorem Zbi (v : Value) {x : Option Value} (h1 : ZbM P ops o α H = x) (h : x = some v) (k : Zp P ops K rest (α.put o.dst v) H) : Zp P ops K (o :: rest) α H :=
 Zgo v (h1.trans h) k
theorem s_b (p : Prop) [Decidable p] (h : ZbM P ops o α H = some (.bool (decide p))) (ht : p → Zp P ops K rest (α.put o.dst (.bool true)) H) (hf : ¬p → Zp P ops K rest (α.put o.dst (.bool false)) H) : Zp P ops K (o :: rest) α H := by
 by_cases hp : p
 ·rw [decide_eq_true hp] at h; exact Zgo _ h (ht hp)
 ·rw [decide_eq_false hp] at h; exact Zgo _ h (hf hp)
theorem s_w {k : IntKind} {x : Int} (y : Int) (h : ZbM P ops o α H = some (.int k (k.wrap x))) (hw : k.wrap x = y) (kk : Zp P ops K rest (α.put o.dst (.int k y)) H) : Zp P ops K (o :: rest) α H := by
 rw [hw] at h; exact Zgo _ h kk
theorem ZmO (hw : WF H) (cs : List Value) (hg : Region.wanted o (ZX ops α) = true) (hc : cls o.op = .new) (h : ZfW P (ZW α) o.op = some (.row .own cs, ZdG))
  (k : ∀ b H', Ext H H' → b = H.next → Row H' b cs → Zp P ops K rest (α.put o.dst (.pointer (some ⟨b, 0, none⟩))) H') : Zp P ops K (o :: rest) α H :=
 s_n _ _ hg hc h (k H.next _ (ZeA hw cs).1 rfl (ZeA hw cs).2)
theorem Sl.cells {E : Type} {enc : E → List Value} {sz b o n c : Nat} {ys : List E} (h : Sl enc sz H (.slice (some ⟨b, o, none⟩) n c) ys) : n = ys.length ∧ H.cells b o (ys.length * sz) = some (ys.flatMap enc) := by
 rcases h.is with ⟨e, _⟩ | ⟨b', o', c', k, cs, e, h2, h3, h4, h5, h6⟩
 ·cases e
 ·cases e
  refine ⟨rfl, ?_⟩
  have hm : ys.length * sz ≤ c * sz := Nat.mul_le_mul_right _ h4
  unfold AH.cells
  rw [h3]
  dsimp only
  rw [if_pos (by omega)]
  congr 1
  have hl := ZaB h.len
  apply List.ext_getElem?
  intro i
  rw [List.getElem?_take]
  by_cases hi : i < ys.length * sz
  ·rw [if_pos hi, List.getElem?_drop]
   have hp := h.pos
   have hq : i / sz < ys.length := Nat.div_lt_of_lt_mul (by rw [Nat.mul_comm]; exact hi)
   have hx : ys[i / sz]? = some ys[i / sz] := by simp [hq]
   have hr := Nat.mod_lt i hp
   have he : i = i / sz * sz + i % sz := (Nat.div_add_mod' i sz).symm
   have g1 := h6 _ _ hx _ hr
   have g2 := ZbS h.len hx hr
   rw [← he] at g2
   rw [g2, ← g1]
   congr 1
   omega
  ·rw [if_neg hi, List.getElem?_eq_none (by omega)]
theorem Zfx {E : Type} {enc : E → List Value} {ys : List E} (h : ∀ y ∈ ys, Zw (enc y) = true) : Zw (ys.flatMap enc) = true := by
 unfold Zw
 rw [List.all_flatMap]
 exact List.all_eq_true.2 fun y hy => h y hy
theorem Zke {E : Type} {enc : E → List Value} {sz : Nat} {s t : Value} {xs ys : List E} {φ : Nat} (m : Nat) {at_ : Array TypeId} {t0 t1 : TypeId} (hw : WF H) (h : Own enc sz H s xs φ) (hy : Sl enc sz H t ys) (h1 : ∀ y ∈ ys, Zw (enc y) = true)
  (a0 : at_[0]? = some t0) (a1 : at_[1]? = some t1) (hT' : Zfz P t0 = some (sz, m)) (hT1' : Zd4 P t1 = true) (hm : m ≠ 0) (hcap : ((xs.length + ys.length) + (xs.length + ys.length) / 4 + 512) * m ≤ 2 ^ 48) :
  ∃ s' H' ψ, Zam P at_ s t H = some (s', H') ∧ Fr φ H H' ∧ Own enc sz H' s' (xs ++ ys) ψ ∧ (ψ = φ ∨ ψ = H.next) := by
 obtain ⟨z, hT⟩ := ZdH hT'
 obtain ⟨e1, hT1⟩ := ZdQ hT1'
 obtain ⟨e, i, h2, h3, h4, h5, h6⟩ := Zax hT
 have main := h.append hw (ys := ys) hm hcap hy.len h1
 rcases hy.is with ⟨rfl, rfl⟩ | ⟨b, o, c, k, cs, rfl, _⟩
 ·have : Zam P at_ s (.slice none 0 0) H = H.append i.size i.bytes s 0 [] := by
   unfold Zam
   rw [a0, a1]
   simp only [Option.bind_some, h4, hT1]
  rw [this, h5, h6]; exact main
 ·have hc := hy.cells.2
  have : Zam P at_ s (.slice (some ⟨b, o, none⟩) ys.length c) H = H.append sz m s ys.length (ys.flatMap enc) := by
   unfold Zam
   rw [a0, a1]
   simp only [Option.bind_some, h4, hT1, h5, hc, Zfx h1, if_true, h6]
  rw [this]; exact main
end seq
def Zcu (P : Program) (ops : Array Oper) (tbl : List (List Nat)) (i : Nat) (rest : List Nat) (α : AAct) (H : AH) : Option Value :=
 match ops[i]? with
 | some o => if ZdK P o.op || !ZfC ops tbl i rest then ZbM P ops o α H else none
 | none => none
def Z4 (ops : Array Oper) (i : Nat) : Option Tmp := (ops[i]?).bind (·.dst)
def Zim (ops : Array Oper) (i : Nat) (α : AAct) : Bool :=
 match ops[i]? with
 | some o => !Region.wanted o (ZX ops α)
 | none => false
section draw
variable {tbl : List (List Nat)} {i : Nat} {rest : List Nat} {fl : List (Nat × AAct × Value)}
theorem ZcZ (v : Value) (h : Zcu P ops tbl i rest α H = some v) (k : Zq P ops tbl K rest fl (α.put (Z4 ops i) v) H) : Zq P ops tbl K (i :: rest) fl α H := by
 unfold Zcu at h
 cases ho : ops[i]? with
 | none => rw [ho] at h; cases h
 | some o =>
  rw [ho] at h
  dsimp only at h
  split at h
  ·rename_i hf
   have hs := Zer h
   refine d_q o v ho hs.1 hs.2.1 hs.2.2 hf ?_
   simpa only [Z4, ho, Option.bind_some] using k
  ·cases h
theorem Zd5 (v : Value) {x : Option Value} (h1 : Zcu P ops tbl i rest α H = x) (h : x = some v) (k : Zq P ops tbl K rest fl (α.put (Z4 ops i) v) H) : Zq P ops tbl K (i :: rest) fl α H :=
 ZcZ v (h1.trans h) k
theorem d_b (p : Prop) [Decidable p] (h : Zcu P ops tbl i rest α H = some (.bool (decide p))) (ht : p → Zq P ops tbl K rest fl (α.put (Z4 ops i) (.bool true)) H)
  (hf : ¬p → Zq P ops tbl K rest fl (α.put (Z4 ops i) (.bool false)) H) : Zq P ops tbl K (i :: rest) fl α H := by
 by_cases hp : p
 ·rw [decide_eq_true hp] at h; exact ZcZ _ h (ht hp)
 ·rw [decide_eq_false hp] at h; exact ZcZ _ h (hf hp)
theorem d_w {k : IntKind} {x : Int} (y : Int) (h : Zcu P ops tbl i rest α H = some (.int k (k.wrap x))) (hw : k.wrap x = y) (kk : Zq P ops tbl K rest fl (α.put (Z4 ops i) (.int k y)) H) : Zq P ops tbl K (i :: rest) fl α H := by
 rw [hw] at h; exact ZcZ _ h kk
theorem ZlQ (h : Zim ops i α = true) (k : Zq P ops tbl K rest fl (α.put (Z4 ops i) undef) H) : Zq P ops tbl K (i :: rest) fl α H := by
 unfold Zim at h
 cases ho : ops[i]? with
 | none => rw [ho] at h; cases h
 | some o =>
  rw [ho] at h
  refine d_no o ho (by simpa using h) ?_
  simpa only [Z4, ho, Option.bind_some] using k
end draw
theorem Zo {x : Int} (h : -9223372036854775808 ≤ x ∧ x ≤ 9223372036854775807) : IntKind.i64.wrap x = x := by
 rw [IntKind.wrap_i64]; omega
theorem ZdA {x : Int} (h : 0 ≤ x ∧ x ≤ 18446744073709551615) : IntKind.u64.wrap x = x := by
 rw [IntKind.wrap_u64]; omega
def Zai (k : IntKind) (x : Int) : List Value := [.int k x]
def AH.bump (H : AH) : AH := { H with next := H.next + 1 }
theorem Zmu (h : WF H) : Ext H H.bump := ⟨⟨fun b hb => h.fresh b (by have : H.next + 1 ≤ b := hb; omega), h.tok⟩, Nat.le_succ _, fun _ _ => rfl⟩
end Go.Vd
namespace Go.Vd
set_option linter.unusedSectionVars false
variable [Pins]
variable {P : Program} {N : Nat} {ops : Array Oper} {K : AAct → AH → Prop} {α : AAct} {H : AH}
theorem Zdb {t : Nat} {v : Value} {l : List ResultVar} {vs : List Value} (h : α t = v) (hr : Zdc P α H l = some vs) : Zdc P α H (.tmp t :: l) = some (v :: vs) := by
 simp only [Zdc, hr, Option.map_some, h]
theorem ZQ {a : Nat} {t : TypeId} {v : Value} {l : List ResultVar} {vs : List Value} (h : ZbP P t (α a) H = some v) (hr : Zdc P α H l = some vs) : Zdc P α H (.cell a t :: l) = some (v :: vs) := by
 simp only [Zdc, hr, h]
theorem ZcM {d : Nat} {k : IntKind} (i : Int) (h : 0 ≤ i) : Z0 d (some (.int k i)) = some i.toNat := by
 simp only [Z0, h, if_true]
section
variable {o : Oper} {rest : List Oper}
theorem s_bn (p : Prop) [Decidable p] (h : ZbM P ops o α H = some (.bool (!decide p))) (ht : p → Zp P ops K rest (α.put o.dst (.bool false)) H) (hf : ¬p → Zp P ops K rest (α.put o.dst (.bool true)) H) : Zp P ops K (o :: rest) α H := by
 by_cases hp : p
 ·rw [decide_eq_true hp] at h; exact Zgo _ h (ht hp)
 ·rw [decide_eq_false hp] at h; exact Zgo _ h (hf hp)
end
section
variable {tbl : List (List Nat)} {i : Nat} {rest : List Nat} {fl : List (Nat × AAct × Value)}
theorem Zla (p : Prop) [Decidable p] (h : Zcu P ops tbl i rest α H = some (.bool (!decide p))) (ht : p → Zq P ops tbl K rest fl (α.put (Z4 ops i) (.bool false)) H)
  (hf : ¬p → Zq P ops tbl K rest fl (α.put (Z4 ops i) (.bool true)) H) : Zq P ops tbl K (i :: rest) fl α H := by
 by_cases hp : p
 ·rw [decide_eq_true hp] at h; exact ZcZ _ h (ht hp)
 ·rw [decide_eq_false hp] at h; exact ZcZ _ h (hf hp)
end
end Go.Vd
