/- A region that draws its order: one order of our own serves them all. -/
import Derived.Test.YtlfclppjhkeljaaGreatPwtVdL
namespace Go.Vd
set_option linter.unusedSectionVars false
variable [Pins]
def Zel (o : Oper) : List Nat := (o.after.toList.filter (Region.binds .any)).map (·.on)
inductive Anc (ops : Array Oper) : Nat → Nat → Prop
 | edge {i k : Nat} {o : Oper} : ops[k]? = some o → i ∈ Zel o → Anc ops i k
 | trans {i j k : Nat} {o : Oper} : ops[k]? = some o → j ∈ Zel o → Anc ops i j → Anc ops i k
def ZfA (s : List Nat) (x : Nat) : List Nat := if s.contains x then s else x :: s
def ZeS (acc : List (List Nat)) (o : Oper) : List Nat := (Zel o).foldl (fun s e => (e :: acc.getD e []).foldl ZfA s) []
def ZbN (ops : List Oper) : List (List Nat) := ops.foldl (fun acc o => acc ++ [ZeS acc o]) []
def ZdT (tbl : List (List Nat)) (i k : Nat) : Bool := (tbl.getD k []).contains i
def Zc2 (o : Oper) : Bool := match cls o.op with | .eff | .call => true | _ => false
def Zdh (P : Program) : Op → Bool
 | .move _ | .assign _ | .pick _ _ _ | .nilCheck _ | .binOp .. | .unOp .. | .convert .. | .makeInterface .. | .makeFunc .. | .fieldAddr .. | .field .. | .indexAddr .. | .index .. | .typeAssert .. | .extract .. | .build .. => true
 | .call { callee := .builtin .len, argTypes, .. } => match argTypes[0]? with
  | some t => match P.underlying t with
   | some (.map _ _) => false
   | _ => true
  | none => true
 | .call { callee := .builtin .max, .. } | .call { callee := .builtin .min, .. } => true
 | _ => false
def ZhP (ops : Array Oper) (tbl : List (List Nat)) : List Nat → List Nat → Bool
 | _, [] => true
 | seen, i :: rest => match ops[i]? with
  | some o => (Zel o).all (fun e => seen.contains e) && !seen.contains i && !rest.contains i && (!Zc2 o || rest.all (ZdT tbl i)) && ZhP ops tbl (i :: seen) rest
  | none => false
def ZfL (N : Nat) (ops : Array Oper) (ord : List Nat) : Bool :=
 let tbl := ZbN ops.toList
 Zd6 N ops.toList && (List.range ops.size).all (fun i => ord.contains i) && ZhP ops tbl [] ord &&
 (List.range ops.size).all fun i => (List.range ops.size).all fun j => i == j || ZdT tbl i j || ZdT tbl j i || (match ops[i]?, ops[j]? with | some x, some y => x.apart ops y | _, _ => true)
def Zha (ops : Array Oper) (e : Nat) : Bool :=
 match ops[e]? with
 | some o => Zc2 o
 | none => false
def ZeR (ops : Array Oper) (tbl : List (List Nat)) (i : Nat) (rest : List Nat) : Bool :=
 rest.any fun e => Zha ops e && !ZdT tbl i e
def Zb2 (P : Program) (ops : Array Oper) (tbl : List (List Nat)) (e : Nat) (H : AH) : List (Nat × AAct × Value) → Prop
 | [] => True
 | x :: l => (if ZdT tbl x.1 e = true then True else match ops[x.1]? with
   | some o => Zaj P (Z6 x.2.1) H o.op = some x.2.2
   | none => False) ∧ Zb2 P ops tbl e H l
def Zu (P : Program) (ops : Array Oper) (tbl : List (List Nat)) (K : AAct → AH → Prop) : List Nat → List (Nat × AAct × Value) → AAct → AH → Prop
 | [], _, α, H => K α H
 | i :: rest, fl, α, H => match ops[i]? with
  | none => False
  | some o =>
   if Region.wanted o (ZV ops α) = true then
    ZbU P o.op (Z6 α) H fun v H' => (Zc2 o = true → Zb2 P ops tbl i H' fl) ∧
     Zu P ops tbl K rest (if cls o.op = .quiet ∧ Zdh P o.op = false ∧ ZeR ops tbl i rest = true then (i, α, v) :: fl else fl) (α.put o.dst v) H'
   else Zu P ops tbl K rest fl (α.put o.dst undef) H
theorem Zjm {s : List Nat} {x y : Nat} (h : y ∈ ZfA s x) : y = x ∨ y ∈ s := by
 unfold ZfA at h
 split at h
 ·exact .inr h
 ·exact List.mem_cons.1 h
theorem Zgs {l s : List Nat} {y : Nat} (h : y ∈ l.foldl ZfA s) : y ∈ l ∨ y ∈ s := by
 induction l generalizing s with
 | nil => exact .inr h
 | cons a l ih =>
  rcases ih h with h | h
  ·exact .inl (List.mem_cons_of_mem _ h)
  ·rcases Zjm h with rfl | h
   ·exact .inl (List.mem_cons_self ..)
   ·exact .inr h
theorem Ziz {acc : List (List Nat)} {o : Oper} {y : Nat} (h : y ∈ ZeS acc o) : ∃ e ∈ Zel o, y = e ∨ y ∈ acc.getD e [] := by
 unfold ZeS at h
 have : ∀ (l s : List Nat), y ∈ l.foldl (fun s e => (e :: acc.getD e []).foldl ZfA s) s → (∃ e ∈ l, y = e ∨ y ∈ acc.getD e []) ∨ y ∈ s := by
  intro l
  induction l with
  | nil => exact fun s h => .inr h
  | cons a l ih =>
   intro s h
   rcases ih _ h with ⟨e, he, hy⟩ | h
   ·exact .inl ⟨e, List.mem_cons_of_mem _ he, hy⟩
   ·rcases Zgs h with h | h
    ·rcases List.mem_cons.1 h with rfl | h
     ·exact .inl ⟨_, List.mem_cons_self .., .inl rfl⟩
     ·exact .inl ⟨a, List.mem_cons_self .., .inr h⟩
    ·exact .inr h
 rcases this _ _ h with h | h
 ·exact h
 ·cases h
theorem Zie (ops : Array Oper) : ∀ k i, i ∈ (ZbN ops.toList).getD k [] → Anc ops i k := by
 have key : ∀ (l2 l1 : List Oper) (acc : List (List Nat)), l1 ++ l2 = ops.toList → acc.length = l1.length → (∀ k i, i ∈ acc.getD k [] → Anc ops i k) →
   ∀ k i, i ∈ (l2.foldl (fun acc o => acc ++ [ZeS acc o]) acc).getD k [] → Anc ops i k := by
  intro l2
  induction l2 with
  | nil => intro l1 acc _ _ h; exact h
  | cons o l2 ih =>
   intro l1 acc he hl h
   refine ih (l1 ++ [o]) (acc ++ [ZeS acc o]) (by simpa using he) (by simp [hl]) fun k i hi => ?_
   rw [List.getD_eq_getElem?_getD, List.getElem?_append] at hi
   by_cases hk : k < acc.length
   ·rw [if_pos hk] at hi
    exact h k i (by rw [List.getD_eq_getElem?_getD]; exact hi)
   ·rw [if_neg hk] at hi
    by_cases hk2 : k = acc.length
    ·subst hk2
     simp at hi
     have ho : ops[acc.length]? = some o := by
      rw [← Array.getElem?_toList, ← he, hl, List.getElem?_append_right (Nat.le_refl _)]; simp
     obtain ⟨e, he, hy⟩ := Ziz hi
     rcases hy with rfl | hy
     ·exact .edge ho he
     ·exact .trans ho he (h e i hy)
    ·rw [List.getElem?_eq_none (by simp; omega)] at hi
     simp at hi
 exact key ops.toList [] [] rfl rfl (by simp)
theorem Zeo {ops : Array Oper} {i k : Nat} (h : ZdT (ZbN ops.toList) i k = true) : Anc ops i k :=
 Zie ops k i (by simpa [ZdT] using h)
theorem Zja {ops : Array Oper} {tbl : List (List Nat)} : ∀ (l seen : List Nat), ZhP ops tbl seen l = true → ∀ (A B : List Nat) (i : Nat), l = A ++ i :: B →
  ∃ o, ops[i]? = some o ∧ (∀ e ∈ Zel o, e ∈ A ∨ e ∈ seen) ∧ i ∉ seen ∧ i ∉ A ∧ i ∉ B ∧ (Zc2 o = true → ∀ j ∈ B, ZdT tbl i j = true) := by
 intro l
 induction l with
 | nil => intro seen _ A B i he; cases A <;> cases he
 | cons x l ih =>
  intro seen h A B i he
  simp only [ZhP] at h
  cases ho : ops[x]? with
  | none => rw [ho] at h; cases h
  | some o =>
   rw [ho] at h
   simp only [Bool.and_eq_true, Bool.not_eq_true', Bool.or_eq_true] at h
   obtain ⟨⟨⟨⟨h1, h2⟩, h3⟩, h4⟩, h5⟩ := h
   cases A with
   | nil =>
    simp only [List.nil_append, List.cons.injEq] at he
    obtain ⟨rfl, rfl⟩ := he
    refine ⟨o, ho, fun e he => .inr ?_, by simpa using h2, by simp, by simpa using h3, fun hf => ?_⟩
    ·simpa using List.all_eq_true.1 h1 e he
    ·rcases h4 with h4 | h4
     ·rw [hf] at h4; cases h4
     ·exact fun j hj => List.all_eq_true.1 h4 j hj
   | cons y A =>
    simp only [List.cons_append, List.cons.injEq] at he
    obtain ⟨rfl, rfl⟩ := he
    obtain ⟨o', g1, g2, g3, g4, g5, g6⟩ := ih (x :: seen) h5 A B i rfl
    refine ⟨o', g1, fun e he => ?_, fun hm => g3 (List.mem_cons_of_mem _ hm), fun hm => ?_, g5, g6⟩
    ·rcases g2 e he with h | h
     ·exact .inl (List.mem_cons_of_mem _ h)
     ·rcases List.mem_cons.1 h with rfl | h
      ·exact .inl (List.mem_cons_self ..)
      ·exact .inr h
    ·rcases List.mem_cons.1 hm with rfl | hm
     ·exact g3 (List.mem_cons_self ..)
     ·exact g4 hm
structure Ord (N : Nat) (ops : Array Oper) (ord : List Nat) : Prop where
 ok : Zd6 N ops.toList = true
 all : ∀ i, i < ops.size → i ∈ ord
 at_ : ∀ (A B : List Nat) (i : Nat), ord = A ++ i :: B → ∃ o, ops[i]? = some o ∧ (∀ e ∈ Zel o, e ∈ A) ∧ i ∉ A ∧ i ∉ B ∧ (Zc2 o = true → ∀ j ∈ B, Anc ops i j ∧ ZdT (ZbN ops.toList) i j = true)
 conf : ∀ i j x y, i ≠ j → ops[i]? = some x → ops[j]? = some y → Anc ops i j ∨ Anc ops j i ∨ x.apart ops y = true
theorem Ziy {N : Nat} {ops : Array Oper} {ord : List Nat} (h : ZfL N ops ord = true) : Ord N ops ord := by
 simp only [ZfL, Bool.and_eq_true] at h
 obtain ⟨⟨⟨h1, h2⟩, h3⟩, h4⟩ := h
 refine ⟨h1, fun i hi => by simpa using List.all_eq_true.1 h2 i (List.mem_range.2 hi), fun A B i he => ?_, fun i j x y hne hx hy => ?_⟩
 ·obtain ⟨o, g1, g2, _, g4, g5, g6⟩ := Zja ord [] h3 A B i he
  exact ⟨o, g1, fun e he => (g2 e he).resolve_right (by simp), g4, g5, fun hf j hj => ⟨Zeo (g6 hf j hj), g6 hf j hj⟩⟩
 ·have hi : i < ops.size := (Array.getElem?_eq_some_iff.1 hx).1
  have hj : j < ops.size := (Array.getElem?_eq_some_iff.1 hy).1
  have := List.all_eq_true.1 (List.all_eq_true.1 h4 i (List.mem_range.2 hi)) j (List.mem_range.2 hj)
  simp only [hx, hy, Bool.or_eq_true, beq_iff_eq] at this
  rcases this with ((h | h) | h) | h
  ·exact absurd h hne
  ·exact .inl (Zeo h)
  ·exact .inr (.inl (Zeo h))
  ·exact .inr (.inr h)
theorem Ord.anc {N : Nat} {ops : Array Oper} {ord : List Nat} (h : Ord N ops ord) {i k : Nat} (ha : Anc ops i k) : ∀ (A B : List Nat), ord = A ++ k :: B → i ∈ A := by
 induction ha with
 | edge ho he =>
  intro A B hE
  obtain ⟨o', g1, g2, _⟩ := h.at_ A B _ hE
  rw [ho] at g1; cases g1
  exact g2 _ he
 | trans ho he _ ih =>
  intro A B hE
  obtain ⟨o', g1, g2, _⟩ := h.at_ A B _ hE
  rw [ho] at g1; cases g1
  have hj := g2 _ he
  obtain ⟨A1, A2, rfl⟩ := List.append_of_mem hj
  have := ih A1 (A2 ++ (_ :: B)) (by rw [hE, List.append_assoc]; rfl)
  exact List.mem_append.2 (.inl this)
variable {P : Program} {μ : Mu} {H : AH} {w : World}
theorem ZgA {ρ : Operand → Value} {op : Op} {v : Value} (hp : Zdh P op = true) (h : Zaj P ρ H op = some v) (H' : AH) : Zaj P ρ H' op = some v := by
 unfold Zdh at hp
 split at hp
 all_goals first
  | (cases hp; done)
  | exact h
  | skip
 rename_i args argTypes
 simp only [Zaj] at h ⊢
 split at h
 ·rename_i x t hl ht
  rw [ht] at hp
  dsimp only at hp
  rw [← h]
  unfold ZdC
  split at hp
  ·cases hp
  ·rename_i hnm
   cases hu : P.underlying t with
   | none => rfl
   | some d =>
    generalize ρ x = y
    cases d <;> first
     | exact (hnm _ _ hu).elim
     | (cases y <;> rfl)
 ·cases h
theorem Zc4 (hf : ∀ b, H.next ≤ b → H.get b = none) (ob : AObj) (b : Nat) (o : AObj) (h : H.get b = some o) : (H.push ob).get b = some o := by
 rw [AH.push_old, h]
 rcases Nat.lt_or_ge b H.next with hlt | hge
 ·exact hlt
 ·rw [hf b hge] at h; cases h
theorem Zjt {ρ : Operand → Value} {op : Op} {v : Value} (hf : ∀ b, H.next ≤ b → H.get b = none) (ob : AObj) (h : Zaj P ρ H op = some v) : Zaj P ρ (H.push ob) op = some v := by
 by_cases hp : Zdh P op = true
 ·exact ZgA hp h _
 ·have hc : ∀ b o, H.cell b o ≠ none → (H.push ob).cell b o = H.cell b o := by
   intro b o hn
   unfold AH.cell at *
   cases hg : H.get b with
   | none => rw [hg] at hn; exact absurd rfl hn
   | some x => rw [Zc4 hf ob b x hg]
  have hcs : ∀ b o n, H.cells b o n ≠ none → (H.push ob).cells b o n = H.cells b o n := by
   intro b o n hn
   unfold AH.cells at *
   cases hg : H.get b with
   | none => rw [hg] at hn; exact absurd rfl hn
   | some x => rw [Zc4 hf ob b x hg]
  cases op
  case load t a =>
   simp only [Zaj] at h ⊢
   unfold ZbR at *
   split at h
   ·split at h
    ·split at h
     ·rw [if_pos (by assumption), hcs _ _ _ (fun e => by rw [e] at h; cases h)]; exact h
     ·rw [if_neg (by assumption), hc _ _ (fun e => by rw [e] at h; cases h)]; exact h
    ·cases h
   ·cases h
  case slice t x lo hi mx =>
   simp only [Zaj] at h ⊢
   unfold Zbo at *
   split at h
   ·split at h
    ·split at h
     ·rename_i hcond
      rw [if_pos hcond]
      split at h
      ·exact h
      ·rename_i b o _
       cases hg : H.get b with
       | none => rw [hg] at h; cases h
       | some x => rw [hg] at h; rw [Zc4 hf ob b x hg]; exact h
      ·exact h
     ·cases h
    ·cases h
   ·exact h
   ·cases h
  case lookup t m k ok =>
   simp only [Zaj] at h ⊢
   unfold ZdF at *
   split at h
   ·split at h
    ·split at h
     ·rename_i hcond
      rw [if_pos hcond]
      split at h
      ·exact h
      ·rename_i b hb
       cases hg : H.get b with
       | none => rw [hg] at h; cases h
       | some x => rw [hg] at h; rw [Zc4 hf ob b x hg]; exact h
      ·cases h
     ·cases h
    ·cases h
   ·cases h
  case call c =>
   obtain ⟨callee, args, argTypes⟩ := c
   cases callee with
   | value f => simp [Zaj] at h
   | invoke r m => simp [Zaj] at h
   | builtin b =>
    cases b <;> first
     | (simp [Zaj] at h; done)
     | skip
    case len =>
     simp only [Zaj] at h ⊢
     split at h
     ·unfold ZdC at *
      split at h
      ·exact h
      ·exact h
      ·exact h
      ·rename_i b hu hb
       cases hg : H.get b with
       | none => rw [hg] at h; cases h
       | some x => rw [hg] at h; rw [Zc4 hf ob b x hg]; exact h
      ·cases h
     ·cases h
    case cap =>
     simp only [Zaj] at h ⊢
     split at h
     ·unfold ZjA at *
      split at h
      ·exact h
      ·rename_i b _ _ _ hu hb
       cases hg : H.get b with
       | none => rw [hg] at h; cases h
       | some x => rw [hg] at h; rw [Zc4 hf ob b x hg]; exact h
      ·cases h
     ·cases h
    case max => exact h
    case min => exact h
  all_goals first
   | (exact absurd rfl hp)
   | (simp [Zaj] at h; done)
   | exact h
end Go.Vd
