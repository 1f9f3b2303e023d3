/- The evaluator: calls on closed values, run in the abstract heap. -/
import Derived.Test.YtnepbkkdhalbiaaGreatDoorPsxVdT
namespace Go.Vd
def Tr.act (t : Tr Value) : AAct := fun i => match t.get i with
 | some v => v
 | none => undef
def Zif (t : Tr Value) (d : Option Tmp) (v : Value) : Option (Tr Value) :=
 match d with
 | none => some t
 | some d => t.set 40 d v
theorem Zf2 {t t' : Tr Value} {d : Option Tmp} {v : Value} (h : Zif t d v = some t') : t'.act = t.act.put d v := by
 cases d with
 | none => cases h; rfl
 | some d =>
  have := Tr.set_spec _ _ _ _ h
  funext i
  show (match t'.get i with | some v => v | none => undef) = if i = d then v else (match t.get i with | some v => v | none => undef)
  rw [this]
  by_cases hi : i = d
  ·rw [if_pos hi, if_pos hi]
  ·rw [if_neg hi, if_neg hi]
def nfOb : AObj → Option AObj
 | .row k cs => match nfL (nfV 6) cs with
  | some cs => some (.row k cs)
  | none => none
 | o => some o
theorem Zmc {a b : AObj} (h : nfOb a = some b) : b = a := by
 cases a with
 | row k cs =>
  simp only [nfOb] at h
  split at h
  ·rename_i h1; cases h; rw [Zea (Zed 6) h1]
  ·cases h
 | _ => cases h; rfl
abbrev ZbX := FuncId → Array Value → EH → Option (Value × EH)
def Zem (P : Program) (C : ZbX) : Prop := ∀ f args E v E', C f args E = some (v, E') → ACalls P f args E.toAH fun v' H' => v' = v ∧ H' = E'.toAH
def Zh3 (C : ZbX) (P : Program) (op : Op) (ρ : Operand → Value) (E : EH) : Option (Value × EH) :=
 match cls op with
 | .quiet => match Z8 P ρ E.toAH op with
  | some v => match nfV 6 v with
   | some v => some (v, E)
   | none => none
  | none => none
 | .new => match Zev P ρ op with
  | some (ob, f) => match nfOb ob with
   | some ob => match E.push ob, nfV 6 (f E.n) with
    | some E', some v => some (v, E')
    | _, _ => none
   | none => none
  | none => none
 | .eff => match eEff P ρ E op with
  | some (v, E') => match nfV 6 v with
   | some v => some (v, E')
   | none => none
  | none => none
 | .call => match Zcr P ρ op with
  | some (f, args) => match nfL (nfV 6) args.toList with
   | some l => C f ⟨l⟩ E
   | none => none
  | none => match Zdp P ρ E.toAH op with
   | some (f, args) => match nfL (nfV 6) args.toList with
    | some l => C f ⟨l⟩ E
    | none => none
   | none => none
variable {P : Program} {C : ZbX}
theorem ZiP (hC : Zem P C) {op : Op} {ρ : Operand → Value} {E E' : EH} {v : Value} (h : Zh3 C P op ρ E = some (v, E')) {K : Value → AH → Prop} (k : K v E'.toAH) : ZaX P op ρ E.toAH K := by
 unfold Zh3 at h
 unfold ZaX
 split at h
 ·rename_i hc
  rw [hc]
  split at h
  ·rename_i v0 hq
   split at h
   ·rename_i v1 hn
    cases h
    rw [hq]
    dsimp only
    rw [← Zed _ _ _ hn]; exact k
   ·cases h
  ·cases h
 ·rename_i hc
  rw [hc]
  split at h
  ·rename_i ob f hq
   rw [hq]
   dsimp only
   split at h
   ·rename_i ob1 ho
    have := Zmc ho; subst this
    split at h
    ·rename_i E1 v1 hp hn
     cases h
     rw [EH.push_eq hp] at k
     rw [Zed _ _ _ hn] at k
     exact k
    ·cases h
   ·cases h
  ·cases h
 ·rename_i hc
  rw [hc]
  split at h
  ·rename_i v0 E1 hq
   split at h
   ·rename_i v1 hn
    cases h
    rw [Zl7 hq]
    dsimp only
    rw [← Zed _ _ _ hn]; exact k
   ·cases h
  ·cases h
 ·rename_i hc
  rw [hc]
  split at h
  ·rename_i f args hq
   rw [hq]
   dsimp only
   split at h
   ·rename_i l hl
    have hl' := Zea (Zed 6) hl
    have : (⟨l⟩ : Array Value) = args := by rw [hl']
    rw [this] at h
    exact (hC _ _ _ _ _ h).mono fun v' H' ⟨e1, e2⟩ => by rw [e1, e2]; exact k
   ·cases h
  ·rename_i hq0
   rw [hq0]
   dsimp only
   split at h
   ·rename_i f args hq
    rw [hq]
    dsimp only
    split at h
    ·rename_i l hl
     have hl' := Zea (Zed 6) hl
     have : (⟨l⟩ : Array Value) = args := by rw [hl']
     rw [this] at h
     exact (hC _ _ _ _ _ h).mono fun v' H' ⟨e1, e2⟩ => by rw [e1, e2]; exact k
    ·cases h
   ·cases h
def Zg2 (C : ZbX) (P : Program) (ops : Array Oper) : List Oper → Tr Value → EH → Option (Tr Value × EH)
 | [], t, E => some (t, E)
 | o :: rest, t, E => match Region.wanted o (ZG ops t.act) with
  | true => match Zh3 C P o.op (Zy t.act) E with
   | some (v, E') => match Zif t o.dst v with
    | some t' => Zg2 C P ops rest t' E'
    | none => none
   | none => none
  | false => match Zif t o.dst undef with
   | some t' => Zg2 C P ops rest t' E
   | none => none
theorem Zln (hC : Zem P C) {ops : Array Oper} {K : AAct → AH → Prop} : ∀ (l : List Oper) (t t' : Tr Value) (E E' : EH), Zg2 C P ops l t E = some (t', E') → K t'.act E'.toAH → Zh P ops K l t.act E.toAH := by
 intro l
 induction l with
 | nil => intro t t' E E' h k; cases h; exact k
 | cons o rest ih =>
  intro t t' E E' h k
  rw [Zg2] at h
  simp only [Zh]
  split at h
  ·rename_i hw
   rw [if_pos hw]
   split at h
   ·rename_i v E1 h1
    split at h
    ·rename_i t1 h2
     refine .inl (ZiP hC h1 ?_)
     rw [← Zf2 h2]
     exact ih _ _ _ _ h k
    ·cases h
   ·cases h
  ·rename_i hw
   rw [if_neg (by rw [hw]; exact Bool.false_ne_true)]
   split at h
   ·rename_i t1 h2
    rw [← Zf2 h2]
    exact ih _ _ _ _ h k
   ·cases h
def ZlQ (ops : Array Oper) (seen : List Nat) (i : Nat) : Bool :=
 !Zcv seen i && match ops[i]? with
  | some o => (Zdz o).all (Zcv seen)
  | none => false
def Zkd (ops : Array Oper) : Nat → List Nat → List Nat
 | 0, _ => []
 | k + 1, seen => match (List.range ops.size).find? (fun i => ZlQ ops seen i && !ZfT ops i) with
  | some i => i :: Zkd ops k (i :: seen)
  | none => match (List.range ops.size).find? (ZlQ ops seen) with
   | some i => i :: Zkd ops k (i :: seen)
   | none => []
def ZlX (ops : Array Oper) : List Nat := Zkd ops ops.size []
def veq : Nat → Value → Value → Bool
 | 0, _, _ => false
 | d + 1, a, b => match a, b with
  | .bool x, .bool y => x == y
  | .int k n, .int k' n' => decide (k = k') && decide (n = n')
  | .pointer x, .pointer y => decide (x = y)
  | .slice x n c, .slice x' n' c' => decide (x = x') && Nat.beq n n' && Nat.beq c c'
  | .map x, .map y => decide (x = y)
  | .nilIface, .nilIface => true
  | .nilFunc, .nilFunc => true
  | .iface t v, .iface t' v' => decide (t = t') && veq d v v'
  | .agg x, .agg y => go d x.toList y.toList
  | _, _ => false
where go : Nat → List Value → List Value → Bool
 | 0, _, _ => false
 | _ + 1, [], [] => true
 | d + 1, x :: xs, y :: ys => veq d x y && go d xs ys
 | _, _, _ => false
theorem ZmY : ∀ (d : Nat), (∀ (a b : Value), veq d a b = true → a = b) ∧ (∀ (a b : List Value), veq.go d a b = true → a = b) := by
 intro d
 induction d with
 | zero => exact ⟨fun a b h => (by cases h), fun a b h => (by cases h)⟩
 | succ d ih =>
  refine ⟨fun a b h => ?_, fun a b h => ?_⟩
  ·unfold veq at h
   split at h <;> (try cases h; done)
   ·rw [beq_iff_eq] at h; rw [h]
   ·simp only [Bool.and_eq_true, decide_eq_true_eq] at h; rw [h.1, h.2]
   ·rw [of_decide_eq_true h]
   ·simp only [Bool.and_eq_true, decide_eq_true_eq] at h; rw [h.1.1, Zh0 h.1.2, Zh0 h.2]
   ·rw [of_decide_eq_true h]
   ·rfl
   ·rfl
   ·simp only [Bool.and_eq_true, decide_eq_true_eq] at h; rw [h.1, ih.1 _ _ h.2]
   ·have := ih.2 _ _ h
    rename_i x y
    have hxy : x = y := Array.ext' this
    rw [hxy]
  ·cases a with
   | nil => cases b with
    | nil => rfl
    | cons _ _ => unfold veq.go at h; cases h
   | cons x xs => cases b with
    | nil => unfold veq.go at h; cases h
    | cons y ys =>
     unfold veq.go at h
     rw [Bool.and_eq_true] at h
     rw [ih.1 _ _ h.1, ih.2 _ _ h.2]
def Zf4 (P : Program) (ops : Array Oper) (tbl : List (List Nat)) (e : Nat) (H : AH) : List (Nat × Tr Value × Value) → Bool
 | [] => true
 | x :: l => (ZcS tbl x.1 e || match ops[x.1]? with
   | some o => match Z8 P (Zy x.2.1.act) H o.op with
    | some v => veq 40 v x.2.2
    | none => false
   | none => false) && Zf4 P ops tbl e H l
def ZlZ (fl : List (Nat × Tr Value × Value)) : List (Nat × AAct × Value) := fl.map fun x => (x.1, x.2.1.act, x.2.2)
theorem ZjK {ops : Array Oper} {tbl : List (List Nat)} {e : Nat} {H : AH} : ∀ {fl : List (Nat × Tr Value × Value)}, Zf4 P ops tbl e H fl = true → Zbj P ops tbl e H (ZlZ fl) := by
 intro fl
 induction fl with
 | nil => intro _; trivial
 | cons x l ih =>
  intro h
  rw [Zf4, Bool.and_eq_true] at h
  refine ⟨?_, ih h.2⟩
  by_cases ha : ZcS tbl x.1 e = true
  ·rw [if_pos ha]; trivial
  ·rw [if_neg ha]
   have h1 := h.1
   rw [Bool.or_eq_true] at h1
   have h2 := h1.resolve_left ha
   dsimp only
   split at h2
   ·rename_i o ho
    rw [ho]
    dsimp only
    split at h2
    ·rename_i v hv; rw [hv, (ZmY 40).1 _ _ h2]
    ·cases h2
   ·cases h2
def isFl (P : Program) (ops : Array Oper) (tbl : List (List Nat)) (o : Oper) (i : Nat) (rest : List Nat) : Bool :=
 match cls o.op with
 | .quiet => !Zce P o.op && ZdF ops tbl i rest
 | _ => false
def Zf1 (C : ZbX) (P : Program) (ops : Array Oper) (tbl : List (List Nat)) : List Nat → List (Nat × Tr Value × Value) → Tr Value → EH → Option (Tr Value × EH)
 | [], _, t, E => some (t, E)
 | i :: rest, fl, t, E => match ops[i]? with
  | none => none
  | some o => match Region.wanted o (ZG ops t.act) with
   | true => match Zh3 C P o.op (Zy t.act) E with
    | some (v, E') => match !Zb4 o || Zf4 P ops tbl i E'.toAH fl with
     | true => match Zif t o.dst v with
      | some t' => match isFl P ops tbl o i rest with
       | true => Zf1 C P ops tbl rest ((i, t, v) :: fl) t' E'
       | false => Zf1 C P ops tbl rest fl t' E'
      | none => none
     | false => none
    | none => none
   | false => match Zif t o.dst undef with
    | some t' => Zf1 C P ops tbl rest fl t' E
    | none => none
theorem Zin {ops : Array Oper} {tbl : List (List Nat)} {o : Oper} {i : Nat} {rest : List Nat} : isFl P ops tbl o i rest = true ↔ (cls o.op = .quiet ∧ Zce P o.op = false ∧ ZdF ops tbl i rest = true) := by
 unfold isFl
 cases cls o.op <;> simp
theorem ZlH (hC : Zem P C) {ops : Array Oper} {tbl : List (List Nat)} {K : AAct → AH → Prop} : ∀ (l : List Nat) (fl : List (Nat × Tr Value × Value)) (t t' : Tr Value) (E E' : EH),
  Zf1 C P ops tbl l fl t E = some (t', E') → K t'.act E'.toAH → Zk P ops tbl K l (ZlZ fl) t.act E.toAH := by
 intro l
 induction l with
 | nil => intro fl t t' E E' h k; cases h; exact k
 | cons i rest ih =>
  intro fl t t' E E' h k
  rw [Zf1] at h
  simp only [Zk]
  split at h
  ·cases h
  rename_i o ho
  rw [ho]
  dsimp only
  split at h
  ·rename_i hw
   rw [if_pos hw]
   split at h
   ·rename_i v E1 h1
    split at h
    ·rename_i hs
     split at h
     ·rename_i t1 h2
      refine ZiP hC h1 ⟨fun he => ?_, ?_⟩
      ·rw [he] at hs; exact ZjK (by simpa using hs)
      ·rw [← Zf2 h2]
       split at h
       ·rename_i hf
        rw [if_pos (Zin.1 hf)]
        exact ih _ _ _ _ _ h k
       ·rename_i hf
        rw [if_neg (fun hh => by rw [Zin.2 hh] at hf; cases hf)]
        exact ih _ _ _ _ _ h k
     ·cases h
    ·cases h
   ·cases h
  ·rename_i hw
   rw [if_neg (by rw [hw]; exact Bool.false_ne_true)]
   split at h
   ·rename_i t1 h2
    rw [← Zf2 h2]
    exact ih _ _ _ _ _ h k
   ·cases h
def ZhX : Nat → List Value → Tr Value → Option (Tr Value)
 | _, [], t => some t
 | i, v :: l, t => match t.set 40 i v with
  | some t => ZhX (i + 1) l t
  | none => none
theorem Zlt : ∀ (l : List Value) (i : Nat) (t t' : Tr Value), ZhX i l t = some t' → ∀ j, t'.get j = if i ≤ j ∧ j < i + l.length then l[j - i]? else t.get j := by
 intro l
 induction l with
 | nil => intro i t t' h j; cases h; rw [if_neg (by simp)]
 | cons v l ih =>
  intro i t t' h j
  rw [ZhX] at h
  split at h
  ·rename_i t1 h1
   rw [ih _ _ _ h j, Tr.set_spec _ _ _ _ h1]
   by_cases hj : j = i
   ·subst hj; rw [if_neg (by omega), if_pos rfl, if_pos (by simp)]; simp
   ·rw [if_neg hj]
    by_cases hj2 : i + 1 ≤ j ∧ j < i + 1 + l.length
    ·rw [if_pos hj2, if_pos (by simp; omega)]
     rw [show j - i = (j - (i + 1)) + 1 from by omega, List.getElem?_cons_succ]
    ·rw [if_neg hj2, if_neg (by simp; omega)]
  ·cases h
def Zgj (P : Program) (α : AAct) (H : AH) : List ResultVar → Option (List Value)
 | [] => some []
 | .tmp t :: l => match Zgj P α H l with
  | some vs => some (α t :: vs)
  | none => none
 | .cell a t :: l => match ZaV P t (α a) H, Zgj P α H l with
  | some v, some vs => some (v :: vs)
  | _, _ => none
theorem Zl2 {α : AAct} {H : AH} : ∀ (l : List ResultVar), Zgj P α H l = Zbt P α H l := by
 intro l
 induction l with
 | nil => rfl
 | cons r l ih =>
  cases r with
  | tmp t => simp only [Zgj, Zbt, ih]; cases Zbt P α H l <;> rfl
  | cell a t => simp only [Zgj, Zbt, ih]; rfl
def Zfw (R : Nat → Code → Tr Value → EH → Option (Exit × Tr Value × EH)) (prim : FuncId → Option ZbX) (P : Program) : ZbX := fun f args E =>
 match prim f with
 | some C => C f args E
 | none => match P.funcs[f]? with
  | some fn => match fn.body with
   | some c => match Nat.ble args.size fn.ntmps, ZhX 0 args.toList .nil with
    | true, some t => match R fn.ntmps c t E with
     | some (.normal, t', E') | some (.ret, t', E') => match Zgj P t'.act E'.toAH fn.results.toList with
      | some vs => match nfV 6 (ZdM vs) with
       | some v => some (v, E')
       | none => none
      | none => none
     | _ => none
    | _, _ => none
   | none => none
  | none => none
def ev (prim : FuncId → Option ZbX) (P : Program) : Nat → Nat → Code → Tr Value → EH → Option (Exit × Tr Value × EH)
 | 0, _, _, _, _ => none
 | n + 1, N, c, t, E => match c with
  | .skip => some (.normal, t, E)
  | .label _ => some (.normal, t, E)
  | .seq x y => match ev prim P n N x t E with
   | some (.normal, t', E') => ev prim P n N y t' E'
   | r => r
  | .cond c x y => match Zcn c with
   | true => match Zy t.act c with
    | .bool true => ev prim P n N x t E
    | .bool false => ev prim P n N y t E
    | _ => none
   | false => none
  | .block id c => match ev prim P n N c t E with
   | some (.exit id', t', E') => match Nat.beq id' id with
    | true => some (.normal, t', E')
    | false => some (.exit id', t', E')
   | r => r
  | .loop c => match ev prim P n N c t E with
   | some (.normal, t', E') => ev prim P n N (.loop c) t' E'
   | r => r
  | .exit id => some (.exit id, t, E)
  | .ret => some (.ret, t, E)
  | .region _ ops false => match ZdT N ops.toList with
   | true => match Zg2 (Zfw (ev prim P n) prim P) P ops ops.toList t E with
    | some (t', E') => some (.normal, t', E')
    | none => none
   | false => none
  | .region _ ops true => match ZeK N ops (ZlX ops) with
   | true => match Zf1 (Zfw (ev prim P n) prim P) P ops (Zba ops.toList) (ZlX ops) [] t E with
    | some (t', E') => some (.normal, t', E')
    | none => none
   | false => none
  | _ => none
theorem ZfO (hm : P.follows .mixedOrders = true) {prim : FuncId → Option ZbX} (hp : ∀ f C, prim f = some C → Zem P C) {R : Nat → Code → Tr Value → EH → Option (Exit × Tr Value × EH)}
  (hR : ∀ N c t E e t' E', R N c t E = some (e, t', E') → ∀ Q : Exit → AAct → AH → Prop, Q e t'.act E'.toAH → aWp P N c Q t.act E.toAH) : Zem P (Zfw R prim P) := by
 intro f args E v E' h
 unfold Zfw at h
 split at h
 ·rename_i C hC; exact hp _ _ hC _ _ _ _ _ h
 split at h
 ·rename_i fn hf
  split at h
  ·rename_i c hb
   split at h
   ·rename_i t hn ht
    have hact : t.act = ZgN args := by
     funext i
     show (match t.get i with | some v => v | none => undef) = args.getD i undef
     rw [Zlt _ _ _ _ ht, Tr.get_nil, Array.getD_eq_getD_getElem?]
     by_cases hi : i < args.size
     ·rw [if_pos ⟨Nat.zero_le _, by simpa using hi⟩]
      simp [hi]
     ·rw [if_neg (by simp; omega), Array.getElem?_eq_none (by omega)]; rfl
    refine ZcK hm hf hb (Nat.le_of_ble_eq_true hn) ?_
    rw [← hact]
    have fin : ∀ (e : Exit) (t' : Tr Value) (E1 : EH), (e = .normal ∨ e = .ret) → R fn.ntmps c t E = some (e, t', E1) → (match Zgj P t'.act E1.toAH fn.results.toList with
      | some vs => match nfV 6 (ZdM vs) with
       | some v => some (v, E1)
       | none => none
      | none => none) = some (v, E') → aWp P fn.ntmps c (Zdk P fn fun v' H' => v' = v ∧ H' = E'.toAH) t.act E.toAH := by
     intro e t' E1 he hr hv
     refine hR _ _ _ _ _ _ _ hr _ ?_
     rw [Zl2] at hv
     split at hv
     ·rename_i vs hvs
      split at hv
      ·rename_i v1 hn1
       cases hv
       have hrw := (Zed _ _ _ hn1).symm
       rcases he with rfl | rfl
       ·simp only [Zdk, hvs]; exact ⟨hrw, trivial⟩
       ·simp only [Zdk, hvs]; exact ⟨hrw, trivial⟩
      ·cases hv
     ·cases hv
    split at h
    ·rename_i t' E1 hr; exact fin _ _ _ (.inl rfl) hr h
    ·rename_i t' E1 hr; exact fin _ _ _ (.inr rfl) hr h
    ·cases h
   ·cases h
  ·cases h
 ·cases h
theorem Zk8 (hm : P.follows .mixedOrders = true) {prim : FuncId → Option ZbX} (hp : ∀ f C, prim f = some C → Zem P C) : ∀ (n N : Nat) (c : Code) (t : Tr Value) (E : EH) (e : Exit) (t' : Tr Value) (E' : EH),
  ev prim P n N c t E = some (e, t', E') → ∀ Q : Exit → AAct → AH → Prop, Q e t'.act E'.toAH → aWp P N c Q t.act E.toAH := by
 intro n
 induction n with
 | zero => intro N c t E e t' E' h; cases h
 | succ n ih =>
  intro N c t E e t' E' h Q hQ
  have hC := ZfO hm hp (R := ev prim P n) (fun N c t E e t' E' h Q hQ => ih N c t E e t' E' h Q hQ)
  cases c with
  | skip => simp only [ev, Option.some.injEq, Prod.mk.injEq] at h; obtain ⟨rfl, rfl, rfl⟩ := h; exact hQ
  | label l => simp only [ev, Option.some.injEq, Prod.mk.injEq] at h; obtain ⟨rfl, rfl, rfl⟩ := h; exact hQ
  | seq x y =>
   simp only [ev] at h
   split at h
   ·rename_i t1 E1 h1
    exact ih _ _ _ _ _ _ _ h1 _ (ih _ _ _ _ _ _ _ h Q hQ)
   ·rename_i hn
    refine ih _ _ _ _ _ _ _ h _ ?_
    cases e with
    | normal => exact absurd h (hn _ _)
    | _ => exact hQ
  | cond c x y =>
   simp only [ev] at h
   split at h
   ·rename_i ho
    split at h
    ·rename_i hb; exact ⟨ho, true, hb, fun _ => ih _ _ _ _ _ _ _ h Q hQ, fun h => by cases h⟩
    ·rename_i hb; exact ⟨ho, false, hb, fun h => (by cases h), fun _ => ih _ _ _ _ _ _ _ h Q hQ⟩
    ·cases h
   ·cases h
  | block id c =>
   simp only [ev] at h
   split at h
   ·rename_i id' t1 E1 h1
    refine ih _ _ _ _ _ _ _ h1 _ ?_
    simp only [ZcZ]
    split at h
    ·rename_i hb; cases h; rw [if_pos (Zh0 hb)]; exact hQ
    ·rename_i hb; cases h; rw [if_neg (beq_f hb)]; exact hQ
   ·rename_i hn
    refine ih _ _ _ _ _ _ _ h _ ?_
    cases e with
    | exit id' => exact absurd h (hn _ _ _)
    | _ => exact hQ
  | loop c =>
   simp only [ev] at h
   intro R hR
   refine hR _ _ ?_
   split at h
   ·rename_i t1 E1 h1
    exact ih _ _ _ _ _ _ _ h1 _ (ih _ _ _ _ _ _ _ h Q hQ R hR)
   ·rename_i hn
    refine ih _ _ _ _ _ _ _ h _ ?_
    cases e with
    | normal => exact absurd h (hn _ _)
    | _ => exact hQ
  | exit id => simp only [ev, Option.some.injEq, Prod.mk.injEq] at h; obtain ⟨rfl, rfl, rfl⟩ := h; exact hQ
  | ret => simp only [ev, Option.some.injEq, Prod.mk.injEq] at h; obtain ⟨rfl, rfl, rfl⟩ := h; exact hQ
  | region id ops d =>
   cases d with
   | false =>
    simp only [ev] at h
    split at h
    ·rename_i ho
     split at h
     ·rename_i t1 E1 h1; cases h; exact ⟨ho, Zln hC _ _ _ _ _ h1 hQ⟩
     ·cases h
    ·cases h
   | true =>
    simp only [ev] at h
    split at h
    ·rename_i ho
     split at h
     ·rename_i t1 E1 h1; cases h; exact ⟨_, ho, ZlH hC _ [] _ _ _ _ h1 hQ⟩
     ·cases h
    ·cases h
  | _ => simp only [ev] at h; cases h
def Zm1 : FuncId → Option ZbX := fun _ => none
def evF (prim : FuncId → Option ZbX) (P : Program) (n : Nat) : ZbX := Zfw (ev prim P n) prim P
theorem Zkt (hm : P.follows .mixedOrders = true) {prim : FuncId → Option ZbX} (hp : ∀ f C, prim f = some C → Zem P C) (n : Nat) : Zem P (evF prim P n) :=
 ZfO hm hp fun _ _ _ _ _ _ _ h _ hQ => Zk8 hm hp _ _ _ _ _ _ _ _ h _ hQ
def evB (P : Program) (n : Nat) (f : FuncId) (args : Array Value) : Option Bool :=
 match evF Zm1 P n f args .nil with
 | some (.bool b, _) => some b
 | _ => none
theorem ZlD {μ : Mu} {a a' : Array Value} (hp : a.toList.all plain = true) (h : ARel μ a a') : a' = a := by
 apply Array.ext_getElem?
 intro j
 by_cases hj : j < a.size
 ·have hj' : j < a'.size := by have := h.1; omega
  have hi := h.2 j
  simp only [Array.getD_eq_getD_getElem?, Array.getElem?_eq_getElem hj, Array.getElem?_eq_getElem hj', Option.getD_some] at hi
  rw [Array.getElem?_eq_getElem hj, Array.getElem?_eq_getElem hj', Zc3 (List.all_eq_true.1 hp a[j] (by simp)) hi]
 ·have := h.1
  rw [Array.getElem?_eq_none (by omega), Array.getElem?_eq_none (by omega)]
theorem ZhT {f : FuncId} {args : Array Value} {r : Value} {K : AH → Prop} (h : ACalls P f args EH.nil.toAH fun v H' => v = r ∧ K H') (hr : plain r = true) (ha : args.toList.all plain = true) (H : AH) :
  ACalls P f args H fun v H' => v = r ∧ H' = H := by
 intro μ w args' hrel harel
 have he := ZlD ha harel
 subst he
 have h0 : Rel (fun _ => none) EH.nil.toAH w := ⟨fun b p e => (by cases e), fun b p e => (by cases e), fun b b' p p' o o' e => (by cases e), fun b _ => (by
  show EH.get EH.nil b = none
  unfold EH.get EH.nil
  rw [Tr.get_nil]), ⟨fun v hv => ⟨(hrel.pin.1 v hv).1, fun b p e => (by cases e)⟩, fun _ _ h => (by cases h), fun _ _ h => (by cases h)⟩⟩
 have hself : ARel (fun _ => none) args' args' := by
  rw [ARel.toList]
  refine ⟨rfl, fun i a b hx hy => ?_⟩
  rw [hx] at hy; cases hy
  exact Zah _ (List.all_eq_true.1 ha a (List.mem_of_getElem? hx))
 refine (h _ w args' h0 hself).mono ?_
 rintro e w' ⟨v, v', H', μ', rfl, ⟨rfl, _⟩, hv, hr', hk⟩
 have hv' := Zc3 hr hv
 subst hv'
 have hkb : ∀ k, k < w.heap.size → w'.heap[k]? = w.heap[k]? := fun k hlt => hk.block k hlt fun b p hb _ => by cases hb
 refine ⟨v', v', H, μ, rfl, ⟨rfl, rfl⟩, Zah _ hr, ⟨fun b p e => ⟨(hrel.lt b p e).1, Nat.lt_of_lt_of_le (hrel.lt b p e).2 hk.size⟩, fun b p e => ?_, hrel.apart, hrel.fresh, ⟨fun v hv => ⟨(hr'.pin.1 v hv).1, (hrel.pin.1 v hv).2⟩, fun _ _ h => (by cases h), fun _ _ h => (by cases h)⟩⟩,
  ⟨.refl μ, Nat.le_refl _, hk.os, hk.tape, hk.output, hk.drw, hk.size, fun k hlt _ => hkb k hlt, fun _ _ h => ⟨h, .inl rfl⟩, fun _ _ h => h, fun b p h h0 => by rw [h0] at h; cases h⟩⟩
 obtain ⟨o, g1, g2⟩ := hrel.ok b p e
 exact ⟨o, g1, g2.congr (.refl _) (hkb _ (hrel.lt b p e).2)⟩
theorem ZjR (hm : P.follows .mixedOrders = true) {n : Nat} {f : FuncId} {args : Array Value} {b : Bool} (h : evB P n f args = some b) (ha : args.toList.all plain = true) (H : AH) :
  ACalls P f args H fun v H' => v = .bool b ∧ H' = H := by
 unfold evB at h
 split at h
 ·rename_i b' E' h1
  cases h
  refine ZhT (K := fun H' => H' = E'.toAH) (Zkt hm (fun f C h => by cases h) n _ _ _ _ _ h1) rfl ha H
 ·cases h
end Go.Vd
