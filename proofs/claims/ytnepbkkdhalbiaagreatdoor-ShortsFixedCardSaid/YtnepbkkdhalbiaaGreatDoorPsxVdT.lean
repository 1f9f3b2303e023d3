/- The evaluator's operations, and that they are the abstract heap's. -/
import Derived.Test.YtnepbkkdhalbiaaGreatDoorPsxVdS
namespace Go.Vd
variable {P : Program}
def Zf6 (E : EH) (b o : Nat) (vs : List Value) : Option EH :=
 match E.get b with
 | some (.row .own cs) => match spl cs o vs with
  | some r => E.upd b (.row .own r)
  | none => none
 | some (.row (.loose φ sz) cs) => match spl cs o vs with
  | some r => match E.kill φ b with
   | some E1 => E1.upd b (.row (.loose φ sz) r)
   | none => none
  | none => none
 | _ => none
theorem EH.get_loose {E : EH} {b φ sz : Nat} {cs : List Value} (h : E.get b = some (.row (.loose φ sz) cs)) : Zcv (E.fam φ) b = true := by
 unfold EH.get at h
 split at h
 ·split at h
  ·rename_i hm; cases h; exact hm
  ·cases h
 ·rename_i hn; exact absurd h (hn _ _ _)
theorem Ze6 {E E' : EH} {b o : Nat} {vs : List Value} (h : Zf6 E b o vs = some E') : E.toAH.puts b o vs = some E'.toAH := by
 unfold Zf6 at h
 unfold AH.puts
 show (match E.get b with | some (.row .own cs) => _ | some (.row (.loose φ sz) cs) => _ | _ => none) = _
 split at h
 ·rename_i cs hg
  split at h
  ·rename_i r hr
   obtain ⟨h1, rfl⟩ := Zid _ _ _ _ hr
   rw [if_pos h1, EH.upd_eq h (fun _ _ _ e => by cases e)]
  ·cases h
 ·rename_i φ sz cs hg
  split at h
  ·rename_i r hr
   obtain ⟨h1, rfl⟩ := Zid _ _ _ _ hr
   rw [if_pos h1]
   split at h
   ·rename_i E1 hk
    have := (EH.kill_eq hk).1
    rw [EH.upd_eq h (fun ψ _ _ e => by
     cases e
     rw [EH.kill_fam hk, EH.get_loose hg]; simp), this]
   ·cases h
  ·cases h
 ·cases h
def ZeE : List Value → Option (List Value)
 | [] => some []
 | v :: l => match ZeE l with
  | some l => some (v :: l)
  | none => none
theorem Zfm : ∀ {l m : List Value}, ZeE l = some m → m = l := by
 intro l
 induction l with
 | nil => intro m h; cases h; rfl
 | cons v l ih =>
  intro m h
  simp only [ZeE] at h
  split at h
  ·rename_i h1; cases h; rw [ih h1]
  ·cases h
def ZeF (E : EH) (sz bytes : Nat) (s : Value) (n : Nat) (vs : List Value) : Option (Value × EH) :=
 if sz = 0 ∨ vs.length ≠ n * sz then none else
 match s with
 | .slice base len cap =>
  if len + n ≤ cap then
   match base with
   | none => if len + n = 0 then some (.slice none 0 cap, E) else none
   | some ⟨b, o, none⟩ => if n = 0 then some (s, E) else match Zf6 E b (o + len * sz) vs with
    | some E' => some (.slice base (len + n) cap, E')
    | none => none
   | some _ => none
  else if bytes = 0 ∨ ((len + n) + (len + n) / 4 + 512) * bytes > 2 ^ 48 then none else
   match base with
   | none => if len = 0 ∧ cap = 0 then match ZeE vs with
     | some vs => match E.push (.row (.loose E.n sz) vs) with
      | some E' => some (.slice (some ⟨E.n, 0, none⟩) n n, E')
      | none => none
     | none => none
    else none
   | some ⟨b, o, none⟩ =>
    match E.toAH.cells b o (len * sz), E.get b with
    | some old, some (.row (.loose φ sz') cs) =>
     if sz' = sz ∧ o + cap * sz = cs.length then
      match ZeE (old ++ vs), E.kill φ (if len = cap then b else E.n) with
      | some l, some E1 => match E1.push (.row (.loose φ sz) l) with
       | some E' => some (.slice (some ⟨E.n, 0, none⟩) (len + n) (len + n), E')
       | none => none
      | _, _ => none
     else none
    | some old, some (.row _ _) => match ZeE (old ++ vs) with
      | some l => match E.push (.row (.loose E.n sz) l) with
       | some E' => some (.slice (some ⟨E.n, 0, none⟩) (len + n) (len + n), E')
       | none => none
      | none => none
    | _, _ => none
   | some _ => none
 | _ => none
theorem ZeR {E E' : EH} {sz bytes n : Nat} {s v : Value} {vs : List Value} (h : ZeF E sz bytes s n vs = some (v, E')) : E.toAH.append sz bytes s n vs = some (v, E'.toAH) := by
 unfold ZeF at h
 unfold AH.append
 split at h
 ·cases h
 rename_i h0
 rw [if_neg h0]
 split at h
 ·rename_i base len cap
  dsimp only
  split at h
  ·rename_i h1
   rw [if_pos h1]
   split at h
   ·split at h
    ·rename_i h2; cases h; rw [if_pos h2]
    ·cases h
   ·rename_i b o
    dsimp only
    split at h
    ·rename_i h2; cases h; rw [if_pos h2]
    ·rename_i h2
     rw [if_neg h2]
     split at h
     ·rename_i E1 h3; cases h; rw [Ze6 h3]; rfl
     ·cases h
   ·cases h
  ·rename_i h1
   rw [if_neg h1]
   split at h
   ·cases h
   rename_i h2
   rw [if_neg h2]
   split at h
   ·split at h
    ·rename_i h3
     split at h
     ·rename_i l hl
      have := Zfm hl; subst this
      split at h
      ·rename_i E1 h4; cases h
       dsimp only
       rw [if_pos h3, EH.push_eq h4]; rfl
      ·cases h
     ·cases h
    ·cases h
   ·rename_i b o
    dsimp only
    show (match E.toAH.cells b o (len * sz), E.get b with
     | some old, some (.row (.loose φ sz') cs) => _
     | some old, some (.row _ _) => _
     | _, _ => none) = _
    split at h
    ·rename_i old φ sz' cs hc hg
     split at h
     ·rename_i h3
      rw [if_pos h3]
      split at h
      ·rename_i l E1 hl hk
       have := Zfm hl; subst this
       split at h
       ·rename_i E2 h4; cases h
        rw [EH.push_eq h4, (EH.kill_eq hk).1]; rfl
       ·cases h
      ·cases h
     ·cases h
    ·rename_i old k cs hne hc hg
     split at h
     ·rename_i l hl
      have := Zfm hl; subst this
      split at h
      ·rename_i E2 h4; cases h
       rw [EH.push_eq h4]
       cases hk : k with
       | loose φ sz' => subst hk; exact (hne _ _ rfl).elim
       | _ => rfl
      ·cases h
     ·cases h
    ·cases h
   ·cases h
 ·cases h
def Zim (P : Program) (t : TypeId) (a x : Value) (E : EH) : Option EH :=
 match a, P.info? t with
 | .pointer (some ⟨b, o, none⟩), some i => if x.cells.size = i.size ∧ Zl x.cells.toList = true then Zf6 E b o x.cells.toList else none
 | _, _ => none
theorem Zkg {t : TypeId} {a x : Value} {E E' : EH} (h : Zim P t a x E = some E') : ZbI P t a x E.toAH = some E'.toAH := by
 unfold Zim at h
 split at h
 ·rename_i b o i hi
  simp only [ZbI, hi]
  split at h
  ·rename_i h1; rw [if_pos h1]; exact Ze6 h
  ·cases h
 ·cases h
def Zfv (P : Program) (at_ : Array TypeId) (s x : Value) (H : EH) : Option (Value × EH) :=
 match at_[0]?.bind (Zag P), at_[1]?.bind P.underlying with
 | some (_, i, _), some (.slice _) =>
  match x with
  | .slice none _ _ => ZeF H i.size i.bytes s 0 []
  | .slice (some ⟨b, o, none⟩) m _ => match H.toAH.cells b o (m * i.size) with
   | some vs => if Zl vs = true then ZeF H i.size i.bytes s m vs else none
   | none => none
  | _ => none
 | some (_, i, z), some (.int _) =>
  match x with
  | .int _ n => if 0 ≤ n ∧ n ≤ 9223372036854775807 ∧ n.toNat * i.bytes ≤ 2 ^ 48 then ZeF H i.size i.bytes s n.toNat (ZK z n.toNat) else none
  | _ => none
 | _, _ => none
theorem Ziu {at_ : Array TypeId} {s x v : Value} {E E' : EH} (h : Zfv P at_ s x E = some (v, E')) : ZX P at_ s x E.toAH = some (v, E'.toAH) := by
 unfold Zfv at h
 unfold ZX
 split at h
 ·rename_i a1 a2
  rw [a1, a2]
  dsimp only
  split at h
  ·exact ZeR h
  ·rename_i b o m c
   dsimp only
   split at h
   ·rename_i vs hc
    rw [hc]
    dsimp only
    split at h
    ·rename_i h1; rw [if_pos h1]; exact ZeR h
    ·cases h
   ·cases h
  ·cases h
 ·rename_i a1 a2
  rw [a1, a2]
  dsimp only
  split at h
  ·dsimp only
   split at h
   ·rename_i h1; rw [if_pos h1]; exact ZeR h
   ·cases h
  ·cases h
 ·cases h
def Zju (P : Program) (at_ : Array TypeId) (d s : Value) (H : EH) : Option (Value × EH) :=
 match at_[0]?.bind (Zag P) with
 | some (_, i, _) =>
  match d, s with
  | .slice da dl _, .slice sa sl _ =>
   if Nat.min sl dl = 0 then some (.int .i64 0, H) else
   match da, sa with
   | some ⟨db, dof, none⟩, some ⟨sb, so, none⟩ =>
    match H.toAH.cells sb so (Nat.min sl dl * i.size) with
    | some vs => match Zf6 H db dof vs with
     | some H' => some (.int .i64 (Nat.min sl dl : Nat), H')
     | none => none
    | none => none
   | _, _ => none
  | _, _ => none
 | none => none
theorem Zk9 {at_ : Array TypeId} {d s v : Value} {E E' : EH} (h : Zju P at_ d s E = some (v, E')) : Zc1 P at_ d s E.toAH = some (v, E'.toAH) := by
 unfold Zju at h
 unfold Zc1
 split at h
 ·rename_i a1
  rw [a1]
  dsimp only
  split at h
  ·dsimp only
   split at h
   ·rename_i h1; cases h; rw [if_pos h1]
   ·rename_i h1
    rw [if_neg h1]
    split at h
    ·dsimp only
     split at h
     ·rename_i vs hc
      rw [hc]
      dsimp only
      split at h
      ·rename_i hp; cases h; rw [Ze6 hp]; rfl
      ·cases h
     ·cases h
    ·cases h
  ·cases h
 ·cases h
def Zih (P : Program) (at_ : Array TypeId) (d : Value) (H : EH) : Option EH :=
 match at_[0]?.bind (Zag P) with
 | some (_, _, z) =>
  match d with
  | .slice none _ _ => some H
  | .slice (some ⟨b, o, none⟩) n _ => if n = 0 then some H else Zf6 H b o (ZK z n)
  | _ => none
 | none => none
theorem Zkl {at_ : Array TypeId} {d : Value} {E E' : EH} (h : Zih P at_ d E = some E') : Zcb P at_ d E.toAH = some E'.toAH := by
 unfold Zih at h
 unfold Zcb
 split at h
 ·rename_i a1
  rw [a1]
  dsimp only
  split at h
  ·cases h; rfl
  ·dsimp only
   split at h
   ·rename_i h1; cases h; rw [if_pos h1]
   ·rename_i h1; rw [if_neg h1]; exact Ze6 h
  ·cases h
 ·cases h
def ZjC : List (Value × Value) → Nat → Value × Value → Option (List (Value × Value))
 | [], _, _ => some []
 | _ :: l, 0, e => some (e :: l)
 | x :: l, n + 1, e => match ZjC l n e with
  | some l => some (x :: l)
  | none => none
theorem Zmt : ∀ {l m : List (Value × Value)} {n : Nat} {e : Value × Value}, ZjC l n e = some m → m = l.set n e := by
 intro l
 induction l with
 | nil => intro m n e h; cases h; rfl
 | cons x l ih =>
  intro m n e h
  cases n with
  | zero => cases h; rfl
  | succ n =>
   simp only [ZjC] at h
   split at h
   ·rename_i h1; cases h; rw [ih h1]; rfl
   ·cases h
def Zjz : List (Value × Value) → Value × Value → Option (List (Value × Value))
 | [], e => some [e]
 | x :: l, e => match Zjz l e with
  | some l => some (x :: l)
  | none => none
theorem Zmh : ∀ {l m : List (Value × Value)} {e : Value × Value}, Zjz l e = some m → m = l ++ [e] := by
 intro l
 induction l with
 | nil => intro m e h; cases h; rfl
 | cons x l ih =>
  intro m e h
  simp only [Zjz] at h
  split at h
  ·rename_i h1; cases h; rw [ih h1]; rfl
  ·cases h
def Zjw : List (Value × Value) → Nat → Option (List (Value × Value))
 | [], _ => some []
 | _ :: l, 0 => some l
 | x :: l, n + 1 => match Zjw l n with
  | some l => some (x :: l)
  | none => none
theorem Zl8 : ∀ {l m : List (Value × Value)} {n : Nat}, Zjw l n = some m → m = l.eraseIdx n := by
 intro l
 induction l with
 | nil => intro m n h; cases h; rfl
 | cons x l ih =>
  intro m n h
  cases n with
  | zero => cases h; rfl
  | succ n =>
   simp only [Zjw] at h
   split at h
   ·rename_i h1; cases h; rw [ih h1]; rfl
   ·cases h
def Zf7 (P : Program) (t : TypeId) (m k v : Value) (H : EH) : Option EH :=
 match P.underlying t, m with
 | some (.map kt _), .map (some b) =>
  match P.underlying kt, H.get b with
  | some d, some (.map es clock) =>
   if ZdL P kt && Zax k then
    match Zcm d k es 0 with
    | some (some (i, _)) => match ZjC es i (k, v) with
     | some l => H.upd b (.map l clock)
     | none => none
    | some none => match Zjz es (k, v), nfN (clock + 1) with
     | some l, some c => H.upd b (.map l c)
     | _, _ => none
    | none => none
   else none
  | _, _ => none
 | _, _ => none
theorem ZgR {t : TypeId} {m k v : Value} {E E' : EH} (h : Zf7 P t m k v E = some E') : Zcc P t m k v E.toAH = some E'.toAH := by
 unfold Zf7 at h
 unfold Zcc
 split at h
 ·rename_i kt et b hu
  rw [hu]
  dsimp only
  split at h
  ·rename_i d es clock hd hg
   rw [hd, show E.toAH.get b = some (.map es clock) from hg]
   dsimp only
   split at h
   ·rename_i h1
    rw [if_pos h1]
    split at h
    ·rename_i i w hf
     rw [hf]
     dsimp only
     split at h
     ·rename_i l hl
      rw [EH.upd_eq h (fun _ _ _ e => by cases e), Zmt hl]
     ·cases h
    ·rename_i hf
     rw [hf]
     dsimp only
     split at h
     ·rename_i l c hl hc
      rw [EH.upd_eq h (fun _ _ _ e => by cases e), Zmh hl, Zdh hc]
     ·cases h
    ·cases h
   ·cases h
  ·cases h
 ·cases h
def Zhb (P : Program) (at_ : Array TypeId) (m k : Value) (H : EH) : Option EH :=
 match at_[0]?.bind P.underlying, m with
 | some (.map kt _), .map (some b) =>
  match P.underlying kt, H.get b with
  | some d, some (.map es clock) =>
   if ZdL P kt then
    match Zcm d k es 0 with
    | some (some (i, _)) => match Zjw es i with
     | some l => H.upd b (.map l clock)
     | none => none
    | some none => H.upd b (.map es clock)
    | none => none
   else none
  | _, _ => none
 | _, _ => none
theorem Zj5 {at_ : Array TypeId} {m k : Value} {E E' : EH} (h : Zhb P at_ m k E = some E') : ZdZ P at_ m k E.toAH = some E'.toAH := by
 unfold Zhb at h
 unfold ZdZ
 split at h
 ·rename_i kt et b hu
  rw [hu]
  dsimp only
  split at h
  ·rename_i d es clock hd hg
   rw [hd, show E.toAH.get b = some (.map es clock) from hg]
   dsimp only
   split at h
   ·rename_i h1
    rw [if_pos h1]
    split at h
    ·rename_i i w hf
     rw [hf]
     dsimp only
     split at h
     ·rename_i l hl
      rw [EH.upd_eq h (fun _ _ _ e => by cases e), Zl8 hl]
     ·cases h
    ·rename_i hf
     rw [hf]
     dsimp only
     rw [EH.upd_eq h (fun _ _ _ e => by cases e)]
    ·cases h
   ·cases h
  ·cases h
 ·cases h
def eEff (P : Program) (ρ : Operand → Value) (E : EH) : Op → Option (Value × EH)
 | .store t a x => match Zim P t (ρ a) (ρ x) E with
  | some E' => some (undef, E')
  | none => none
 | .mapUpdate t m k v => match Zf7 P t (ρ m) (ρ k) (ρ v) E with
  | some E' => some (undef, E')
  | none => none
 | .insert t m k v => match Zf7 P t (ρ m) (ρ k) (ρ v) E with
  | some E' => some (undef, E')
  | none => none
 | .call { callee := .builtin .append, args, argTypes } => match args.toList with
  | [s, x] => Zfv P argTypes (ρ s) (ρ x) E
  | _ => none
 | .call { callee := .builtin .copy, args, argTypes } => match args.toList with
  | [d, s] => Zju P argTypes (ρ d) (ρ s) E
  | _ => none
 | .call { callee := .builtin .clear, args, argTypes } => match args.toList with
  | [d] => match Zih P argTypes (ρ d) E with
   | some E' => some (.tuple #[], E')
   | none => none
  | _ => none
 | .call { callee := .builtin .delete, args, argTypes } => match args.toList with
  | [m, k] => match Zhb P argTypes (ρ m) (ρ k) E with
   | some E' => some (.tuple #[], E')
   | none => none
  | _ => none
 | _ => none
theorem Zl7 {ρ : Operand → Value} {E E' : EH} {op : Op} {v : Value} (h : eEff P ρ E op = some (v, E')) : Zc8 P ρ E.toAH op = some (v, E'.toAH) := by
 unfold eEff at h
 split at h
 ·split at h
  ·rename_i h1; cases h; simp only [Zc8, Zkg h1, Option.map_some]
  ·cases h
 ·split at h
  ·rename_i h1; cases h; simp only [Zc8, ZgR h1, Option.map_some]
  ·cases h
 ·split at h
  ·rename_i h1; cases h; simp only [Zc8, ZgR h1, Option.map_some]
  ·cases h
 ·split at h
  ·rename_i ha; simp only [Zc8, ha]; exact Ziu h
  ·cases h
 ·split at h
  ·rename_i ha; simp only [Zc8, ha]; exact Zk9 h
  ·cases h
 ·split at h
  ·rename_i ha
   split at h
   ·rename_i h1; cases h; simp only [Zc8, ha, Zkl h1, Option.map_some]
   ·cases h
  ·cases h
 ·split at h
  ·rename_i ha
   split at h
   ·rename_i h1; cases h; simp only [Zc8, ha, Zj5 h1, Option.map_some]
   ·cases h
  ·cases h
 ·cases h
end Go.Vd
