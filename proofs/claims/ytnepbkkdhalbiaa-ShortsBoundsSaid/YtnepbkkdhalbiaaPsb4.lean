/- Lists and places. Plain Lean: no program here. -/
import Derived.Test.YtnepbkkdhalbiaaPsb3
import Derived.Test.YtnepbkkdhalbiaaPsbSo0
import Derived.Test.YtnepbkkdhalbiaaPsbVdQ
import Derived.Test.YtnepbkkdhalbiaaPsbISb
import Derived.Test.YtnepbkkdhalbiaaPsbVpB
set_option linter.unusedVariables false
set_option linter.unusedSimpArgs false
set_option linter.unusedSectionVars false
/-! (Mo0) -/

namespace Go.Vd
theorem Za9 {E : Type} [Inhabited E] {l : List E} {i : Int} (h0 : 0 ≤ i) (h1 : i < (l.length : Int)) : l.take (i + 1).toNat = l.take i.toNat ++ [gt l i] := by
 have hi : i.toNat < l.length := by omega
 rw [show (i + 1).toNat = i.toNat + 1 from by omega, List.take_add_one, List.getElem?_eq_getElem hi]
 have : gt l i = l[i.toNat] := by simp [gt, List.getD_eq_getElem?_getD, hi]
 rw [this]; rfl
theorem ZaF {E : Type} [Inhabited E] {l : List E} {i j : Int} {v : E} (i0 : 0 ≤ i) (i1 : i < (l.length : Int)) (j0 : 0 ≤ j) : gt (l.set i.toNat v) j = if j = i then v else gt l j := by
 unfold gt
 rw [List.getD_eq_getElem?_getD, List.getD_eq_getElem?_getD, List.getElem?_set]
 by_cases h : j = i
 ·subst h; rw [if_pos rfl, if_pos rfl, if_pos (by omega)]; rfl
 ·rw [if_neg h, if_neg (by omega)]
theorem Zl8 {E : Type} [Inhabited E] {l m : List E} (hl : l.length = m.length) (h : ∀ j : Int, 0 ≤ j -> j < (l.length : Int) -> gt l j = gt m j) : l = m := by
 refine List.ext_getElem hl fun j h1 h2 => ?_
 have := h (j : Int) (by omega) (by omega)
 rwa [Zfi h1, Zfi h2] at this
end Go.Vd

/-! (Gb) -/

set_option linter.unusedVariables false
set_option linter.unusedSimpArgs false
namespace Go.Vd
abbrev A3 := Int × Int × Int
theorem eq3 {x y : A3} (h1 : x.1 = y.1) (h2 : x.2.1 = y.2.1) (h3 : x.2.2 = y.2.2) : x = y := by
 obtain ⟨a, b, c⟩ := x; obtain ⟨a', b', c'⟩ := y
 simp only at h1 h2 h3
 subst h1; subst h2; subst h3; rfl
theorem Zdb {E : Type} [Inhabited E] {l : List E} {x : E} (h : x ∈ l) : ∃ i : Int, 0 ≤ i /\ i < (l.length : Int) /\ x = gt l i := by
 obtain ⟨i, hi, rfl⟩ := List.getElem_of_mem h
 exact ⟨i, by omega, by omega, (Zfi hi).symm⟩
end Go.Vd

/-! (WtA) -/

set_option linter.unusedVariables false
set_option linter.unusedSimpArgs false
namespace Go.Vd
abbrev Lab := Int -> Option (Int × Int × Int)
def lup (L : Lab) (x : Int) (y : Int × Int × Int) : Lab := fun z => if z = x then some y else L z
def opn (L : Lab) (x d : Int) : Prop := match L x with
 | none => True
 | some y => y.2.2 = 0 /\ d < y.1
instance (L : Lab) (x d : Int) : Decidable (opn L x d) := by
 unfold opn
 cases L x with
 | none => exact inferInstanceAs (Decidable True)
 | some y => exact inferInstanceAs (Decidable (_ /\ _))
def Zcf (d hp : Int) (L : Lab) (a : Int × Int) : Lab := if opn L a.1 (d + a.2) then lup L a.1 (d + a.2, hp + 1, 0) else L
def ZeO (row : Int -> List (Int × Int)) (hops : Int) (L : Lab) (v : Int) (y : Int × Int × Int) : Lab :=
 if y.2.1 ≥ hops then lup L v (y.1, y.2.1, 1) else (row v).foldl (Zcf y.1 y.2.1) (lup L v (y.1, y.2.1, 1))
def WPick (L : Lab) (v : Int) (y : Int × Int × Int) : Prop :=
 L v = some y /\ y.2.2 = 0 /\ ∀ x z, L x = some z -> z.2.2 = 0 -> y.1 < z.1 ∨ (y.1 = z.1 /\ v ≤ x)
def WNo (L : Lab) : Prop := ∀ x z, L x = some z -> z.2.2 ≠ 0
variable {L L' : Lab} {row : Int -> List (Int × Int)} {hops settles most c N v : Int} {y : Int × Int × Int} {ss : List Int}
theorem WPick.uniq {v w : Int} {y z : Int × Int × Int} (h : WPick L v y) (k : WPick L w z) : v = w /\ y = z := by
 have h1 := h.2.2 w z k.1 k.2.1
 have h2 := k.2.2 v y h.1 h.2.1
 have e : v = w := by omega
 subst e
 exact ⟨rfl, Option.some.inj (h.1.symm.trans k.1)⟩
theorem WPick.no (h : WPick L v y) (k : WNo L) : False := k v y h.1 h.2.1
inductive WR (row : Int -> List (Int × Int)) (hops settles most : Int) : Int -> Lab -> Lab -> Prop
 | full (c : Int) (L : Lab) : settles ≤ c -> WR row hops settles most c L L
 | none (c : Int) (L : Lab) : c < settles -> WNo L -> WR row hops settles most c L L
 | far (c : Int) (L : Lab) (v : Int) (y : Int × Int × Int) : c < settles -> WPick L v y -> y.1 > most -> WR row hops settles most c L L
 | go (c : Int) (L : Lab) (v : Int) (y : Int × Int × Int) (L' : Lab) : c < settles -> WPick L v y -> ¬ y.1 > most -> WR row hops settles most (c + 1) (ZeO row hops L v y) L' -> WR row hops settles most c L L'
theorem WR.uniq {A B : Lab} (h : WR row hops settles most c L A) (k : WR row hops settles most c L B) : A = B := by
 induction h with
 | full c L h1 =>
  cases k with
  | full => rfl
  | none => rfl
  | far => rfl
  | go _ _ _ _ _ k1 => omega
 | none c L h1 h2 =>
  cases k with
  | full => rfl
  | none => rfl
  | far => rfl
  | go _ _ _ _ _ _ k2 => exact (k2.no h2).elim
 | far c L v y h1 h2 h3 =>
  cases k with
  | full => rfl
  | none => rfl
  | far => rfl
  | go _ _ _ _ _ _ k2 k3 => rw [(h2.uniq k2).2] at h3; exact absurd h3 k3
 | go c L v y L' h1 h2 h3 _ ih =>
  cases k with
  | full _ _ k1 => omega
  | none _ _ _ k2 => exact (h2.no k2).elim
  | far _ _ _ _ _ k2 k3 => rw [← (h2.uniq k2).2] at k3; exact absurd k3 h3
  | go _ _ w z _ _ k2 _ k4 =>
   obtain ⟨rfl, rfl⟩ := h2.uniq k2
   exact ih k4
def ZiB (row : Int -> List (Int × Int)) (N : Int) : Prop := ∀ v, ∀ a ∈ row v, (0 ≤ a.1 /\ a.1 < N) /\ 0 ≤ a.2 /\ a.2 ≤ 140737488355328
structure WI (N c : Int) (L : Lab) (ss : List Int) : Prop where
 dom : ∀ x y, L x = some y -> 0 ≤ x /\ x < N
 val : ∀ x y, L x = some y -> 0 ≤ y.1 /\ y.1 ≤ c * 140737488355328 /\ 0 ≤ y.2.1 /\ y.2.1 ≤ c /\ (y.2.2 = 0 ∨ y.2.2 = 1)
 st : ∀ x, x ∈ ss ↔ ∃ y, L x = some y /\ y.2.2 = 1
 nd : ss.Nodup
theorem ZkU : ∀ {N : Nat} {l : List Int}, l.Nodup -> (∀ x ∈ l, 0 ≤ x /\ x < (N : Int)) -> l.length ≤ N := by
 intro N
 induction N with
 | zero =>
  intro l _ h
  cases l with
  | nil => simp
  | cons a l => have := h a (by simp); omega
 | succ N ih =>
  intro l hn h
  have h1 : (l.filter (fun x => decide (x ≠ (N : Int)))).length ≤ N := ih (hn.filter _) fun x hx => by
   have hm := List.mem_filter.1 hx
   have := h x hm.1
   have h3 := of_decide_eq_true hm.2
   omega
  have h2 : l.length ≤ (l.filter (fun x => decide (x ≠ (N : Int)))).length + 1 := by
   clear h h1 ih
   induction l with
   | nil => simp
   | cons a l ih2 =>
    rw [List.nodup_cons] at hn
    by_cases e : a = (N : Int)
    ·have : l.filter (fun x => decide (x ≠ (N : Int))) = l := List.filter_eq_self.2 fun x hx => decide_eq_true fun e2 => hn.1 (by rw [e, ← e2]; exact hx)
     rw [List.filter_cons, if_neg (by simp [e]), this]; simp
    ·rw [List.filter_cons, if_pos (by simp [e])]
     have := ih2 hn.2
     simp only [List.length_cons]; omega
  omega
theorem WI.len (h : WI N c L ss) (n0 : 0 ≤ N) : (ss.length : Int) ≤ N := by
 obtain ⟨n, rfl⟩ := Int.eq_ofNat_of_zero_le n0
 have := ZkU (N := n) h.nd fun x hx => by
  obtain ⟨y, h1, _⟩ := (h.st x).1 hx
  exact h.dom x y h1
 omega
theorem WI.mono (h : WI N c L ss) {c' : Int} (hc : c ≤ c') : WI N c' L ss :=
 ⟨h.dom, fun x y e => by have := h.val x y e; omega, h.st, h.nd⟩
theorem WI.settle (h : WI N c L ss) (e : L v = some y) (h0 : y.2.2 = 0) : WI N c (lup L v (y.1, y.2.1, 1)) (v :: ss) := by
 have hv := h.val v y e
 have hn : v ∉ ss := fun hm => by
  obtain ⟨z, h1, h2⟩ := (h.st v).1 hm
  rw [e] at h1; cases h1; omega
 refine ⟨fun x z hz => ?_, fun x z hz => ?_, fun x => ?_, List.nodup_cons.2 ⟨hn, h.nd⟩⟩
 ·unfold lup at hz
  by_cases hx : x = v
  ·rw [hx]; exact h.dom v y e
  ·rw [if_neg hx] at hz; exact h.dom x z hz
 ·unfold lup at hz
  by_cases hx : x = v
  ·rw [if_pos hx] at hz; cases hz; exact ⟨hv.1, hv.2.1, hv.2.2.1, hv.2.2.2.1, .inr rfl⟩
  ·rw [if_neg hx] at hz; exact h.val x z hz
 ·unfold lup
  by_cases hx : x = v
  ·rw [if_pos hx, hx]; exact ⟨fun _ => ⟨_, rfl, rfl⟩, fun _ => by simp⟩
  ·rw [if_neg hx]
   simp only [List.mem_cons, hx, false_or]
   exact h.st x
theorem WI.rel (h : WI N c L ss) {d hp : Int} {a : Int × Int} (d0 : 0 ≤ d) (d1 : d + a.2 ≤ c * 140737488355328) (p0 : 0 ≤ hp) (p1 : hp + 1 ≤ c) (a0 : 0 ≤ a.1 /\ a.1 < N) (w0 : 0 ≤ a.2) : WI N c (Zcf d hp L a) ss := by
 unfold Zcf
 by_cases ho : opn L a.1 (d + a.2)
 ·rw [if_pos ho]
  refine ⟨fun x z hz => ?_, fun x z hz => ?_, fun x => ?_, h.nd⟩
  ·unfold lup at hz
   by_cases hx : x = a.1
   ·rw [hx]; exact a0
   ·rw [if_neg hx] at hz; exact h.dom x z hz
  ·unfold lup at hz
   by_cases hx : x = a.1
   ·rw [if_pos hx] at hz; cases hz; exact ⟨by dsimp only; omega, by dsimp only; omega, by dsimp only; omega, by dsimp only; omega, .inl rfl⟩
   ·rw [if_neg hx] at hz; exact h.val x z hz
  ·rw [h.st x]
   unfold lup
   by_cases hx : x = a.1
   ·rw [if_pos hx]
    constructor
    ·rintro ⟨z, h1, h2⟩
     rw [hx] at h1
     unfold opn at ho
     rw [h1] at ho
     dsimp only at ho
     omega
    ·rintro ⟨z, h1, h2⟩
     cases h1; cases h2
   ·rw [if_neg hx]
 ·rw [if_neg ho]; exact h
theorem WI.fold {d hp : Int} (d0 : 0 ≤ d) (d1 : d + 140737488355328 ≤ c * 140737488355328) (p0 : 0 ≤ hp) (p1 : hp + 1 ≤ c) : ∀ {l : List (Int × Int)} {L : Lab}, WI N c L ss -> (∀ a ∈ l, (0 ≤ a.1 /\ a.1 < N) /\ 0 ≤ a.2 /\ a.2 ≤ 140737488355328) -> WI N c (l.foldl (Zcf d hp) L) ss := by
 intro l
 induction l with
 | nil => intro L h _; exact h
 | cons a l ih =>
  intro L h hl
  have := hl a (by simp)
  exact ih (h.rel d0 (by omega) p0 p1 this.1 this.2.1) fun b hb => hl b (by simp [hb])
theorem WI.set (h : WI N c L ss) (hr : ZiB row N) (hp : WPick L v y) : WI N (c + 1) (ZeO row hops L v y) (v :: ss) := by
 have hv := h.val v y hp.1
 have h1 := (h.settle hp.1 hp.2.1).mono (c' := c + 1) (by omega)
 unfold ZeO
 split
 ·exact h1
 ·exact WI.fold (by omega) (by omega) (by omega) (by omega) h1 (hr v)
def Zdz (u : Int) : Lab := lup (fun _ => none) u (0, 0, 0)
theorem WI.zero {u : Int} (u0 : 0 ≤ u) (u1 : u < N) : WI N 0 (Zdz u) [] := by
 refine ⟨fun x z hz => ?_, fun x z hz => ?_, fun x => ?_, List.nodup_nil⟩
 ·unfold Zdz lup at hz
  by_cases hx : x = u
  ·rw [hx]; exact ⟨u0, u1⟩
  ·rw [if_neg hx] at hz; cases hz
 ·unfold Zdz lup at hz
  by_cases hx : x = u
  ·rw [if_pos hx] at hz; cases hz; simp
  ·rw [if_neg hx] at hz; cases hz
 ·simp only [List.not_mem_nil, false_iff]
  rintro ⟨z, h1, h2⟩
  unfold Zdz lup at h1
  by_cases hx : x = u
  ·rw [if_pos hx] at h1; cases h1; cases h2
  ·rw [if_neg hx] at h1; cases h1
end Go.Vd

/-! (WtB) -/

set_option linter.unusedVariables false
set_option linter.unusedSimpArgs false
namespace Go.Vd
abbrev Nd3 := Bool × List (Int × Int × Int) × List (Int × Int × Int)
variable {a : List Nd3} {b1 b2 b3 b4 : Int} {f : Int -> Option (Int × Int × Int)} {q : List (Int × Int)} {i j n : Int}
theorem ZhO (i0 : 0 ≤ i) (i1 : i < (q.length : Int)) (j0 : 0 ≤ j) (j1 : j < (q.length : Int)) : Zak q i j = some (decide (Less (gt q i) (gt q j))) := by
 unfold Zak G
 rw [if_pos ⟨i0, i1⟩, if_pos ⟨j0, j1⟩]
 generalize gt q i = x
 generalize gt q j = y
 unfold Less
 by_cases h : x.1 < y.1
 ·rw [if_pos h]; simp [h]
 ·rw [if_neg h]
  by_cases e : x.1 = y.1
  ·rw [if_pos e]; simp [h, e]
  ·rw [if_neg e]; simp [h, e]
theorem ZhT (i0 : 0 ≤ i) (i1 : i < (q.length : Int)) (j0 : 0 ≤ j) (j1 : j < (q.length : Int)) : Zah q i j = some (swp q i j) := by
 unfold Zah G
 rw [if_pos ⟨j0, j1⟩, if_pos ⟨i0, i1⟩, if_pos (by simpa using j1)]
 rfl
theorem p_hUp (hl : q.length ≤ 1000000000000) (j0 : 0 ≤ j) (j1 : j < (q.length : Int)) (U : Up2 q.length (gt q) j) :
  T (ZbK a b1 b2 b3 b4 q f j) fun r => r.Perm q /\ Hq r := by
 unfold ZbK
 refine Zl (fun r => r.Perm q /\ Hq r) ?_ fun r h => by simpa using h
 refine ZU (fun z => z.1.Perm q /\ 0 ≤ z.2 /\ z.2 < (q.length : Int) /\ Up2 q.length (gt z.1) z.2) (fun z => z.2.toNat) ?_ ⟨List.Perm.refl _, j0, j1, U⟩
 rintro ⟨h, i⟩ ⟨hp, i0, i1, V⟩
 dsimp only at *
 have hlen := hp.length_eq
 unfold Za2
 by_cases hz : i = 0
 ·subst hz
  simp only [T_G]
  refine ⟨by omega, by decide, ?_⟩
  rw [if_pos (by decide), Option.bind_some, if_pos rfl]
  simp only [Zd, Sum.elim_inr]
  refine ⟨hp, ?_⟩
  have := V.done (.inl rfl)
  unfold Hq; rw [hlen]; exact this
 ·have hpar : ZP i < i /\ 0 ≤ ZP i := by unfold ZP; omega
  rw [tdiv2 (by omega)]
  simp only [T_G]
  refine ⟨by omega, by omega, ?_⟩
  rw [if_neg (by omega), ZhO (by omega) (by omega) hpar.2 (by omega), Option.bind_some, Option.bind_some]
  by_cases hless : Less (gt h i) (gt h (ZP i))
  ·rw [decide_eq_true hless, if_neg (by decide), ZhT hpar.2 (by omega) (by omega) (by omega), Option.bind_some]
   simp only [Zd, Sum.elim_inl]
   refine ⟨⟨(ZgW hpar.2 (by omega) (by omega) (by omega)).trans hp, hpar.2, by omega, ?_⟩, by omega⟩
   refine V.step (by omega) i1 hless fun p p0 p1 => ?_
   rw [Zjs hpar.2 (by omega) (by omega) (by omega) p0]
   by_cases e1 : p = i
   ·subst e1; rw [if_pos rfl, if_neg (by omega), if_pos rfl]
   ·rw [if_neg e1]
    by_cases e2 : p = ZP i
    ·rw [if_pos e2, if_pos e2]
    ·rw [if_neg e2, if_neg e2, if_neg e1]
  ·rw [decide_eq_false hless, if_pos (by decide)]
   simp only [Zd, Sum.elim_inr]
   refine ⟨hp, ?_⟩
   have := V.done (.inr hless)
   unfold Hq; rw [hlen]; exact this
theorem Zm8 (hl : q.length ≤ 1000000000000) (n0 : 0 ≤ n) (n1 : n ≤ (q.length : Int)) (D : Down2 n (gt q) 0) :
  T (Zbl a b1 b2 b3 b4 q f 0 n) fun r => r.2.Perm q /\ Ord2 n (gt r.2) /\ ∀ p, n ≤ p -> p < (q.length : Int) -> gt r.2 p = gt q p := by
 unfold Zbl
 refine Zl (fun r => r.2.Perm q /\ Ord2 n (gt r.2) /\ ∀ p, n ≤ p -> p < (q.length : Int) -> gt r.2 p = gt q p) ?_ fun r h => by simpa using h
 refine ZU (fun z => z.1.Perm q /\ 0 ≤ z.2 /\ (z.2 < n ∨ z.2 = 0) /\ Down2 n (gt z.1) z.2 /\ ∀ p, n ≤ p -> p < (q.length : Int) -> gt z.1 p = gt q p) (fun z => (n - z.2).toNat) ?_ ⟨List.Perm.refl _, by simp, .inr rfl, D, fun _ _ _ => rfl⟩
 rintro ⟨h, i⟩ ⟨hp, i0, i1, E, hr⟩
 dsimp only at *
 have hlen := hp.length_eq
 have kids : ∀ c, 1 ≤ c -> ZP c = i -> c = 2 * i + 1 ∨ c = 2 * i + 1 + 1 := fun c c0 hc => by unfold ZP at hc; omega
 have par1 : ZP (2 * i + 1) = i := by unfold ZP; omega
 have par2' : ZP (2 * i + 1 + 1) = i := by unfold ZP; omega
 unfold ZaQ
 simp only [T_G]
 refine ⟨by omega, by omega, ?_⟩
 by_cases hn : 2 * i + 1 ≥ n
 ·rw [if_pos hn, Option.bind_some, if_pos rfl]
  simp only [Zd, Sum.elim_inr]
  refine ⟨hp, E.done fun c c0 c1 hc => ?_, hr⟩
  have := kids c c0 hc
  omega
 ·rw [if_neg hn, Option.bind_some, if_neg (by simp; omega)]
  have hin : i < n := by omega
  simp only [T_G]
  refine ⟨by omega, ?_⟩
  -- the lesser child
  refine Zl (fun o => o = decide (2 * i + 1 + 1 < n /\ Less (gt h (2 * i + 1 + 1)) (gt h (2 * i + 1)))) ?_ ?_
  ·by_cases h2 : 2 * i + 1 + 1 < n
   ·rw [if_pos h2, ZhO (by omega) (by omega) (by omega) (by omega), Option.bind_some]
    simp [h2]
   ·rw [if_neg h2]; simp [h2]
  rintro _ rfl
  have key : ∀ c, 1 ≤ c -> c < n -> ZP c = i -> (∀ d, 1 ≤ d -> d < n -> ZP d = i -> ¬ Less (gt h d) (gt h c)) ->
    T ((Zak h c i).bind fun y82 => if (!y82) = true then (some (Sum.inr (i, h))) else (((Zah h i c).bind fun y92 => some (Sum.inl (y92, c))))) (Sum.elim (fun z : List (Int × Int) × Int => (z.1.Perm q /\ 0 ≤ z.2 /\ (z.2 < n ∨ z.2 = 0) /\ Down2 n (gt z.1) z.2 /\ ∀ p, n ≤ p -> p < (q.length : Int) -> gt z.1 p = gt q p) /\ (n - z.2).toNat < (n - i).toNat) fun r : Int × List (Int × Int) => r.2.Perm q /\ Ord2 n (gt r.2) /\ ∀ p, n ≤ p -> p < (q.length : Int) -> gt r.2 p = gt q p) := by
   intro c c0 c1 hc hm
   have hci : i < c := by have := kids c c0 hc; omega
   rw [ZhO (by omega) (by omega) i0 (by omega), Option.bind_some]
   by_cases hless : Less (gt h c) (gt h i)
   ·rw [decide_eq_true hless, if_neg (by decide), ZhT i0 (by omega) (by omega) (by omega), Option.bind_some]
    simp only [Zd, Sum.elim_inl]
    have hs : ∀ p, 0 ≤ p -> gt (swp h i c) p = if p = c then gt h i else if p = i then gt h c else gt h p := fun p p0 => Zjs i0 (by omega) (by omega) (by omega) p0
    refine ⟨⟨(ZgW i0 (by omega) (by omega) (by omega)).trans hp, by omega, .inl c1, E.step i0 c0 c1 hc hm hless fun p p0 p1 => hs p p0, fun p p0 p1 => ?_⟩, by omega⟩
    rw [hs p (by omega), if_neg (by omega), if_neg (by omega)]
    exact hr p p0 p1
   ·rw [decide_eq_false hless, if_pos (by decide)]
    simp only [Zd, Sum.elim_inr]
    refine ⟨hp, E.done fun d d0 d1 hd => ?_, hr⟩
    exact Zg7 (hm d d0 d1 hd) hless
  by_cases hpick : 2 * i + 1 + 1 < n /\ Less (gt h (2 * i + 1 + 1)) (gt h (2 * i + 1))
  ·rw [decide_eq_true hpick, if_pos rfl, Option.bind_some]
   refine key _ (by omega) hpick.1 par2' fun d d0 d1 hd => ?_
   rcases kids d d0 hd with rfl | rfl
   ·exact hpick.2.irr
   ·unfold Less; omega
  ·rw [decide_eq_false hpick, if_neg (by decide), Option.bind_some]
   refine key _ (by omega) (by omega) par1 fun d d0 d1 hd => ?_
   rcases kids d d0 hd with rfl | rfl
   ·unfold Less; omega
   ·exact fun k => hpick ⟨d1, k⟩
theorem ZiX {E : Type} [Inhabited E] {l : List E} {x : E} {p : Int} (p0 : 0 ≤ p) : gt (l ++ [x]) p = if p = (l.length : Int) then x else gt l p := by
 unfold gt
 rw [List.getD_eq_getElem?_getD, List.getD_eq_getElem?_getD]
 by_cases h : p = (l.length : Int)
 ·subst h; simp
 ·rw [if_neg h]
  by_cases h2 : p < (l.length : Int)
  ·rw [List.getElem?_append_left (by omega)]
  ·rw [List.getElem?_eq_none (by simp; omega), List.getElem?_eq_none (by omega)]
theorem Zlz {E : Type} [Inhabited E] {l : List E} {m : Nat} {p : Int} (p0 : 0 ≤ p) (p1 : p < (m : Int)) : gt (l.take m) p = gt l p := by
 unfold gt
 rw [List.getD_eq_getElem?_getD, List.getD_eq_getElem?_getD, List.getElem?_take, if_pos (by omega)]
theorem Zm9 {d v : Int} (hq : Hq q) (hl : q.length ≤ 100000000000) : T (Zbc a b1 b2 b3 b4 q f d v) fun r => r.Perm ((d, v) :: q) /\ Hq r := by
 unfold Zbc Zcq ZaZ
 have hln : (q ++ [(d, v)]).length = q.length + 1 := by simp
 rw [Zhq, T_G]
 refine ⟨by omega, ?_⟩
 simp only [Zd, Option.bind_some, hln, T_G]
 refine ⟨by omega, ?_⟩
 refine Zl _ (p_hUp (q := q ++ [(d, v)]) (by omega) (by omega) (by rw [hln]; omega) ?_) ?_
 ·rw [hln, show ((q.length + 1 : Nat) : Int) - 1 = (q.length : Int) from by omega]
  have pl : ∀ p, 1 ≤ p -> ZP p < p /\ 0 ≤ ZP p := fun p hp => by unfold ZP; omega
  refine ⟨fun p p0 p1 hp => ?_, fun i0 c c0 c1 hc => ?_⟩
  ·have := pl p p0
   rw [ZiX (by omega), if_neg hp, ZiX (by omega), if_neg (by omega)]
   exact hq p p0 (by omega)
  ·have := pl c c0; omega
 ·rintro r ⟨h1, h2⟩
  simp only [Zd]
  exact ⟨h1.trans (List.perm_append_singleton _ _), h2⟩
theorem Znd (hq : Hq q) (hl : q.length ≤ 100000000000) (h0 : 0 < (q.length : Int)) : T (Zbz a b1 b2 b3 b4 q f) fun r => (r.1, r.2.1) = gt q 0 /\ (gt q 0 :: r.2.2.2).Perm q /\ Hq r.2.2.2 := by
 unfold Zbz ZaZ
 simp only [Option.bind_some, T_G]
 refine ⟨by omega, ?_⟩
 have hs : ∀ p, 0 ≤ p -> gt (swp q 0 ((q.length : Int) - 1)) p = if p = (q.length : Int) - 1 then gt q 0 else if p = 0 then gt q ((q.length : Int) - 1) else gt q p := fun p p0 => Zjs (by omega) (by omega) (by omega) (by omega) p0
 have hsl : (swp q 0 ((q.length : Int) - 1)).length = q.length := Zm2
 have hsp := ZgW (l := q) (i := 0) (j := (q.length : Int) - 1) (by omega) (by omega) (by omega) (by omega)
 rw [ZhT (by omega) (by omega) (by omega) (by omega), Option.bind_some]
 refine Zl _ (Zm8 (q := swp q 0 ((q.length : Int) - 1)) (by omega) (by omega) (by omega) ?_) ?_
 ·have pl : ∀ p, 1 ≤ p -> ZP p < p /\ 0 ≤ ZP p := fun p hp => by unfold ZP; omega
  refine ⟨fun p p0 p1 hp => ?_, fun i0 => by omega⟩
  have := pl p p0
  rw [hs p (by omega), if_neg (by omega), if_neg (by omega), hs _ this.2, if_neg (by omega), if_neg hp]
  exact hq p p0 (by omega)
 ·rintro ⟨b, r⟩ ⟨h1, h2, h3⟩
  dsimp only at *
  have hrl := h1.length_eq
  rw [hsl] at hrl
  have hlast := h3 ((q.length : Int) - 1) (by omega) (by omega)
  rw [hs _ (by omega), if_pos rfl] at hlast
  unfold ZcC
  simp only [T_G, Zhq, Zd, hrl]
  refine ⟨by omega, by omega, by omega, ?_⟩
  have hsplit : r = r.take ((q.length : Int) - 1).toNat ++ [gt r ((q.length : Int) - 1)] := by
   have e : r.take (((q.length : Int) - 1).toNat + 1) = r := List.take_of_length_le (by omega)
   have e2 := List.take_add_one (l := r) (i := ((q.length : Int) - 1).toNat)
   rw [e] at e2
   have : r[((q.length : Int) - 1).toNat]?.toList = [gt r ((q.length : Int) - 1)] := by
    unfold gt
    rw [List.getD_eq_getElem?_getD, List.getElem?_eq_getElem (by omega)]; rfl
   rw [this] at e2; exact e2
  refine ⟨by rw [hlast], ?_, ?_⟩
  ·rw [hlast] at hsplit
   refine List.Perm.trans ?_ (h1.trans hsp)
   conv => rhs; rw [hsplit]
   exact (List.perm_append_singleton _ _).symm
  ·have hlt : (r.take ((q.length : Int) - 1).toNat).length = q.length - 1 := by rw [List.length_take]; omega
   unfold Hq
   rw [hlt]
   refine Ord2.congr (h := gt r) ?_ fun p p0 p1 => Zlz p0 (by omega)
   rw [show ((q.length - 1 : Nat) : Int) = (q.length : Int) - 1 from by omega]; exact h2
end Go.Vd

/-! (OvA) -/

set_option linter.unusedVariables false
set_option linter.unusedSimpArgs false
namespace Go.Vd
abbrev Hf := Int × Int × Int
abbrev OAr := Int × Int × Int × Int
def Ris (l : List Hf) : Prop := l.Pairwise fun a b => a.1 < b.1
theorem Ris.uniq {l m : List Hf} (h : Ris l) (k : Ris m) (e : ∀ x, x ∈ l ↔ x ∈ m) : l = m := by
 induction l generalizing m with
 | nil =>
  cases m with
  | nil => rfl
  | cons b m => exact absurd ((e b).2 (List.mem_cons_self ..)) (by simp)
 | cons a l ih =>
  cases m with
  | nil => exact absurd ((e a).1 (List.mem_cons_self ..)) (by simp)
  | cons b m =>
   obtain ⟨h1, h2⟩ := List.pairwise_cons.1 h
   obtain ⟨k1, k2⟩ := List.pairwise_cons.1 k
   have hab : a = b := by
    rcases List.mem_cons.1 ((e a).1 (List.mem_cons_self ..)) with q | q
    ·exact q
    ·rcases List.mem_cons.1 ((e b).2 (List.mem_cons_self ..)) with p | p
     ·exact p.symm
     ·have := h1 b p; have := k1 a q; omega
   subst hab
   congr 1
   refine ih h2 k2 fun x => ?_
   have hx := e x
   constructor
   ·intro q
    rcases List.mem_cons.1 (hx.1 (List.mem_cons_of_mem _ q)) with p | p
    ·subst p; have := h1 _ q; omega
    ·exact p
   ·intro q
    rcases List.mem_cons.1 (hx.2 (List.mem_cons_of_mem _ q)) with p | p
    ·subst p; have := k1 _ q; omega
    ·exact p
def Zcm (h : Hf) (l : List Hf) : List Hf := l.filter (fun x => decide (x.1 < h.1)) ++ h :: l.filter (fun x => decide (h.1 < x.1))
def ZdA (v : Int) (l : List Hf) : List Hf := l.filter (fun x => decide (x.1 ≠ v))
theorem ZfM {h x : Hf} {l : List Hf} : x ∈ Zcm h l ↔ x = h ∨ (x ∈ l /\ x.1 ≠ h.1) := by
 simp only [Zcm, List.mem_append, List.mem_cons, List.mem_filter, decide_eq_true_eq]
 constructor
 ·rintro (⟨a, b⟩ | a | ⟨a, b⟩)
  ·exact .inr ⟨a, by omega⟩
  ·exact .inl a
  ·exact .inr ⟨a, by omega⟩
 ·rintro (a | ⟨a, b⟩)
  ·exact .inr (.inl a)
  ·by_cases q : x.1 < h.1
   ·exact .inl ⟨a, q⟩
   ·exact .inr (.inr ⟨a, by omega⟩)
theorem ZiY {v : Int} {x : Hf} {l : List Hf} : x ∈ ZdA v l ↔ x ∈ l /\ x.1 ≠ v := by simp [ZdA]
theorem Ris.nil : Ris [] := List.Pairwise.nil
theorem Ris.ins {h : Hf} {l : List Hf} (k : Ris l) : Ris (Zcm h l) := by
 refine List.pairwise_append.2 ⟨k.filter _, List.pairwise_cons.2 ⟨fun x hx => ?_, k.filter _⟩, fun x hx y hy => ?_⟩
 ·have := (List.mem_filter.1 hx).2; simpa using this
 ·have h1 : x.1 < h.1 := by have := (List.mem_filter.1 hx).2; simpa using this
  rcases List.mem_cons.1 hy with e | e
  ·subst e; exact h1
  ·have : h.1 < y.1 := by have := (List.mem_filter.1 e).2; simpa using this
   omega
theorem Ris.del {v : Int} {l : List Hf} (k : Ris l) : Ris (ZdA v l) := k.filter _
def cl (f : OAr -> Option Hf) (l0 : List Hf) (arcs : List OAr) : List Hf := arcs.foldl (fun l a => match f a with | some h => Zcm h l | none => l) l0
def Ds (f : OAr -> Option Hf) (arcs : List OAr) : Prop := arcs.Pairwise fun a b => ∀ h k, f a = some h -> f b = some k -> h.1 ≠ k.1
theorem Zk6 {f : OAr -> Option Hf} {arcs : List OAr} : ∀ {l0 : List Hf}, Ris l0 -> Ris (cl f l0 arcs) := by
 induction arcs with
 | nil => exact fun h => h
 | cons a arcs ih =>
  intro l0 h
  unfold cl
  rw [List.foldl_cons]
  refine ih ?_
  cases f a with
  | none => exact h
  | some x => exact h.ins
theorem ZkZ {f : OAr -> Option Hf} {arcs : List OAr} (hd : Ds f arcs) {x : Hf} : ∀ {l0 : List Hf}, x ∈ cl f l0 arcs ↔ (∃ a ∈ arcs, f a = some x) ∨ (x ∈ l0 /\ ∀ a ∈ arcs, ∀ h, f a = some h -> h.1 ≠ x.1) := by
 induction arcs with
 | nil => intro l0; simp [cl]
 | cons a arcs ih =>
  intro l0
  obtain ⟨d1, d2⟩ := List.pairwise_cons.1 hd
  have e : cl f l0 (a :: arcs) = cl f (match f a with | some h => Zcm h l0 | none => l0) arcs := by unfold cl; rw [List.foldl_cons]
  rw [e, ih d2]
  cases hf : f a with
  | none =>
   dsimp only
   constructor
   ·rintro (⟨b, hb, h⟩ | ⟨h1, h2⟩)
    ·exact .inl ⟨b, List.mem_cons_of_mem _ hb, h⟩
    ·refine .inr ⟨h1, fun b hb h hh => ?_⟩
     rcases List.mem_cons.1 hb with e | e
     ·rw [e, hf] at hh; cases hh
     ·exact h2 b e h hh
   ·rintro (⟨b, hb, h⟩ | ⟨h1, h2⟩)
    ·rcases List.mem_cons.1 hb with e | e
     ·rw [e, hf] at h; cases h
     ·exact .inl ⟨b, e, h⟩
    ·exact .inr ⟨h1, fun b hb => h2 b (List.mem_cons_of_mem _ hb)⟩
  | some y =>
   dsimp only
   rw [ZfM]
   constructor
   ·rintro (⟨b, hb, h⟩ | ⟨h1 | ⟨h1, h3⟩, h2⟩)
    ·exact .inl ⟨b, List.mem_cons_of_mem _ hb, h⟩
    ·exact .inl ⟨a, List.mem_cons_self .., by rw [hf, h1]⟩
    ·refine .inr ⟨h1, fun b hb h hh => ?_⟩
     rcases List.mem_cons.1 hb with e | e
     ·rw [e, hf] at hh; cases hh; exact fun q => h3 q.symm
     ·exact h2 b e h hh
   ·rintro (⟨b, hb, h⟩ | ⟨h1, h2⟩)
    ·rcases List.mem_cons.1 hb with e | e
     ·rw [e, hf] at h; cases h
      exact .inr ⟨.inl rfl, fun c hc k hk => fun q => d1 c hc x k hf hk q.symm⟩
     ·exact .inl ⟨b, e, h⟩
    ·exact .inr ⟨.inr ⟨h1, fun q => h2 a (List.mem_cons_self ..) y hf q.symm⟩, fun b hb => h2 b (List.mem_cons_of_mem _ hb)⟩
def Ze6 (v : Int) (a : OAr) : Option Hf := if a.1 = v then some a.2 else none
def fIn (v : Int) (a : OAr) : Option Hf := if a.2.1 = v then some (a.1, a.2.2) else none
def Zz (arcs : List OAr) (v : Int) : List Hf := cl (Ze6 v) [] arcs
def inL (arcs : List OAr) (v : Int) : List Hf := cl (fIn v) [] arcs
def KD (arcs : List OAr) : Prop := arcs.Pairwise fun a b => ¬ (a.1 = b.1 /\ a.2.1 = b.2.1)
theorem KD.out {arcs : List OAr} (h : KD arcs) (v : Int) : Ds (Ze6 v) arcs := h.imp fun {a b} q x y hx hy e => by
 unfold Ze6 at hx hy
 split at hx
 ·split at hy
  ·cases hx; cases hy; exact q ⟨by omega, e⟩
  ·cases hy
 ·cases hx
theorem KD.inn {arcs : List OAr} (h : KD arcs) (v : Int) : Ds (fIn v) arcs := h.imp fun {a b} q x y hx hy e => by
 unfold fIn at hx hy
 split at hx
 ·split at hy
  ·cases hx; cases hy; exact q ⟨e, by omega⟩
  ·cases hy
 ·cases hx
theorem Zcg (arcs : List OAr) (v : Int) : Ris (Zz arcs v) := Zk6 .nil
theorem ZcL (arcs : List OAr) (v : Int) : Ris (inL arcs v) := Zk6 .nil
theorem Z1 {arcs : List OAr} (h : KD arcs) {v : Int} {x : Hf} : x ∈ Zz arcs v ↔ (v, x) ∈ arcs := by
 unfold Zz
 rw [ZkZ (h.out v)]
 simp only [List.not_mem_nil, false_and, or_false]
 constructor
 ·rintro ⟨a, ha, e⟩
  unfold Ze6 at e
  split at e
  ·rename_i q; cases e; rw [← q]; exact ha
  ·cases e
 ·exact fun hm => ⟨_, hm, by simp [Ze6]⟩
theorem Za1 {arcs : List OAr} (h : KD arcs) {v : Int} {x : Hf} : x ∈ inL arcs v ↔ (x.1, v, x.2) ∈ arcs := by
 unfold inL
 rw [ZkZ (h.inn v)]
 simp only [List.not_mem_nil, false_and, or_false]
 constructor
 ·rintro ⟨a, ha, e⟩
  unfold fIn at e
  split at e
  ·rename_i q; cases e; rw [← q]; exact ha
  ·cases e
 ·exact fun hm => ⟨_, hm, by simp [fIn]⟩
def ZeS (arcs : List OAr) (a : OAr) : List OAr := arcs.filter (fun x => decide (¬ (x.1 = a.1 /\ x.2.1 = a.2.1))) ++ [a]
def ZbQ (arcs : List OAr) (v : Int) : List OAr := arcs.filter (fun x => decide (x.1 ≠ v /\ x.2.1 ≠ v))
theorem ZeG {arcs : List OAr} {a x : OAr} : x ∈ ZeS arcs a ↔ x = a ∨ (x ∈ arcs /\ ¬ (x.1 = a.1 /\ x.2.1 = a.2.1)) := by
 simp only [ZeS, List.mem_append, List.mem_filter, decide_eq_true_eq, List.mem_singleton]
 exact ⟨fun h => h.elim (fun h => .inr h) .inl, fun h => h.elim .inr .inl⟩
theorem Zcu {arcs : List OAr} {v : Int} {x : OAr} : x ∈ ZbQ arcs v ↔ x ∈ arcs /\ x.1 ≠ v /\ x.2.1 ≠ v := by simp [ZbQ]
theorem KD.put {arcs : List OAr} (h : KD arcs) (a : OAr) : KD (ZeS arcs a) := by
 refine List.pairwise_append.2 ⟨h.filter _, List.pairwise_singleton _ _, fun x hx y hy => ?_⟩
 rw [List.mem_singleton.1 hy]
 exact of_decide_eq_true (List.mem_filter.1 hx).2
theorem KD.rem {arcs : List OAr} (h : KD arcs) (v : Int) : KD (ZbQ arcs v) := h.filter _
theorem ZlF {arcs : List OAr} (h : KD arcs) (a : OAr) (v : Int) : Zz (ZeS arcs a) v = if v = a.1 then Zcm a.2 (Zz arcs v) else Zz arcs v := by
 split
 ·rename_i e
  subst e
  refine (Zcg _ _).uniq (Zcg _ _).ins fun x => ?_
  rw [Z1 (h.put a), ZfM, Z1 h, ZeG]
  constructor
  ·rintro (q | ⟨q1, q2⟩)
   ·exact .inl (by rw [← q])
   ·exact .inr ⟨q1, fun e => q2 ⟨rfl, e⟩⟩
  ·rintro (q | ⟨q1, q2⟩)
   ·exact .inl (by rw [q])
   ·exact .inr ⟨q1, fun e => q2 e.2⟩
 ·rename_i e
  refine (Zcg _ _).uniq (Zcg _ _) fun x => ?_
  rw [Z1 (h.put a), Z1 h, ZeG]
  constructor
  ·rintro (q | ⟨q1, q2⟩)
   ·exact absurd (by rw [← q]) e
   ·exact q1
  ·exact fun q => .inr ⟨q, fun k => e k.1⟩
theorem Zm7 {arcs : List OAr} (h : KD arcs) (a : OAr) (v : Int) : inL (ZeS arcs a) v = if v = a.2.1 then Zcm (a.1, a.2.2) (inL arcs v) else inL arcs v := by
 split
 ·rename_i e
  subst e
  refine (ZcL _ _).uniq (ZcL _ _).ins fun x => ?_
  rw [Za1 (h.put a), ZfM, Za1 h, ZeG]
  constructor
  ·rintro (q | ⟨q1, q2⟩)
   ·exact .inl (by rw [← q])
   ·exact .inr ⟨q1, fun e => q2 ⟨e, rfl⟩⟩
  ·rintro (q | ⟨q1, q2⟩)
   ·exact .inl (by rw [q])
   ·exact .inr ⟨q1, fun e => q2 e.1⟩
 ·rename_i e
  refine (ZcL _ _).uniq (ZcL _ _) fun x => ?_
  rw [Za1 (h.put a), Za1 h, ZeG]
  constructor
  ·rintro (q | ⟨q1, q2⟩)
   ·exact absurd (by rw [← q]) e
   ·exact q1
  ·exact fun q => .inr ⟨q, fun k => e k.2⟩
theorem ZlA {arcs : List OAr} (h : KD arcs) (v x : Int) : Zz (ZbQ arcs v) x = if x = v then [] else ZdA v (Zz arcs x) := by
 split
 ·rename_i e
  refine (Zcg _ _).uniq .nil fun y => ?_
  rw [Z1 (h.rem v), Zcu]
  simp [e]
 ·rename_i e
  refine (Zcg _ _).uniq (Zcg _ _).del fun y => ?_
  rw [Z1 (h.rem v), ZiY, Z1 h, Zcu]
  exact ⟨fun ⟨a, _, b⟩ => ⟨a, b⟩, fun ⟨a, b⟩ => ⟨a, e, b⟩⟩
theorem ZmM {arcs : List OAr} (h : KD arcs) (v x : Int) : inL (ZbQ arcs v) x = if x = v then [] else ZdA v (inL arcs x) := by
 split
 ·rename_i e
  refine (ZcL _ _).uniq .nil fun y => ?_
  rw [Za1 (h.rem v), Zcu]
  simp [e]
 ·rename_i e
  refine (ZcL _ _).uniq (ZcL _ _).del fun y => ?_
  rw [Za1 (h.rem v), ZiY, Za1 h, Zcu]
  exact ⟨fun ⟨a, b, _⟩ => ⟨a, b⟩, fun ⟨a, b⟩ => ⟨a, b, e⟩⟩
theorem Zlj {f : OAr -> Option Hf} {arcs : List OAr} (hd : Ds f arcs) : ∀ {l0 : List Hf}, (∀ x ∈ l0, ∀ a ∈ arcs, ∀ h, f a = some h -> h.1 ≠ x.1) -> Ris l0 -> (cl f l0 arcs).length = l0.length + (arcs.filter fun a => (f a).isSome).length := by
 induction arcs with
 | nil => intro l0 _ _; simp [cl]
 | cons a arcs ih =>
  intro l0 h hr
  obtain ⟨d1, d2⟩ := List.pairwise_cons.1 hd
  have e : cl f l0 (a :: arcs) = cl f (match f a with | some h => Zcm h l0 | none => l0) arcs := by unfold cl; rw [List.foldl_cons]
  rw [e, List.filter_cons]
  cases hf : f a with
  | none =>
   dsimp only
   rw [ih d2 (fun x hx b hb => h x hx b (List.mem_cons_of_mem _ hb)) hr]
   simp
  | some y =>
   dsimp only
   rw [ih d2 (fun x hx b hb k hk => ?_) hr.ins]
   ·have hne : ∀ x ∈ l0, x.1 ≠ y.1 := fun x hx e => h x hx a (List.mem_cons_self ..) y hf e.symm
    have hl : (Zcm y l0).length = l0.length + 1 := by
     clear ih e d1 d2 hd h hr
     unfold Zcm
     rw [List.length_append, List.length_cons]
     have : (l0.filter fun x => decide (x.1 < y.1)).length + (l0.filter fun x => decide (y.1 < x.1)).length = l0.length := by
      induction l0 with
      | nil => rfl
      | cons b l0 ih =>
       have h1 := hne b (List.mem_cons_self ..)
       have h2 := ih fun x hx => hne x (List.mem_cons_of_mem _ hx)
       rw [List.filter_cons, List.filter_cons]
       by_cases q : b.1 < y.1
       ·rw [if_pos (by simpa using q), if_neg (by simp; omega)]
        simp only [List.length_cons]; omega
       ·rw [if_neg (by simpa using q), if_pos (by simp; omega)]
        simp only [List.length_cons]; omega
     omega
    rw [hl]
    simp; omega
   ·rcases ZfM.1 hx with q | ⟨q, _⟩
    ·rw [q]; exact fun e => d1 b hb y k hf hk e.symm
    ·exact h x q b (List.mem_cons_of_mem _ hb) k hk
theorem Zjt {arcs : List OAr} (h : KD arcs) (v : Int) : (Zz arcs v).length = (arcs.filter fun a => decide (a.1 = v)).length := by
 unfold Zz
 rw [Zlj (h.out v) (fun x hx => by cases hx) .nil, List.length_nil, Nat.zero_add]
 congr 1
 apply List.filter_congr
 intro a _
 by_cases e : a.1 = v <;> simp [Ze6, e]
theorem ZjS {arcs : List OAr} (h : KD arcs) (v : Int) : (inL arcs v).length = (arcs.filter fun a => decide (a.2.1 = v)).length := by
 unfold inL
 rw [Zlj (h.inn v) (fun x hx => by cases hx) .nil, List.length_nil, Nat.zero_add]
 congr 1
 apply List.filter_congr
 intro a _
 by_cases e : a.2.1 = v <;> simp [fIn, e]
theorem ZmV {arcs : List OAr} (h : KD arcs) (hn : ∀ a ∈ arcs, a.1 ≠ a.2.1) (v : Int) : arcs.length = (ZbQ arcs v).length + ((Zz arcs v).length + (inL arcs v).length) := by
 rw [Zjt h, ZjS h]
 clear h
 unfold ZbQ
 induction arcs with
 | nil => rfl
 | cons a arcs ih =>
  have h1 := hn a (List.mem_cons_self ..)
  have h2 := ih fun x hx => hn x (List.mem_cons_of_mem _ hx)
  rw [List.filter_cons, List.filter_cons, List.filter_cons]
  by_cases q : a.1 = v
  ·rw [if_neg (by simp [q]), if_pos (by simpa using q), if_neg (by simp; omega)]
   simp only [List.length_cons]; omega
  ·by_cases p : a.2.1 = v
   ·rw [if_neg (by simp [p]), if_neg (by simpa using q), if_pos (by simpa using p)]
    simp only [List.length_cons]; omega
   ·rw [if_pos (by simp [q, p]), if_neg (by simpa using q), if_neg (by simpa using p)]
    simp only [List.length_cons]; omega
theorem Zj2 {arcs : List OAr} (h : KD arcs) (a : OAr) : (ZeS arcs a).length = if (∃ x ∈ arcs, x.1 = a.1 /\ x.2.1 = a.2.1) then arcs.length else arcs.length + 1 := by
 unfold ZeS
 rw [List.length_append, List.length_singleton]
 induction arcs with
 | nil => simp
 | cons b arcs ih =>
  obtain ⟨h1, h2⟩ := List.pairwise_cons.1 h
  have ih' := ih h2
  rw [List.filter_cons]
  by_cases q : b.1 = a.1 /\ b.2.1 = a.2.1
  ·rw [if_neg (by simp [q]), if_pos ⟨b, List.mem_cons_self .., q⟩]
   have hno : ¬ ∃ x ∈ arcs, x.1 = a.1 /\ x.2.1 = a.2.1 := fun ⟨x, hx, e⟩ => h1 x hx ⟨by rw [q.1, e.1], by rw [q.2, e.2]⟩
   rw [if_neg hno] at ih'
   simp only [List.length_cons]; omega
  ·rw [if_pos (decide_eq_true q), List.length_cons]
   by_cases p : ∃ x ∈ arcs, x.1 = a.1 /\ x.2.1 = a.2.1
   ·rw [if_pos p] at ih'
    obtain ⟨x, hx, e⟩ := p
    rw [if_pos ⟨x, List.mem_cons_of_mem _ hx, e⟩]
    simp only [List.length_cons]; omega
   ·rw [if_neg p] at ih'
    rw [if_neg]
    ·simp only [List.length_cons]; omega
    ·rintro ⟨x, hx, e⟩
     rcases List.mem_cons.1 hx with k | k
     ·rw [k] at e; exact q e
     ·exact p ⟨x, k, e⟩
end Go.Vd

/-! (Nr0) -/

set_option linter.unusedVariables false
set_option linter.unusedSectionVars false
set_option linter.unusedSimpArgs false
namespace Go.Vd
def Z8 (x y : Int × Int × Int) : Prop := x.1 = y.1 /\ x.2.1 = y.2.1
instance (x y : Int × Int × Int) : Decidable (Z8 x y) := by unfold Z8; infer_instance
def ltk (x y : A3) : Prop := x.1 < y.1 ∨ (x.1 = y.1 /\ x.2.1 < y.2.1)
structure Nrm (A L : List A3) : Prop where
 inc : L.Pairwise ltk
 sub : ∀ a ∈ L, a ∈ A /\ a.1 ≠ a.2.1 /\ ∀ b ∈ A, Z8 b a -> a.2.2 ≤ b.2.2
 sup : ∀ a ∈ A, a.1 ≠ a.2.1 -> ∃ b ∈ L, Z8 b a
theorem Zk3 : ∀ {L M : List A3}, L.Pairwise ltk -> M.Pairwise ltk -> (∀ x, x ∈ L ↔ x ∈ M) -> L = M := by
 intro L
 induction L with
 | nil =>
  intro M _ _ h
  cases M with
  | nil => rfl
  | cons b M => have := (h b).2 (List.mem_cons_self ..); cases this
 | cons a L ih =>
  intro M hL hM h
  cases M with
  | nil => have := (h a).1 (List.mem_cons_self ..); cases this
  | cons b M =>
   have hab : a = b := by
    rcases List.mem_cons.1 ((h a).1 (List.mem_cons_self ..)) with h1 | h1
    ·exact h1
    ·rcases List.mem_cons.1 ((h b).2 (List.mem_cons_self ..)) with h2 | h2
     ·exact h2.symm
     ·have k1 := (List.pairwise_cons.1 hM).1 a h1
      have k2 := (List.pairwise_cons.1 hL).1 b h2
      unfold ltk at k1 k2
      omega
   subst hab
   rw [ih (List.pairwise_cons.1 hL).2 (List.pairwise_cons.1 hM).2 fun x => ⟨fun hx => ?_, fun hx => ?_⟩]
   ·rcases List.mem_cons.1 ((h x).1 (List.mem_cons_of_mem _ hx)) with rfl | h1
    ·have := (List.pairwise_cons.1 hL).1 x hx
     unfold ltk at this; omega
    ·exact h1
   ·rcases List.mem_cons.1 ((h x).2 (List.mem_cons_of_mem _ hx)) with rfl | h1
    ·have := (List.pairwise_cons.1 hM).1 x hx
     unfold ltk at this; omega
    ·exact h1
theorem Zmr {L : List A3} (h : L.Pairwise ltk) : ∀ x ∈ L, ∀ y ∈ L, x = y ∨ ltk x y ∨ ltk y x := by
 induction L with
 | nil => intro x hx; cases hx
 | cons a L ih =>
  intro x hx y hy
  obtain ⟨h1, h2⟩ := List.pairwise_cons.1 h
  rcases List.mem_cons.1 hx with ex | hx'
  ·rcases List.mem_cons.1 hy with ey | hy'
   ·exact .inl (ex.trans ey.symm)
   ·rw [ex]; exact .inr (.inl (h1 y hy'))
  ·rcases List.mem_cons.1 hy with ey | hy'
   ·rw [ey]; exact .inr (.inr (h1 x hx'))
   ·exact ih h2 x hx' y hy'
theorem ZmE {L : List A3} (h : L.Pairwise ltk) {x y : A3} (hx : x ∈ L) (hy : y ∈ L) (k : Z8 x y) : x = y := by
 rcases Zmr h x hx y hy with h | h | h
 ·exact h
 ·unfold ltk at h; unfold Z8 at k; omega
 ·unfold ltk at h; unfold Z8 at k; omega
theorem Nrm.mem {A L M : List A3} (h : Nrm A L) (k : Nrm A M) {x : A3} (hx : x ∈ L) : x ∈ M := by
 obtain ⟨h1, h2, h3⟩ := h.sub x hx
 obtain ⟨b, b1, b2⟩ := k.sup x h1 h2
 obtain ⟨k1, k2, k3⟩ := k.sub b b1
 have e1 := h3 b k1 b2
 have e2 := k3 x h1 ⟨b2.1.symm, b2.2.symm⟩
 have : x = b := eq3 b2.1.symm b2.2.symm (by omega)
 rw [this]; exact b1
theorem Nrm.uniq {A L M : List A3} (h : Nrm A L) (k : Nrm A M) : L = M :=
 Zk3 h.inc k.inc fun x => ⟨h.mem k, k.mem h⟩
end Go.Vd

/-! (PrP0) -/

set_option linter.unusedVariables false
set_option linter.unusedSectionVars false
set_option linter.unusedSimpArgs false
namespace Go.Vd
variable {N : Int} {A L : List A3}
instance (x y : A3) : Decidable (ltk x y) := by unfold ltk; exact inferInstance
inductive PutA : List A3 -> A3 -> List A3 -> Prop
 | hit (p q : List A3) (b a : A3) : Z8 b a -> PutA (p ++ b :: q) a (p ++ (a.1, a.2.1, min a.2.2 b.2.2) :: q)
 | new (p q : List A3) (a : A3) : (∀ x ∈ p, ltk x a) -> (∀ x ∈ q, ltk a x) -> PutA (p ++ q) a (p ++ a :: q)
theorem Znh {x a : A3} : ZbL x.1 x.2.1 x.2.2 a.1 a.2.1 a.2.2 = some (decide (ltk x a)) := by
 unfold ZbL ltk
 by_cases h : x.1 < a.1
 ·rw [if_pos h]; simp [h]
 ·rw [if_neg h]
  by_cases h2 : x.1 = a.1
  ·rw [if_pos h2]; simp [h2]
  ·rw [if_neg h2]; simp [h, h2]
theorem Zjb {o : Int} (o0 : 0 ≤ o) (o1 : o < (L.length : Int)) : L.drop o.toNat = gt L o :: L.drop (o + 1).toNat := by
 rw [List.drop_eq_getElem_cons (i := o.toNat) (by omega), show (o + 1).toNat = o.toNat + 1 from by omega]
 congr 1
 have h : gt L ((o.toNat : Nat) : Int) = L[o.toNat] := Zfi (by omega)
 rw [← h]; congr 1; omega
theorem p_Put {a : A3} (hL : L.Pairwise ltk) (hl : L.length ≤ 300000) : T (Zb7 L a.1 a.2.1 a.2.2) fun r => PutA L a r /\ r.length ≤ L.length + 1 := by
 unfold Zb7
 refine Zl (fun o => 0 ≤ o /\ o ≤ (L.length : Int) /\ (∀ j, 0 ≤ j -> j < o -> ltk (gt L j) a) /\ (o < (L.length : Int) -> ¬ ltk (gt L o) a)) ?_ ?_
 ·refine ZU (fun i => 0 ≤ i /\ i ≤ (L.length : Int) /\ ∀ j, 0 ≤ j -> j < i -> ltk (gt L j) a) (fun i => ((L.length : Int) - i).toNat) ?_ ⟨by omega, by omega, fun j _ _ => by omega⟩
  rintro i ⟨i0, i1, hi⟩
  unfold Zbm
  rw [Znh, Option.bind_some]
  simp only [Zt, T_G, Zd, Sum.elim_inl, Sum.elim_inr, decide_eq_true_eq]
  refine ⟨fun h => ⟨i0, fun k => ⟨by omega, ⟨by omega, by omega, fun j j0 j1 => ?_⟩, by omega⟩, fun k => ⟨i0, i1, hi, fun _ => k⟩⟩, fun h => ⟨i0, i1, hi, fun k => absurd k h⟩⟩
  by_cases e : j = i
  ·rw [e]; exact k
  ·exact hi j j0 (by omega)
 ·rintro o ⟨o0, o1, h1, h2⟩
  simp only [List.drop_zero, List.take_length, List.nil_append]
  rw [T_G, T_G]
  refine ⟨⟨o0, o1⟩, by rw [List.length_take]; omega, ?_⟩
  refine Zl (fun b => b = true ↔ (o < (L.length : Int) /\ Z8 (gt L o) a)) ?_ fun b hb => ?_
  ·unfold Z8
   simp only [Zt, T_G, Zd, decide_eq_true_eq]
   exact ⟨fun h => ⟨o0, fun k => by simp [h, k], fun k => by simp [k]⟩, fun h => by simp; omega⟩
  have hp : ∀ x ∈ L.take o.toNat, ltk x a := fun x hx => by
   obtain ⟨j, j0, j1, rfl⟩ := Zdb hx
   rw [List.length_take] at j1
   have : gt (L.take o.toNat) j = gt L j := by
    unfold gt
    rw [List.getD_eq_getElem?_getD, List.getD_eq_getElem?_getD, List.getElem?_take, if_pos (by omega)]
   rw [this]
   exact h1 j j0 (by omega)
  have eL : L.take o.toNat ++ L.drop o.toNat = L := List.take_append_drop _ _
  rw [Zt]
  refine ⟨fun h => ?_, fun h => ?_⟩
  ·obtain ⟨k1, k2⟩ := hb.1 h
   simp only [T_G, Zd, List.length_append, List.length_take, List.length_drop, List.length_cons, List.length_nil]
   refine ⟨⟨o0, k1⟩, by omega, by omega, by omega, by omega, ?_, by omega⟩
   have := PutA.hit (L.take o.toNat) (L.drop (o + 1).toNat) (gt L o) a k2
   rw [← Zjb o0 k1, eL] at this
   simpa using this
  ·have hn : ¬ (o < (L.length : Int) /\ Z8 (gt L o) a) := fun k => h (hb.2 k)
   simp only [T_G, Zd, List.length_append, List.length_take, List.length_drop, List.length_cons, List.length_nil]
   refine ⟨by omega, by omega, ?_, by omega⟩
   have hq : ∀ x ∈ L.drop o.toNat, ltk a x := by
    by_cases k : o < (L.length : Int)
    ·have h3 := h2 k
     have h4 : ltk a (gt L o) := by
      have : ¬ Z8 (gt L o) a := fun q => hn ⟨k, q⟩
      unfold ltk Z8 at *; omega
     have h5 : (L.drop o.toNat).Pairwise ltk := hL.sublist (List.drop_sublist _ _)
     rw [Zjb o0 k] at h5 ⊢
     intro x hx
     rcases List.mem_cons.1 hx with rfl | hx
     ·exact h4
     ·have := (List.pairwise_cons.1 h5).1 x hx
      unfold ltk at *; omega
    ·rw [List.drop_of_length_le (by omega)]; intro x hx; cases hx
   have := PutA.new (L.take o.toNat) (L.drop o.toNat) a hp hq
   rw [eL] at this
   simpa using this
theorem Znx {a : A3} {m : Int} : Z8 (a.1, a.2.1, m) a := ⟨rfl, rfl⟩
theorem PutA.nrm {A L r : List A3} {a : A3} (h : PutA L a r) (k : Nrm A L) (hn : a.1 ≠ a.2.1) : Nrm (A ++ [a]) r := by
 have mA : ∀ c, c ∈ A ++ [a] ↔ (c ∈ A ∨ c = a) := fun c => by simp
 cases h with
 | hit p q b _ kb =>
  have inc := k.inc
  obtain ⟨i1, i2, i3⟩ := List.pairwise_append.1 inc
  obtain ⟨i4, i5⟩ := List.pairwise_cons.1 i2
  have kab : b.1 = a.1 /\ b.2.1 = a.2.1 := kb
  have hbL : b ∈ p ++ b :: q := by simp
  obtain ⟨b1, b2, b3⟩ := k.sub b hbL
  refine ⟨List.pairwise_append.2 ⟨i1, List.pairwise_cons.2 ⟨fun x hx => ?_, i5⟩, fun x hx y hy => ?_⟩, fun x hx => ?_, fun c hc hcn => ?_⟩
  ·have := i4 x hx; unfold ltk at *; dsimp only; omega
  ·rcases List.mem_cons.1 hy with rfl | hy
   ·have := i3 x hx b (List.mem_cons_self ..); unfold ltk at *; dsimp only; omega
   ·exact i3 x hx y (List.mem_cons_of_mem _ hy)
  ·have old : x ∈ p ∨ x ∈ q -> x ∈ A ++ [a] /\ x.1 ≠ x.2.1 /\ ∀ c ∈ A ++ [a], Z8 c x -> x.2.2 ≤ c.2.2 := fun hx => by
    have hxL : x ∈ p ++ b :: q := by rcases hx with h | h <;> simp [h]
    have hk : ¬ Z8 a x := by
     intro hk
     rcases hx with h | h
     ·have := i3 x h b (List.mem_cons_self ..); unfold ltk Z8 at *; omega
     ·have := i4 x h; unfold ltk Z8 at *; omega
    obtain ⟨x1, x2, x3⟩ := k.sub x hxL
    refine ⟨(mA x).2 (.inl x1), x2, fun c hc hk2 => ?_⟩
    rcases (mA c).1 hc with hc | rfl
    ·exact x3 c hc hk2
    ·exact absurd hk2 hk
   rcases List.mem_append.1 hx with h | h
   ·exact old (.inl h)
   ·rcases List.mem_cons.1 h with rfl | h
    ·refine ⟨(mA _).2 ?_, hn, fun c hc hk2 => ?_⟩
     ·by_cases hle : a.2.2 ≤ b.2.2
      ·right; rw [Int.min_eq_left hle]
      ·left
       rw [Int.min_eq_right (by omega)]
       have : ((a.1, a.2.1, b.2.2) : A3) = b := eq3 kab.1.symm kab.2.symm rfl
       rw [this]; exact b1
     ·rcases (mA c).1 hc with hc | rfl
      ·have := b3 c hc (by unfold Z8 at *; dsimp only at hk2; omega)
       dsimp only; omega
      ·dsimp only; omega
    ·exact old (.inr h)
  ·have new : ∃ y ∈ p ++ (a.1, a.2.1, min a.2.2 b.2.2) :: q, Z8 y a := ⟨(a.1, a.2.1, min a.2.2 b.2.2), List.mem_append.2 (.inr (List.mem_cons_self ..)), Znx⟩
   rcases (mA c).1 hc with hc | rfl
   ·obtain ⟨y, hy, hk⟩ := k.sup c hc hcn
    rcases List.mem_append.1 hy with h | h
    ·exact ⟨y, by simp [h], hk⟩
    ·rcases List.mem_cons.1 h with rfl | h
     ·obtain ⟨z, hz, hz2⟩ := new
      exact ⟨z, hz, by unfold Z8 at *; omega⟩
     ·exact ⟨y, by simp [h], hk⟩
   ·exact new
 | new p q _ h1 h2 =>
  have inc := k.inc
  obtain ⟨i1, i2, i3⟩ := List.pairwise_append.1 inc
  refine ⟨List.pairwise_append.2 ⟨i1, List.pairwise_cons.2 ⟨h2, i2⟩, fun x hx y hy => ?_⟩, fun x hx => ?_, fun c hc hcn => ?_⟩
  ·rcases List.mem_cons.1 hy with rfl | hy
   ·exact h1 x hx
   ·exact i3 x hx y hy
  ·have old : x ∈ p ∨ x ∈ q -> x ∈ A ++ [a] /\ x.1 ≠ x.2.1 /\ ∀ c ∈ A ++ [a], Z8 c x -> x.2.2 ≤ c.2.2 := fun hx => by
    have hxL : x ∈ p ++ q := by rcases hx with h | h <;> simp [h]
    have hk : ¬ Z8 a x := by
     intro hk
     rcases hx with h | h
     ·have := h1 x h; unfold ltk Z8 at *; omega
     ·have := h2 x h; unfold ltk Z8 at *; omega
    obtain ⟨x1, x2, x3⟩ := k.sub x hxL
    refine ⟨(mA x).2 (.inl x1), x2, fun c hc hk2 => ?_⟩
    rcases (mA c).1 hc with hc | rfl
    ·exact x3 c hc hk2
    ·exact absurd hk2 hk
   rcases List.mem_append.1 hx with h | h
   ·exact old (.inl h)
   ·rcases List.mem_cons.1 h with rfl | h
    ·refine ⟨(mA _).2 (.inr rfl), hn, fun c hc hk2 => ?_⟩
     rcases (mA c).1 hc with hc | rfl
     ·exfalso
      obtain ⟨y, hy, hk⟩ := k.sup c hc (by unfold Z8 at hk2; omega)
      rcases List.mem_append.1 hy with h | h
      ·have := h1 y h; unfold ltk Z8 at *; omega
      ·have := h2 y h; unfold ltk Z8 at *; omega
     ·omega
    ·exact old (.inr h)
  ·rcases (mA c).1 hc with hc | rfl
   ·obtain ⟨y, hy, hk⟩ := k.sup c hc hcn
    rcases List.mem_append.1 hy with h | h
    ·exact ⟨y, by simp [h], hk⟩
    ·exact ⟨y, by simp [h], hk⟩
   ·exact ⟨c, by simp, rfl, rfl⟩
theorem Nrm.loop {a : A3} (k : Nrm A L) (hn : a.1 = a.2.1) : Nrm (A ++ [a]) L := by
 have mA : ∀ c, c ∈ A ++ [a] ↔ (c ∈ A ∨ c = a) := fun c => by simp
 refine ⟨k.inc, fun x hx => ?_, fun c hc hcn => ?_⟩
 ·obtain ⟨x1, x2, x3⟩ := k.sub x hx
  refine ⟨(mA x).2 (.inl x1), x2, fun c hc hk => ?_⟩
  rcases (mA c).1 hc with hc | rfl
  ·exact x3 c hc hk
  ·unfold Z8 at hk; omega
 ·rcases (mA c).1 hc with hc | rfl
  ·exact k.sup c hc hcn
  ·exact absurd hn hcn
theorem Nrm.zero : Nrm [] [] := { inc := .nil, sub := fun a h => (by cases h), sup := fun a h => (by cases h) }
end Go.Vd

/-! (PrR0) -/

set_option linter.unusedVariables false
set_option linter.unusedSectionVars false
set_option linter.unusedSimpArgs false
namespace Go.Vd
variable {N : Int} {A L : List A3}
theorem p_rOf (hl : (A.length : Int) ≤ 262144) : T (Zci N A) fun r => r.1 = N /\ Nrm A r.2 /\ r.2.length ≤ A.length := by
 unfold Zci
 refine Zl (fun c => Nrm A c /\ c.length ≤ A.length) ?_ fun c hc => by simp only [Zd]; exact ⟨trivial, hc⟩
 refine ZU (fun z => 0 ≤ z.1 /\ z.1 ≤ (A.length : Int) /\ Nrm (A.take z.1.toNat) z.2 /\ (z.2.length : Int) ≤ z.1) (fun z => ((A.length : Int) - z.1).toNat) ?_ ⟨by simp, by simp, by simpa using Nrm.zero, by simp⟩
 rintro ⟨i, c⟩ ⟨i0, i1, hc, hlc⟩
 dsimp only at *
 unfold ZbE
 rw [Zt]
 refine ⟨fun hlt => ?_, fun hge => ?_⟩
 rotate_left
 ·simp only [Zd, Sum.elim_inr]
  rw [List.take_of_length_le (by omega)] at hc
  exact ⟨hc, by omega⟩
 rw [T_G, Zt]
 refine ⟨i0, fun h => ?_, fun h => ?_⟩
 ·simp only [T_G, Zd, Sum.elim_inl]
  refine ⟨by omega, ⟨by omega, by omega, ?_, by omega⟩, by omega⟩
  rw [Za9 i0 hlt]; exact hc.loop h
 ·refine Zl _ (p_Put hc.inc (by omega)) ?_
  rintro r ⟨hr, hrl⟩
  simp only [T_G, Zd, Sum.elim_inl]
  refine ⟨by omega, ⟨by omega, by omega, ?_, by omega⟩, by omega⟩
  rw [Za9 i0 hlt]; exact hr.nrm hc h
end Go.Vd

/-! (OvB) -/

set_option linter.unusedVariables false
set_option linter.unusedSimpArgs false
namespace Go.Vd
abbrev Nod := Bool × List Hf × List Hf
structure OvR (nodes : List Nod) (alive arcs : Int) (A : List Bool) (L : List OAr) : Prop where
 ln : nodes.length = A.length
 sm : A.length ≤ 65536
 kd : KD L
 en : ∀ a ∈ L, 0 ≤ a.1 /\ a.1 < (A.length : Int) /\ 0 ≤ a.2.1 /\ a.2.1 < (A.length : Int) /\ gt A a.1 = true /\ gt A a.2.1 = true /\ a.1 ≠ a.2.1 /\ 0 ≤ a.2.2.1 /\ a.2.2.1 ≤ 140737488355328 /\ -1 ≤ a.2.2.2 /\ a.2.2.2 < (A.length : Int)
 nd : ∀ v, 0 ≤ v -> v < (A.length : Int) -> gt nodes v = (!gt A v, Zz L v, inL L v)
 al : alive = ((A.filter id).length : Int)
 ar : arcs = (L.length : Int)
 lb : L.length ≤ 1000000
variable {nodes nodes' : List Nod} {alive arcs : Int} {A : List Bool} {L : List OAr} {u v w wt via : Int}
theorem ZhP (h : KD L) (v : Int) : (Zz L v).length ≤ L.length := by rw [Zjt h]; exact List.length_filter_le _ _
theorem ZiZ (h : KD L) (v : Int) : (inL L v).length ≤ L.length := by rw [ZjS h]; exact List.length_filter_le _ _
theorem OvR.put (h : OvR nodes alive arcs A L) (u0 : 0 ≤ u) (u1 : u < (A.length : Int)) (w0 : 0 ≤ w) (w1 : w < (A.length : Int)) (au : gt A u = true) (aw : gt A w = true) (uw : u ≠ w) (t0 : 0 ≤ wt) (t1 : wt ≤ 140737488355328) (v0 : -1 ≤ via) (v1 : via < (A.length : Int)) (hb : L.length < 1000000)
  (hl : nodes'.length = nodes.length) (hn : ∀ x, 0 ≤ x -> x < (A.length : Int) -> gt nodes' x = ((gt nodes x).1, if x = u then Zcm (w, wt, via) (gt nodes x).2.1 else (gt nodes x).2.1, if x = w then Zcm (u, wt, via) (gt nodes x).2.2 else (gt nodes x).2.2)) :
  OvR nodes' alive (if (∃ x ∈ L, x.1 = u /\ x.2.1 = w) then arcs else arcs + 1) A (ZeS L (u, w, wt, via)) := by
 have hp := Zj2 h.kd (u, w, wt, via)
 refine ⟨by rw [hl, h.ln], h.sm, h.kd.put _, fun a ha => ?_, fun x x0 x1 => ?_, h.al, ?_, ?_⟩
 ·rcases ZeG.1 ha with e | ⟨e, _⟩
  ·rw [e]; exact ⟨u0, u1, w0, w1, au, aw, uw, t0, t1, v0, v1⟩
  ·exact h.en a e
 ·rw [hn x x0 x1, h.nd x x0 x1, ZlF h.kd, Zm7 h.kd]
 ·rw [hp]
  have := h.ar
  split
  ·exact this
  ·rw [this]; simp
 ·rw [hp]
  have := h.lb
  split <;> omega
theorem Zig : ∀ {A : List Bool} {i : Nat} (hi : i < A.length), A[i] = true -> ((A.set i false).filter id).length + 1 = (A.filter id).length
 | a :: A, 0, _, h => by
  have : a = true := h
  subst this
  simp
 | a :: A, i + 1, hi, h => by
  have := Zig (A := A) (i := i) (by simpa using hi) (by simpa using h)
  cases a <;> simp <;> omega
theorem Zfo {A : List Bool} {v x : Int} (v0 : 0 ≤ v) (v1 : v < (A.length : Int)) (x0 : 0 ≤ x) : gt (A.set v.toNat false) x = if x = v then false else gt A x := ZaF v0 v1 x0
theorem OvR.rem (h : OvR nodes alive arcs A L) (v0 : 0 ≤ v) (v1 : v < (A.length : Int)) (av : gt A v = true)
  (hl : nodes'.length = nodes.length) (hn : ∀ x, 0 ≤ x -> x < (A.length : Int) -> gt nodes' x = if x = v then (true, [], []) else ((gt nodes x).1, ZdA v (gt nodes x).2.1, ZdA v (gt nodes x).2.2)) :
  OvR nodes' (alive - 1) (arcs - (((Zz L v).length : Int) + (inL L v).length)) (A.set v.toNat false) (ZbQ L v) := by
 have hr := ZmV h.kd (fun a ha => (h.en a ha).2.2.2.2.2.2.1) v
 have hs : (A.set v.toNat false).length = A.length := List.length_set
 refine ⟨by rw [hl, h.ln, hs], by rw [hs]; exact h.sm, h.kd.rem v, fun a ha => ?_, fun x x0 x1 => ?_, ?_, ?_, ?_⟩
 ·obtain ⟨e, e1, e2⟩ := Zcu.1 ha
  obtain ⟨a1, a2, a3, a4, a5, a6, a7⟩ := h.en a e
  rw [hs, Zfo v0 v1 a1, Zfo v0 v1 a3, if_neg e1, if_neg e2]
  exact ⟨a1, a2, a3, a4, a5, a6, a7⟩
 ·rw [hs] at x1
  rw [hn x x0 x1, h.nd x x0 x1, ZlA h.kd, ZmM h.kd, Zfo v0 v1 x0]
  by_cases e : x = v
  ·rw [if_pos e, if_pos e, if_pos e, if_pos e]; rfl
  ·rw [if_neg e, if_neg e, if_neg e, if_neg e]
 ·have hi : v.toNat < A.length := by omega
  have hg : A[v.toNat] = true := by
   have : gt A v = A[v.toNat] := by simp [gt, List.getD_eq_getElem?_getD, List.getElem?_eq_getElem hi]
   rw [← this]; exact av
  have := Zig hi hg
  have := h.al
  omega
 ·have := h.ar; omega
 ·have := h.lb; omega
theorem ZiV {h : Hf} {l : List Hf} (k : ∀ x ∈ l, x.1 < h.1) : Zcm h l = l ++ [h] := by
 unfold Zcm
 rw [List.filter_eq_self.2 fun x hx => by simpa using k x hx, List.filter_eq_nil_iff.2 fun x hx => by have := k x hx; simp; omega]
theorem Zh1 (L : List OAr) (a : OAr) (v : Int) : Zz (L ++ [a]) v = if v = a.1 then Zcm a.2 (Zz L v) else Zz L v := by
 unfold Zz cl
 rw [List.foldl_append]
 simp only [List.foldl_cons, List.foldl_nil]
 by_cases e : v = a.1
 ·rw [if_pos e]
  have : Ze6 v a = some a.2 := by simp [Ze6, e]
  rw [this]
 ·rw [if_neg e]
  have : Ze6 v a = none := by simp [Ze6]; exact fun h => e h.symm
  rw [this]
theorem ZiT (L : List OAr) (a : OAr) (v : Int) : inL (L ++ [a]) v = if v = a.2.1 then Zcm (a.1, a.2.2) (inL L v) else inL L v := by
 unfold inL cl
 rw [List.foldl_append]
 simp only [List.foldl_cons, List.foldl_nil]
 by_cases e : v = a.2.1
 ·rw [if_pos e]
  have : fIn v a = some (a.1, a.2.2) := by simp [fIn, e]
  rw [this]
 ·rw [if_neg e]
  have : fIn v a = none := by simp [fIn]; exact fun h => e h.symm
  rw [this]
def up4 (a : Int × Int × Int) : OAr := (a.1, a.2.1, a.2.2, -1)
theorem KD.up {M : List (Int × Int × Int)} (h : M.Pairwise ltk) : KD (M.map up4) := by
 unfold KD
 rw [List.pairwise_map]
 refine h.imp fun {a b} q => ?_
 unfold ltk at q
 show ¬ (a.1 = b.1 /\ a.2.1 = b.2.1)
 omega
end Go.Vd

/-! (OvC) -/

set_option linter.unusedVariables false
set_option linter.unusedSimpArgs false
namespace Go.Vd
variable {l : List Hf} {v w wt via : Int} {h : Hf}
theorem ZeD {i : Int} (h0 : 0 ≤ i) (h1 : i < (l.length : Int)) : gt l i ∈ l := by
 unfold gt
 rw [List.getD_eq_getElem?_getD, List.getElem?_eq_getElem (by omega)]
 exact List.getElem_mem _
theorem Zhj {a m b : List Hf} (ha : ∀ x ∈ a, x.1 < h.1) (hm : ∀ x ∈ m, x.1 = h.1) (hb : ∀ x ∈ b, h.1 < x.1) : Zcm h (a ++ (m ++ b)) = a ++ ([h] ++ b) := by
 unfold Zcm
 rw [List.filter_append, List.filter_append, List.filter_append, List.filter_append,
  List.filter_eq_self.2 (fun x hx => decide_eq_true (ha x hx)), List.filter_eq_nil_iff.2 (fun x hx => by have := hm x hx; simp; omega), List.filter_eq_nil_iff.2 (fun x hx => by have := hb x hx; simp; omega),
  show a.filter (fun x => decide (h.1 < x.1)) = [] from List.filter_eq_nil_iff.2 fun x hx => (by have := ha x hx; simp; omega), show m.filter (fun x => decide (h.1 < x.1)) = [] from List.filter_eq_nil_iff.2 fun x hx => (by have := hm x hx; simp; omega), show b.filter (fun x => decide (h.1 < x.1)) = b from List.filter_eq_self.2 fun x hx => decide_eq_true (hb x hx)]
 simp
theorem Zkf {a m b : List Hf} (ha : ∀ x ∈ a, x.1 < v) (hm : ∀ x ∈ m, x.1 = v) (hb : ∀ x ∈ b, v < x.1) : ZdA v (a ++ (m ++ b)) = a ++ b := by
 unfold ZdA
 rw [List.filter_append, List.filter_append, List.filter_eq_self.2 (fun x hx => decide_eq_true (by have := ha x hx; omega)), show m.filter (fun x => decide (x.1 ≠ v)) = [] from List.filter_eq_nil_iff.2 fun x hx => (by have := hm x hx; simp; omega), show b.filter (fun x => decide (x.1 ≠ v)) = b from List.filter_eq_self.2 fun x hx => decide_eq_true (by have := hb x hx; omega)]
 simp
theorem Zf2 (k : ∀ x ∈ l, x.1 ≠ v) : ZdA v l = l := List.filter_eq_self.2 fun x hx => decide_eq_true (k x hx)
theorem Ris.gt (k : Ris l) {i j : Int} (i0 : 0 ≤ i) (ij : i < j) (j1 : j < (l.length : Int)) : (gt l i).1 < (gt l j).1 := by
 have := List.pairwise_iff_getElem.1 k i.toNat j.toNat (by omega) (by omega) (by omega)
 have e : ∀ {n : Int}, 0 ≤ n -> (h : n < (l.length : Int)) -> Go.Vd.gt l n = l[n.toNat]'(by omega) := fun {n} n0 n1 => by
  unfold Go.Vd.gt
  rw [List.getD_eq_getElem?_getD, List.getElem?_eq_getElem (by omega)]; rfl
 rw [e i0 (by omega), e (by omega) j1]; exact this
theorem Zfa {i : Int} {x : Hf} (i1 : i ≤ (l.length : Int)) (hx : x ∈ l.take i.toNat) : ∃ j, 0 ≤ j /\ j < i /\ x = gt l j := by
 obtain ⟨j, j0, j1, e⟩ := Zdb hx
 rw [List.length_take] at j1
 refine ⟨j, j0, by omega, ?_⟩
 rw [e]
 unfold gt
 rw [List.getD_eq_getElem?_getD, List.getD_eq_getElem?_getD, List.getElem?_take, if_pos (by omega)]
theorem Ze3 {i : Int} {x : Hf} (i0 : 0 ≤ i) (hx : x ∈ l.drop i.toNat) : ∃ j, i ≤ j /\ j < (l.length : Int) /\ x = gt l j := by
 obtain ⟨j, j0, j1, e⟩ := Zdb hx
 rw [List.length_drop] at j1
 refine ⟨i + j, by omega, by omega, ?_⟩
 rw [e]
 unfold gt
 rw [List.getD_eq_getElem?_getD, List.getD_eq_getElem?_getD, List.getElem?_drop, show (i + j).toNat = i.toNat + j.toNat by omega]
structure FdR (l : List Hf) (v : Int) (p : Int) (b : Bool) : Prop where
 p0 : 0 ≤ p
 p1 : p ≤ (l.length : Int)
 yes : b = true -> p < (l.length : Int) /\ (gt l p).1 = v
 no : b = false -> ∀ x ∈ l, x.1 ≠ v
 lo : 0 ≤ v -> v < 65536 -> ∀ j, 0 ≤ j -> j < p -> (gt l j).1 < v
 hi : 0 ≤ v -> v < 65536 -> ∀ j, p ≤ j -> j < (l.length : Int) -> v ≤ (gt l j).1
theorem Zmj {a b c : Int} (a0 : 0 ≤ a) (a1 : a < 65536) (v0 : -9223372036854775808 ≤ v) (v1 : v ≤ 9223372036854775807) : ∃ r, ZcA a b c v = some r /\ (r = 0 ↔ a = v) /\ (0 ≤ v -> (r < 0 ↔ a < v)) := by
 refine ⟨_, rfl, ?_, fun h => ?_⟩
 ·rw [IntKind.wrap_i64]; omega
 ·rw [IntKind.wrap_i64]; omega
theorem Zjg (hr : Ris l) (hb : ∀ x ∈ l, 0 ≤ x.1 /\ x.1 < 65536) (hl : l.length ≤ 1000000) (v0 : -9223372036854775808 ≤ v) (v1 : v ≤ 9223372036854775807) : T (ZbT l v) fun r => FdR l v r.1 r.2 := by
 have gtm : ∀ {i : Int}, 0 ≤ i -> i < (l.length : Int) -> gt l i ∈ l := fun {i} i0 i1 => ZeD i0 i1
 unfold ZbT
 refine Zl (fun r => FdR l v r.1 r.2) ?_ fun r h => by simp only [Zd]; exact h
 unfold Zbt
 refine Zl (fun p => 0 ≤ p /\ p ≤ (l.length : Int) /\ (0 ≤ v -> v < 65536 -> (∀ j, 0 ≤ j -> j < p -> (gt l j).1 < v) /\ ∀ j, p ≤ j -> j < (l.length : Int) -> v ≤ (gt l j).1)) ?_ ?_
 ·refine ZU (fun z => 0 ≤ z.2 /\ z.2 ≤ z.1 /\ z.1 ≤ (l.length : Int) /\ (0 ≤ v -> v < 65536 -> (∀ j, 0 ≤ j -> j < z.2 -> (gt l j).1 < v) /\ ∀ j, z.1 ≤ j -> j < (l.length : Int) -> v ≤ (gt l j).1)) (fun z => (z.1 - z.2).toNat) ?_ ⟨by simp, by simp, by simp, fun _ _ => ⟨fun j j0 j1 => by dsimp only at j1; omega, fun j j0 j1 => by dsimp only at j0; omega⟩⟩
  rintro ⟨j, i⟩ ⟨i0, ij, j1, k⟩
  dsimp only at *
  unfold Zat
  rw [Zt]
  refine ⟨fun hlt => ?_, fun hge => ?_⟩
  ·have hm := hb _ (gtm (i := (i + j) / 2) (by omega) (by omega))
   obtain ⟨r, e, r1, r2⟩ := Zmj (b := (gt l ((i + j) / 2)).2.1) (c := (gt l ((i + j) / 2)).2.2) hm.1 hm.2 v0 v1
   simp only [T_G]
   refine ⟨by omega, by omega, by omega, by omega, ?_⟩
   rw [e, Option.bind_some, Zt]
   refine ⟨fun hc => ?_, fun hc => ?_⟩
   ·simp only [T_G, Zd, Sum.elim_inl]
    refine ⟨by omega, ⟨by omega, by omega, j1, fun a b => ⟨fun q q0 q1 => ?_, (k a b).2⟩⟩, by omega⟩
    have hm := (r2 a).1 hc
    by_cases e : q = (i + j) / 2
    ·rw [e]; exact hm
    ·have := hr.gt q0 (by omega) (show (i + j) / 2 < (l.length : Int) by omega); omega
   ·simp only [Zd, Sum.elim_inl]
    refine ⟨⟨i0, by omega, by omega, fun a b => ⟨(k a b).1, fun q q0 q1 => ?_⟩⟩, by omega⟩
    have hm : ¬ (gt l ((i + j) / 2)).1 < v := fun h => hc ((r2 a).2 h)
    by_cases e : q = (i + j) / 2
    ·rw [e]; omega
    ·have := hr.gt (show 0 ≤ (i + j) / 2 by omega) (show (i + j) / 2 < q by omega) q1; omega
  ·simp only [Zd, Sum.elim_inr]
   refine ⟨i0, by omega, fun a b => ⟨(k a b).1, fun q q0 q1 => (k a b).2 q (by omega) q1⟩⟩
 ·rintro p ⟨p0, p1, k⟩
  rw [Zt]
  have out : ∀ x ∈ l, ¬ (0 ≤ v /\ v < 65536) -> x.1 ≠ v := fun x hx hn e => by have := hb x hx; omega
  refine ⟨fun hlt => ?_, fun hge => ?_⟩
  ·have hm := hb _ (gtm p0 hlt)
   obtain ⟨r, e, r1, r2⟩ := Zmj (b := (gt l p).2.1) (c := (gt l p).2.2) hm.1 hm.2 v0 v1
   simp only [T_G]
   refine ⟨p0, ?_⟩
   rw [e, Option.bind_some]
   simp only [Zd]
   refine ⟨p0, p1, fun hb => ⟨hlt, r1.1 (of_decide_eq_true hb)⟩, fun hf x hx => ?_, fun a b => (k a b).1, fun a b => (k a b).2⟩
   by_cases hv : 0 ≤ v /\ v < 65536
   ·obtain ⟨q, q0, q1, rfl⟩ := Zdb hx
    have hne : (gt l p).1 ≠ v := fun e => of_decide_eq_false hf (r1.2 e)
    by_cases hqp : q < p
    ·have := (k hv.1 hv.2).1 q q0 hqp; omega
    ·have h1 := (k hv.1 hv.2).2 p (Int.le_refl _) hlt
     by_cases e : q = p
     ·rw [e]; exact hne
     ·have := hr.gt p0 (show p < q by omega) q1; omega
   ·exact out x hx hv
  ·simp only [Zd]
   refine ⟨p0, p1, fun h => (by cases h), fun _ x hx => ?_, fun a b => (k a b).1, fun a b => (k a b).2⟩
   by_cases hv : 0 ≤ v /\ v < 65536
   ·obtain ⟨q, q0, q1, rfl⟩ := Zdb hx
    have := (k hv.1 hv.2).1 q q0 (by omega); omega
   ·exact out x hx hv
theorem FdR.split (hr : Ris l) {p : Int} {b : Bool} (f : FdR l v p b) (v0 : 0 ≤ v) (v1 : v < 65536) : ∃ m, l = l.take p.toNat ++ (m ++ l.drop (p.toNat + m.length)) /\ (∀ x ∈ l.take p.toNat, x.1 < v) /\ (∀ x ∈ m, x.1 = v) /\ (∀ x ∈ l.drop (p.toNat + m.length), v < x.1) /\ m.length = if b = true then 1 else 0 := by
 have a : ∀ x ∈ l.take p.toNat, x.1 < v := fun x hx => by
  obtain ⟨j, j0, j1, rfl⟩ := Zfa f.p1 hx
  exact f.lo v0 v1 j j0 j1
 cases b with
 | true =>
  obtain ⟨h1, h2⟩ := f.yes rfl
  refine ⟨[gt l p], ?_, a, fun x hx => by rw [List.mem_singleton.1 hx]; exact h2, fun x hx => ?_, rfl⟩
  ·have e := Za9 f.p0 h1
   rw [← List.append_assoc, ← e, show p.toNat + [gt l p].length = (p + 1).toNat by simp only [List.length_cons, List.length_nil]; have := f.p0; omega, List.take_append_drop]
  ·rw [show p.toNat + [gt l p].length = (p + 1).toNat by simp only [List.length_cons, List.length_nil]; have := f.p0; omega] at hx
   have := f.p0
   obtain ⟨j, j0, j1, rfl⟩ := Ze3 (by omega) hx
   have := hr.gt f.p0 (show p < j by omega) j1
   omega
 | false =>
  refine ⟨[], by simp, a, (fun x hx => by cases hx), fun x hx => ?_, rfl⟩
  obtain ⟨j, j0, j1, rfl⟩ := Ze3 f.p0 (by simpa using hx)
  have h1 := f.hi v0 v1 j j0 j1
  have h2 := f.no rfl (gt l j) (ZeD (by have := f.p0; omega) j1)
  omega
theorem Zld (hr : Ris l) (hb : ∀ x ∈ l, 0 ≤ x.1 /\ x.1 < 65536) (hl : l.length ≤ 1000000) (v0 : 0 ≤ v) (v1 : v < 65536) : Zbo l v wt via = some (Zcm (v, wt, via) l) := by
 refine Zeq.1 ?_
 unfold Zbo
 refine Zl _ (Zjg hr hb hl (by omega) (by omega)) ?_
 rintro ⟨p, b⟩ f
 dsimp only at *
 obtain ⟨m, e, a1, a2, a3, a4⟩ := f.split hr v0 v1
 have p0 := f.p0
 have p1 := f.p1
 have hs : Zcm (v, wt, via) l = l.take p.toNat ++ ([(v, wt, via)] ++ l.drop (p.toNat + m.length)) := by
  conv => lhs; rw [e]
  exact Zhj a1 a2 a3
 rw [hs, Zt]
 refine ⟨fun hb => ?_, fun hb => ?_⟩
 ·rw [if_pos hb] at a4
  have h1 := (f.yes hb).1
  simp only [T_G, Zd]
  refine ⟨⟨p0, h1⟩, ?_⟩
  rw [a4, List.set_eq_take_append_cons_drop, if_pos (by omega)]
  simp
 ·rw [if_neg hb] at a4
  simp only [T_G, Zd]
  refine ⟨⟨p0, p1, by omega⟩, ?_⟩
  rw [a4, Nat.add_zero]
theorem Zh5 (hr : Ris l) (hb : ∀ x ∈ l, 0 ≤ x.1 /\ x.1 < 65536) (hl : l.length ≤ 1000000) (v0 : 0 ≤ v) (v1 : v < 65536) : ZbH l v = some (ZdA v l) := by
 refine Zeq.1 ?_
 unfold ZbH
 refine Zl _ (Zjg hr hb hl (by omega) (by omega)) ?_
 rintro ⟨p, b⟩ f
 dsimp only at *
 obtain ⟨m, e, a1, a2, a3, a4⟩ := f.split hr v0 v1
 have p0 := f.p0
 have p1 := f.p1
 have hs : ZdA v l = l.take p.toNat ++ l.drop (p.toNat + m.length) := by
  conv => lhs; rw [e]
  exact Zkf a1 a2 a3
 rw [Zt]
 refine ⟨fun hb => ?_, fun hb => ?_⟩
 ·have hb' : b = false := by simpa using hb
  simp only [Zd]
  exact (Zf2 (f.no hb')).symm
 ·have hb' : b = true := by simpa using hb
  rw [if_pos hb'] at a4
  have h1 := (f.yes hb').1
  simp only [T_G, Zd]
  refine ⟨by omega, by omega, ?_⟩
  rw [hs, a4, show (p + 1).toNat = p.toNat + 1 by omega]
end Go.Vd

/-! (So1) -/

set_option linter.unusedVariables false
set_option linter.unusedSimpArgs false
namespace Go.Vd
theorem ZkR {x y : Int} : Zcb x y = some (if x < y then -1 else if x > y then 1 else 0) := by
 unfold Zcb ZdD
 simp only [Option.bind_some]
 simp
 by_cases h1 : x < y
 ·simp [h1]
 ·by_cases h2 : y < x <;> simp [h1, h2]
theorem p_Or3 {a b c : Int} : ZeE [a, b, c] = some (if a ≠ 0 then a else if b ≠ 0 then b else c) := by
 unfold ZeE
 have h3 : Zcr [a, b, c] 3 = some (Sum.inr (Sum.inr ())) := by unfold Zcr; rw [if_neg (by simp)]
 have step : ∀ i : Int, 0 ≤ i -> i < 3 -> Zcr [a, b, c] i = if gt [a, b, c] i = 0 then some (Sum.inl (i + 1)) else some (Sum.inr (Sum.inl (gt [a, b, c] i))) := fun i i0 i1 => by
  unfold Zcr G
  rw [if_pos (by simp; omega), if_pos i0]
  split
  ·rw [if_pos (by omega)]
  ·rfl
 have g0 : gt [a, b, c] 0 = a := rfl
 have g1 : gt [a, b, c] 1 = b := rfl
 have g2 : gt [a, b, c] 2 = c := rfl
 rw [ZeN, step 0 (by omega) (by omega), g0]
 by_cases ha : a = 0
 ·rw [if_pos ha, if_neg (by simp [ha]), Option.bind_some, Sum.elim_inl, show (0 : Int) + 1 = 1 from rfl, ZeN, step 1 (by omega) (by omega), g1]
  by_cases hb : b = 0
  ·rw [if_pos hb, if_neg (by simp [hb]), Option.bind_some, Sum.elim_inl, show (1 : Int) + 1 = 2 from rfl, ZeN, step 2 (by omega) (by omega), g2]
   by_cases hc : c = 0
   ·rw [if_pos hc, Option.bind_some, Sum.elim_inl, show (2 : Int) + 1 = 3 from rfl, ZeN, h3]
    simp [hc]
   ·rw [if_neg hc]; simp
  ·rw [if_neg hb, if_pos hb]; simp
 ·rw [if_neg ha, if_pos ha]; simp
def lt3 (x y : Int × Int × Int) : Prop := x.1 < y.1 ∨ (x.1 = y.1 /\ (x.2.1 < y.2.1 ∨ (x.2.1 = y.2.1 /\ x.2.2 < y.2.2)))
instance (x y : Int × Int × Int) : Decidable (lt3 x y) := by unfold lt3; infer_instance
noncomputable abbrev ZfA : Int × Int × Int -> Int × Int × Int -> Option Int := fun a_ b_ => ZbR a_.1 a_.2.1 a_.2.2 b_.1 b_.2.1 b_.2.2
theorem ZjY (x y : Int × Int × Int) : ∃ r, ZfA x y = some r /\ (r < 0 ↔ lt3 x y) := by
 unfold ZfA ZbR
 simp only [ZkR, Option.bind_some, p_Or3]
 refine ⟨_, rfl, ?_⟩
 unfold lt3
 by_cases a1 : x.1 < y.1
 ·simp [a1]
 ·by_cases a2 : x.1 > y.1
  ·have : ¬ x.1 = y.1 := by omega
   simp [a1, a2, this]
  ·have e : x.1 = y.1 := by omega
   by_cases b1 : x.2.1 < y.2.1
   ·simp [e, b1]
   ·by_cases b2 : x.2.1 > y.2.1
    ·have : ¬ x.2.1 = y.2.1 := by omega
     simp [e, b1, b2, this]
    ·have e2 : x.2.1 = y.2.1 := by omega
     by_cases c1 : x.2.2 < y.2.2
     ·simp [e, e2, c1]
     ·by_cases c2 : x.2.2 > y.2.2 <;> simp [e, e2, c1, c2]
theorem Zdq (x y : Int × Int × Int) : (ZfA x y).getD 0 < 0 ↔ lt3 x y := by
 obtain ⟨r, h1, h2⟩ := ZjY x y
 rw [h1]; exact h2
theorem ZjR : SortOk ZfA :=
 { ans := fun x y => let ⟨r, h, _⟩ := ZjY x y; ⟨r, h⟩
   irr := fun x => by rw [Zdq]; unfold lt3; omega
   trn := fun x y z => by rw [Zdq, Zdq, Zdq]; unfold lt3; omega
   ntr := fun x y z => by rw [Zdq, Zdq, Zdq]; unfold lt3; omega
   tot := fun x y h1 h2 => by
    rw [Zdq] at h1 h2
    obtain ⟨x1, x2, x3⟩ := x
    obtain ⟨y1, y2, y3⟩ := y
    unfold lt3 at h1 h2
    dsimp only at h1 h2
    simp only [Prod.mk.injEq]
    omega }
theorem Znn (xs : List (Int × Int × Int)) : ZeW (fun (a_ b_ : Int × Int × Int) => ZbR a_.1 a_.2.1 a_.2.2 b_.1 b_.2.1 b_.2.2) xs = some (Zao ZfA xs) := Zl3 ZjR xs
theorem Zln (xs : List (Int × Int × Int)) : (Zao ZfA xs).Pairwise fun x y => ¬ lt3 y x := (Zi9 ZjR xs).imp fun h => by rwa [Zdq] at h
theorem ZkN {x y : Int × Int × Int} : ZcE x.1 x.2.1 x.2.2 y.1 y.2.1 y.2.2 = some (decide (Z8 x y)) := by
 unfold ZcE Z8
 by_cases h : x.1 = y.1 <;> simp [h]
def cpt (s : List (Int × Int × Int)) : Nat -> List (Int × Int × Int)
 | 0 => []
 | k + 1 => cpt s k ++ if k ≠ 0 /\ Z8 (gt s (k : Int)) (gt s ((k : Int) - 1)) then [] else [gt s (k : Int)]
theorem Zm5 (s : List (Int × Int × Int)) (k : Nat) : (cpt s k).length ≤ k := by
 induction k with
 | zero => simp [cpt]
 | succ k ih =>
  simp only [cpt, List.length_append]
  split <;> simp <;> omega
theorem ZfD {s : List (Int × Int × Int)} {i : Int} (i0 : 0 ≤ i) : cpt s (i + 1).toNat = cpt s i.toNat ++ if i ≠ 0 /\ Z8 (gt s i) (gt s (i - 1)) then [] else [gt s i] := by
 rw [show (i + 1).toNat = i.toNat + 1 from by omega]
 simp only [cpt]
 rw [show ((i.toNat : Nat) : Int) = i from by omega]
 have : i.toNat ≠ 0 ↔ i ≠ 0 := by omega
 simp only [ne_eq, this]
theorem ZjO {E : Type} [Inhabited E] {l : List E} {k j : Int} (k0 : 0 ≤ k) (j0 : 0 ≤ j) : gt (l.drop k.toNat) j = gt l (k + j) := by
 unfold gt
 rw [List.getD_eq_getElem?_getD, List.getD_eq_getElem?_getD, List.getElem?_drop, show k.toNat + j.toNat = (k + j).toNat from by omega]
theorem Zle {s : List (Int × Int × Int)} (hl : s.length ≤ 1000000000000) : T (Zby s) fun r => r.1 = cpt s s.length := by
 unfold Zby
 rw [Zt]
 have c1 : 0 < s.length -> cpt s 1 = s.take 1 := fun h => by
  simp only [cpt]
  have := Za9 (l := s) (i := 0) (by omega) (by omega)
  simpa using this.symm
 refine ⟨fun h => ?_, fun h => ?_⟩
 ·simp only [Zd]
  by_cases h0 : s.length = 0
  ·rw [h0]; exact List.eq_nil_of_length_eq_zero h0
  ·have : s.length = 1 := by omega
   have h2 := c1 (by omega)
   rw [this, h2, List.take_of_length_le (by omega)]
 refine Zdm (fun _ => cpt s s.length = s) ?_ fun _ h => by simp only [Zd]; exact h.symm
 refine ZU (fun k => 1 ≤ k /\ k ≤ (s.length : Int) /\ cpt s k.toNat = s.take k.toNat) (fun k => ((s.length : Int) - k).toNat) ?_ ⟨by omega, by omega, c1 (by omega)⟩
 rintro k ⟨k0, k1, hk⟩
 unfold ZaV
 rw [Zt]
 refine ⟨fun hlt => ?_, fun hge => ?_⟩
 rotate_left
 ·simp only [Zd, Sum.elim_inr]
  have : k = s.length := by omega
  subst this
  simpa using hk
 simp only [T_G]
 refine ⟨by omega, by omega, by omega, ?_⟩
 rw [ZkN, Option.bind_some, Zt]
 refine ⟨fun heq => ?_, fun hne => ?_⟩
 rotate_left
 ·have hne' : ¬ Z8 (gt s k) (gt s (k - 1)) := by simpa using hne
  simp only [T_G, Zd, Sum.elim_inl]
  refine ⟨by omega, ⟨by omega, by omega, ?_⟩, by omega⟩
  rw [ZfD (by omega), if_neg (fun h => hne' h.2), hk]
  exact (Za9 (by omega) hlt).symm
 have heq' : Z8 (gt s k) (gt s (k - 1)) := by simpa using heq
 simp only [T_G]
 refine ⟨by omega, ?_⟩
 refine Zl (fun r => (r.1.length : Int) = s.length /\ 0 ≤ r.2 /\ r.2 ≤ (s.length : Int) /\ cpt s s.length = r.1.take r.2.toNat) ?_ ?_
 ·refine ZU (fun z => 1 ≤ z.2.2 /\ z.2.2 ≤ (s.length : Int) - k /\ k ≤ z.2.1 /\ z.2.1 ≤ k + z.2.2 - 1 /\ (z.1.length : Int) = s.length /\ cpt s (k + z.2.2).toNat = z.1.take z.2.1.toNat /\ ∀ j, k + z.2.2 - 1 ≤ j -> gt z.1 j = gt s j) (fun z => ((s.length : Int) - k - z.2.2).toNat) ?_ ⟨by simp, by dsimp only; omega, by simp, by dsimp only; omega, rfl, ?_, fun _ _ => rfl⟩
  rotate_left
  ·dsimp only
   rw [ZfD (by omega), if_pos ⟨by omega, heq'⟩, hk, List.append_nil]
  rintro ⟨s0, k1', k2⟩ ⟨a0, a1, a2, a3, a4, a5, a6⟩
  dsimp only at *
  have hdl : ((s0.drop k.toNat).length : Int) = s.length - k := by rw [List.length_drop]; omega
  unfold ZaW
  rw [hdl, Zt]
  refine ⟨fun hlt2 => ?_, fun hge2 => ?_⟩
  rotate_left
  ·simp only [Zd, Sum.elim_inr]
   have : k + k2 = s.length := by omega
   rw [this] at a5
   exact ⟨a4, by omega, by omega, by simpa using a5⟩
  have e1 : gt (s0.drop k.toNat) k2 = gt s (k + k2) := by rw [ZjO (by omega) (by omega)]; exact a6 _ (by omega)
  have e2 : gt (s0.drop k.toNat) (k2 - 1) = gt s (k + k2 - 1) := by rw [ZjO (by omega) (by omega), show k + (k2 - 1) = k + k2 - 1 from by omega]; exact a6 _ (by omega)
  simp only [T_G]
  refine ⟨by omega, by omega, by omega, ?_⟩
  rw [ZkN, e1, e2, Option.bind_some, Zt]
  have nx : (k + (k2 + 1)).toNat = (k + k2 + 1).toNat := by omega
  refine ⟨fun hn => ?_, fun hy => ?_⟩
  ·have hn' : ¬ Z8 (gt s (k + k2)) (gt s (k + k2 - 1)) := by simpa using hn
   simp only [T_G, Zd, Sum.elim_inl]
   refine ⟨by omega, by omega, by omega, ⟨by omega, by omega, by omega, by omega, by simpa using a4, ?_, fun j hj => ?_⟩, by omega⟩
   ·rw [nx, ZfD (by omega), if_neg (fun h => hn' h.2), a5]
    have h1 := Za9 (l := s0.set k1'.toNat (gt s (k + k2))) (i := k1') (by omega) (by simp; omega)
    rw [h1, ZaF (by omega) (by omega) (by omega), if_pos rfl, List.take_set_of_le (Nat.le_refl _)]
   ·rw [ZaF (by omega) (by omega) (by omega), if_neg (by omega)]; exact a6 j (by omega)
  ·have hy' : Z8 (gt s (k + k2)) (gt s (k + k2 - 1)) := by simpa using hy
   simp only [T_G, Zd, Sum.elim_inl]
   refine ⟨by omega, ⟨by omega, by omega, by omega, by omega, a4, ?_, fun j hj => a6 j (by omega)⟩, by omega⟩
   rw [nx, ZfD (by omega), if_pos ⟨by omega, hy'⟩, a5, List.append_nil]
 ·rintro ⟨r, q⟩ ⟨b1, b2, b3, b4⟩
  dsimp only at *
  have hlen : ((r.take q.toNat ++ List.replicate (r.length - q.toNat) ((0, 0, 0) : Int × Int × Int)).length : Int) = r.length := by simp; omega
  simp only [T_G, Zd1, Zd, Sum.elim_inr, Sum.elim_inl]
  refine ⟨by omega, by omega, by omega, ?_⟩
  rw [List.take_left' (by rw [List.length_take]; omega)]
  exact b4.symm
end Go.Vd

/-! (So2) -/

set_option linter.unusedVariables false
set_option linter.unusedSectionVars false
set_option linter.unusedSimpArgs false
namespace Go.Vd
section
variable {s : List A3} (hs : ∀ i j : Int, 0 ≤ i -> i < j -> j < (s.length : Int) -> ¬ lt3 (gt s j) (gt s i))
include hs
theorem Zku {i j : Int} (i0 : 0 ≤ i) (ij : i < j) (j1 : j < (s.length : Int)) : ltk (gt s i) (gt s j) ∨ (Z8 (gt s i) (gt s j) /\ (gt s i).2.2 ≤ (gt s j).2.2) := by
 have := hs i j i0 ij j1
 unfold lt3 at this; unfold ltk Z8
 omega
theorem ZjT {k : Nat} (hk : k ≤ s.length) : ∀ x ∈ cpt s k, ∃ i : Int, 0 ≤ i /\ i < k /\ x = gt s i := by
 induction k with
 | zero => intro x hx; cases hx
 | succ k ih =>
  intro x hx
  simp only [cpt] at hx
  rcases List.mem_append.1 hx with hx | hx
  ·obtain ⟨i, i0, i1, e⟩ := ih (by omega) x hx
   exact ⟨i, i0, by omega, e⟩
  ·split at hx
   ·cases hx
   ·exact ⟨k, by omega, by omega, List.mem_singleton.1 hx⟩
theorem Zm6 {k : Nat} (hk : k ≤ s.length) : (cpt s k).Pairwise ltk := by
 induction k with
 | zero => exact .nil
 | succ k ih =>
  simp only [cpt]
  split
  ·rw [List.append_nil]; exact ih (by omega)
  ·rename_i hn
   rw [List.pairwise_append]
   refine ⟨ih (by omega), List.pairwise_singleton _ _, fun x hx y hy => ?_⟩
   obtain rfl := List.mem_singleton.1 hy
   obtain ⟨i, i0, i1, rfl⟩ := ZjT hs (by omega) x hx
   have hk0 : k ≠ 0 := by omega
   have hn' : ¬ Z8 (gt s (k : Int)) (gt s ((k : Int) - 1)) := fun q => hn ⟨hk0, q⟩
   have h1 := Zku hs (i := (k : Int) - 1) (j := k) (by omega) (by omega) (by omega)
   by_cases e : i = (k : Int) - 1
   ·subst e
    unfold ltk Z8 at *; omega
   ·have h2 := Zku hs (i := i) (j := (k : Int) - 1) i0 (by omega) (by omega)
    unfold ltk Z8 at *; omega
theorem Zj1 {k : Nat} (hk : k ≤ s.length) : ∀ i : Int, 0 ≤ i -> i < k -> ∃ x ∈ cpt s k, Z8 x (gt s i) /\ x.2.2 ≤ (gt s i).2.2 := by
 induction k with
 | zero => intro i i0 i1; simp at i1; omega
 | succ k ih =>
  intro i i0 i1
  by_cases e : i = (k : Int)
  ·subst e
   by_cases hn : k ≠ 0 /\ Z8 (gt s (k : Int)) (gt s ((k : Int) - 1))
   ·obtain ⟨x, h1, h2, h3⟩ := ih (by omega) ((k : Int) - 1) (by omega) (by omega)
    refine ⟨x, by simp only [cpt]; exact List.mem_append_left _ h1, ?_, ?_⟩
    ·have := hn.2; unfold Z8 at *; omega
    ·have h4 := Zku hs (i := (k : Int) - 1) (j := k) (by omega) (by omega) (by omega)
     have := hn.2; unfold ltk Z8 at *; omega
   ·refine ⟨gt s (k : Int), ?_, ⟨rfl, rfl⟩, Int.le_refl _⟩
    simp only [cpt]
    rw [if_neg hn]
    exact List.mem_append_right _ (List.mem_singleton.2 rfl)
  ·obtain ⟨x, h1, h2⟩ := ih (by omega) i i0 (by omega)
   exact ⟨x, by simp only [cpt]; exact List.mem_append_left _ h1, h2⟩
end
def Zes (a : A3) : Bool := !decide (a.1 = a.2.1)
theorem Znv {A F s : List A3} (hF : F = A.filter Zes) (hp : s.Perm F) (hs : s.Pairwise fun x y => ¬ lt3 y x) : Nrm A (cpt s s.length) := by
 have hs' : ∀ i j : Int, 0 ≤ i -> i < j -> j < (s.length : Int) -> ¬ lt3 (gt s j) (gt s i) := fun i j i0 ij j1 => by
  obtain ⟨i, rfl⟩ := Int.eq_ofNat_of_zero_le i0
  obtain ⟨j, rfl⟩ := Int.eq_ofNat_of_zero_le (show 0 ≤ j by omega)
  rw [Zfi (show i < s.length by omega), Zfi (show j < s.length by omega)]
  exact List.pairwise_iff_getElem.1 hs i j (by omega) (by omega) (by omega)
 have mem : ∀ x, x ∈ s ↔ (x ∈ A /\ x.1 ≠ x.2.1) := fun x => by
  rw [hp.mem_iff, hF, List.mem_filter]; simp [Zes]
 have inc := Zm6 hs' (Nat.le_refl _)
 refine ⟨inc, fun a ha => ?_, fun a ha hn => ?_⟩
 ·obtain ⟨i, i0, i1, e⟩ := ZjT hs' (Nat.le_refl _) a ha
  have hm := (mem a).1 (by rw [e]; exact ZnI i0 i1)
  refine ⟨hm.1, hm.2, fun b hb hk => ?_⟩
  have hbn : b.1 ≠ b.2.1 := by have := hm.2; unfold Z8 at hk; omega
  obtain ⟨j, j0, j1, rfl⟩ := Zdb ((mem b).2 ⟨hb, hbn⟩)
  obtain ⟨x, x1, x2, x3⟩ := Zj1 hs' (Nat.le_refl _) j j0 j1
  have : x = a := ZmE inc x1 ha (by unfold Z8 at *; omega)
  rw [← this]; exact x3
 ·obtain ⟨j, j0, j1, rfl⟩ := Zdb ((mem a).2 ⟨ha, hn⟩)
  obtain ⟨x, x1, x2, _⟩ := Zj1 hs' (Nat.le_refl _) j j0 j1
  exact ⟨x, x1, x2⟩
end Go.Vd

/-! (Gc) -/

set_option linter.unusedVariables false
set_option linter.unusedSimpArgs false
namespace Go.Vd
variable {N : Int} {A L : List A3}
def ZcX (N : Int) (a : A3) : Int := if a.1 < 0 ∨ a.1 ≥ N ∨ a.2.1 < 0 ∨ a.2.1 ≥ N then 7 else if a.2.2 < 0 ∨ a.2.2 > 2147483647 then 8 else 0
def Ze8 (N : Int) (A : List A3) : Prop := N < 0 ∨ N > 65536 ∨ (A.length : Int) > 262144
inductive GChk (N : Int) (A : List A3) : Er -> Prop
 | limit : Ze8 N A -> GChk N A (.no 9)
 | arc (i : Int) : ¬ Ze8 N A -> 0 ≤ i -> i < (A.length : Int) -> ZcX N (gt A i) ≠ 0 -> (∀ j, 0 ≤ j -> j < i -> ZcX N (gt A j) = 0) -> GChk N A (.at 4 i (.no (ZcX N (gt A i))))
 | ok : ¬ Ze8 N A -> (∀ j, 0 ≤ j -> j < (A.length : Int) -> ZcX N (gt A j) = 0) -> GChk N A .nil
theorem ZkP {a : A3} (h : a.1 < 0 ∨ a.1 ≥ N ∨ a.2.1 < 0 ∨ a.2.1 ≥ N) : ZcX N a = 7 := by unfold ZcX; rw [if_pos h]
theorem Zji {a : A3} (h : ¬ (a.1 < 0 ∨ a.1 ≥ N ∨ a.2.1 < 0 ∨ a.2.1 ≥ N)) (k : a.2.2 < 0 ∨ a.2.2 > 2147483647) : ZcX N a = 8 := by unfold ZcX; rw [if_neg h, if_pos k]
theorem Zlg {a : A3} (h : ¬ (a.1 < 0 ∨ a.1 ≥ N ∨ a.2.1 < 0 ∨ a.2.1 ≥ N)) (k : ¬ (a.2.2 < 0 ∨ a.2.2 > 2147483647)) : ZcX N a = 0 := by unfold ZcX; rw [if_neg h, if_neg k]
theorem ZmT {a : A3} (h : ZcX N a = 0) : 0 ≤ a.1 /\ a.1 < N /\ 0 ≤ a.2.1 /\ a.2.1 < N /\ 0 ≤ a.2.2 /\ a.2.2 ≤ 2147483647 := by
 unfold ZcX at h
 split at h
 ·cases h
 ·split at h
  ·cases h
  ·omega
theorem GChk.uniq {er er' : Er} (h : GChk N A er) (k : GChk N A er') : er = er' := by
 cases h with
 | limit h1 =>
  cases k with
  | limit _ => rfl
  | arc _ k1 => exact absurd h1 k1
  | ok k1 _ => exact absurd h1 k1
 | arc i h1 h2 h3 h4 h5 =>
  cases k with
  | limit k1 => exact absurd k1 h1
  | arc j _ k2 k3 k4 k5 =>
   have : i = j := by
    rcases Int.lt_trichotomy i j with q | q | q
    ·exact absurd (k5 i h2 q) h4
    ·exact q
    ·exact absurd (h5 j k2 q) k4
   rw [this]
  | ok _ k2 => exact absurd (k2 i h2 h3) h4
 | ok h1 h2 =>
  cases k with
  | limit k1 => exact absurd k1 h1
  | arc j _ k2 k3 k4 _ => exact absurd (h2 j k2 k3) k4
  | ok _ _ => rfl
theorem GChk.bad {er : Er} (h : GChk N A er) : (er.code ≠ 0 ∨ er.pls ≠ []) ↔ er ≠ .nil := by
 cases h with
 | limit _ => simp [Er.code]
 | arc i _ _ _ h4 _ => simp [Er.pls]
 | ok _ _ => simp [Er.code, Er.pls]
theorem GChk.small (h : GChk N A .nil) : 0 ≤ N /\ N ≤ 65536 /\ (A.length : Int) ≤ 262144 := by
 cases h with
 | ok h1 _ => unfold Ze8 at h1; omega
theorem GChk.arcs (h : GChk N A .nil) : ∀ a ∈ A, 0 ≤ a.1 /\ a.1 < N /\ 0 ≤ a.2.1 /\ a.2.1 < N /\ 0 ≤ a.2.2 /\ a.2.2 ≤ 2147483647 := by
 cases h with
 | ok h1 h2 =>
  intro a ha
  obtain ⟨i, i0, i1, rfl⟩ := Zdb ha
  exact ZmT (h2 i i0 i1)
theorem Znf {a : A3} : ZdE a.1 a.2.1 a.2.2 N = some (if ZcX N a = 0 then .nil else .no (ZcX N a)) := by
 refine Zeq.1 ?_
 unfold ZdE
 refine Zl (fun o => o = decide (a.1 < 0 ∨ a.1 ≥ N ∨ a.2.1 < 0 ∨ a.2.1 ≥ N)) ?_ ?_
 ·unfold ZcO
  simp only [Zhq, Zt, Zd]
  refine ⟨fun h1 => ⟨fun h2 => ⟨fun h3 => ?_, fun h3 => ?_⟩, fun h2 => ?_⟩, fun h1 => ⟨fun h2 => ?_, fun h2 => ?_⟩⟩
  ·have h2' : a.1 < N := by simpa using h2
   by_cases h4 : a.2.1 < N
   ·simp [h4]; omega
   ·simp [h4]; omega
  ·simp; omega
  ·have h2' : ¬ a.1 < N := by simpa using h2
   simp; omega
  ·simp at h2
  ·simp; omega
 ·rintro _ rfl
  by_cases h : a.1 < 0 ∨ a.1 ≥ N ∨ a.2.1 < 0 ∨ a.2.1 ≥ N
  ·rw [ZkP h]; simp [h]
  ·rw [decide_eq_false h, if_neg (by decide)]
   by_cases k1 : a.2.2 < 0
   ·rw [if_pos k1, Zji h (.inl k1)]; simp
   ·rw [if_neg k1]
    by_cases k2 : a.2.2 > 2147483647
    ·rw [if_pos k2, Zji h (.inr k2)]; simp
    ·rw [if_neg k2, Zlg h (by omega)]; simp
theorem Znq {k i : Int} {e : Er} (h : e ≠ .nil) : ZcY k i e = some (.at k i e) := by
 unfold ZcY; rw [if_neg h]
theorem Zmf : T (if N < 0 then (some true) else (if N > 65536 then (some true) else (some (decide ((A.length : Int) > 262144)))) : Option Bool) fun o => o = true ↔ Ze8 N A := by
 unfold Ze8
 simp only [Zt, Zd]
 exact ⟨fun h => by simp [h], fun h => ⟨fun h2 => by simp [h2], fun h2 => by simp; omega⟩⟩
theorem ZlV : T (Zc8 N A) (GChk N A) := by
 unfold Zc8
 refine Zl _ Zmf fun o ho => ?_
 rw [Zt]
 refine ⟨fun h => by simp only [Zd]; exact .limit (ho.1 h), fun h => ?_⟩
 have hb : ¬ Ze8 N A := fun k => h (ho.2 k)
 have hl : (A.length : Int) ≤ 262144 := by unfold Ze8 at hb; omega
 refine Zdm (fun _ => ∀ j, 0 ≤ j -> j < (A.length : Int) -> ZcX N (gt A j) = 0) ?_ fun _ h => by simp only [Zd]; exact .ok hb h
 refine ZU (fun i => 0 ≤ i /\ i ≤ (A.length : Int) /\ ∀ j, 0 ≤ j -> j < i -> ZcX N (gt A j) = 0) (fun i => ((A.length : Int) - i).toNat) ?_ ⟨by simp, by simp, fun j j0 j1 => by omega⟩
 rintro i ⟨i0, i1, hi⟩
 unfold Zcv
 rw [Zt]
 refine ⟨fun hlt => ?_, fun hge => by simp only [Zd, Sum.elim_inr]; exact fun j j0 j1 => hi j j0 (by omega)⟩
 rw [T_G, Znf, Option.bind_some]
 refine ⟨i0, ?_⟩
 by_cases h0 : ZcX N (gt A i) = 0
 ·rw [if_pos h0, if_pos rfl]
  simp only [T_G, Zd, Sum.elim_inl]
  refine ⟨by omega, ⟨by omega, by omega, fun j j0 j1 => ?_⟩, by omega⟩
  by_cases e : j = i
  ·rw [e]; exact h0
  ·exact hi j j0 (by omega)
 ·rw [if_neg h0, if_neg (by simp), Znq (by simp), Option.bind_some]
  simp only [Zd1, Zd, Sum.elim_inr, Sum.elim_inl]
  exact .arc i hb i0 hlt h0 hi
def swp3 (a : A3) : A3 := (a.2.1, a.1, a.2.2)
inductive RevA (N : Int) (A : List A3) : Int -> List A3 -> Er -> Prop
 | bad (er : Er) : GChk N A er -> er ≠ .nil -> RevA N A 0 [] er
 | ok : GChk N A .nil -> RevA N A N (A.map swp3) .nil
end Go.Vd

/-! (PrGd) -/

set_option linter.unusedVariables false
set_option linter.unusedSimpArgs false
namespace Go.Vd
variable {N : Int} {A L : List A3}
theorem ZgT : T (ZaA N A) fun r => ∃ er, GChk N A er /\ r = (er.code, er.pls) := by
 unfold ZaA
 refine Zl _ Zmf fun o ho => ?_
 rw [Zt]
 refine ⟨fun h => by rw [p_E, Option.bind_some]; simp only [Zd]; exact ⟨.no 9, .limit (ho.1 h), rfl⟩, fun h => ?_⟩
 have hb : ¬ Ze8 N A := fun k => h (ho.2 k)
 have hl : (A.length : Int) ≤ 262144 := by unfold Ze8 at hb; omega
 refine Zdm (fun _ => ∀ j, 0 ≤ j -> j < (A.length : Int) -> ZcX N (gt A j) = 0) ?_ fun _ h => by simp only [Zd]; exact ⟨.nil, .ok hb h, rfl⟩
 refine ZU (fun i => 0 ≤ i /\ i ≤ (A.length : Int) /\ ∀ j, 0 ≤ j -> j < i -> ZcX N (gt A j) = 0) (fun i => ((A.length : Int) - i).toNat) ?_ ⟨by simp, by simp, fun j j0 j1 => by omega⟩
 rintro i ⟨i0, i1, hi⟩
 unfold ZaD
 rw [Zt]
 refine ⟨fun hlt => ?_, fun hge => by simp only [Zd, Sum.elim_inr]; exact fun j j0 j1 => hi j j0 (by omega)⟩
 rw [T_G]
 refine ⟨i0, Zl (fun o => o = true ↔ ((gt A i).1 < 0 ∨ (gt A i).1 ≥ N ∨ (gt A i).2.1 < 0 ∨ (gt A i).2.1 ≥ N)) ?_ fun o ho => ?_⟩
 ·simp only [Zt, Zd]
  refine ⟨fun h => by simp [h], fun h1 => ⟨fun h => by simp; omega, fun h2 => ⟨fun h => by simp [h], fun h3 => by simp; omega⟩⟩⟩
 rw [Zt]
 refine ⟨fun h => ?_, fun h => ?_⟩
 ·have h7 := ZkP (ho.1 h)
  rw [p_E, Option.bind_some, p_At (by simp), Option.bind_some]
  simp only [Zd1, Zd, Sum.elim_inr, Sum.elim_inl]
  refine ⟨_, .arc i hb i0 hlt (by rw [h7]; decide) hi, ?_⟩
  rw [h7]; rfl
 ·have hn : ¬ ((gt A i).1 < 0 ∨ (gt A i).1 ≥ N ∨ (gt A i).2.1 < 0 ∨ (gt A i).2.1 ≥ N) := fun k => h (ho.2 k)
  refine Zl (fun o => o = true ↔ ((gt A i).2.2 < 0 ∨ (gt A i).2.2 > 2147483647)) ?_ fun o ho => ?_
  ·simp only [Zt, Zd]
   exact ⟨fun h => by simp [h], fun h => by simp; omega⟩
  rw [Zt]
  refine ⟨fun h => ?_, fun h => ?_⟩
  ·have h8 := Zji hn (ho.1 h)
   rw [p_E, Option.bind_some, p_At (by simp), Option.bind_some]
   simp only [Zd1, Zd, Sum.elim_inr, Sum.elim_inl]
   refine ⟨_, .arc i hb i0 hlt (by rw [h8]; decide) hi, ?_⟩
   rw [h8]; rfl
  ·have h0 := Zlg hn fun k => h (ho.2 k)
   simp only [T_G, Zd, Sum.elim_inl]
   refine ⟨by omega, ⟨by omega, by omega, fun j j0 j1 => ?_⟩, by omega⟩
   by_cases e : j = i
   ·rw [e]; exact h0
   ·exact hi j j0 (by omega)
end Go.Vd

/-! (PrGf) -/

set_option linter.unusedVariables false
set_option linter.unusedSimpArgs false
namespace Go.Vd
variable {N : Int} {A L : List A3}
theorem p_Few {most : Int} : T (Zb0 N A most) fun b => b = true ↔ (GChk N A .nil /\ N ≤ most /\ (A.length : Int) ≤ 2000) := by
 unfold Zb0
 refine Zl _ ZgT ?_
 rintro _ ⟨er, hc, rfl⟩
 dsimp only
 rw [Ziw, Option.bind_some, Zt]
 refine ⟨fun h => ?_, fun h => ?_⟩
 ·have hne := hc.bad.1 (by simpa using h)
  simp only [Zd]
  simp; exact fun k => absurd (hc.uniq k) hne
 ·have he : er = .nil := Classical.not_not.1 fun k => h (by simpa using hc.bad.2 k)
  subst he
  rw [Zt]
  simp only [Zd]
  exact ⟨fun h => by simp [hc, h], fun h => by simp; intro _ k; omega⟩
end Go.Vd

/-! (So3) -/

set_option linter.unusedVariables false
set_option linter.unusedSimpArgs false
namespace Go.Vd
variable {N : Int} {A L : List A3}
inductive OfA (N : Int) (A : List A3) : Int -> List A3 -> Er -> Prop
 | bad (er : Er) : GChk N A er -> er ≠ .nil -> OfA N A 0 [] er
 | ok (L : List A3) : GChk N A .nil -> Nrm A L -> L.length ≤ A.length -> OfA N A N L .nil
theorem p_Of : T (ZdG N A) fun r => OfA N A r.1 r.2.1 r.2.2 := by
 unfold ZdG
 refine Zl _ ZlV fun er hc => ?_
 rw [Zt]
 refine ⟨fun he => ?_, fun he => by simp only [Zd]; exact .bad er hc he⟩
 subst he
 obtain ⟨n0, n1, n2⟩ := hc.small
 refine Zl (fun c => c = A.filter Zes) ?_ ?_
 ·refine ZU (fun z => 0 ≤ z.1 /\ z.1 ≤ (A.length : Int) /\ z.2 = (A.take z.1.toNat).filter Zes) (fun z => ((A.length : Int) - z.1).toNat) ?_ ⟨by simp, by simp, by simp⟩
  rintro ⟨i, c⟩ ⟨i0, i1, e⟩
  dsimp only at *
  subst e
  unfold ZcK
  rw [Zt]
  refine ⟨fun hlt => ?_, fun hge => ?_⟩
  rotate_left
  ·simp only [Zd, Sum.elim_inr]
   rw [List.take_of_length_le (by omega)]
  have hll := List.length_filter_le Zes (A.take i.toNat)
  have hlt2 : (A.take i.toNat).length ≤ A.length := by rw [List.length_take]; omega
  have next : (A.take (i + 1).toNat).filter Zes = (A.take i.toNat).filter Zes ++ if (gt A i).1 = (gt A i).2.1 then [] else [gt A i] := by
   rw [Za9 i0 hlt, List.filter_append]
   congr 1
   by_cases h : (gt A i).1 = (gt A i).2.1 <;> simp [List.filter, Zes, h]
  simp only [T_G, Zt, Zd, Sum.elim_inl]
  refine ⟨i0, fun h => ⟨by omega, ⟨by omega, by omega, ?_⟩, by omega⟩, fun h => ⟨by omega, by omega, ⟨by omega, by omega, ?_⟩, by omega⟩⟩
  ·rw [next, if_pos h, List.append_nil]
  ·rw [next, if_neg h]
 ·rintro _ rfl
  have hll := List.length_filter_le Zes A
  rw [T_G, Znn, Option.bind_some]
  refine ⟨by omega, ?_⟩
  have hp := Zhp ZfA (A.filter Zes)
  have hlen := hp.length_eq
  refine Zl _ (Zle (by omega)) fun r hr => ?_
  simp only [Zd]
  rw [hr]
  refine .ok _ hc (Znv rfl hp (Zln _)) ?_
  have := Zm5 (Zao ZfA (A.filter Zes)) (Zao ZfA (A.filter Zes)).length
  omega
end Go.Vd

/-! (PrPu) -/


/-! (PrGo) -/

set_option linter.unusedVariables false
set_option linter.unusedSectionVars false
set_option linter.unusedSimpArgs false
namespace Go.Vd
variable {N : Int} {A L : List A3}
theorem ZlZ : T (Zbx N A) fun r => ∃ er, OfA N A r.1 r.2.1 er /\ r.2.2.1 = er.code /\ r.2.2.2 = er.pls := by
 unfold Zbx
 refine Zl _ ZgT ?_
 rintro _ ⟨er, hc, rfl⟩
 dsimp only
 rw [Ziw, Option.bind_some, Zt]
 refine ⟨fun h => ?_, fun h => ?_⟩
 ·simp only [Zd]
  exact ⟨er, .bad er hc (hc.bad.1 (by simpa using h)), rfl, rfl⟩
 ·have he : er = .nil := Classical.byContradiction fun k => h (by simpa using hc.bad.2 k)
  subst he
  refine Zl _ (p_rOf hc.small.2.2) ?_
  rintro ⟨n, c⟩ ⟨e, h1, h2⟩
  dsimp only at *
  subst e
  simp only [Zd]
  exact ⟨.nil, .ok c hc h1 h2, rfl, rfl⟩
end Go.Vd

/-! (OvD) -/

set_option linter.unusedVariables false
set_option linter.unusedSimpArgs false
namespace Go.Vd
variable {nodes nodes' : List Nod} {alive arcs : Int} {A : List Bool} {L : List OAr} {u v w wt via : Int}
def ZD (A : List Bool) (v : Int) : Prop := 0 ≤ v /\ v < (A.length : Int) /\ gt A v = true
instance : Decidable (ZD A v) := by unfold ZD; infer_instance
theorem KD.uniq (h : KD L) {a b : OAr} (ha : a ∈ L) (hb : b ∈ L) (e1 : a.1 = b.1) (e2 : a.2.1 = b.2.1) : a = b := by
 obtain ⟨i, hi, rfl⟩ := List.mem_iff_getElem.1 ha
 obtain ⟨j, hj, rfl⟩ := List.mem_iff_getElem.1 hb
 rcases Nat.lt_trichotomy i j with q | q | q
 ·exact absurd ⟨e1, e2⟩ (List.pairwise_iff_getElem.1 h i j hi hj q)
 ·subst q; rfl
 ·exact absurd ⟨e1.symm, e2.symm⟩ (List.pairwise_iff_getElem.1 h j i hj hi q)
theorem OvR.outB (h : OvR nodes alive arcs A L) (v : Int) : ∀ x ∈ Zz L v, 0 ≤ x.1 /\ x.1 < 65536 := fun x hx => by
 have := h.en _ ((Z1 h.kd).1 hx)
 have hs := h.sm
 dsimp only at this
 omega
theorem OvR.inB (h : OvR nodes alive arcs A L) (v : Int) : ∀ x ∈ inL L v, 0 ≤ x.1 /\ x.1 < 65536 := fun x hx => by
 have := h.en _ ((Za1 h.kd).1 hx)
 have hs := h.sm
 dsimp only at this
 omega
theorem OvR.outLen (h : OvR nodes alive arcs A L) (v : Int) : (Zz L v).length ≤ 1000000 := Nat.le_trans (ZhP h.kd v) h.lb
theorem OvR.inLen (h : OvR nodes alive arcs A L) (v : Int) : (inL L v).length ≤ 1000000 := Nat.le_trans (ZiZ h.kd v) h.lb
theorem OvR.out0 (h : OvR nodes alive arcs A L) (hv : ¬ ZD A v) : Zz L v = [] := by
 refine List.eq_nil_iff_forall_not_mem.2 fun x hx => hv ?_
 obtain ⟨a1, a2, a3, a4, a5, _⟩ := h.en _ ((Z1 h.kd).1 hx)
 exact ⟨a1, a2, a5⟩
theorem OvR.in0 (h : OvR nodes alive arcs A L) (hv : ¬ ZD A v) : inL L v = [] := by
 refine List.eq_nil_iff_forall_not_mem.2 fun x hx => hv ?_
 obtain ⟨a1, a2, a3, a4, a5, a6, _⟩ := h.en _ ((Za1 h.kd).1 hx)
 exact ⟨a3, a4, a6⟩
theorem Zdt (h : OvR nodes alive arcs A L) {a b v : Int} : ZF nodes a b v = some (decide (ZD A v)) := by
 unfold ZF ZD
 have hl := h.ln
 by_cases h0 : v ≥ 0
 ·rw [if_pos h0]
  by_cases h1 : v < (nodes.length : Int)
  ·rw [if_pos h1]
   unfold G
   rw [if_pos h0, h.nd v h0 (by omega)]
   have : v < (A.length : Int) := by omega
   show some (!(!gt A v)) = _
   rw [Bool.not_not]
   congr 1
   have h0' : 0 ≤ v := h0
   rw [Bool.eq_iff_iff]; simp [h0', this]
  ·rw [if_neg h1]
   have : ¬ v < (A.length : Int) := by omega
   simp [this]
 ·rw [if_neg h0]
  have : ¬ 0 ≤ v := h0
  simp [this]
def Wt (L : List OAr) (u w x : Int) (b : Bool) : Prop := (b = true /\ ∃ a ∈ L, a.1 = u /\ a.2.1 = w /\ a.2.2.1 = x) ∨ (b = false /\ x = 0 /\ ∀ a ∈ L, ¬ (a.1 = u /\ a.2.1 = w))
theorem Wt.uniq (h : KD L) {x y : Int} {b c : Bool} (k : Wt L u w x b) (k' : Wt L u w y c) : x = y /\ b = c := by
 rcases k with ⟨rfl, a, a1, a2, a3, a4⟩ | ⟨rfl, rfl, n⟩ <;> rcases k' with ⟨rfl, a', b1, b2, b3, b4⟩ | ⟨rfl, rfl, n'⟩
 ·have := h.uniq a1 b1 (a2.trans b2.symm) (a3.trans b3.symm)
  subst this
  exact ⟨a4.symm.trans b4, rfl⟩
 ·exact absurd ⟨a2, a3⟩ (n' a a1)
 ·exact absurd ⟨b2, b3⟩ (n a' b1)
 ·exact ⟨rfl, rfl⟩
theorem ZiS (h : OvR nodes alive arcs A L) {a b : Int} (w0 : -9223372036854775808 ≤ w) (w1 : w ≤ 9223372036854775807) : T (Zar nodes a b u w) fun r => Wt L u w r.1 r.2 := by
 unfold Zar
 rw [Zdt h, Option.bind_some]
 by_cases hu : ZD A u
 ·rw [decide_eq_true hu, if_neg (by decide)]
  have hl := h.ln
  simp only [T_G]
  refine ⟨⟨hu.1, by have := hu.2.1; omega⟩, ?_⟩
  have hn := h.nd u hu.1 hu.2.1
  rw [hn]
  dsimp only
  refine Zl _ (Zjg (Zcg L u) (h.outB u) (h.outLen u) w0 w1) ?_
  rintro ⟨p, f⟩ hf
  dsimp only at *
  rw [Zt]
  refine ⟨fun hb => ?_, fun hb => ?_⟩
  ·have hb' : f = false := by simpa using hb
   simp only [Zd]
   refine .inr ⟨rfl, rfl, fun x hx hk => ?_⟩
   have : x.2 ∈ Zz L u := (Z1 h.kd).2 (by rw [← hk.1]; exact hx)
   exact hf.no hb' _ this hk.2
  ·have hb' : f = true := by simpa using hb
   obtain ⟨q1, q2⟩ := hf.yes hb'
   simp only [T_G, Zd]
   refine ⟨⟨hf.p0, q1⟩, .inl ⟨rfl, _, (Z1 h.kd).1 (ZeD hf.p0 q1), rfl, q2, rfl⟩⟩
 ·rw [decide_eq_false hu, if_pos (by decide)]
  simp only [Zd]
  refine .inr ⟨rfl, rfl, fun x hx hk => hu ?_⟩
  obtain ⟨a1, a2, a3, a4, a5, _⟩ := h.en x hx
  rw [hk.1] at a1 a2 a5
  exact ⟨a1, a2, a5⟩
theorem Zi4 {l : List Hf} (hl : l.length ≤ 1000000) : Zct l = some l := by
 unfold Zct G
 rw [if_pos (by simp; omega)]; simp
theorem Zme (h : OvR nodes alive arcs A L) {a b : Int} : ZaL nodes a b v = some (Zz L v) := by
 unfold ZaL
 rw [Zdt h, Option.bind_some]
 by_cases hu : ZD A v
 ·have hl := h.ln
  have hn := h.nd v hu.1 hu.2.1
  rw [decide_eq_true hu, if_neg (by decide), hn]
  unfold G
  dsimp only
  rw [if_pos ⟨hu.1, by have := hu.2.1; omega⟩, Zi4 (h.outLen v)]; rfl
 ·rw [decide_eq_false hu, if_pos (by decide), h.out0 hu]
def ZdT (A : List Bool) (u w wt via : Int) : Int :=
 if ¬ (ZD A u /\ ZD A w) then 7 else if u = w then 1 else if wt > 140737488355328 then 8 else if via < -1 ∨ (A.length : Int) ≤ via ∨ (0 ≤ via /\ ZD A via) then 1 else 0
inductive PutR (nodes : List Nod) (alive arcs : Int) (A : List Bool) (L : List OAr) (u w wt via : Int) : Bool × Er × List Nod × Int -> Prop
 | bad : ZdT A u w wt via ≠ 0 -> PutR nodes alive arcs A L u w wt via (false, .no (ZdT A u w wt via), nodes, arcs)
 | less (a : OAr) : ZdT A u w wt via = 0 -> a ∈ L -> a.1 = u -> a.2.1 = w -> a.2.2.1 ≤ wt -> PutR nodes alive arcs A L u w wt via (false, .nil, nodes, arcs)
 | put (nodes' : List Nod) (arcs' : Int) : ZdT A u w wt via = 0 -> (∀ a ∈ L, a.1 = u -> a.2.1 = w -> wt < a.2.2.1) -> OvR nodes' alive arcs' A (ZeS L (u, w, wt, via)) -> PutR nodes alive arcs A L u w wt via (true, .nil, nodes', arcs')
theorem ZnB (h : OvR nodes alive arcs A L) (hb : L.length < 1000000) (w0 : -9223372036854775808 ≤ w) (w1 : w ≤ 9223372036854775807) (t0 : 0 ≤ wt) : T (Zbi nodes alive arcs u w wt via) (PutR nodes alive arcs A L u w wt via) := by
 unfold Zbi
 rw [Zdt h, Option.bind_some]
 have e1 : ((if decide (ZD A u) = true then ((ZF nodes alive arcs w).bind fun y32 => some (!y32)) else (some true)) : Option Bool) = some (decide (¬ (ZD A u /\ ZD A w))) := by
  by_cases hu : ZD A u
  ·rw [decide_eq_true hu, if_pos rfl, Zdt h, Option.bind_some]
   by_cases hw : ZD A w <;> simp [hu, hw]
  ·rw [decide_eq_false hu, if_neg (by decide)]; simp [hu]
 rw [e1, Option.bind_some]
 by_cases hl : ¬ (ZD A u /\ ZD A w)
 ·rw [if_pos (decide_eq_true hl)]
  simp only [Zd]
  have : ZdT A u w wt via = 7 := if_pos hl
  exact this ▸ .bad (by rw [this]; decide)
 rw [if_neg (by simpa using hl)]
 have hl' : ZD A u /\ ZD A w := Classical.not_not.1 hl
 obtain ⟨hu, hw⟩ := hl'
 by_cases huw : u = w
 ·rw [if_pos huw]
  simp only [Zd]
  have : ZdT A u w wt via = 1 := (if_neg hl).trans (if_pos huw)
  exact this ▸ .bad (by rw [this]; decide)
 rw [if_neg huw]
 by_cases hwt : wt > 140737488355328
 ·rw [if_pos hwt]
  simp only [Zd]
  have : ZdT A u w wt via = 8 := (if_neg hl).trans ((if_neg huw).trans (if_pos hwt))
  exact this ▸ .bad (by rw [this]; decide)
 rw [if_neg hwt]
 have hln := h.ln
 have e2 : ((if via < (-1) then (some true) else (if via ≥ (nodes.length : Int) then (some true) else (if via ≥ 0 then (G (0 ≤ via /\ via < (nodes.length : Int)) (some (!(gt nodes via).1))) else (some false))) : Option Bool)) = some (decide (via < -1 ∨ (A.length : Int) ≤ via ∨ (0 ≤ via /\ ZD A via))) := by
  by_cases q1 : via < -1
  ·rw [if_pos q1]; simp [q1]
  rw [if_neg q1]
  by_cases q2 : via ≥ (nodes.length : Int)
  ·rw [if_pos q2]
   have q2' : (A.length : Int) ≤ via := by omega
   simp [q2']
  rw [if_neg q2]
  by_cases q3 : via ≥ 0
  ·rw [if_pos q3]
   unfold G
   have q2' : via < (A.length : Int) := by omega
   have q3' : 0 ≤ via := q3
   rw [if_pos ⟨q3, by omega⟩, h.nd via q3 q2']
   show some (!(!gt A via)) = _
   have q4 : ¬ (A.length : Int) ≤ via := by omega
   rw [Bool.not_not]
   congr 1
   rw [Bool.eq_iff_iff]; simp [ZD, q1, q4, q3', q2']
  ·rw [if_neg q3]
   have q3' : ¬ 0 ≤ via := q3
   have q4 : ¬ (A.length : Int) ≤ via := by omega
   simp [q1, q4, q3']
 rw [e2, Option.bind_some]
 by_cases hv : via < -1 ∨ (A.length : Int) ≤ via ∨ (0 ≤ via /\ ZD A via)
 ·rw [if_pos (decide_eq_true hv)]
  simp only [Zd]
  have : ZdT A u w wt via = 1 := (if_neg hl).trans ((if_neg huw).trans ((if_neg hwt).trans (if_pos hv)))
  exact this ▸ .bad (by rw [this]; decide)
 rw [if_neg (by simpa using hv)]
 have hc : ZdT A u w wt via = 0 := (if_neg hl).trans ((if_neg huw).trans ((if_neg hwt).trans (if_neg hv)))
 refine Zl _ (ZiS h w0 w1) ?_
 rintro ⟨x, b⟩ hW
 dsimp only at *
 -- the two lists
 have hu1 := hu.2.1
 have hw1 := hw.2.1
 have hsm := h.sm
 have nu := h.nd u hu.1 hu1
 have nw := h.nd w hw.1 hw1
 have l1 := Zld (l := (gt nodes u).2.1) (v := w) (wt := wt) (via := via) (by rw [nu]; exact Zcg L u) (by rw [nu]; exact h.outB u) (by rw [nu]; exact h.outLen u) hw.1 (by omega)
 have l2 := Zld (l := (gt nodes w).2.2) (v := u) (wt := wt) (via := via) (by rw [nw]; exact ZcL L w) (by rw [nw]; exact h.inB w) (by rw [nw]; exact h.inLen w) hu.1 (by omega)
 have fin : ∀ ar' : Int, (ar' = if (∃ x ∈ L, x.1 = u /\ x.2.1 = w) then arcs else arcs + 1) -> (∀ a ∈ L, a.1 = u -> a.2.1 = w -> wt < a.2.2.1) ->
   T (G (0 ≤ u /\ u < (nodes.length : Int)) (((Zbo ((gt nodes u).2.1) w wt via).bind fun y148 => G (0 ≤ w /\ w < ((nodes.set u.toNat ((gt nodes u).1, y148, (gt nodes u).2.2)).length : Int)) (((Zbo ((gt (nodes.set u.toNat ((gt nodes u).1, y148, (gt nodes u).2.2)) w).2.2) u wt via).bind fun y192 => some (true, Er.nil, ((nodes.set u.toNat ((gt nodes u).1, y148, (gt nodes u).2.2)).set w.toNat ((gt (nodes.set u.toNat ((gt nodes u).1, y148, (gt nodes u).2.2)) w).1, (gt (nodes.set u.toNat ((gt nodes u).1, y148, (gt nodes u).2.2)) w).2.1, y192)), ar')))))) (PutR nodes alive arcs A L u w wt via) := by
  intro ar' har hless
  rw [l1, Option.bind_some]
  simp only [T_G, List.length_set]
  refine ⟨⟨hu.1, by omega⟩, ⟨hw.1, by omega⟩, ?_⟩
  rw [ZaF hu.1 (by omega) hw.1, if_neg (Ne.symm huw), l2, Option.bind_some]
  simp only [Zd]
  refine .put _ _ hc hless ?_
  rw [har]
  refine h.put hu.1 hu1 hw.1 hw1 hu.2.2 hw.2.2 huw t0 (by omega) (by omega) (by omega) hb (by simp) fun x x0 x1 => ?_
  rw [ZaF hw.1 (by rw [List.length_set]; omega) x0, ZaF hu.1 (by omega) x0]
  by_cases q : x = w
  ·rw [if_pos q, if_pos q, if_neg (by omega), q]
  ·rw [if_neg q, if_neg q]
   by_cases q2 : x = u
   ·rw [if_pos q2, if_pos q2, q2]
   ·rw [if_neg q2, if_neg q2]
 rcases hW with ⟨rfl, a, a1, a2, a3, a4⟩ | ⟨rfl, rfl, hn⟩
 ·rw [if_pos rfl, Option.bind_some]
  by_cases hle : x ≤ wt
  ·rw [if_pos (decide_eq_true hle)]
   simp only [Zd]
   exact .less a hc a1 a2 a3 (by rw [a4]; exact hle)
  ·rw [if_neg (by simpa using hle)]
   dsimp only
   rw [if_neg (by decide), Option.bind_some]
   refine fin arcs (by rw [if_pos ⟨a, a1, a2, a3⟩]) fun b hb e1 e2 => ?_
   have := h.kd.uniq hb a1 (e1.trans a2.symm) (e2.trans a3.symm)
   rw [this, a4]; omega
 ·rw [if_neg (by decide), Option.bind_some, if_neg (by decide)]
  dsimp only
  rw [if_pos (by decide)]
  have hlb := h.lb
  have har := h.ar
  unfold G
  rw [if_pos (by omega), Option.bind_some]
  exact fin (arcs + 1) (by rw [if_neg (by rintro ⟨a, a1, a2, a3⟩; exact hn a a1 ⟨a2, a3⟩)]) fun b hb e1 e2 => absurd ⟨e1, e2⟩ (hn b hb)
end Go.Vd

/-! (WtC) -/

set_option linter.unusedVariables false
set_option linter.unusedSimpArgs false
set_option maxHeartbeats 1000000
namespace Go.Vd
variable {nodes : List Nod} {alive arcs : Int} {A : List Bool} {M : List OAr} {u v skip hops most settles c N : Int} {q : List (Int × Int)} {L : Lab} {ss : List Int}
def ZdB (M : List OAr) (skip v : Int) : List (Int × Int) := ((Zz M v).filter fun h => decide (h.1 ≠ skip)).map fun h => (h.1, h.2.1)
theorem OvR.rowOk (h : OvR nodes alive arcs A M) : ZiB (ZdB M skip) A.length := fun v x hx => by
 unfold ZdB at hx
 obtain ⟨y, hy, rfl⟩ := List.mem_map.1 hx
 have hm := (List.mem_filter.1 hy).1
 have := h.en _ ((Z1 h.kd).1 hm)
 dsimp only at *
 omega
structure QI (L : Lab) (q : List (Int × Int)) (k : Int -> Prop) : Prop where
 ord : Hq q
 inn : ∀ v y, L v = some y -> y.2.2 = 0 -> ¬ k v -> (y.1, v) ∈ q
 out : ∀ e ∈ q, ∃ y, L e.2 = some y /\ y.1 ≤ e.1
theorem ZmI {q : List (Int × Int)} {p : Int} (p0 : 0 ≤ p) (p1 : p < (q.length : Int)) : gt q p ∈ q := by
 unfold gt
 rw [List.getD_eq_getElem?_getD, List.getElem?_eq_getElem (by omega)]
 exact List.getElem_mem _
theorem Zmo {q : List (Int × Int)} {x : Int × Int} (h : x ∈ q) : ∃ p, 0 ≤ p /\ p < (q.length : Int) /\ gt q p = x := by
 obtain ⟨i, hi, e⟩ := List.getElem_of_mem h
 refine ⟨i, by omega, by omega, ?_⟩
 unfold gt
 rw [List.getD_eq_getElem?_getD, Int.toNat_natCast, List.getElem?_eq_getElem hi]; exact e
inductive NxR (L : Lab) (q : List (Int × Int)) : Int × Int × Int × Int × Bool × List (Int × Int) -> Prop
 | no : WNo L -> NxR L q (0, 0, 0, 0, false, [])
 | ok (v : Int) (y : Int × Int × Int) (q' : List (Int × Int)) : WPick L v y -> QI L q' (fun x => x = v) -> q'.length < q.length -> NxR L q (v, y.1, y.2.1, y.2.2, true, q')
theorem Znj {a : List Nd3} {b1 b2 b3 b4 : Int} (hq : QI L q fun _ => False) (hl : q.length ≤ 100000000000) : T (ZbN a b1 b2 b3 b4 q L) (NxR L q) := by
 unfold ZbN
 refine Zdm (fun r => r = [] /\ WNo L) ?_ ?_
 ·refine ZU (fun z => QI L z (fun _ => False) /\ z.length ≤ q.length) (fun z => z.length) ?_ ⟨hq, Nat.le_refl _⟩
  rintro s ⟨Q, hs⟩
  unfold Za4
  rw [Zt]
  refine ⟨fun h0 => ?_, fun h0 => ?_⟩
  ·refine Zl _ (Znd Q.ord (by omega) h0) ?_
   rintro ⟨d, v, _, q'⟩ ⟨e, hp, ho⟩
   dsimp only at *
   have hlen := hp.length_eq
   rw [List.length_cons] at hlen
   have hm : (d, v) ∈ s := by rw [e]; exact ZmI (by omega) h0
   obtain ⟨y, hy, hle⟩ := Q.out _ hm
   dsimp only at hy hle
   rw [hy]
   dsimp only [Option.getD_some]
   have out' : ∀ x ∈ q', ∃ y, L x.2 = some y /\ y.1 ≤ x.1 := fun x hx => Q.out x (hp.mem_iff.1 (List.mem_cons_of_mem _ hx))
   have least : ∀ x ∈ s, ¬ Less x (d, v) := fun x hx => by
    obtain ⟨p, p0, p1, rfl⟩ := Zmo hx
    rw [e]
    exact Ord2.top Q.ord p p0 p1
   have stale : ¬ (y.2.2 = 0 /\ y.1 = d) -> QI L q' fun _ => False := fun hn => ⟨ho, fun w z hz z0 _ => by
    have := Q.inn w z hz z0 (fun h => h)
    rw [← hp.mem_iff] at this
    rcases List.mem_cons.1 this with h | h
    ·rw [← e] at h
     cases h
     rw [hy] at hz; cases hz
     exact absurd ⟨z0, rfl⟩ hn
    ·exact h, out'⟩
   rw [Zt]
   refine ⟨fun h1 => ?_, fun h1 => ?_⟩
   ·rw [Zt]
    refine ⟨fun h2 => ?_, fun h2 => ?_⟩
    ·simp only [Zd1, Zd, Sum.elim_inr, Sum.elim_inl]
     have hpick : WPick L v y := by
      refine ⟨hy, h1, fun w z hz z0 => ?_⟩
      have := least _ (Q.inn w z hz z0 (fun h => h))
      unfold Less at this
      dsimp only at this
      omega
     exact .ok v y q' hpick ⟨ho, fun w z hz z0 hw => by
      have := Q.inn w z hz z0 (fun h => h)
      rw [← hp.mem_iff] at this
      rcases List.mem_cons.1 this with h | h
      ·rw [← e] at h; cases h; exact absurd rfl hw
      ·exact h, out'⟩ (by omega)
    ·simp only [Zd, Sum.elim_inl]
     exact ⟨⟨stale fun k => h2 k.2, by omega⟩, by omega⟩
   ·simp only [Zd, Sum.elim_inl]
    exact ⟨⟨stale fun k => h1 k.1, by omega⟩, by omega⟩
  ·simp only [Zd, Sum.elim_inr]
   have : s = [] := List.eq_nil_of_length_eq_zero (by omega)
   subst this
   exact ⟨rfl, fun x z hz z0 => by have := Q.inn x z hz z0 (fun h => h); cases this⟩
 ·rintro _ ⟨rfl, hn⟩
  simp only [Zd]
  exact .no hn
theorem Zmk {a : List Nd3} {b1 b2 b3 b4 d hp : Int} {k : Int -> Prop} (hq : QI L q k) (hl : q.length ≤ 100000000000) (hopn : opn L v d) : T (Zbb a b1 b2 b3 b4 q L v d hp 0) fun r => r.1 = lup L v (d, hp, 0) /\ QI r.1 r.2 k /\ r.2.length = q.length + 1 := by
 unfold Zbb
 refine Zl _ (Zm9 hq.ord hl) ?_
 rintro r ⟨h1, h2⟩
 simp only [Zd]
 refine ⟨rfl, ⟨h2, fun w z hz z0 hw => ?_, fun e he => ?_⟩, by rw [h1.length_eq, List.length_cons]⟩
 ·rw [h1.mem_iff]
  by_cases e : w = v
  ·subst e
   rw [if_pos rfl] at hz; cases hz
   simp
  ·rw [if_neg e] at hz
   exact List.mem_cons_of_mem _ (hq.inn w z hz z0 hw)
 ·rw [h1.mem_iff] at he
  rcases List.mem_cons.1 he with rfl | he
  ·exact ⟨(d, hp, 0), if_pos rfl, Int.le_refl _⟩
  ·obtain ⟨y, hy, hle⟩ := hq.out e he
   by_cases ev : e.2 = v
   ·refine ⟨(d, hp, 0), if_pos ev, ?_⟩
    unfold opn at hopn
    rw [← ev, hy] at hopn
    dsimp only at hopn ⊢
    omega
   ·exact ⟨y, by rw [if_neg ev]; exact hy, hle⟩
theorem Zlc (h : OvR nodes alive arcs A M) {y : Int × Int × Int} (hW : WI A.length c L ss) (c0 : 0 ≤ c) (c1 : c < 65536) (hp : WPick L v y) (hq : QI L q fun x => x = v) (hl : q.length ≤ 10000000000 + 1000000 * c.toNat) :
  T (Zbq nodes alive arcs skip hops q L v y.1 y.2.1 y.2.2) fun r => r.1 = ZeO (ZdB M skip) hops L v y /\ QI r.1 r.2 (fun _ => False) /\ r.2.length ≤ 10000000000 + 1000000 * (c.toNat + 1) := by
 unfold Zbq
 have hv := hW.val v y hp.1
 have hW1 := hW.settle hp.1 hp.2.1
 have e1 : (fun x => if x = v then some (y.1, y.2.1, (1 : Int)) else L x) = lup L v (y.1, y.2.1, 1) := rfl
 rw [e1]
 have Q1 : QI (lup L v (y.1, y.2.1, 1)) q fun _ => False := by
  refine ⟨hq.ord, fun w z hz z0 _ => ?_, fun e he => ?_⟩
  ·unfold lup at hz
   by_cases ew : w = v
   ·rw [if_pos ew] at hz; cases hz; cases z0
   ·rw [if_neg ew] at hz; exact hq.inn w z hz z0 ew
  ·obtain ⟨z, hz, hle⟩ := hq.out e he
   unfold lup
   by_cases ew : e.2 = v
   ·rw [if_pos ew]
    rw [ew, hp.1] at hz; cases hz
    exact ⟨_, rfl, hle⟩
   ·rw [if_neg ew]; exact ⟨z, hz, hle⟩
 rw [Zt]
 refine ⟨fun hh => ?_, fun hh => ?_⟩
 ·simp only [Zd]
  refine ⟨by unfold ZeO; rw [if_pos hh], Q1, by omega⟩
 rw [Zme h, Option.bind_some]
 have hmul : c * 140737488355328 ≤ 65535 * 140737488355328 := Int.mul_le_mul_of_nonneg_right (by omega) (by omega)
 have hol := h.outLen v
 refine Zl (fun r => r.1 = (ZdB M skip v).foldl (Zcf y.1 y.2.1) (lup L v (y.1, y.2.1, 1)) /\ QI r.1 r.2 (fun _ => False) /\ r.2.length ≤ 10000000000 + 1000000 * (c.toNat + 1)) ?_ ?_
 rotate_left
 ·rintro ⟨r1, r2⟩ ⟨e, k1, k2⟩
  simp only [Zd]
  exact ⟨by unfold ZeO; rw [if_neg hh]; exact e, k1, k2⟩
 refine ZU (fun z => 0 ≤ z.2.2 /\ z.2.2 ≤ ((Zz M v).length : Int) /\ z.2.1 = ((((Zz M v).take z.2.2.toNat).filter fun h => decide (h.1 ≠ skip)).map fun h => (h.1, h.2.1)).foldl (Zcf y.1 y.2.1) (lup L v (y.1, y.2.1, 1)) /\ QI z.2.1 z.1 (fun _ => False) /\ (z.1.length : Int) ≤ 10000000000 + 1000000 * c + z.2.2) (fun z => (((Zz M v).length : Int) - z.2.2).toNat) ?_ ⟨by simp, by simp, rfl, Q1, by simp; omega⟩
 rintro ⟨s, l, i⟩ ⟨i0, i1, e, Q, hs⟩
 dsimp only at *
 unfold ZaN
 rw [Zt]
 refine ⟨fun hi => ?_, fun hi => ?_⟩
 rotate_left
 ·simp only [Zd, Sum.elim_inr]
  rw [List.take_of_length_le (by omega)] at e
  exact ⟨e, Q, by omega⟩
 have hm : gt (Zz M v) i ∈ Zz M v := by
  unfold gt
  rw [List.getD_eq_getElem?_getD, List.getElem?_eq_getElem (by omega)]
  exact List.getElem_mem _
 have hen := h.en _ ((Z1 h.kd).1 hm)
 have htk := Za9 i0 hi
 generalize gt (Zz M v) i = a at *
 obtain ⟨x, w, via⟩ := a
 dsimp only at *
 simp only [T_G]
 refine ⟨i0, by omega, by omega, ?_⟩
 have hnext : ∀ l', l' = (if x = skip then l else Zcf y.1 y.2.1 l (x, w)) -> l' = ((((Zz M v).take (i + 1).toNat).filter fun h => decide (h.1 ≠ skip)).map fun h => (h.1, h.2.1)).foldl (Zcf y.1 y.2.1) (lup L v (y.1, y.2.1, 1)) := by
  rintro _ rfl
  rw [htk, List.filter_append, List.map_append, List.foldl_append, ← e]
  by_cases es : x = skip
  ·rw [if_pos es, List.filter_cons, if_neg (by simp [es])]; rfl
  ·rw [if_neg es, List.filter_cons, if_pos (by simp [es])]; rfl
 refine Zl (fun o => o = decide (x = skip ∨ ¬ opn l x (y.1 + w))) ?_ ?_
 ·by_cases es : x = skip
  ·rw [if_pos es]; simp [es]
  rw [if_neg es]
  have hval : ∀ z, l x = some z -> z.2.2 = 0 ∨ z.2.2 = 1 := fun z hz => by
   have hI : WI A.length (c + 1) l (v :: ss) := by
    rw [e]
    refine WI.fold (by omega) (by omega) (by omega) (by omega) (hW1.mono (by omega)) fun a ha => ?_
    obtain ⟨b, hb, rfl⟩ := List.mem_map.1 ha
    have hb' := List.mem_of_mem_take (List.mem_filter.1 hb).1
    have := h.en _ ((Z1 h.kd).1 hb')
    dsimp only at *
    omega
   exact (hI.val x z hz).2.2.2.2
  cases hz : l x with
  | none =>
   have ho : opn l x (y.1 + w) := by unfold opn; rw [hz]; trivial
   simp [es, ho]
  | some z =>
   have := hval z hz
   have ho : opn l x (y.1 + w) ↔ z.2.2 = 0 /\ y.1 + w < z.1 := by unfold opn; rw [hz]
   dsimp only [Option.getD_some]
   by_cases z0 : z.2.2 > 0
   ·rw [if_pos z0]
    have h1 : ¬ opn l x (y.1 + w) := fun k => by have := (ho.1 k).1; omega
    simp [h1]
   ·rw [if_neg z0, if_pos (show (some z).isSome = true from rfl)]
    have h0 : z.2.2 = 0 := by omega
    by_cases hd : z.1 ≤ y.1 + w
    ·have h1 : ¬ opn l x (y.1 + w) := fun k => by have := (ho.1 k).2; omega
     simp [h1, hd]
    ·have h1 : opn l x (y.1 + w) := ho.2 ⟨h0, by omega⟩
     simp [h1, hd, es]
 rintro _ rfl
 rw [Zt]
 refine ⟨fun hk => ?_, fun hk => ?_⟩
 ·have hk' := of_decide_eq_true hk
  simp only [T_G, Zd, Sum.elim_inl]
  refine ⟨by omega, ⟨by omega, by omega, hnext _ ?_, Q, by omega⟩, by omega⟩
  rcases hk' with hk' | hk'
  ·rw [if_pos hk']
  ·unfold Zcf; rw [if_neg hk']; split <;> rfl
 ·have hk' : ¬ x = skip /\ opn l x (y.1 + w) := by
   have : ¬ (x = skip ∨ ¬ opn l x (y.1 + w)) := fun k => hk (decide_eq_true k)
   exact ⟨fun k => this (.inl k), Classical.not_not.1 fun k => this (.inr k)⟩
  refine Zl _ (Zmk (hp := y.2.1 + 1) Q (by omega) hk'.2) ?_
  rintro ⟨r1, r2⟩ ⟨k1, k2, k3⟩
  dsimp only at *
  simp only [T_G, Zd, Sum.elim_inl]
  refine ⟨by omega, ⟨by omega, by omega, hnext _ ?_, k2, by omega⟩, by omega⟩
  rw [if_neg hk'.1, k1]
  unfold Zcf; rw [if_pos hk'.2]
theorem ZiC (h : OvR nodes alive arcs A M) (u0 : 0 ≤ u) (u1 : u < (A.length : Int)) (hset : settles ≤ 9223372036854775807) :
  T (Zb8 nodes alive arcs skip hops [] (fun _ => none) u most settles) fun r => WR (ZdB M skip) hops settles most 0 (Zdz u) r.1 := by
 have hsm := h.sm
 unfold Zb8
 refine Zl _ (Zmk (k := fun _ => False) (hp := 0) (d := 0) (v := u) (L := fun _ => none) (q := []) ⟨fun p p0 p1 => by simp at p1; omega, fun w z hz => (by cases hz), fun e he => (by cases he)⟩ (by simp) (by unfold opn; trivial)) ?_
 rintro ⟨l0, q0⟩ ⟨e0, Q0, hl0⟩
 dsimp only at *
 subst e0
 refine Zdm (fun r => WR (ZdB M skip) hops settles most 0 (Zdz u) r.1) ?_ fun r hr => by simpa using hr
 refine ZU (fun z => 0 ≤ z.2.2 /\ QI z.2.1 z.1 (fun _ => False) /\ (∃ ss, WI A.length z.2.2 z.2.1 ss /\ (ss.length : Int) = z.2.2) /\ z.1.length ≤ 10000000000 + 1000000 * z.2.2.toNat /\ ∀ Lf, WR (ZdB M skip) hops settles most z.2.2 z.2.1 Lf -> WR (ZdB M skip) hops settles most 0 (Zdz u) Lf) (fun z => ((A.length : Int) - z.2.2).toNat) ?_ ⟨by simp, Q0, ⟨[], WI.zero u0 u1, rfl⟩, by rw [hl0]; simp, fun _ k => k⟩
 rintro ⟨q, L, c⟩ ⟨c0, Q, ⟨ss, hW, hss⟩, hl, K⟩
 dsimp only at *
 have hcn := hW.len (by omega)
 unfold Zbk
 rw [Zt]
 refine ⟨fun hlt => ?_, fun hge => ?_⟩
 rotate_left
 ·simp only [Zd, Sum.elim_inr]
  exact K _ (.full _ _ (by omega))
 have hlt' : c < settles := by omega
 refine Zl _ (Znj Q (by omega)) ?_
 intro r hr
 cases hr with
 | no hn =>
  dsimp only
  rw [if_pos (by decide), Option.bind_some, if_pos rfl]
  simp only [Zd1, Zd, Sum.elim_inr, Sum.elim_inl]
  exact K _ (.none _ _ hlt' hn)
 | ok v y q' hp Q' hq' =>
  dsimp only
  rw [if_neg (by decide), Option.bind_some]
  by_cases hm : y.1 > most
  ·rw [decide_eq_true hm, if_pos rfl]
   simp only [Zd1, Zd, Sum.elim_inr, Sum.elim_inl]
   exact K _ (.far _ _ v y hlt' hp hm)
  ·rw [decide_eq_false hm, if_neg (by decide)]
   have hWn := hW.set (hops := hops) (h.rowOk (skip := skip)) hp
   have hcn2 := hWn.len (by omega)
   rw [List.length_cons] at hcn2
   refine Zl _ (Zlc (skip := skip) (hops := hops) h hW c0 (by omega) hp Q' (by omega)) ?_
   rintro ⟨r1, r2⟩ ⟨k1, k2, k3⟩
   dsimp only at *
   subst k1
   simp only [T_G, Zd, Sum.elim_inl]
   exact ⟨by omega, ⟨by omega, k2, ⟨_, hWn, by simp; omega⟩, by omega, fun Lf hL => K _ (.go _ _ v y _ hlt' hp hm hL)⟩, by omega⟩
end Go.Vd

/-! (WtD) -/

set_option linter.unusedVariables false
set_option linter.unusedSimpArgs false
set_option maxHeartbeats 1000000
namespace Go.Vd
variable {nodes : List Nod} {alive arcs : Int} {A : List Bool} {M : List OAr} {u v skip hops most settles c N : Int} {goals : List Int}
def far (L : Lab) (w : Int) : Int := if (L w).isSome = true then ((L w).getD (0, 0, 0)).1 else 18446744073709551615
inductive FdW (A : List Bool) (M : List OAr) (u skip : Int) (goals : List Int) (most hops settles : Int) : List Int × Er -> Prop
 | bad : ¬ ZD A u -> FdW A M u skip goals most hops settles ([], .no 7)
 | goal (i : Int) : ZD A u -> 0 ≤ i -> i < (goals.length : Int) -> ¬ ZD A (gt goals i) -> (∀ j, 0 ≤ j -> j < i -> ZD A (gt goals j)) -> FdW A M u skip goals most hops settles ([], .at 3 i (.no 7))
 | ok (Lf : Lab) : ZD A u -> (∀ j, 0 ≤ j -> j < (goals.length : Int) -> ZD A (gt goals j)) -> WR (ZdB M skip) hops settles most 0 (Zdz u) Lf -> FdW A M u skip goals most hops settles (goals.map (far Lf), .nil)
theorem Zdk {E : Type} [Inhabited E] {l : List E} {i : Int} (i0 : 0 ≤ i) (i1 : i < (l.length : Int)) : l.take (i + 1).toNat = l.take i.toNat ++ [gt l i] := by
 rw [show (i + 1).toNat = i.toNat + 1 from by omega, List.take_add_one]
 have : l[i.toNat]?.toList = [gt l i] := by
  unfold gt
  rw [List.getD_eq_getElem?_getD, List.getElem?_eq_getElem (by omega)]; rfl
 rw [this]
theorem ZnD (h : OvR nodes alive arcs A M) (hg : goals.length ≤ 10000000000000) (hset : settles ≤ 9223372036854775807) : T (ZcN nodes alive arcs u skip goals most hops settles) (FdW A M u skip goals most hops settles) := by
 unfold ZcN
 rw [Zdt h, Option.bind_some]
 by_cases hu : ZD A u
 rotate_left
 ·rw [decide_eq_false hu, if_pos (by decide)]
  simp only [Zd]
  exact .bad hu
 rw [decide_eq_true hu, if_neg (by decide)]
 refine Zdm (fun _ => ∀ j, 0 ≤ j -> j < (goals.length : Int) -> ZD A (gt goals j)) ?_ ?_
 ·refine ZU (fun i => 0 ≤ i /\ i ≤ (goals.length : Int) /\ ∀ j, 0 ≤ j -> j < i -> ZD A (gt goals j)) (fun i => ((goals.length : Int) - i).toNat) ?_ ⟨by simp, by simp, fun j j0 j1 => by omega⟩
  rintro i ⟨i0, i1, hi⟩
  unfold Zck
  rw [Zt]
  refine ⟨fun hlt => ?_, fun hge => ?_⟩
  ·rw [T_G]
   refine ⟨i0, ?_⟩
   rw [Zdt h, Option.bind_some]
   by_cases hw : ZD A (gt goals i)
   ·rw [decide_eq_true hw, if_neg (by decide)]
    simp only [T_G, Zd, Sum.elim_inl]
    refine ⟨by omega, ⟨by omega, by omega, fun j j0 j1 => ?_⟩, by omega⟩
    by_cases e : j = i
    ·rw [e]; exact hw
    ·exact hi j j0 (by omega)
   ·rw [decide_eq_false hw, if_pos (by decide)]
    unfold ZcY
    rw [if_neg (by decide)]
    simp only [Zhq, Zd1, Zd, Option.bind_some, Sum.elim_inr, Sum.elim_inl]
    exact .goal i hu i0 hlt hw hi
  ·simp only [Zd, Sum.elim_inr]
   exact fun j j0 j1 => hi j j0 (by omega)
 intro _ hgl
 refine Zl _ (ZiC (skip := skip) (hops := hops) (most := most) (settles := settles) h hu.1 hu.2.1 hset) ?_
 rintro ⟨Lf, q⟩ hR
 dsimp only at hR
 refine Zl (fun l => l = goals.map (far Lf)) ?_ fun l e => by simp only [Zd]; rw [e]; exact .ok Lf hu hgl hR
 refine ZU (fun z => 0 ≤ z.2 /\ z.2 ≤ (goals.length : Int) /\ z.1 = (goals.take z.2.toNat).map (far Lf)) (fun z => ((goals.length : Int) - z.2).toNat) ?_ ⟨by simp, by simp, by simp⟩
 rintro ⟨l, i⟩ ⟨i0, i1, e⟩
 dsimp only at *
 have hl : l.length ≤ goals.length := by rw [e, List.length_map, List.length_take]; omega
 unfold Zcj
 rw [Zt]
 refine ⟨fun hlt => ?_, fun hge => ?_⟩
 ·have hs := Zdk i0 hlt
  rw [T_G]
  refine ⟨i0, ?_⟩
  by_cases hx : (Lf (gt goals i)).isSome = true
  ·rw [if_pos hx]
   simp only [T_G, Zd, Sum.elim_inl, List.length_cons, List.length_nil]
   refine ⟨by omega, by omega, ⟨by omega, by omega, ?_⟩, by omega⟩
   rw [hs, List.map_append, e]
   unfold far
   simp [hx]
  ·rw [if_neg hx]
   simp only [T_G, Zd, Sum.elim_inl]
   refine ⟨by omega, by omega, ⟨by omega, by omega, ?_⟩, by omega⟩
   rw [hs, List.map_append, e]
   unfold far
   simp [hx]
 ·simp only [Zd, Sum.elim_inr]
  rw [e, List.take_of_length_le (by omega)]
theorem Zm3 {d hp : Int} {L : Lab} {a : Int × Int} (d0 : 0 ≤ d) (w0 : 0 ≤ a.2) (h : ∃ z, L u = some z /\ z.1 = 0) : ∃ z, Zcf d hp L a u = some z /\ z.1 = 0 := by
 unfold Zcf
 by_cases ho : opn L a.1 (d + a.2)
 ·rw [if_pos ho]
  obtain ⟨z, h1, h2⟩ := h
  unfold lup
  by_cases e : u = a.1
  ·unfold opn at ho
   rw [← e, h1] at ho
   dsimp only at ho
   omega
  ·rw [if_neg e]; exact ⟨z, h1, h2⟩
 ·rw [if_neg ho]; exact h
theorem ZmZ {d hp : Int} (d0 : 0 ≤ d) : ∀ {l : List (Int × Int)} {L : Lab}, (∀ a ∈ l, 0 ≤ a.2) -> (∃ z, L u = some z /\ z.1 = 0) -> ∃ z, l.foldl (Zcf d hp) L u = some z /\ z.1 = 0 := by
 intro l
 induction l with
 | nil => intro L _ h; exact h
 | cons a l ih => intro L hl h; exact ih (fun b hb => hl b (by simp [hb])) (Zm3 d0 (hl a (by simp)) h)
end Go.Vd

/-! (PrSh13) -/

set_option linter.unusedVariables false
set_option linter.unusedSimpArgs false
namespace Go.Vd
theorem ZiK {l : List (Int × Int × Int)} (h : l.length ≤ 1000000000000) : ZaX l = some l := by
 refine Zeq.1 ?_
 unfold ZaX
 refine Zl (fun r => r = l) ?_ fun r e => by simpa using e
 refine ZU (fun s => 0 ≤ s.2 /\ s.2 ≤ (l.length : Int) /\ s.1 = l.take s.2.toNat) (fun s => ((l.length : Int) - s.2).toNat) ?_ (by simp)
 rintro ⟨m, i⟩ ⟨h0, h1, h2⟩
 dsimp only at h0 h1 h2 ⊢
 subst h2
 simp only [ZbG, Zt, T_G, Zd, Sum.elim_inl, Sum.elim_inr, List.length_take]
 refine ⟨fun hi => ⟨h0, by omega, by omega, ⟨by omega, by omega, (Zdk h0 hi).symm⟩, by omega⟩, fun hi => List.take_of_length_le (by omega)⟩
theorem ZiU {l : List (Int × Int × Int)} (h : l.length ≤ 1000000000000) : Za0 l l = some true := by
 refine Zeq.1 ?_
 unfold Za0
 rw [if_pos rfl]
 refine Zdm (fun _ => True) ?_ fun _ _ => by simp
 refine ZU (fun i => 0 ≤ i /\ i ≤ (l.length : Int)) (fun i => ((l.length : Int) - i).toNat) ?_ ⟨by simp, by simp⟩
 rintro i ⟨i0, i1⟩
 unfold Za3
 simp only [T_G, Zt, Zd1, Zd, Sum.elim_inl, Sum.elim_inr]
 exact ⟨fun hi => ⟨i0, hi, fun _ => ⟨by omega, ⟨by omega, by omega⟩, by omega⟩, fun k => absurd (And.intro trivial (And.intro trivial trivial)) k⟩, fun _ => trivial⟩
end Go.Vd

/-! (OvI) -/

set_option linter.unusedVariables false
set_option linter.unusedSimpArgs false
set_option maxHeartbeats 1000000
namespace Go.Vd
variable {nodes nodes' : List Nod} {alive arcs : Int} {A : List Bool} {L : List OAr} {u v w wt via : Int}
theorem p_In (h : OvR nodes alive arcs A L) {a b : Int} : Zbw nodes a b v = some (inL L v) := by
 unfold Zbw
 rw [Zdt h, Option.bind_some]
 by_cases hu : ZD A v
 ·have hl := h.ln
  have hn := h.nd v hu.1 hu.2.1
  rw [decide_eq_true hu, if_neg (by decide), hn]
  unfold G
  dsimp only
  rw [if_pos ⟨hu.1, by have := hu.2.1; omega⟩, Zi4 (h.inLen v)]; rfl
 ·rw [decide_eq_false hu, if_pos (by decide), h.in0 hu]
end Go.Vd

/-! (ShA) -/

set_option linter.unusedVariables false
set_option linter.unusedSimpArgs false
set_option maxHeartbeats 1000000
namespace Go.Vd
variable {nodes : List Nod} {alive arcs : Int} {A : List Bool} {M : List OAr} {u v skip hops settles c N : Int} {a : Hf}
open Classical in
noncomputable def Zge (M : List OAr) (skip hops settles most u : Int) : Lab := if h : ∃ Lf, WR (ZdB M skip) hops settles most 0 (Zdz u) Lf then Classical.choose h else fun _ => none
theorem WR.fin {most : Int} {Lf : Lab} (h : WR (ZdB M skip) hops settles most 0 (Zdz u) Lf) : Lf = Zge M skip hops settles most u := by
 have hx : ∃ Lf, WR (ZdB M skip) hops settles most 0 (Zdz u) Lf := ⟨Lf, h⟩
 unfold Zge
 rw [dif_pos hx]
 exact h.uniq (Classical.choose_spec hx)
def Z0 (a : Hf) (l : List Hf) : List (Int × Int × Int) := (l.filter fun b => decide (b.1 ≠ a.1)).map fun b => (a.1, b.1, a.2.1 + b.2.1)
def ZdY (l : List (Int × Int × Int)) : Int := l.foldl (fun m s => max m s.2.2) 0
open Classical in
noncomputable def Zdo (M : List OAr) (L : Lab) (s : Int × Int × Int) : Bool := decide (s.2.2 ≤ 140737488355328 /\ far L s.2.1 > s.2.2 /\ ¬ ∃ x ∈ M, x.1 = s.1 /\ x.2.1 = s.2.1 /\ x.2.2.1 ≤ s.2.2)
noncomputable def ZbP (M : List OAr) (v hops settles : Int) (a : Hf) : List (Int × Int × Int) :=
 (Z0 a (Zz M v)).filter (Zdo M (Zge M v hops settles (ZdY (Z0 a (Zz M v))) a.1))
noncomputable def Zdp (M : List OAr) (v hops settles : Int) : List (Int × Int × Int) := (inL M v).flatMap (ZbP M v hops settles)
theorem ZhA {l : List Hf} {b : Hf} : Z0 a (l ++ [b]) = Z0 a l ++ (if b.1 = a.1 then [] else [(a.1, b.1, a.2.1 + b.2.1)]) := by
 unfold Z0
 rw [List.filter_append, List.map_append]
 by_cases e : b.1 = a.1
 ·rw [if_pos e, List.filter_cons, if_neg (by simp [e])]; rfl
 ·rw [if_neg e, List.filter_cons, if_pos (by simp [e])]; rfl
theorem ZkK {l : List (Int × Int × Int)} {s : Int × Int × Int} : ZdY (l ++ [s]) = max (ZdY l) s.2.2 := by
 unfold ZdY; rw [List.foldl_append]; rfl
theorem ZdQ {l : List Hf} : (Z0 a l).length ≤ l.length := by
 unfold Z0; rw [List.length_map]; exact List.length_filter_le _ _
theorem Zmz {L : Lab} {s : Int × Int × Int} {x : Int} {b : Bool} (hM : KD M) (hW : Wt M s.1 s.2.1 x b) : Zdo M L s = true ↔ (s.2.2 ≤ 140737488355328 /\ far L s.2.1 > s.2.2 /\ ¬ (b = true /\ x ≤ s.2.2)) := by
 unfold Zdo
 rw [decide_eq_true_iff]
 have : (∃ x ∈ M, x.1 = s.1 /\ x.2.1 = s.2.1 /\ x.2.2.1 ≤ s.2.2) ↔ (b = true /\ x ≤ s.2.2) := by
  constructor
  ·rintro ⟨y, y1, y2, y3, y4⟩
   have hy : Wt M s.1 s.2.1 y.2.2.1 true := .inl ⟨rfl, y, y1, y2, y3, rfl⟩
   obtain ⟨rfl, rfl⟩ := hW.uniq hM hy
   exact ⟨rfl, y4⟩
  ·rintro ⟨rfl, h2⟩
   rcases hW with ⟨_, y, y1, y2, y3, y4⟩ | ⟨h, _⟩
   ·exact ⟨y, y1, y2, y3, by omega⟩
   ·cases h
 rw [this]
theorem Zfs {E : Type} [Inhabited E] {l : List E} {i : Int} (h0 : 0 ≤ i) (h1 : i < (l.length : Int)) : gt l i ∈ l := by
 unfold gt
 rw [List.getD_eq_getElem?_getD, List.getElem?_eq_getElem (by omega)]
 exact List.getElem_mem _
theorem ZmR (h : OvR nodes alive arcs A M) (ha : a ∈ inL M v) :
  T (ZI (fun zz_ => ZbU a.1 a.2.1 (Zz M v) zz_.1 zz_.2.1 zz_.2.2.1 zz_.2.2.2) ([], [], 0, 0)) fun r => r = (Z0 a (Zz M v), (Z0 a (Zz M v)).map (fun s => s.2.1), ZdY (Z0 a (Zz M v))) := by
 have hol := h.outLen v
 have hae := h.en _ ((Za1 h.kd).1 ha)
 dsimp only at hae
 refine ZU (fun z => 0 ≤ z.2.2.2 /\ z.2.2.2 ≤ ((Zz M v).length : Int) /\ z.1 = Z0 a ((Zz M v).take z.2.2.2.toNat) /\ z.2.1 = z.1.map (fun s => s.2.1) /\ z.2.2.1 = ZdY z.1) (fun z => (((Zz M v).length : Int) - z.2.2.2).toNat) ?_ ⟨by simp, by simp, by simp [Z0], by simp, by simp [ZdY]⟩
 rintro ⟨op, gl, mo, i⟩ ⟨i0, i1, e1, e2, e3⟩
 dsimp only at *
 have hopl : op.length ≤ (Zz M v).length := by rw [e1]; exact Nat.le_trans ZdQ (by rw [List.length_take]; omega)
 unfold ZbU
 rw [Zt]
 refine ⟨fun hlt => ?_, fun hge => ?_⟩
 rotate_left
 ·simp only [Zd, Sum.elim_inr]
  rw [List.take_of_length_le (by omega)] at e1
  rw [e3, e2, e1]
 have hm : gt (Zz M v) i ∈ Zz M v := by
  unfold gt
  rw [List.getD_eq_getElem?_getD, List.getElem?_eq_getElem (by omega)]
  exact List.getElem_mem _
 have hen := h.en _ ((Z1 h.kd).1 hm)
 have hs := Zdk i0 hlt
 generalize gt (Zz M v) i = b at *
 dsimp only at hen
 have hsn := ZhA (a := a) (l := (Zz M v).take i.toNat) (b := b)
 rw [← hs, ← e1] at hsn
 rw [T_G]
 refine ⟨i0, ?_⟩
 have hgl : gl.length = op.length := by rw [e2, List.length_map]
 rw [Zt]
 refine ⟨fun he => ?_, fun he => ?_⟩
 ·rw [if_pos he, List.append_nil] at hsn
  simp only [T_G, Zd, Sum.elim_inl]
  exact ⟨by omega, ⟨by omega, by omega, hsn.symm, e2, e3⟩, by omega⟩
 ·rw [if_neg he] at hsn
  simp only [T_G, Zd, Sum.elim_inl]
  refine ⟨by omega, by omega, by omega, by omega, by omega, ⟨by omega, by omega, hsn.symm, ?_, ?_⟩, by omega⟩
  ·rw [e2]; simp
  ·rw [ZkK, e3]
theorem ZmU {O : List (Int × Int × Int)} {gl : List Int} {mo : Int} {L : Lab} (h : OvR nodes alive arcs A M) (hO : O.length ≤ 1000000) (hg : ∀ s ∈ O, 0 ≤ s.2.1 /\ s.2.1 < (A.length : Int)) :
  T (ZI (fun zz_ => ZbS nodes alive arcs (O, gl, mo) ((O.map (fun s => s.2.1)).map (far L), Er.nil) zz_.1 zz_.2) ([], 0)) fun r => r = O.filter (Zdo M L) := by
 have hsm := h.sm
 refine ZU (fun z => 0 ≤ z.2 /\ z.2 ≤ (O.length : Int) /\ z.1 = (O.take z.2.toNat).filter (Zdo M L)) (fun z => ((O.length : Int) - z.2).toNat) ?_ ⟨by simp, by simp, by simp⟩
 rintro ⟨l, i⟩ ⟨i0, i1, e⟩
 dsimp only at *
 have hll : l.length ≤ O.length := by rw [e]; exact Nat.le_trans (List.length_filter_le _ _) (by rw [List.length_take]; omega)
 unfold ZbS
 dsimp only
 rw [Zt]
 refine ⟨fun hlt => ?_, fun hge => ?_⟩
 rotate_left
 ·simp only [Zd, Sum.elim_inr]
  rw [List.take_of_length_le (by omega)] at e
  exact e
 have hm : gt O i ∈ O := Zfs i0 hlt
 have hfar : gt ((O.map (fun s => s.2.1)).map (far L)) i = far L (gt O i).2.1 := by
  unfold gt
  rw [List.getD_eq_getElem?_getD, List.getD_eq_getElem?_getD, List.getElem?_map, List.getElem?_map, List.getElem?_eq_getElem (by omega)]; rfl
 have hs := Zdk i0 hlt
 rw [hfar]
 have hlm : ((O.map (fun s => s.2.1)).map (far L)).length = O.length := by rw [List.length_map, List.length_map]
 rw [hlm]
 obtain ⟨q0, q1⟩ := hg _ hm
 generalize gt O i = s at *
 rw [T_G]
 refine ⟨i0, ?_⟩
 refine Zl _ (ZiS (u := s.1) (w := s.2.1) h (by omega) (by omega)) ?_
 rintro ⟨x, b⟩ hW
 have hk := Zmz (L := L) h.kd hW
 dsimp only
 have yes : Zdo M L s = true -> (O.take (i + 1).toNat).filter (Zdo M L) = l ++ [(s.1, s.2.1, s.2.2)] := fun hy => by
  rw [hs, List.filter_append, List.filter_cons, if_pos hy, ← e]; rfl
 have no : ¬ Zdo M L s = true -> (O.take (i + 1).toNat).filter (Zdo M L) = l := fun hn => by
  rw [hs, List.filter_append, List.filter_cons, if_neg hn, ← e]; simp
 rw [Zt]
 refine ⟨fun c1 => ?_, fun c1 => ?_⟩
 rotate_left
 ·simp only [T_G, Zd, Sum.elim_inl]
  exact ⟨by omega, ⟨by omega, by omega, (no fun k => c1 (hk.1 k).1).symm⟩, by omega⟩
 rw [T_G]
 refine ⟨by omega, ?_⟩
 rw [Zt]
 refine ⟨fun c2 => ?_, fun c2 => ?_⟩
 rotate_left
 ·simp only [T_G, Zd, Sum.elim_inl]
  exact ⟨by omega, ⟨by omega, by omega, (no fun k => c2 (hk.1 k).2.1).symm⟩, by omega⟩
 rw [Zt]
 refine ⟨fun c3 => ?_, fun c3 => ?_⟩
 rotate_left
 ·simp only [T_G, Zd, Sum.elim_inl]
  exact ⟨by omega, by omega, ⟨by omega, by omega, (yes (hk.2 ⟨c1, c2, fun k => c3 k.1⟩)).symm⟩, by omega⟩
 rw [Zt]
 refine ⟨fun c4 => ?_, fun c4 => ?_⟩
 ·simp only [T_G, Zd, Sum.elim_inl]
  exact ⟨by omega, ⟨by omega, by omega, (no fun k => (hk.1 k).2.2 ⟨c3, c4⟩).symm⟩, by omega⟩
 ·simp only [T_G, Zd, Sum.elim_inl]
  exact ⟨by omega, by omega, ⟨by omega, by omega, (yes (hk.2 ⟨c1, c2, fun k => c4 k.2⟩)).symm⟩, by omega⟩
theorem ZiN (h : OvR nodes alive arcs A M) {s : Int × Int × Int} (hs : s ∈ Z0 a (Zz M v)) : ZD A s.2.1 /\ s.1 = a.1 := by
 unfold Z0 at hs
 obtain ⟨b, hb, rfl⟩ := List.mem_map.1 hs
 have hb' := h.en _ ((Z1 h.kd).1 (List.mem_filter.1 hb).1)
 dsimp only at hb' ⊢
 exact ⟨⟨by omega, by omega, hb'.2.2.2.2.2.1⟩, rfl⟩
theorem Znu (h : OvR nodes alive arcs A M) (ha : a ∈ inL M v) (hset : settles ≤ 9223372036854775807) : Zda nodes alive arcs a.1 a.2.1 a.2.2 v (Zz M v) hops settles = some (ZbP M v hops settles a) := by
 refine Zeq.1 ?_
 have hol := h.outLen v
 have hae := h.en _ ((Za1 h.kd).1 ha)
 have hopl : (Z0 a (Zz M v)).length ≤ (Zz M v).length := ZdQ
 have hok := fun s => ZiN (a := a) (v := v) h (s := s)
 have hsh : ZbP M v hops settles a = (Z0 a (Zz M v)).filter (Zdo M (Zge M v hops settles (ZdY (Z0 a (Zz M v))) a.1)) := rfl
 unfold Zda
 refine Zl _ (ZmR h ha) ?_
 rintro _ rfl
 dsimp only
 generalize Z0 a (Zz M v) = O at *
 rw [Zt]
 refine ⟨fun he => ?_, fun he => ?_⟩
 ·simp only [Zd]
  have : O = [] := List.eq_nil_of_length_eq_zero (by rw [List.length_map] at he; omega)
  rw [hsh, this]; rfl
 have hua : ZD A a.1 := ⟨hae.1, hae.2.1, hae.2.2.2.2.1⟩
 refine Zl _ (ZnD (u := a.1) (skip := v) (hops := hops) (settles := settles) (goals := O.map (fun s => s.2.1)) (most := ZdY O) h (by rw [List.length_map]; omega) hset) ?_
 intro r hr
 cases hr with
 | bad hn => exact absurd hua hn
 | goal k _ k0 k1 hk _ =>
  refine absurd ?_ hk
  obtain ⟨s, hs, e⟩ := List.mem_map.1 (Zfs k0 k1)
  rw [← e]; exact (hok s hs).1
 | ok Lf _ _ hR =>
  have hfin := hR.fin
  dsimp only
  rw [if_pos rfl]
  rw [hsh, ← hfin]
  refine Zl _ (ZmU (L := Lf) h (by omega) fun s hs => ⟨(hok s hs).1.1, (hok s hs).1.2.1⟩) ?_
  rintro _ rfl
  simp only [Zd]
def bnd (n : Int) : Int := min (max n 0) 1048576
theorem Zlo {n : Int} : bnd n ≤ 9223372036854775807 := by unfold bnd; omega
theorem ZfS (h : OvR nodes alive arcs A M) {x1 x2 x3 : Int} : T (ZbD nodes alive arcs v hops settles x1 x2 x3) fun r => (¬ ZD A v /\ r = ([], .no 7)) ∨ (ZD A v /\ r = (Zdp M v (bnd hops) (bnd settles), Er.nil)) := by
 have hil := h.inLen v
 unfold ZbD Zdu
 rw [Zdt h, Option.bind_some]
 by_cases hv : ZD A v
 rotate_left
 ·rw [decide_eq_false hv, if_pos (by decide), Option.bind_some, if_neg (by decide)]
  simp only [Zd]
  exact .inl ⟨hv, trivial⟩
 rw [decide_eq_true hv, if_neg (by decide), Option.bind_some, if_pos rfl]
 unfold Zc1 ZbZ
 simp only [Option.bind_some]
 rw [Zme h, Option.bind_some, p_In h, Option.bind_some]
 refine Zl (fun l => l = Zdp M v (bnd hops) (bnd settles)) ?_ fun l e => by simp only [Zd]; rw [e]; exact .inr ⟨hv, rfl⟩
 have hfl : ∀ k, k ≤ (inL M v).length -> (((inL M v).take k).flatMap (ZbP M v (bnd hops) (bnd settles))).length ≤ k * 1000000 := fun k hk => by
  rw [List.length_flatMap]
  have : ∀ l : List Hf, ((l.map fun a => (ZbP M v (bnd hops) (bnd settles) a).length).sum) ≤ l.length * 1000000 := fun l => by
   induction l with
   | nil => simp
   | cons x l ih =>
    have : (ZbP M v (bnd hops) (bnd settles) x).length ≤ 1000000 := by
     unfold ZbP
     exact Nat.le_trans (List.length_filter_le _ _) (Nat.le_trans ZdQ (h.outLen v))
    simp only [List.map_cons, List.sum_cons, List.length_cons]
    omega
  refine Nat.le_trans (this _) ?_
  rw [List.length_take]
  exact Nat.mul_le_mul_right _ (by omega)
 refine ZU (fun z => 0 ≤ z.2 /\ z.2 ≤ ((inL M v).length : Int) /\ z.1 = ((inL M v).take z.2.toNat).flatMap (ZbP M v (bnd hops) (bnd settles))) (fun z => (((inL M v).length : Int) - z.2).toNat) ?_ ⟨by simp, by simp, by simp⟩
 rintro ⟨l, i⟩ ⟨i0, i1, e⟩
 dsimp only at *
 unfold Zb5
 dsimp only
 rw [Zt]
 refine ⟨fun hlt => ?_, fun hge => ?_⟩
 rotate_left
 ·simp only [Zd, Sum.elim_inr]
  rw [List.take_of_length_le (by omega)] at e
  exact e
 have hm : gt (inL M v) i ∈ inL M v := by
  unfold gt
  rw [List.getD_eq_getElem?_getD, List.getElem?_eq_getElem (by omega)]
  exact List.getElem_mem _
 have hs := Zdk i0 hlt
 have hl1 := hfl i.toNat (by omega)
 have hl2 := hfl (i + 1).toNat (by omega)
 rw [← e] at hl1
 have e2 : ((inL M v).take (i + 1).toNat).flatMap (ZbP M v (bnd hops) (bnd settles)) = l ++ ZbP M v (bnd hops) (bnd settles) (gt (inL M v) i) := by
  rw [hs, List.flatMap_append, ← e]; simp
 rw [e2, List.length_append] at hl2
 rw [T_G]
 refine ⟨i0, ?_⟩
 have hf := Znu (hops := bnd hops) (settles := bnd settles) h hm Zlo
 unfold bnd at hf
 rw [hf, Option.bind_some]
 simp only [T_G, Zd, Sum.elim_inl]
 unfold bnd at hl2 e2
 exact ⟨by omega, by omega, ⟨by omega, by omega, e2.symm⟩, by omega⟩
end Go.Vd

/-! (ShB) -/

set_option linter.unusedVariables false
set_option linter.unusedSimpArgs false
set_option maxHeartbeats 1000000
namespace Go.Vd
variable {nodes : List Nod} {alive arcs : Int} {A : List Bool} {M : List OAr} {u v w skip hops settles c N : Int} {a : Hf}
end Go.Vd

/-! (Wk0) -/

set_option linter.unusedVariables false
set_option linter.unusedSimpArgs false
namespace Go.Vd
variable {N i j d : Int} {A L : List A3}
inductive Wk (A : List A3) : Int -> Int -> Int -> Prop
 | refl (i : Int) : Wk A i i 0
 | step (i u d x w : Int) : Wk A i u d -> (u, x, w) ∈ A -> Wk A i x (d + w)
theorem Wk.cat {i u v d e : Int} (h : Wk A i u d) (k : Wk A u v e) : Wk A i v (d + e) := by
 induction k with
 | refl => simpa using h
 | step u e x w _ ha ih =>
  have := ih.step _ _ _ _ w ha
  rwa [Int.add_assoc] at this
theorem Wk.one {i j w : Int} (h : (i, j, w) ∈ A) : Wk A i j w := by
 have := (Wk.refl i).step _ _ _ j w h
 simpa using this
end Go.Vd

/-! (ShD) -/

set_option linter.unusedVariables false
set_option linter.unusedSimpArgs false
set_option maxHeartbeats 1000000
namespace Go.Vd
variable {nodes : List Nod} {alive arcs : Int} {A : List Bool} {M : List OAr} {u v w x y d skip hops settles most c N W : Int} {L L' : Lab} {row : Int -> List (Int × Int)} {X : List A3}
def a3 (M : List OAr) : List A3 := M.map fun a => (a.1, a.2.1, a.2.2.1)
theorem Zek {x y w : Int} : (x, y, w) ∈ a3 M ↔ ∃ a ∈ M, a.1 = x /\ a.2.1 = y /\ a.2.2.1 = w := by
 unfold a3
 rw [List.mem_map]
 constructor
 ·rintro ⟨a, ha, e⟩
  simp only [Prod.mk.injEq] at e
  exact ⟨a, ha, e.1, e.2.1, e.2.2⟩
 ·rintro ⟨a, ha, rfl, rfl, rfl⟩
  exact ⟨a, ha, rfl⟩
theorem WR.wk (h : WR row hops settles most c L L') (hr : ∀ x, x ≠ skip -> ∀ b ∈ row x, b.1 ≠ skip /\ (x, b.1, b.2) ∈ X) : (∀ x y, L x = some y -> x ≠ skip /\ Wk X u x y.1) -> ∀ x y, L' x = some y -> x ≠ skip /\ Wk X u x y.1 := by
 induction h with
 | full => exact fun k => k
 | none => exact fun k => k
 | far => exact fun k => k
 | go c L v y L' _ hp _ _ ih =>
  intro hL
  refine ih ?_
  obtain ⟨v1, v2⟩ := hL v y hp.1
  have h1 : ∀ x z, lup L v (y.1, y.2.1, 1) x = some z -> x ≠ skip /\ Wk X u x z.1 := fun x z hz => by
   unfold lup at hz
   by_cases e : x = v
   ·rw [if_pos e] at hz; cases hz; rw [e]; exact ⟨v1, v2⟩
   ·rw [if_neg e] at hz; exact hL x z hz
  have key : ∀ (l : List (Int × Int)) (K : Lab), (∀ b ∈ l, b.1 ≠ skip /\ (v, b.1, b.2) ∈ X) -> (∀ x z, K x = some z -> x ≠ skip /\ Wk X u x z.1) -> ∀ x z, l.foldl (Zcf y.1 y.2.1) K x = some z -> x ≠ skip /\ Wk X u x z.1 := by
   intro l
   induction l with
   | nil => intro K _ hK; exact hK
   | cons b l ih2 =>
    intro K hl hK
    refine ih2 _ (fun b' hb' => hl b' (by simp [hb'])) fun x z hz => ?_
    unfold Zcf at hz
    split at hz
    ·unfold lup at hz
     by_cases e : x = b.1
     ·rw [if_pos e] at hz; cases hz
      obtain ⟨b1, b2⟩ := hl b (by simp)
      rw [e]
      exact ⟨b1, v2.step _ _ _ _ _ b2⟩
     ·rw [if_neg e] at hz; exact hK x z hz
    ·exact hK x z hz
  unfold ZeO
  split
  ·exact h1
  ·exact key _ _ (hr v v1) h1
theorem ZmB (h : KD M) : ∀ x, x ≠ skip -> ∀ b ∈ ZdB M skip x, b.1 ≠ skip /\ (x, b.1, b.2) ∈ a3 (ZbQ M skip) := fun x hx b hb => by
 unfold ZdB at hb
 obtain ⟨z, hz, rfl⟩ := List.mem_map.1 hb
 obtain ⟨h1, h2⟩ := List.mem_filter.1 hz
 have h3 := of_decide_eq_true h2
 exact ⟨h3, Zek.2 ⟨(x, z), Zcu.2 ⟨(Z1 h).1 h1, hx, h3⟩, rfl, rfl, rfl⟩⟩
theorem Zlf (h : OvR nodes alive arcs A M) (hu : ZD A u) (hus : u ≠ skip) (hset : settles ≤ 9223372036854775807) {z : Int × Int × Int} (hz : Zge M skip hops settles most u x = some z) : x ≠ skip /\ Wk (a3 (ZbQ M skip)) u x z.1 := by
 obtain ⟨r, _, hR⟩ := ZiC (skip := skip) (hops := hops) (most := most) h hu.1 hu.2.1 hset
 have := hR.wk (u := u) (ZmB h.kd) fun x y hy => by
  unfold Zdz lup at hy
  by_cases e : x = u
  ·rw [if_pos e] at hy; cases hy; rw [e]; exact ⟨hus, .refl _⟩
  ·rw [if_neg e] at hy; cases hy
 rw [hR.fin] at this
 exact this x z hz
end Go.Vd

/-! (ShE) -/

set_option linter.unusedVariables false
set_option linter.unusedSimpArgs false
set_option maxHeartbeats 1000000
namespace Go.Vd
variable {nodes : List Nod} {alive arcs : Int} {A : List Bool} {M : List OAr} {u v w x y d hp skip hops settles most c N W : Int} {L L' K : Lab} {row : Int -> List (Int × Int)} {ss : List Int}
theorem WR.h0 (h : WR row hops settles most c L L') (hh : hops ≤ 0) : (∀ x y, L x = some y -> x = u /\ 0 ≤ y.2.1) -> ∀ x y, L' x = some y -> x = u /\ 0 ≤ y.2.1 := by
 induction h with
 | full => exact fun k => k
 | none => exact fun k => k
 | far => exact fun k => k
 | go c L v y L' _ hp _ _ ih =>
  intro hL
  refine ih fun x z hz => ?_
  obtain ⟨v1, v2⟩ := hL v y hp.1
  unfold ZeO at hz
  rw [if_pos (by omega)] at hz
  unfold lup at hz
  by_cases e : x = v
  ·rw [if_pos e] at hz; cases hz; exact ⟨by rw [e]; exact v1, v2⟩
  ·rw [if_neg e] at hz; exact hL x z hz
theorem Zna (h : OvR nodes alive arcs A M) (hu : ZD A u) (hset : settles ≤ 9223372036854775807) (hx : x ≠ u) : far (Zge M skip 0 settles most u) x = 18446744073709551615 := by
 obtain ⟨r, _, hR⟩ := ZiC (skip := skip) (hops := 0) (most := most) h hu.1 hu.2.1 hset
 have := hR.h0 (u := u) (Int.le_refl _) fun x y hy => by
  unfold Zdz lup at hy
  by_cases e : x = u
  ·rw [if_pos e] at hy; cases hy; exact ⟨e, Int.le_refl _⟩
  ·rw [if_neg e] at hy; cases hy
 rw [hR.fin] at this
 unfold far
 rw [if_neg]
 intro hs
 obtain ⟨z, hz⟩ := Option.isSome_iff_exists.1 hs
 exact hx (this x z hz).1
theorem Zns {a : Int × Int} {z : Int × Int × Int} (h : K x = some z) : ∃ t, Zcf d hp K a x = some t /\ t.1 ≤ z.1 := by
 unfold Zcf
 split
 ·rename_i ho
  unfold lup
  by_cases e : x = a.1
  ·rw [if_pos e]
   refine ⟨_, rfl, ?_⟩
   unfold opn at ho
   rw [← e, h] at ho
   dsimp only at ho ⊢
   omega
  ·rw [if_neg e]; exact ⟨z, h, Int.le_refl _⟩
 ·exact ⟨z, h, Int.le_refl _⟩
theorem Zja : ∀ {l : List (Int × Int)} {K : Lab} {z : Int × Int × Int}, K x = some z -> ∃ t, l.foldl (Zcf d hp) K x = some t /\ t.1 ≤ z.1 := by
 intro l
 induction l with
 | nil => intro K z h; exact ⟨z, h, Int.le_refl _⟩
 | cons a l ih =>
  intro K z h
  obtain ⟨t, t1, t2⟩ := Zns (d := d) (hp := hp) (a := a) h
  obtain ⟨s, s1, s2⟩ := ih t1
  exact ⟨s, s1, by omega⟩
theorem Znz {a : Int × Int} (hK : ∀ z, K a.1 = some z -> z.2.2 ≠ 0 -> z.1 ≤ d + a.2) : ∃ t, Zcf d hp K a a.1 = some t /\ t.1 ≤ d + a.2 := by
 unfold Zcf
 by_cases ho : opn K a.1 (d + a.2)
 ·rw [if_pos ho]
  unfold lup
  rw [if_pos rfl]
  exact ⟨_, rfl, Int.le_refl _⟩
 ·rw [if_neg ho]
  unfold opn at ho
  cases hz : K a.1 with
  | none => rw [hz] at ho; exact absurd trivial ho
  | some z =>
   rw [hz] at ho
   dsimp only at ho
   refine ⟨z, rfl, ?_⟩
   by_cases z0 : z.2.2 = 0
   ·omega
   ·exact hK z hz z0
theorem Zls {a : Int × Int} {t : Int × Int × Int} (h : Zcf d hp K a x = some t) : K x = some t ∨ (t.2.2 = 0 /\ t.1 = d + a.2) := by
 unfold Zcf at h
 split at h
 ·unfold lup at h
  by_cases e : x = a.1
  ·rw [if_pos e] at h; cases h; exact .inr ⟨rfl, rfl⟩
  ·rw [if_neg e] at h; exact .inl h
 ·exact .inl h
theorem Zf7 : ∀ {l : List (Int × Int)} {K : Lab} {t : Int × Int × Int}, (∀ a ∈ l, 0 ≤ a.2) -> l.foldl (Zcf d hp) K x = some t -> K x = some t ∨ (t.2.2 = 0 /\ d ≤ t.1) := by
 intro l
 induction l with
 | nil => intro K t _ h; exact .inl h
 | cons a l ih =>
  intro K t hl h
  have ha := hl a (by simp)
  rcases ih (fun b hb => hl b (by simp [hb])) h with h | h
  ·rcases Zls h with h | ⟨h1, h2⟩
   ·exact .inl h
   ·exact .inr ⟨h1, by omega⟩
  ·exact .inr h
theorem Zlm (w0 : 0 ≤ d) : ∀ {l : List (Int × Int)} {K : Lab}, (∀ a ∈ l, 0 ≤ a.2) -> (∀ x z, K x = some z -> z.2.2 ≠ 0 -> z.1 ≤ d) -> ∀ a ∈ l, ∃ t, l.foldl (Zcf d hp) K a.1 = some t /\ t.1 ≤ d + a.2 := by
 intro l
 induction l with
 | nil => intro K _ _ a ha; cases ha
 | cons b l ih =>
  intro K hl hK a ha
  rcases List.mem_cons.1 ha with rfl | ha
  ·have := hl a (by simp)
   obtain ⟨t, t1, t2⟩ := Znz (d := d) (hp := hp) (K := K) (a := a) fun z hz z0 => by have := hK _ z hz z0; omega
   obtain ⟨s, s1, s2⟩ := Zja (d := d) (hp := hp) (l := l) t1
   exact ⟨s, s1, by omega⟩
  ·refine ih (fun c hc => hl c (by simp [hc])) (fun x z hz z0 => ?_) a ha
   rcases Zls hz with h | ⟨h1, _⟩
   ·exact hK x z h z0
   ·exact absurd h1 z0
structure WJ (row : Int -> List (Int × Int)) (u : Int) (L : Lab) : Prop where
 mono : ∀ x y z t, L x = some y -> y.2.2 = 1 -> L z = some t -> t.2.2 = 0 -> y.1 ≤ t.1
 rel : ∀ x y, L x = some y -> y.2.2 = 1 -> ∀ b ∈ row x, ∃ t, L b.1 = some t /\ t.1 ≤ y.1 + b.2
 self : ∃ y, L u = some y /\ y.1 = 0
theorem WJ.set {y : Int × Int × Int} (h : WJ row u L) (hW : WI N c L ss) (hr : ZiB row N) (hp : WPick L v y) (hh : ¬ y.2.1 ≥ hops) : WJ row u (ZeO row hops L v y) := by
 have hv := hW.val v y hp.1
 have hrow : ∀ a ∈ row v, 0 ≤ a.2 := fun a ha => (hr v a ha).2.1
 have l1 : ∀ x z, lup L v (y.1, y.2.1, 1) x = some z -> z.2.2 ≠ 0 -> z.1 ≤ y.1 := fun x z hz z0 => by
  unfold lup at hz
  by_cases e : x = v
  ·rw [if_pos e] at hz; cases hz; exact Int.le_refl _
  ·rw [if_neg e] at hz
   have := (hW.val x z hz).2.2.2.2
   exact h.mono x z v y hz (by omega) hp.1 hp.2.1
 have e0 : ZeO row hops L v y = (row v).foldl (Zcf y.1 y.2.1) (lup L v (y.1, y.2.1, 1)) := by unfold ZeO; rw [if_neg hh]
 rw [e0]
 refine ⟨fun x s z t hx hs hz ht => ?_, fun x s hx hs b hb => ?_, ?_⟩
 ·have sx : s.1 ≤ y.1 := by
   rcases Zf7 hrow hx with k | ⟨k, _⟩
   ·exact l1 x s k (by omega)
   ·omega
  rcases Zf7 hrow hz with k | ⟨_, k⟩
  ·unfold lup at k
   by_cases e : z = v
   ·rw [if_pos e] at k; cases k; cases ht
   ·rw [if_neg e] at k
    have := hp.2.2 z t k ht
    omega
  ·omega
 ·have hx1 : lup L v (y.1, y.2.1, 1) x = some s := by
   rcases Zf7 hrow hx with k | ⟨k, _⟩
   ·exact k
   ·omega
  unfold lup at hx1
  by_cases e : x = v
  ·rw [if_pos e] at hx1; cases hx1
   rw [e] at hb
   exact Zlm hv.1 hrow l1 b hb
  ·rw [if_neg e] at hx1
   obtain ⟨t, t1, t2⟩ := h.rel x s hx1 hs b hb
   have : ∃ t', lup L v (y.1, y.2.1, 1) b.1 = some t' /\ t'.1 ≤ t.1 := by
    unfold lup
    by_cases f : b.1 = v
    ·rw [if_pos f]
     rw [f, hp.1] at t1; cases t1
     exact ⟨_, rfl, Int.le_refl _⟩
    ·rw [if_neg f]; exact ⟨t, t1, Int.le_refl _⟩
   obtain ⟨t', q1, q2⟩ := this
   obtain ⟨t2', p1, p2⟩ := Zja (d := y.1) (hp := y.2.1) (l := row v) q1
   exact ⟨t2', p1, by omega⟩
 ·refine ZmZ hv.1 hrow ?_
  obtain ⟨z, z1, z2⟩ := h.self
  unfold lup
  by_cases e : u = v
  ·rw [if_pos e]
   rw [e, hp.1] at z1; cases z1
   exact ⟨_, rfl, z2⟩
  ·rw [if_neg e]; exact ⟨z, z1, z2⟩
theorem WJ.zero : WJ row u (Zdz u) := by
 have hl : ∀ x y, Zdz u x = some y -> x = u /\ y = (0, 0, 0) := fun x y hy => by
  unfold Zdz lup at hy
  by_cases e : x = u
  ·rw [if_pos e] at hy; cases hy; exact ⟨e, rfl⟩
  ·rw [if_neg e] at hy; cases hy
 refine ⟨fun x y z t hx hs _ _ => ?_, fun x y hx hs => ?_, ⟨(0, 0, 0), if_pos rfl, rfl⟩⟩
 ·rw [(hl x y hx).2] at hs; cases hs
 ·rw [(hl x y hx).2] at hs; cases hs
theorem WR.full' (h : WR row hops settles most c L L') (hr : ZiB row N) (n0 : 0 ≤ N) (hN : N ≤ hops) (hS : N < settles) : (∃ ss, WI N c L ss /\ (ss.length : Int) = c) -> WJ row u L -> WJ row u L' /\ ∀ x y, L' x = some y -> y.2.2 = 1 ∨ y.1 > most := by
 induction h with
 | full c L h1 =>
  rintro ⟨ss, hW, hs⟩ _
  have := hW.len n0; omega
 | none c L _ hn =>
  rintro ⟨ss, hW, hs⟩ hJ
  refine ⟨hJ, fun x y hy => .inl ?_⟩
  have := hn x y hy
  have := (hW.val x y hy).2.2.2.2
  omega
 | far c L v y _ hp hm =>
  rintro ⟨ss, hW, hs⟩ hJ
  refine ⟨hJ, fun x z hz => ?_⟩
  rcases (hW.val x z hz).2.2.2.2 with k | k
  ·have := hp.2.2 x z hz k
   exact .inr (by omega)
  ·exact .inl k
 | go c L v y L' _ hp _ _ ih =>
  rintro ⟨ss, hW, hs⟩ hJ
  have hW2 := hW.set (hops := hops) hr hp
  have hl2 := hW2.len n0
  rw [List.length_cons] at hl2
  have hv := (hW.val v y hp.1).2.2.2.1
  exact ih ⟨_, hW2, by simp; omega⟩ (hJ.set hW hr hp (by omega))
theorem ZnG (h : OvR nodes alive arcs A M) (hu : ZD A u) (hus : u ≠ skip) (hk : (A.length : Int) ≤ 1000) {len : Int} (k : Wk (a3 (ZbQ M skip)) u x len) (hm : len ≤ most) : far (Zge M skip 1048576 1048576 most u) x ≤ len := by
 obtain ⟨r, _, hR⟩ := ZiC (skip := skip) (hops := 1048576) (settles := 1048576) (most := most) h hu.1 hu.2.1 (by decide)
 have hok := h.rowOk (skip := skip)
 obtain ⟨hJ, hE⟩ := hR.full' (u := u) hok (by omega) (by omega) (by omega) ⟨[], WI.zero hu.1 hu.2.1, rfl⟩ WJ.zero
 rw [hR.fin] at hJ hE
 have key : len ≤ most -> x ≠ skip /\ 0 ≤ len /\ ∃ t, Zge M skip 1048576 1048576 most u x = some t /\ t.1 ≤ len := by
  clear hm
  induction k with
  | refl =>
   intro _
   obtain ⟨z, z1, z2⟩ := hJ.self
   exact ⟨hus, Int.le_refl _, z, z1, by omega⟩
  | step p e q t _ hm' ih =>
   intro hle
   obtain ⟨a, ha, e1, e2, e3⟩ := Zek.1 hm'
   obtain ⟨ha1, ha2, ha3⟩ := Zcu.1 ha
   have hw := h.en a ha1
   obtain ⟨i1, i2, s, s1, s2⟩ := ih (by omega)
   have hset : s.2.2 = 1 := by
    rcases hE p s s1 with k | k
    ·exact k
    ·omega
   have hb : (q, t) ∈ ZdB M skip p := by
    unfold ZdB
    refine List.mem_map.2 ⟨a.2, List.mem_filter.2 ⟨(Z1 h.kd).2 ?_, decide_eq_true ha3⟩, by rw [e2, e3]⟩
    have : (p, a.2) = a := Prod.ext e1.symm rfl
    rw [this]; exact ha1
   obtain ⟨t', t1, t2⟩ := hJ.rel p s s1 hset (q, t) hb
   dsimp only at t1 t2
   exact ⟨by rw [← e2]; exact ha3, by omega, t', t1, by omega⟩
 obtain ⟨_, _, t, t1, t2⟩ := key hm
 unfold far
 rw [t1]
 exact t2
theorem Zl9 : ∀ {l : List (Int × Int × Int)} {s : Int × Int × Int}, s ∈ l -> s.2.2 ≤ ZdY l := by
 have g : ∀ (l : List (Int × Int × Int)) (m : Int), m ≤ l.foldl (fun m s => max m s.2.2) m /\ ∀ s ∈ l, s.2.2 ≤ l.foldl (fun m s => max m s.2.2) m := by
  intro l
  induction l with
  | nil => intro m; exact ⟨Int.le_refl _, fun s hs => by cases hs⟩
  | cons a l ih =>
   intro m
   obtain ⟨h1, h2⟩ := ih (max m a.2.2)
   refine ⟨by simp only [List.foldl_cons]; omega, fun s hs => ?_⟩
   simp only [List.foldl_cons]
   rcases List.mem_cons.1 hs with rfl | hs
   ·omega
   ·exact h2 s hs
 intro l s hs
 exact (g l 0).2 s hs
end Go.Vd

/-! (Fw0) -/

set_option linter.unusedVariables false
set_option linter.unusedSimpArgs false
namespace Go.Vd
variable {N n k i j : Int} {A L : List A3} {E E' : Int -> Int -> Int} {M : List (List Int)}
def IsM (n : Int) (M : List (List Int)) (E : Int -> Int -> Int) : Prop := (M.length : Int) = n /\ ∀ i, 0 ≤ i -> i < n -> ((gt M i).length : Int) = n /\ ∀ j, 0 ≤ j -> j < n -> gt (gt M i) j = E i j
theorem IsM.congr (h : IsM n M E) (k : ∀ i j, 0 ≤ i -> i < n -> 0 ≤ j -> j < n -> E i j = E' i j) : IsM n M E' :=
 ⟨h.1, fun i i0 i1 => ⟨(h.2 i i0 i1).1, fun j j0 j1 => ((h.2 i i0 i1).2 j j0 j1).trans (k i j i0 i1 j0 j1)⟩⟩
theorem IsM.upd (h : IsM n M E) (i0 : 0 ≤ i) (i1 : i < n) (j0 : 0 ≤ j) (j1 : j < n) {v : Int} : IsM n (M.set i.toNat ((gt M i).set j.toNat v)) (fun a b => if a = i /\ b = j then v else E a b) := by
 have hl := h.1
 refine ⟨by simpa using h.1, fun a a0 a1 => ?_⟩
 rw [ZaF i0 (by omega) a0]
 by_cases e : a = i
 ·subst e
  rw [if_pos rfl]
  obtain ⟨h1, h2⟩ := h.2 a a0 a1
  refine ⟨by simpa using h1, fun b b0 b1 => ?_⟩
  rw [ZaF j0 (by omega) b0]
  by_cases f : b = j
  ·rw [if_pos f]; dsimp only; rw [if_pos ⟨rfl, f⟩]
  ·rw [if_neg f]; dsimp only; rw [if_neg (fun q => f q.2)]; exact h2 b b0 b1
 ·rw [if_neg e]
  obtain ⟨h1, h2⟩ := h.2 a a0 a1
  exact ⟨h1, fun b b0 b1 => by dsimp only; rw [if_neg (fun q => e q.1)]; exact h2 b b0 b1⟩
structure FwI (N : Int) (A : List A3) (B k : Int) (E : Int -> Int -> Int) : Prop where
 rng : ∀ i j, 0 ≤ i -> i < N -> 0 ≤ j -> j < N -> E i j = 18446744073709551615 ∨ (0 ≤ E i j /\ E i j ≤ B)
 snd : ∀ i j, 0 ≤ i -> i < N -> 0 ≤ j -> j < N -> E i j ≠ 18446744073709551615 -> Wk A i j (E i j)
 dia : ∀ i, 0 ≤ i -> i < N -> E i i = 0
 arc : ∀ a ∈ A, E a.1 a.2.1 ≤ a.2.2
 tri : ∀ m, 0 ≤ m -> m < k -> ∀ i j, 0 ≤ i -> i < N -> 0 ≤ j -> j < N -> E i m ≠ 18446744073709551615 -> E m j ≠ 18446744073709551615 -> E i j ≤ E i m + E m j
def thv (E : Int -> Int -> Int) (k i j : Int) : Int := if E i k ≠ 18446744073709551615 /\ E k j ≠ 18446744073709551615 then min (E i j) (E i k + E k j) else E i j
theorem ZmL (h : E k k = 0) : thv E k k j = E k j := by unfold thv; split <;> omega
theorem ZmX (h : E k k = 0) : thv E k i k = E i k := by unfold thv; split <;> omega
theorem Znc {B : Int} (h : E i j = 18446744073709551615 ∨ (0 ≤ E i j /\ E i j ≤ B)) (hb : B ≤ 9000000000000000000) : thv E k i j ≤ E i j := by unfold thv; split <;> omega
theorem FwI.next {B : Int} (h : FwI N A B k E) (hb : B ≤ 9000000000000000000) (k0 : 0 ≤ k) (k1 : k < N) (ha : ∀ a ∈ A, (0 ≤ a.1 /\ a.1 < N) /\ 0 ≤ a.2.1 /\ a.2.1 < N) : FwI N A (B + B) (k + 1) (thv E k) := by
 have kk := h.dia k k0 k1
 refine ⟨fun i j i0 i1 j0 j1 => ?_, fun i j i0 i1 j0 j1 hne => ?_, fun i i0 i1 => ?_, fun a haA => ?_, fun m m0 m1 i j i0 i1 j0 j1 n1 n2 => ?_⟩
 ·have r1 := h.rng i j i0 i1 j0 j1; have r2 := h.rng i k i0 i1 k0 k1; have r3 := h.rng k j k0 k1 j0 j1
  unfold thv; split <;> omega
 ·have r1 := h.rng i j i0 i1 j0 j1; have r2 := h.rng i k i0 i1 k0 k1; have r3 := h.rng k j k0 k1 j0 j1
  by_cases c : E i k ≠ 18446744073709551615 /\ E k j ≠ 18446744073709551615
  ·have e : thv E k i j = min (E i j) (E i k + E k j) := by unfold thv; rw [if_pos c]
   rw [e] at hne ⊢
   by_cases q : E i j ≤ E i k + E k j
   ·rw [Int.min_eq_left q] at hne ⊢; exact h.snd i j i0 i1 j0 j1 hne
   ·rw [Int.min_eq_right (by omega)]; exact (h.snd i k i0 i1 k0 k1 c.1).cat (h.snd k j k0 k1 j0 j1 c.2)
  ·have e : thv E k i j = E i j := by unfold thv; rw [if_neg c]
   rw [e] at hne ⊢
   exact h.snd i j i0 i1 j0 j1 hne
 ·have r2 := h.rng i k i0 i1 k0 k1; have r3 := h.rng k i k0 k1 i0 i1
  have := h.dia i i0 i1
  unfold thv; split <;> omega
 ·obtain ⟨⟨a1, a2⟩, a3, a4⟩ := ha a haA
  have := h.arc a haA
  have := Znc (k := k) (h.rng a.1 a.2.1 a1 a2 a3 a4) hb
  omega
 ·have m2 : m < N := by omega
  by_cases e : m = k
  ·subst e
   rw [ZmX kk] at n1 ⊢
   rw [ZmL kk] at n2 ⊢
   unfold thv; rw [if_pos ⟨n1, n2⟩]; omega
  ·have mk : m < k := by omega
   have tr : ∀ a b, 0 ≤ a -> a < N -> 0 ≤ b -> b < N -> E a m = 18446744073709551615 ∨ E m b = 18446744073709551615 ∨ E a b ≤ E a m + E m b := fun a b a0 a1 b0 b1 => by
    by_cases c1 : E a m = 18446744073709551615
    ·exact .inl c1
    ·by_cases c2 : E m b = 18446744073709551615
     ·exact .inr (.inl c2)
     ·exact .inr (.inr (h.tri m m0 mk a b a0 a1 b0 b1 c1 c2))
   have t1 := tr i j i0 i1 j0 j1; have t2 := tr i k i0 i1 k0 k1; have t3 := tr k j k0 k1 j0 j1; have t4 := tr k k k0 k1 k0 k1
   have r1 := h.rng i j i0 i1 j0 j1; have r2 := h.rng i k i0 i1 k0 k1; have r3 := h.rng k j k0 k1 j0 j1
   have r4 := h.rng i m i0 i1 m0 m2; have r5 := h.rng m j m0 m2 j0 j1; have r6 := h.rng k m k0 k1 m0 m2; have r7 := h.rng m k m0 m2 k0 k1
   unfold thv at n1 n2 ⊢
   clear h
   generalize E i j = x1 at *; generalize E i k = x2 at *; generalize E k j = x3 at *; generalize E i m = x4 at *; generalize E m j = x5 at *; generalize E k m = x6 at *; generalize E m k = x7 at *
   by_cases c1 : x2 = 18446744073709551615 <;> by_cases c2 : x3 = 18446744073709551615 <;> by_cases c3 : x6 = 18446744073709551615 <;> by_cases c4 : x7 = 18446744073709551615 <;> simp only [c1, c2, c3, c4, ne_eq, not_true_eq_false, not_false_eq_true, and_true, and_false, true_and, false_and, false_or, true_or, or_true, or_false, if_true, if_false] at n1 n2 t1 t2 t3 t4 r1 r2 r3 r4 r5 r6 r7 ⊢ <;> omega
theorem ZmJ {m : Nat} {x : Int} : gt (List.replicate m (0 : Int)) x = 0 := by
 unfold gt
 rw [List.getD_eq_getElem?_getD, List.getElem?_replicate]
 split <;> rfl
def E0f : Int -> Int -> Int := fun a b => if a = b then 0 else 18446744073709551615
end Go.Vd

/-! (Fx) -/

set_option linter.unusedVariables false
set_option linter.unusedSimpArgs false
namespace Go.Vd
variable {N n k i j : Int} {A : List A3} {E E' : Int -> Int -> Int} {M : List (List Int)} {D : List Bool} {X : List OAr} {W : Int}
theorem Zlv (h : E k k = 0 ∨ E k k = 18446744073709551615) : thv E k k j = E k j := by unfold thv; split <;> omega
theorem ZlI (h : E k k = 0 ∨ E k k = 18446744073709551615) : thv E k i k = E i k := by unfold thv; split <;> omega
def Zav (D : List Bool) (E : Int -> Int -> Int) (i j : Int) : Int := if i = j /\ ¬ gt D i = true then 18446744073709551615 else E i j
def DeadR (D : List Bool) (E : Int -> Int -> Int) : Prop := ∀ i j, i ≠ j -> (¬ gt D i = true ∨ ¬ gt D j = true) -> E i j = 18446744073709551615
theorem Zm0 (kk : E k k = 0) (h : DeadR D E) (hr : ∀ i j, 0 ≤ i -> i < N -> 0 ≤ j -> j < N -> E i j = 18446744073709551615 ∨ (0 ≤ E i j /\ E i j ≤ 9000000000000000000)) (i0 : 0 ≤ i) (i1 : i < N) (j0 : 0 ≤ j) (j1 : j < N) : thv (Zav D E) k i j = Zav D (thv E k) i j := by
 have hr := hr i j i0 i1 j0 j1
 by_cases hk : gt D k = true
 ·have e1 : Zav D E i k = E i k := by unfold Zav; rw [if_neg]; rintro ⟨rfl, q⟩; exact q hk
  have e2 : Zav D E k j = E k j := by unfold Zav; rw [if_neg]; rintro ⟨rfl, q⟩; exact q hk
  by_cases c : i = j /\ ¬ gt D i = true
  ·have hik : i ≠ k := fun e => c.2 (by rw [e]; exact hk)
   have := h i k hik (.inl c.2)
   unfold thv
   rw [e1, this]
   unfold Zav
   rw [if_pos c, if_pos c, if_neg (fun q => q.1 rfl)]
  ·have e3 : Zav D E i j = E i j := by unfold Zav; rw [if_neg c]
   unfold thv
   rw [e1, e2, e3]
   unfold Zav
   rw [if_neg c]
 ·have e1 : Zav D E i k = 18446744073709551615 := by
   unfold Zav
   by_cases e : i = k
   ·subst e; rw [if_pos ⟨rfl, hk⟩]
   ·rw [if_neg fun q => e q.1]; exact h i k e (.inr hk)
  have e4 : thv (Zav D E) k i j = Zav D E i j := by
   unfold thv; rw [e1, if_neg (fun q => q.1 rfl)]
  rw [e4]
  have e5 : (i = j /\ ¬ gt D i = true) ∨ thv E k i j = E i j := by
   by_cases e : i = k
   ·subst e
    by_cases f : j = i
    ·exact .inl ⟨f.symm, hk⟩
    ·refine .inr ?_
     have := h i j (fun q => f q.symm) (.inl hk)
     unfold thv; rw [this, if_neg (fun q => q.2 rfl)]
   ·refine .inr ?_
    have := h i k e (.inr hk)
    unfold thv; rw [this, if_neg (fun q => q.1 rfl)]
  unfold Zav
  rcases e5 with c | e5
  ·rw [if_pos c, if_pos c]
  ·rw [e5]
theorem DeadR.next (h : DeadR D E) (kk : E k k = 0) : DeadR D (thv E k) := fun i j hij hd => by
 have e := h i j hij hd
 have : ¬ (E i k ≠ 18446744073709551615 /\ E k j ≠ 18446744073709551615) := by
  rintro ⟨c1, c2⟩
  by_cases hik : i = k
  ·subst hik; exact c2 e
  ·by_cases hkj : k = j
   ·subst hkj; exact c1 e
   ·rcases hd with hd | hd
    ·exact c1 (h i k hik (.inl hd))
    ·exact c2 (h k j hkj (.inr hd))
 unfold thv; rw [if_neg this]; exact e
structure XOk (D : List Bool) (X : List OAr) (W : Int) : Prop where
 en : ∀ a ∈ X, 0 ≤ a.1 /\ a.1 < (D.length : Int) /\ 0 ≤ a.2.1 /\ a.2.1 < (D.length : Int) /\ gt D a.1 = true /\ gt D a.2.1 = true /\ a.1 ≠ a.2.1 /\ 0 ≤ a.2.2.1 /\ a.2.2.1 ≤ W
theorem ZlN (n1 : D.length ≤ 65536) : T (ZI (fun zz_ => Zad D zz_.1 zz_.2) (0, (List.replicate D.length ([] : List Int)))) fun M => IsM D.length M (Zav D E0f) := by
 have n0 : (0 : Int) ≤ (D.length : Int) := by omega
 have rl : ∀ {E0 : Type} {x : E0}, ((List.replicate D.length x).length : Int) = D.length := fun {E0 x} => by simp
 refine ZU (fun z => 0 ≤ z.1 /\ z.1 ≤ (D.length : Int) /\ (z.2.length : Int) = D.length /\ ∀ a, 0 ≤ a -> a < z.1 -> ((gt z.2 a).length : Int) = D.length /\ ∀ b, 0 ≤ b -> b < (D.length : Int) -> gt (gt z.2 a) b = Zav D E0f a b) (fun z => ((D.length : Int) - z.1).toNat) ?_ ⟨by simp, n0, rl, fun a a0 a1 => by dsimp only at a1; omega⟩
 rintro ⟨x, d⟩ ⟨x0, x1, hl, hd⟩
 dsimp only at *
 unfold Zad
 rw [rl, Zt]
 refine ⟨fun hx => ?_, fun hx => ?_⟩
 rotate_left
 ·simp only [Zd, Sum.elim_inr]
  exact ⟨hl, fun a a0 a1 => hd a a0 (by omega)⟩
 rw [T_G, T_G, T_G]
 refine ⟨by omega, by omega, by simp; omega, ?_⟩
 have hg : gt (d.set x.toNat (List.replicate D.length (0 : Int))) x = List.replicate D.length 0 := by rw [ZaF x0 (by omega) x0, if_pos rfl]
 refine Zl (fun r => (r.length : Int) = D.length /\ (∀ a, 0 ≤ a -> a ≠ x -> gt r a = gt d a) /\ ((gt r x).length : Int) = D.length /\ ∀ b, 0 ≤ b -> b < (D.length : Int) -> gt (gt r x) b = Zav D E0f x b) ?_ ?_
 ·refine ZU (fun z => 0 ≤ z.1 /\ z.1 ≤ (D.length : Int) /\ (z.2.length : Int) = D.length /\ (∀ a, 0 ≤ a -> a ≠ x -> gt z.2 a = gt d a) /\ ((gt z.2 x).length : Int) = D.length /\ ∀ b, 0 ≤ b -> b < (D.length : Int) -> gt (gt z.2 x) b = if b < z.1 then Zav D E0f x b else 0) (fun z => ((D.length : Int) - z.1).toNat) ?_
   ⟨by simp, n0, by simpa using hl, fun a a0 ha => by (try dsimp only); rw [ZaF x0 (by omega) a0, if_neg ha], by (try dsimp only); rw [hg]; exact rl, fun b b0 b1 => by (try dsimp only); rw [hg, ZmJ, if_neg (by omega)]⟩
  rintro ⟨y, r⟩ ⟨y0, y1, r1, r2, r3, r4⟩
  dsimp only at *
  unfold Zaz
  rw [hg, rl, Zt]
  refine ⟨fun hy => ?_, fun hy => ?_⟩
  rotate_left
  ·simp only [Zd, Sum.elim_inr]
   exact ⟨r1, r2, r3, fun b b0 b1 => by rw [r4 b b0 b1, if_pos (by omega)]⟩
  refine Zl (fun o => o = decide (¬ (x = y /\ gt D x = true))) ?_ ?_
  ·by_cases e : x = y
   ·rw [if_pos e]; simp only [T_G, Zd]; exact ⟨by omega, by cases hD : gt D x <;> simp [e]⟩
   ·rw [if_neg e]; simp [e]
  rintro _ rfl
  rw [Zt]
  refine ⟨fun e => ?_, fun e => ?_⟩
  ·have e' : ¬ (x = y /\ gt D x = true) := of_decide_eq_true e
   simp only [T_G, Zd, Sum.elim_inl]
   refine ⟨by omega, by omega, by omega, ⟨by omega, by omega, by simpa using r1, fun a a0 ha => ?_, ?_, fun b b0 b1 => ?_⟩, by omega⟩
   ·rw [ZaF x0 (by omega) a0, if_neg ha]; exact r2 a a0 ha
   ·rw [ZaF x0 (by omega) x0, if_pos rfl]; simpa using r3
   ·rw [ZaF x0 (by omega) x0, if_pos rfl, ZaF y0 (by omega) b0]
    by_cases g : b = y
    ·subst g; rw [if_pos rfl, if_pos (by omega)]
     unfold Zav E0f
     by_cases q : x = b
     ·rw [if_pos ⟨q, fun k => e' ⟨q, k⟩⟩]
     ·rw [if_neg (fun k => q k.1), if_neg q]
    ·rw [if_neg g, r4 b b0 b1]
     by_cases f : b < y
     ·rw [if_pos f, if_pos (by omega)]
     ·rw [if_neg f, if_neg (by omega)]
  ·have e' : x = y /\ gt D x = true := Classical.not_not.1 fun k => e (decide_eq_true k)
   simp only [T_G, Zd, Sum.elim_inl]
   refine ⟨by omega, ⟨by omega, by omega, r1, r2, r3, fun b b0 b1 => ?_⟩, by omega⟩
   rw [r4 b b0 b1]
   by_cases f : b < y
   ·rw [if_pos f, if_pos (by omega)]
   ·rw [if_neg f]
    by_cases g : b = y
    ·subst g; rw [if_pos (by omega)]; unfold Zav E0f; rw [if_neg (fun k => k.2 e'.2), if_pos e'.1]
    ·rw [if_neg (by omega)]
 ·rintro r ⟨r1, r2, r3, r4⟩
  simp only [T_G, Zd, Sum.elim_inl]
  refine ⟨by omega, ⟨by omega, by omega, r1, fun a a0 a1 => ?_⟩, by omega⟩
  by_cases e : a = x
  ·rw [e]; exact ⟨r3, r4⟩
  ·rw [r2 a a0 e]; exact hd a a0 (by omega)
theorem ZmD {E : Type} [Inhabited E] {l : List E} {i : Int} (h0 : 0 ≤ i) (h1 : i < (l.length : Int)) : gt l i ∈ l := by
 unfold gt
 rw [List.getD_eq_getElem?_getD, List.getElem?_eq_getElem (by omega)]
 exact List.getElem_mem _
theorem ZmC {E : Type} [Inhabited E] {l : List E} {x : E} (h : x ∈ l) : ∃ p, 0 ≤ p /\ p < (l.length : Int) /\ gt l p = x := by
 obtain ⟨i, hi, e⟩ := List.getElem_of_mem h
 refine ⟨i, by omega, by omega, ?_⟩
 unfold gt
 rw [List.getD_eq_getElem?_getD, Int.toNat_natCast, List.getElem?_eq_getElem hi]; exact e
theorem Zl1 (ok : XOk D X W) (hW : W ≤ 140737488355328) (W0 : 0 ≤ W) (hX : X.length ≤ 1000000000) (h : IsM D.length M (Zav D E0f)) : T (ZI (fun zz_ => Zac X zz_.1 zz_.2) (M, 0)) fun M' => ∃ E, IsM D.length M' (Zav D E) /\ FwI D.length (a3 X) W 0 E /\ DeadR D E := by
 refine ZU (fun z => 0 ≤ z.2 /\ z.2 ≤ (X.length : Int) /\ ∃ E, IsM D.length z.1 (Zav D E) /\ (∀ i j, 0 ≤ i -> i < (D.length : Int) -> 0 ≤ j -> j < (D.length : Int) -> E i j = 18446744073709551615 ∨ (0 ≤ E i j /\ E i j ≤ W)) /\
  (∀ i j, 0 ≤ i -> i < (D.length : Int) -> 0 ≤ j -> j < (D.length : Int) -> E i j ≠ 18446744073709551615 -> Wk (a3 X) i j (E i j)) /\ (∀ i, 0 ≤ i -> i < (D.length : Int) -> E i i = 0) /\ DeadR D E /\ ∀ q, 0 ≤ q -> q < z.2 -> E (gt X q).1 (gt X q).2.1 ≤ (gt X q).2.2.1) (fun z => ((X.length : Int) - z.2).toNat) ?_ ?_
 ·rintro ⟨d, x⟩ ⟨x0, x1, E, h1, h2, h3, h4, h6, h5⟩
  dsimp only at *
  unfold Zac
  rw [Zt]
  refine ⟨fun hx => ?_, fun hx => ?_⟩
  rotate_left
  ·simp only [Zd, Sum.elim_inr]
   refine ⟨E, h1, ⟨h2, h3, h4, fun a hA => ?_, fun m m0 m1 => by omega⟩, h6⟩
   obtain ⟨x', y', w'⟩ := a
   obtain ⟨b, hb, e1, e2, e3⟩ := Zek.1 hA
   obtain ⟨q, q0, q1, rfl⟩ := ZmC hb
   have := h5 q q0 (by omega)
   rw [e1, e2, e3] at this; exact this
  have hm := ZmD x0 hx
  obtain ⟨a1, a2, b3, b4, l5, l6, a7, a8, a9⟩ := ok.en _ hm
  have hone : Wk (a3 X) (gt X x).1 (gt X x).2.1 (gt X x).2.2.1 := .one (Zek.2 ⟨_, hm, rfl, rfl, rfl⟩)
  obtain ⟨l1, l2⟩ := h1.2 _ a1 a2
  have hl := h1.1
  have hv := l2 _ b3 b4
  have hmk : Zav D E (gt X x).1 (gt X x).2.1 = E (gt X x).1 (gt X x).2.1 := by unfold Zav; rw [if_neg fun q => a7 q.1]
  rw [hmk] at hv
  have hup := h1.upd (v := min (gt (gt d (gt X x).1) (gt X x).2.1) (gt X x).2.2.1) a1 a2 b3 b4
  simp only [T_G, Zd, Sum.elim_inl]
  refine ⟨x0, by omega, by omega, by omega, ⟨by omega, by omega, fun i j => if i = (gt X x).1 /\ j = (gt X x).2.1 then min (gt (gt d (gt X x).1) (gt X x).2.1) (gt X x).2.2.1 else E i j, hup.congr fun i j _ _ _ _ => ?_, fun i j i0 i1 j0 j1 => ?_, fun i j i0 i1 j0 j1 => ?_, fun i i0 i1 => ?_, fun i j hij hd => ?_, fun q q0 q1 => ?_⟩, by omega⟩
  ·unfold Zav
   by_cases c : i = (gt X x).1 /\ j = (gt X x).2.1
   ·rw [if_pos c, if_neg]
    ·dsimp only; rw [if_pos c]
    rintro ⟨q, _⟩
    exact a7 (by rw [← c.1, ← c.2]; exact q)
   ·rw [if_neg c]; dsimp only; rw [if_neg c]
  ·try dsimp only
   have := h2 i j i0 i1 j0 j1
   have := h2 _ _ a1 a2 b3 b4
   split <;> omega
  ·try dsimp only
   split
   ·rename_i e
    obtain ⟨rfl, rfl⟩ := e
    rw [hv]
    intro hne
    by_cases q : E (gt X x).1 (gt X x).2.1 ≤ (gt X x).2.2.1
    ·rw [Int.min_eq_left q] at hne ⊢; exact h3 _ _ a1 a2 b3 b4 hne
    ·rw [Int.min_eq_right (by omega)]; exact hone
   ·exact h3 i j i0 i1 j0 j1
  ·try dsimp only
   have := h4 i i0 i1
   split
   ·rename_i e
    exact absurd (e.1.symm.trans e.2) a7
   ·exact this
  ·try dsimp only
   split
   ·rename_i e
    rcases hd with hd | hd
    ·exact absurd l5 (by rw [← e.1]; exact hd)
    ·exact absurd l6 (by rw [← e.2]; exact hd)
   ·exact h6 i j hij hd
  ·try dsimp only
   by_cases e : (gt X q).1 = (gt X x).1 /\ (gt X q).2.1 = (gt X x).2.1
   ·rw [if_pos e, hv]
    by_cases f : q = x
    ·subst f; omega
    ·have := h5 q q0 (by omega)
     rw [e.1, e.2] at this; omega
   ·rw [if_neg e]
    by_cases f : q = x
    ·subst f; exact absurd ⟨rfl, rfl⟩ e
    ·exact h5 q q0 (by omega)
 ·refine ⟨by simp, by simp, E0f, h, fun i j _ _ _ _ => ?_, fun i j i0 i1 j0 j1 => ?_, fun i _ _ => by unfold E0f; rw [if_pos rfl], fun i j hij _ => by unfold E0f; rw [if_neg hij], fun q q0 q1 => by dsimp only at q1; omega⟩
  ·unfold E0f; split
   ·right; omega
   ·left; rfl
  ·unfold E0f
   split
   ·rename_i e; subst e; intro _; exact .refl i
   ·intro q; exact absurd rfl q
theorem Zmt {B : Int} (hrng : ∀ i j, 0 ≤ i -> i < N -> 0 ≤ j -> j < N -> E i j = 18446744073709551615 ∨ (0 ≤ E i j /\ E i j ≤ B)) (kk : E k k = 0 ∨ E k k = 18446744073709551615) (hb : B ≤ 9000000000000000000) (k0 : 0 ≤ k) (k1 : k < N) (hN : N ≤ 65536) (i0 : 0 ≤ i) (i1 : i < N) {d : List (List Int)}
  (hd : IsM N d fun a b => if a < i then thv E k a b else E a b) :
  T (ZI (fun zz_ => Zab k d i zz_.1 zz_.2) (d, 0)) fun r => IsM N r fun a b => if a < i + 1 then thv E k a b else E a b := by
 have hl := hd.1
 refine ZU (fun z => 0 ≤ z.2 /\ z.2 ≤ N /\ IsM N z.1 fun a b => if a < i ∨ (a = i /\ b < z.2) then thv E k a b else E a b) (fun z => (N - z.2).toNat) ?_ ⟨by simp, by (try dsimp only); omega, hd.congr fun a b _ _ b0 _ => by
  try dsimp only
  by_cases q : a < i
  ·rw [if_pos q, if_pos (.inl q)]
  ·rw [if_neg q, if_neg (by omega)]⟩
 rintro ⟨r, y⟩ ⟨y0, y1, hr⟩
 dsimp only at *
 unfold Zab
 rw [hl, Zt]
 refine ⟨fun hy => ?_, fun hy => ?_⟩
 rotate_left
 ·simp only [Zd, Sum.elim_inr]
  refine hr.congr fun a b _ _ b0 b1 => ?_
  try dsimp only
  by_cases q : a < i + 1
  ·rw [if_pos q, if_pos (by omega)]
  ·rw [if_neg q, if_neg (by omega)]
 have hrl := hr.1
 obtain ⟨ri1, ri2⟩ := hr.2 i i0 i1
 obtain ⟨rk1, rk2⟩ := hr.2 k k0 k1
 have eik : gt (gt r i) k = E i k := by
  rw [ri2 k k0 k1]; (try dsimp only); split
  ·exact ZlI kk
  ·rfl
 have ekj : gt (gt r k) y = E k y := by
  rw [rk2 y y0 hy]; (try dsimp only); split
  ·exact Zlv kk
  ·rfl
 have eij : gt (gt r i) y = E i y := by
  rw [ri2 y y0 hy]; (try dsimp only); rw [if_neg (by omega)]
 have r1 := hrng i y i0 i1 y0 hy; have r2 := hrng i k i0 i1 k0 k1; have r3 := hrng k y k0 k1 y0 hy
 refine Zl (fun o => o = true ↔ (E i k ≠ 18446744073709551615 /\ E k y ≠ 18446744073709551615)) ?_ fun o ho => ?_
 ·rw [eik, ekj]
  simp only [T_G, Zt, Zd]
  exact ⟨by omega, by omega, fun e => by simp [e], fun e => ⟨by omega, by omega, by simp [e]⟩⟩
 have next : ∀ v, v = thv E k i y -> ∀ q, IsM N q (fun a b => if a = i /\ b = y then v else if a < i ∨ (a = i /\ b < y) then thv E k a b else E a b) -> IsM N q fun a b => if a < i ∨ (a = i /\ b < y + 1) then thv E k a b else E a b := fun v hv q hq => hq.congr fun a b _ _ _ _ => by
  try dsimp only
  by_cases e : a = i /\ b = y
  ·obtain ⟨rfl, rfl⟩ := e
   rw [if_pos ⟨rfl, rfl⟩, if_pos (by omega), hv]
  ·rw [if_neg e]
   by_cases f : a < i ∨ (a = i /\ b < y)
   ·rw [if_pos f, if_pos (by omega)]
   ·rw [if_neg f, if_neg (by omega)]
 rw [Zt]
 refine ⟨fun e => ?_, fun e => ?_⟩
 ·have c := ho.1 e
  rw [eik, ekj, eij]
  simp only [T_G, Zd, Sum.elim_inl]
  refine ⟨by omega, by omega, by omega, by omega, by omega, by omega, by omega, ⟨by omega, by omega, next _ ?_ _ (hr.upd i0 i1 y0 hy)⟩, by omega⟩
  unfold thv; rw [if_pos c]
 ·have c : ¬ (E i k ≠ 18446744073709551615 /\ E k y ≠ 18446744073709551615) := fun q => e (ho.2 q)
  simp only [T_G, Zd, Sum.elim_inl]
  refine ⟨by omega, ⟨by omega, by omega, hr.congr fun a b _ _ _ _ => ?_⟩, by omega⟩
  try dsimp only
  by_cases f : a = i /\ b = y
  ·obtain ⟨rfl, rfl⟩ := f
   rw [if_neg (by omega), if_pos (by omega)]
   unfold thv; rw [if_neg c]
  ·by_cases g : a < i ∨ (a = i /\ b < y)
   ·rw [if_pos g, if_pos (by omega)]
   ·rw [if_neg g, if_neg (by omega)]
def Zj8 (D : List Bool) (X : List OAr) (M : List (List Int)) : Prop := ∃ E B, B ≤ 9000000000000000000 /\ IsM D.length M (Zav D E) /\ FwI D.length (a3 X) B D.length E
theorem Zm4 (ok : XOk D X W) (hW : W ≤ 140737488355328) (W0 : 0 ≤ W) (hX : X.length ≤ 1000000000) (hN : D.length ≤ 12) : T (ZaS D X) (Zj8 D X) := by
 have n0 : (0 : Int) ≤ (D.length : Int) := by omega
 unfold ZaS
 rw [T_G]
 refine ⟨by omega, Zl _ (ZlN (by omega)) fun M0 h0 => Zl _ (Zl1 ok hW W0 hX h0) ?_⟩
 rintro M1 ⟨E1, h1, h2, h2d⟩
 have hl := h1.1
 refine Zl (Zj8 D X) ?_ fun r hr => by simpa using hr
 refine ZU (fun z => 0 ≤ z.2 /\ z.2 ≤ (D.length : Int) /\ ∃ E, IsM D.length z.1 (Zav D E) /\ FwI D.length (a3 X) (W * 2 ^ z.2.toNat) z.2 E /\ DeadR D E) (fun z => ((D.length : Int) - z.2).toNat) ?_ ⟨by simp, n0, E1, h1, by simpa using h2, h2d⟩
 rintro ⟨d, x⟩ ⟨x0, x1, E, h3, h4, h5⟩
 dsimp only at *
 have hpow : (2 : Int) ^ x.toNat ≤ 2 ^ 12 := by
  have : (2 : Nat) ^ x.toNat ≤ 2 ^ 12 := Nat.pow_le_pow_right (by decide) (by omega)
  exact_mod_cast this
 have hpow0 : (0 : Int) < 2 ^ x.toNat := Int.pow_pos (by decide)
 have hB : W * 2 ^ x.toNat ≤ 140737488355328 * 2 ^ 12 := Int.le_trans (Int.mul_le_mul_of_nonneg_right hW (by omega)) (Int.mul_le_mul_of_nonneg_left hpow (by omega))
 have hB2 : (140737488355328 : Int) * 2 ^ 12 ≤ 9000000000000000000 := by decide
 unfold Zax
 rw [hl, Zt]
 refine ⟨fun hx => ?_, fun hx => ?_⟩
 rotate_left
 ·simp only [Zd, Sum.elim_inr]
  have : x = (D.length : Int) := by omega
  subst this
  exact ⟨E, _, by omega, h3, h4⟩
 have hdl := h3.1
 have kk := h4.dia x x0 hx
 have hrng : ∀ i j, 0 ≤ i -> i < (D.length : Int) -> 0 ≤ j -> j < (D.length : Int) -> Zav D E i j = 18446744073709551615 ∨ (0 ≤ Zav D E i j /\ Zav D E i j ≤ W * 2 ^ x.toNat) := fun i j i0 i1 j0 j1 => by
  unfold Zav
  split
  ·exact .inl rfl
  ·exact h4.rng i j i0 i1 j0 j1
 have kk2 : Zav D E x x = 0 ∨ Zav D E x x = 18446744073709551615 := by
  unfold Zav
  split
  ·exact .inr rfl
  ·exact .inl kk
 refine Zl (fun r => IsM D.length r (thv (Zav D E) x)) ?_ ?_
 ·refine ZU (fun z => 0 ≤ z.2 /\ z.2 ≤ (D.length : Int) /\ IsM D.length z.1 fun a b => if a < z.2 then thv (Zav D E) x a b else Zav D E a b) (fun z => ((D.length : Int) - z.2).toNat) ?_ ⟨by simp, n0, h3.congr fun a b a0 _ _ _ => by (try dsimp only); rw [if_neg (by omega)]⟩
  rintro ⟨r, y⟩ ⟨y0, y1, hr⟩
  dsimp only at *
  unfold Zay
  rw [hdl, Zt]
  refine ⟨fun hy => ?_, fun hy => ?_⟩
  ·refine Zl _ (Zmt hrng kk2 (by omega) x0 hx (by omega) y0 hy hr) fun q hq => ?_
   simp only [T_G, Zd, Sum.elim_inl]
   exact ⟨by omega, ⟨by omega, by omega, hq⟩, by omega⟩
  ·simp only [Zd, Sum.elim_inr]
   exact hr.congr fun a b _ a1 _ _ => by (try dsimp only); rw [if_pos (by omega)]
 ·intro r hr
  simp only [T_G, Zd, Sum.elim_inl]
  refine ⟨by omega, ⟨by omega, by omega, thv E x, hr.congr fun i j i0 i1 j0 j1 => Zm0 (N := D.length) kk h5 (fun i j i0 i1 j0 j1 => by have := h4.rng i j i0 i1 j0 j1; omega) i0 i1 j0 j1, ?_, h5.next kk⟩, by omega⟩
  have := h4.next (by omega) x0 hx fun a hA => by
   obtain ⟨x', y', w'⟩ := a
   obtain ⟨b, hb, e1, e2, e3⟩ := Zek.1 hA
   obtain ⟨a1, a2, b3, b4, _⟩ := ok.en b hb
   dsimp only
   rw [← e1, ← e2]
   exact ⟨⟨a1, a2⟩, b3, b4⟩
  rw [show (x + 1).toNat = x.toNat + 1 from by omega, Int.pow_succ]
  have e : (W * (2 ^ x.toNat * 2) : Int) = W * 2 ^ x.toNat + W * 2 ^ x.toNat := by rw [← Int.mul_assoc]; omega
  rw [e]; exact this
theorem FwI.lowX {B : Int} (h : FwI N A B N E) (hb : B ≤ 9000000000000000000) (ha : ∀ a ∈ A, (0 ≤ a.1 /\ a.1 < N) /\ 0 ≤ a.2.1 /\ a.2.1 < N /\ 0 ≤ a.2.2 /\ a.2.2 ≤ 140737488355328) (i0 : 0 ≤ i) (i1 : i < N) {d : Int} (w : Wk A i j d) :
  (0 ≤ j /\ j < N) /\ (E i j ≤ d) /\ E i j ≠ 18446744073709551615 := by
 induction w with
 | refl => have := h.dia _ i0 i1; exact ⟨⟨i0, i1⟩, by omega, by omega⟩
 | step u e x w _ hm ih =>
  obtain ⟨⟨u0, u1⟩, h1, h2⟩ := ih
  obtain ⟨⟨_, _⟩, a3, a4, a5, a6⟩ := ha _ hm
  have h3 := h.arc _ hm
  dsimp only at *
  have r1 := h.rng _ x i0 i1 a3 a4
  have r2 := h.rng _ u i0 i1 u0 u1
  have r3 := h.rng u x u0 u1 a3 a4
  have := h.tri u u0 u1 _ x i0 i1 a3 a4 h2 (by omega)
  exact ⟨⟨a3, a4⟩, by omega, by omega⟩
end Go.Vd

/-! (OvE) -/

set_option linter.unusedVariables false
set_option linter.unusedSimpArgs false
set_option maxHeartbeats 1000000
namespace Go.Vd
variable {nodes nodes' : List Nod} {alive arcs : Int} {A : List Bool} {L : List OAr} {u v w wt via : Int}
inductive RemR (nodes : List Nod) (alive arcs : Int) (A : List Bool) (L : List OAr) (v : Int) : Er × List Nod × Int × Int -> Prop
 | bad : ¬ ZD A v -> RemR nodes alive arcs A L v (.no 7, nodes, alive, arcs)
 | ok (nodes' : List Nod) : ZD A v -> OvR nodes' (alive - 1) (arcs - (((Zz L v).length : Int) + (inL L v).length)) (A.set v.toNat false) (ZbQ L v) ->
   RemR nodes alive arcs A L v (.nil, nodes', alive - 1, arcs - (((Zz L v).length : Int) + (inL L v).length))
theorem Zng (h : OvR nodes alive arcs A L) (hv : ZD A v) : T (ZI (fun zz_ => Zae nodes v zz_.1 zz_.2) (nodes, 0)) fun o =>
  o.length = nodes.length /\ ∀ x, 0 ≤ x -> x < (nodes.length : Int) -> gt o x = ((gt nodes x).1, (gt nodes x).2.1, ZdA v (gt nodes x).2.2) ∨ (x = v /\ gt o x = gt nodes x) := by
 have hln := h.ln
 have hsm := h.sm
 have hv1 := hv.2.1
 have nv := h.nd v hv.1 hv.2.1
 have eo : (gt nodes v).2.1 = Zz L v := by rw [nv]
 have hol := h.outLen v
 refine ZU (fun z => z.1.length = nodes.length /\ 0 ≤ z.2 /\ z.2 ≤ ((Zz L v).length : Int) /\ ∀ x, 0 ≤ x -> x < (nodes.length : Int) -> (gt z.1 x).1 = (gt nodes x).1 /\ (gt z.1 x).2.1 = (gt nodes x).2.1 /\
   ((∃ k, 0 ≤ k /\ k < z.2 /\ (gt (Zz L v) k).1 = x) -> (gt z.1 x).2.2 = ZdA v (gt nodes x).2.2) /\ ((∀ k, 0 ≤ k -> k < z.2 -> (gt (Zz L v) k).1 ≠ x) -> (gt z.1 x).2.2 = (gt nodes x).2.2)) (fun z => (((Zz L v).length : Int) - z.2).toNat) ?_
  ⟨rfl, by simp, by simp, fun x _ _ => ⟨rfl, rfl, fun ⟨k, k0, k1, _⟩ => by dsimp only at k1; omega, fun _ => rfl⟩⟩
 rintro ⟨o, i⟩ ⟨ol, i0, i1, ho⟩
 dsimp only at *
 unfold Zae
 rw [eo, Zt]
 refine ⟨fun hlt => ?_, fun hge => ?_⟩
 ·have hm := ZeD i0 hlt
  obtain ⟨a1, a2, a3, a4, a5, a6, a7, _⟩ := h.en _ ((Z1 h.kd).1 hm)
  dsimp only at *
  obtain ⟨q1, q2, q3, q4⟩ := ho _ a3 (by omega)
  have nx := h.nd _ a3 a4
  have hnv : ∀ k, 0 ≤ k -> k < i -> (gt (Zz L v) k).1 ≠ (gt (Zz L v) i).1 := fun k k0 k1 => by have := (Zcg L v).gt k0 k1 hlt; omega
  have e2 := q4 hnv
  have hwo := Zh5 (l := (gt o (gt (Zz L v) i).1).2.2) (v := v) (by rw [e2, nx]; exact ZcL L _) (by rw [e2, nx]; exact h.inB _) (by rw [e2, nx]; exact h.inLen _) hv.1 (by omega)
  simp only [T_G]
  refine ⟨i0, ⟨a3, by omega⟩, fun e => a7 e.symm, ?_⟩
  rw [hwo, Option.bind_some]
  simp only [T_G, Zd, Sum.elim_inl]
  refine ⟨by omega, ⟨by simpa using ol, by omega, by omega, fun x x0 x1 => ?_⟩, by omega⟩
  rw [ZaF a3 (by omega) x0]
  by_cases e : x = (gt (Zz L v) i).1
  ·rw [if_pos e, e]
   refine ⟨q1, q2, fun _ => by rw [e2], fun hn => absurd rfl (hn i i0 (by omega))⟩
  ·rw [if_neg e]
   obtain ⟨r1, r2, r3, r4⟩ := ho x x0 x1
   refine ⟨r1, r2, fun ⟨k, k0, k1, ke⟩ => r3 ⟨k, k0, ?_, ke⟩, fun hn => r4 fun k k0 k1 => hn k k0 (by omega)⟩
   by_cases q : k = i
   ·rw [q] at ke; exact absurd ke.symm e
   ·omega
 ·simp only [Zd, Sum.elim_inr]
  refine ⟨ol, fun x x0 x1 => ?_⟩
  obtain ⟨r1, r2, r3, r4⟩ := ho x x0 x1
  by_cases hk : ∃ k, 0 ≤ k /\ k < i /\ (gt (Zz L v) k).1 = x
  ·exact .inl (Prod.ext r1 (Prod.ext r2 (r3 hk)))
  ·have e := r4 fun k k0 k1 ke => hk ⟨k, k0, k1, ke⟩
   refine .inl (Prod.ext r1 (Prod.ext r2 (e.trans ?_)))
   rw [h.nd x x0 (by omega)]
   refine (Zf2 fun y hy hyv => hk ?_).symm
   have hm := (Za1 h.kd).1 hy
   rw [hyv] at hm
   obtain ⟨k, k0, k1, ke⟩ := Zdb ((Z1 h.kd).2 hm)
   exact ⟨k, k0, by omega, by rw [← ke]⟩
theorem ZnA (h : OvR nodes alive arcs A L) (hv : ZD A v) {o1 : List Nod} (l1 : o1.length = nodes.length) (h1 : ∀ x, 0 ≤ x -> x < (nodes.length : Int) -> (gt o1 x).2.1 = (gt nodes x).2.1) : T (ZI (fun zz_ => Zaa nodes v zz_.1 zz_.2) (o1, 0)) fun o =>
  o.length = nodes.length /\ ∀ x, 0 ≤ x -> x < (nodes.length : Int) -> gt o x = ((gt o1 x).1, ZdA v (gt nodes x).2.1, (gt o1 x).2.2) := by
 have hln := h.ln
 have hsm := h.sm
 have hv1 := hv.2.1
 have nv := h.nd v hv.1 hv.2.1
 have eo : (gt nodes v).2.2 = inL L v := by rw [nv]
 have hol := h.inLen v
 refine ZU (fun z => z.1.length = nodes.length /\ 0 ≤ z.2 /\ z.2 ≤ ((inL L v).length : Int) /\ ∀ x, 0 ≤ x -> x < (nodes.length : Int) -> (gt z.1 x).1 = (gt o1 x).1 /\ (gt z.1 x).2.2 = (gt o1 x).2.2 /\
   ((∃ k, 0 ≤ k /\ k < z.2 /\ (gt (inL L v) k).1 = x) -> (gt z.1 x).2.1 = ZdA v (gt nodes x).2.1) /\ ((∀ k, 0 ≤ k -> k < z.2 -> (gt (inL L v) k).1 ≠ x) -> (gt z.1 x).2.1 = (gt nodes x).2.1)) (fun z => (((inL L v).length : Int) - z.2).toNat) ?_
  ⟨l1, by simp, by simp, fun x x0 x1 => ⟨rfl, rfl, fun ⟨k, k0, k1, _⟩ => by dsimp only at k1; omega, fun _ => h1 x x0 x1⟩⟩
 rintro ⟨o, i⟩ ⟨ol, i0, i1, ho⟩
 dsimp only at *
 unfold Zaa
 rw [eo, Zt]
 refine ⟨fun hlt => ?_, fun hge => ?_⟩
 ·have hm := ZeD i0 hlt
  obtain ⟨a1, a2, a3, a4, a5, a6, a7, _⟩ := h.en _ ((Za1 h.kd).1 hm)
  dsimp only at *
  obtain ⟨q1, q2, q3, q4⟩ := ho _ a1 (by omega)
  have nx := h.nd _ a1 a2
  have hnv : ∀ k, 0 ≤ k -> k < i -> (gt (inL L v) k).1 ≠ (gt (inL L v) i).1 := fun k k0 k1 => by have := (ZcL L v).gt k0 k1 hlt; omega
  have e2 := q4 hnv
  have hwo := Zh5 (l := (gt o (gt (inL L v) i).1).2.1) (v := v) (by rw [e2, nx]; exact Zcg L _) (by rw [e2, nx]; exact h.outB _) (by rw [e2, nx]; exact h.outLen _) hv.1 (by omega)
  simp only [T_G]
  refine ⟨i0, ⟨a1, by omega⟩, a7, ?_⟩
  rw [hwo, Option.bind_some]
  simp only [T_G, Zd, Sum.elim_inl]
  refine ⟨by omega, ⟨by simpa using ol, by omega, by omega, fun x x0 x1 => ?_⟩, by omega⟩
  rw [ZaF a1 (by omega) x0]
  by_cases e : x = (gt (inL L v) i).1
  ·rw [if_pos e, e]
   refine ⟨q1, q2, fun _ => by rw [e2], fun hn => absurd rfl (hn i i0 (by omega))⟩
  ·rw [if_neg e]
   obtain ⟨r1, r2, r3, r4⟩ := ho x x0 x1
   refine ⟨r1, r2, fun ⟨k, k0, k1, ke⟩ => r3 ⟨k, k0, ?_, ke⟩, fun hn => r4 fun k k0 k1 => hn k k0 (by omega)⟩
   by_cases q : k = i
   ·rw [q] at ke; exact absurd ke.symm e
   ·omega
 ·simp only [Zd, Sum.elim_inr]
  refine ⟨ol, fun x x0 x1 => ?_⟩
  obtain ⟨r1, r2, r3, r4⟩ := ho x x0 x1
  by_cases hk : ∃ k, 0 ≤ k /\ k < i /\ (gt (inL L v) k).1 = x
  ·exact Prod.ext r1 (Prod.ext (r3 hk) r2)
  ·have e := r4 fun k k0 k1 ke => hk ⟨k, k0, k1, ke⟩
   refine Prod.ext r1 (Prod.ext (e.trans ?_) r2)
   rw [h.nd x x0 (by omega)]
   refine (Zf2 fun y hy hyv => hk ?_).symm
   have hm := (Z1 h.kd).1 hy
   have hm' : (x, v, y.2) ∈ L := by rw [← hyv]; exact hm
   obtain ⟨k, k0, k1, ke⟩ := Zdb ((Za1 (x := (x, y.2)) h.kd).2 hm')
   exact ⟨k, k0, by omega, by rw [← ke]⟩
theorem ZlH (h : OvR nodes alive arcs A L) : T (ZaR nodes alive arcs v) (RemR nodes alive arcs A L v) := by
 unfold ZaR
 rw [Zdt h, Option.bind_some]
 by_cases hv : ZD A v
 ·rw [decide_eq_true hv, if_neg (by decide)]
  have hln := h.ln
  have hv1 := hv.2.1
  have nv := h.nd v hv.1 hv1
  have hsm := h.sm
  have har := h.ar
  have hal := h.al
  have hlb := h.lb
  have ho := h.outLen v
  have hi := h.inLen v
  have hfl : (A.filter id).length ≤ A.length := List.length_filter_le _ _
  simp only [T_G]
  refine ⟨⟨hv.1, by omega⟩, ?_⟩
  refine Zl _ (Zng h hv) ?_
  rintro o1 ⟨l1, e1⟩
  refine Zl _ (ZnA h hv l1 fun x x0 x1 => ?_) ?_
  ·rcases e1 x x0 x1 with e | ⟨_, e⟩ <;> rw [e]
  rintro o2 ⟨l2, e2⟩
  have x1 : (gt nodes v).2.1 = Zz L v := by rw [nv]
  have x2 : (gt nodes v).2.2 = inL L v := by rw [nv]
  rw [x1, x2]
  simp only [T_G, Zd]
  refine ⟨by omega, by omega, by omega, by omega, .ok _ hv (h.rem hv.1 hv1 hv.2.2 (by rw [List.length_set, l2]) fun x x0 x1 => ?_)⟩
  rw [ZaF hv.1 (by omega) x0]
  by_cases q : x = v
  ·rw [if_pos q, if_pos q]
  ·rw [if_neg q, if_neg q, e2 x x0 (by omega)]
   rcases e1 x x0 (by omega) with e | ⟨e, _⟩
   ·rw [e]
   ·exact absurd e q
 ·rw [decide_eq_false hv, if_pos (by decide)]
  simp only [Zd]
  exact .bad hv
inductive NewR (N : Int) (Arcs : List A3) : Er ⊕ (List Nod × Int × Int) -> Prop
 | bad (er : Er) : GChk N Arcs er -> er ≠ .nil -> NewR N Arcs (.inl er)
 | ok (M : List A3) (nodes : List Nod) : GChk N Arcs .nil -> Nrm Arcs M -> M.length ≤ Arcs.length -> OvR nodes N (M.length : Int) (List.replicate N.toNat true) (M.map up4) -> NewR N Arcs (.inr (nodes, N, (M.length : Int)))
theorem Zfg {n : Nat} {x : Int} (x0 : 0 ≤ x) (x1 : x < (n : Int)) {E : Type} [Inhabited E] {e : E} : gt (List.replicate n e) x = e := by
 unfold gt
 rw [List.getD_eq_getElem?_getD, List.getElem?_replicate, if_pos (by omega)]; rfl
theorem p_New {N : Int} {Arcs : List A3} : T (Zc9 N Arcs) (NewR N Arcs) := by
 unfold Zc9
 refine Zl _ p_Of ?_
 rintro ⟨n, M, er⟩ hO
 dsimp only at *
 cases hO with
 | bad _ hc hne => rw [if_neg hne]; simp only [Zd]; exact .bad er hc hne
 | ok _ hc hM hMl =>
  rw [if_pos rfl]
  obtain ⟨n0, n1, n2⟩ := hc.small
  have hb : ∀ a ∈ M, 0 ≤ a.1 /\ a.1 < N /\ 0 ≤ a.2.1 /\ a.2.1 < N /\ 0 ≤ a.2.2 /\ a.2.2 ≤ 2147483647 /\ a.1 ≠ a.2.1 := fun a ha => by
   obtain ⟨s1, s2, _⟩ := hM.sub a ha
   have := hc.arcs a s1
   omega
  simp only [T_G]
  refine ⟨by omega, ?_⟩
  have hinc : ∀ i j : Int, 0 ≤ i -> i < j -> j < (M.length : Int) -> ltk (gt M i) (gt M j) := fun i j i0 ij j1 => by
   have := List.pairwise_iff_getElem.1 hM.inc i.toNat j.toNat (by omega) (by omega) (by omega)
   have e : ∀ {n : Int}, 0 ≤ n -> (h : n < (M.length : Int)) -> gt M n = M[n.toNat]'(by omega) := fun {n} q0 q1 => by
    unfold gt
    rw [List.getD_eq_getElem?_getD, List.getElem?_eq_getElem (by omega)]; rfl
   rw [e i0 (by omega), e (by omega) j1]; exact this
  refine Zl (fun o => o.length = N.toNat /\ ∀ x, 0 ≤ x -> x < N -> gt o x = (false, Zz (M.map up4) x, inL (M.map up4) x)) ?_ ?_
  ·refine ZU (fun z => 0 ≤ z.1 /\ z.1 ≤ (M.length : Int) /\ z.2.length = N.toNat /\ ∀ x, 0 ≤ x -> x < N -> gt z.2 x = (false, Zz ((M.take z.1.toNat).map up4) x, inL ((M.take z.1.toNat).map up4) x)) (fun z => ((M.length : Int) - z.1).toNat) ?_
    ⟨by simp, by simp, by simp, fun x x0 x1 => by rw [Zfg x0 (by omega)]; rfl⟩
   rintro ⟨i, o⟩ ⟨i0, i1, ol, ho⟩
   dsimp only at *
   unfold Zcx
   dsimp only
   rw [Zt]
   refine ⟨fun hlt => ?_, fun hge => ?_⟩
   ·have hm : gt M i ∈ M := by
     unfold gt
     rw [List.getD_eq_getElem?_getD, List.getElem?_eq_getElem (by omega)]
     exact List.getElem_mem _
    obtain ⟨b1, b2, b3, b4, b5, b6, b7⟩ := hb _ hm
    have hkd : KD ((M.take i.toNat).map up4) := KD.up (hM.inc.sublist (List.take_sublist _ _))
    have lt1 : (Zz ((M.take i.toNat).map up4) (gt M i).1).length ≤ 262144 := by
     have := ZhP hkd (gt M i).1
     rw [List.length_map, List.length_take] at this; omega
    have lt2 : (inL ((M.take i.toNat).map up4) (gt M i).2.1).length ≤ 262144 := by
     have := ZiZ hkd (gt M i).2.1
     rw [List.length_map, List.length_take] at this; omega
    have hprev : ∀ a ∈ (M.take i.toNat).map up4, a.1 < (gt M i).1 ∨ (a.1 = (gt M i).1 /\ a.2.1 < (gt M i).2.1) := fun a ha => by
     obtain ⟨b, hb, rfl⟩ := List.mem_map.1 ha
     obtain ⟨j, j0, j1, rfl⟩ := Zfa (l := M) i1 hb
     exact hinc j i j0 j1 hlt
    have eu := ho (gt M i).1 b1 b2
    have ew := ho (gt M i).2.1 b3 b4
    have hs : ∀ (z : Nod), gt (o.set ((gt M i).1).toNat z) (gt M i).2.1 = gt o (gt M i).2.1 := fun z => by rw [ZaF b1 (by omega) b3, if_neg (fun e => b7 e.symm)]
    simp only [T_G, Zd, Sum.elim_inl, List.length_set, hs, eu, ew]
    refine ⟨i0, ⟨b1, by omega⟩, ⟨b5, by omega⟩, by omega, ⟨b3, by omega⟩, by omega, by omega, by omega, ⟨by omega, by omega, by simpa using ol, fun x x0 x1 => ?_⟩, by omega⟩
    have hnext : (M.take (i + 1).toNat).map up4 = (M.take i.toNat).map up4 ++ [up4 (gt M i)] := by rw [Za9 i0 hlt, List.map_append]; rfl
    rw [hnext, Zh1, ZiT, ZaF b3 (by rw [List.length_set]; omega) x0, ZaF b1 (by omega) x0, ho x x0 x1]
    show _ = (false, (if x = (gt M i).1 then Zcm ((gt M i).2.1, (gt M i).2.2, -1) _ else _), (if x = (gt M i).2.1 then Zcm ((gt M i).1, (gt M i).2.2, -1) _ else _))
    by_cases q : x = (gt M i).2.1
    ·have q2 : ¬ x = (gt M i).1 := fun e => b7 (e.symm.trans q)
     rw [if_pos q, if_neg q2, if_pos q, ← q]
     rw [ZiV fun y hy => ?_]
     have := hprev _ ((Za1 hkd).1 hy)
     dsimp only at this ⊢
     omega
    ·rw [if_neg q, if_neg q]
     by_cases q2 : x = (gt M i).1
     ·rw [if_pos q2, if_pos q2, ← q2]
      rw [ZiV fun y hy => ?_]
      have := hprev _ ((Z1 hkd).1 hy)
      dsimp only at this ⊢
      omega
     ·rw [if_neg q2, if_neg q2]
   ·simp only [Zd, Sum.elim_inr]
    refine ⟨ol, fun x x0 x1 => ?_⟩
    rw [ho x x0 x1, List.take_of_length_le (by omega)]
  ·rintro o ⟨ol, ho⟩
   simp only [Zd]
   refine .ok M o hc hM hMl ⟨by rw [ol, List.length_replicate], by rw [List.length_replicate]; omega, KD.up hM.inc, fun a ha => ?_, fun x x0 x1 => ?_, ?_, by rw [List.length_map], by rw [List.length_map]; omega⟩
   ·obtain ⟨b, hb', rfl⟩ := List.mem_map.1 ha
    obtain ⟨b1, b2, b3, b4, b5, b6, b7⟩ := hb b hb'
    have hl : ((List.replicate N.toNat true).length : Int) = N := by rw [List.length_replicate]; omega
    rw [hl]
    show 0 ≤ b.1 /\ b.1 < N /\ 0 ≤ b.2.1 /\ b.2.1 < N /\ gt _ b.1 = true /\ gt _ b.2.1 = true /\ b.1 ≠ b.2.1 /\ 0 ≤ b.2.2 /\ b.2.2 ≤ _ /\ -1 ≤ (-1 : Int) /\ (-1 : Int) < N
    exact ⟨b1, b2, b3, b4, Zfg b1 (by omega), Zfg b3 (by omega), b7, b5, by omega, by omega, by omega⟩
   ·rw [List.length_replicate] at x1
    rw [ho x x0 (by omega), Zfg x0 (by omega)]; rfl
   ·rw [List.filter_eq_self.2 fun x hx => by rw [(List.mem_replicate.1 hx).2]; rfl, List.length_replicate]; omega
end Go.Vd

/-! (OvF) -/

set_option linter.unusedVariables false
set_option linter.unusedSimpArgs false
set_option maxHeartbeats 1000000
namespace Go.Vd
variable {l : List Hf} {L : List OAr} {B : List Bool} {v wt via N : Int} {A M : List A3}
theorem Znk (n0 : 0 ≤ N) (n1 : N ≤ 65536) (hM : M.length ≤ 262144) (hw : ∀ a ∈ M, 0 ≤ a.2.2 /\ a.2.2 ≤ 2147483647) : Zb3 N M = some (List.replicate N.toNat true, M.map up4) := by
 refine Zeq.1 ?_
 unfold Zb3
 rw [T_G]
 refine ⟨by omega, ?_⟩
 refine Zl (fun o => o = List.replicate N.toNat true) ?_ ?_
 ·refine ZU (fun z => 0 ≤ z.1 /\ z.1 ≤ N /\ z.2.length = N.toNat /\ ∀ j, 0 ≤ j -> j < z.1 -> gt z.2 j = true) (fun z => (N - z.1).toNat) ?_ ⟨by simp, by simp; exact n0, by simp, fun j j0 j1 => by dsimp only at j1; omega⟩
  rintro ⟨i, o⟩ ⟨i0, i1, ol, h⟩
  dsimp only at *
  unfold Zbd
  rw [List.length_replicate, Zt]
  refine ⟨fun hlt => ?_, fun hge => ?_⟩
  ·simp only [T_G, Zd, Sum.elim_inl]
   refine ⟨⟨i0, by omega⟩, by omega, ⟨by omega, by omega, by simpa using ol, fun j j0 j1 => ?_⟩, by omega⟩
   rw [ZaF i0 (by omega) j0]
   by_cases q : j = i
   ·rw [if_pos q]
   ·rw [if_neg q]; exact h j j0 (by omega)
  ·simp only [Zd, Sum.elim_inr]
   refine Zl8 (by rw [ol, List.length_replicate]) fun j j0 j1 => ?_
   rw [h j j0 (by omega), Zfg j0 (by omega)]
 ·rintro _ rfl
  refine Zl (fun o => o = M.map up4) ?_ fun o e => by simp only [Zd]; rw [e]
  refine ZU (fun z => 0 ≤ z.1 /\ z.1 ≤ (M.length : Int) /\ z.2 = (M.take z.1.toNat).map up4) (fun z => ((M.length : Int) - z.1).toNat) ?_ ⟨by simp, by simp, rfl⟩
  rintro ⟨i, o⟩ ⟨i0, i1, e⟩
  dsimp only at *
  subst e
  unfold Zbf
  rw [Zt]
  refine ⟨fun hlt => ?_, fun hge => by simp only [Zd, Sum.elim_inr]; rw [List.take_of_length_le (by omega)]⟩
  have hm : gt M i ∈ M := by
   unfold gt
   rw [List.getD_eq_getElem?_getD, List.getElem?_eq_getElem (by omega)]
   exact List.getElem_mem _
  have hb := hw _ hm
  simp only [T_G, Zd, Sum.elim_inl, List.length_map, List.length_take]
  refine ⟨i0, by omega, by omega, by omega, ⟨by omega, by omega, ?_⟩, by omega⟩
  rw [Za9 i0 hlt, List.map_append]; rfl
theorem ZlG (hc : GChk N A .nil) : T (Zbj N A) fun r => ∃ M, Nrm A M /\ M.length ≤ A.length /\ r = (List.replicate N.toNat true, M.map up4, 0, []) := by
 unfold Zbj
 obtain ⟨n0, n1, n2⟩ := hc.small
 refine Zl _ ZlZ ?_
 rintro ⟨n, M, c, ps⟩ ⟨er, hO, e1, e2⟩
 dsimp only at *
 cases hO with
 | bad _ c n => exact absurd (c.uniq hc) n
 | ok _ _ hM hl =>
  subst e1; subst e2
  rw [Ziw, Option.bind_some, if_neg (by simp [Er.code, Er.pls]), Znk n0 n1 (by omega) (fun a ha => by have := hc.arcs a (hM.sub a ha).1; omega), Option.bind_some]
  simp only [Zd]
  exact ⟨M, hM, hl, rfl⟩
end Go.Vd

/-! (OvG) -/

set_option linter.unusedVariables false
set_option linter.unusedSimpArgs false
set_option maxHeartbeats 1000000
namespace Go.Vd
variable {L : List OAr} {A : List Bool} {u v w wt via : Int}
theorem ZgE : Z6 A L v = some (decide (ZD A v)) := by
 unfold Z6 ZD
 by_cases h0 : v ≥ 0
 ·rw [if_pos h0]
  by_cases h1 : v < (A.length : Int)
  ·rw [if_pos h1]
   unfold G
   rw [if_pos h0]
   congr 1
   have h0' : 0 ≤ v := h0
   rw [Bool.eq_iff_iff]; simp [h0', h1]
  ·rw [if_neg h1]; simp [h1]
 ·rw [if_neg h0]
  have : ¬ 0 ≤ v := h0
  simp [this]
theorem ZlC : Zbs A L u w wt via = some (ZdT A u w wt via) := by
 unfold Zbs ZdT
 rw [ZgE, Option.bind_some]
 have e1 : ((if decide (ZD A u) = true then ((Z6 A L w).bind fun y37 => some (!y37)) else (some true)) : Option Bool) = some (decide (¬ (ZD A u /\ ZD A w))) := by
  by_cases hu : ZD A u
  ·rw [decide_eq_true hu, if_pos rfl, ZgE, Option.bind_some]
   by_cases hw : ZD A w <;> simp [hu, hw]
  ·rw [decide_eq_false hu, if_neg (by decide)]; simp [hu]
 rw [e1, Option.bind_some]
 by_cases hl : ¬ (ZD A u /\ ZD A w)
 ·rw [if_pos (decide_eq_true hl), if_pos hl]; rfl
 rw [if_neg (by simpa using hl), if_neg hl]
 by_cases huw : u = w
 ·rw [if_pos huw, if_pos huw]; rfl
 rw [if_neg huw, if_neg huw]
 by_cases hwt : wt > 140737488355328
 ·rw [if_pos hwt, if_pos hwt]; rfl
 rw [if_neg hwt, if_neg hwt]
 have e2 : ((if via = (-1) then (some false) else (if via < 0 then (some true) else (if via ≥ (A.length : Int) then (some true) else (G (0 ≤ via /\ via < (A.length : Int)) (some (gt A via)))))) : Option Bool) = some (decide (via < -1 ∨ (A.length : Int) ≤ via ∨ (0 ≤ via /\ ZD A via))) := by
  by_cases q1 : via = -1
  ·rw [if_pos q1]
   have a1 : ¬ via < -1 := by omega
   have a2 : ¬ (A.length : Int) ≤ via := by omega
   have a3 : ¬ 0 ≤ via := by omega
   simp [a1, a2, a3]
  rw [if_neg q1]
  by_cases q2 : via < 0
  ·rw [if_pos q2]
   have a1 : via < -1 := by omega
   simp [a1]
  rw [if_neg q2]
  by_cases q3 : via ≥ (A.length : Int)
  ·rw [if_pos q3]
   have a1 : (A.length : Int) ≤ via := q3
   simp [a1]
  rw [if_neg q3]
  unfold G
  rw [if_pos ⟨by omega, by omega⟩]
  congr 1
  have a1 : ¬ via < -1 := by omega
  have a2 : ¬ (A.length : Int) ≤ via := q3
  have a3 : 0 ≤ via := by omega
  have a4 : via < (A.length : Int) := by omega
  rw [Bool.eq_iff_iff]; simp [ZD, a1, a2, a3, a4]
 rw [e2, Option.bind_some]
 by_cases hv : via < -1 ∨ (A.length : Int) ≤ via ∨ (0 ≤ via /\ ZD A via)
 ·rw [if_pos (decide_eq_true hv), if_pos hv]; rfl
 ·rw [if_neg (by simpa using hv), if_neg hv]
theorem ZjP (hl : L.length ≤ 1000000) : T (Zb6 A L u w wt via) fun r => ((∃ a ∈ L, a.1 = u /\ a.2.1 = w /\ a.2.2.1 ≤ wt) /\ r = (L, false)) ∨ ((∀ a ∈ L, a.1 = u -> a.2.1 = w -> wt < a.2.2.1) /\ r = (ZeS L (u, w, wt, via), true)) := by
 unfold Zb6
 refine Zdm (fun p => p = L.filter (fun x => decide (¬ (x.1 = u /\ x.2.1 = w))) /\ ∀ a ∈ L, a.1 = u -> a.2.1 = w -> wt < a.2.2.1) ?_ ?_
 ·refine ZU (fun z => 0 ≤ z.1 /\ z.1 ≤ (L.length : Int) /\ z.2 = (L.take z.1.toNat).filter (fun x => decide (¬ (x.1 = u /\ x.2.1 = w))) /\ ∀ a ∈ L.take z.1.toNat, a.1 = u -> a.2.1 = w -> wt < a.2.2.1) (fun z => ((L.length : Int) - z.1).toNat) ?_ ⟨by simp, by simp, rfl, fun a ha => by simp at ha⟩
  rintro ⟨i, p⟩ ⟨i0, i1, e, h⟩
  dsimp only at *
  subst e
  unfold Zbn
  rw [Zt]
  refine ⟨fun hlt => ?_, fun hge => ?_⟩
  ·have hm : gt L i ∈ L := by
    unfold gt
    rw [List.getD_eq_getElem?_getD, List.getElem?_eq_getElem (by omega)]
    exact List.getElem_mem _
   have hs := Za9 i0 hlt
   have hf : ((L.take i.toNat).filter (fun x => decide (¬ (x.1 = u /\ x.2.1 = w)))).length ≤ L.length := Nat.le_trans (List.length_filter_le _ _) (by rw [List.length_take]; omega)
   rw [T_G]
   refine ⟨i0, ?_⟩
   refine Zl (fun b => b = decide ((gt L i).1 = u /\ (gt L i).2.1 = w)) ?_ ?_
   ·by_cases q : (gt L i).1 = u <;> simp [q]
   ·rintro _ rfl
    rw [Zt]
    refine ⟨fun hk => ?_, fun hk => ?_⟩
    ·have hk' := of_decide_eq_true hk
     rw [Zt]
     refine ⟨fun hle => ?_, fun hle => ?_⟩
     ·simp only [Zd1, Zd, Sum.elim_inr, Sum.elim_inl]
      exact .inl ⟨⟨_, hm, hk'.1, hk'.2, hle⟩, trivial⟩
     ·simp only [T_G, Zd, Sum.elim_inl]
      refine ⟨by omega, ⟨by omega, by omega, ?_, fun a ha => ?_⟩, by omega⟩
      ·rw [hs, List.filter_append, List.filter_cons, if_neg (by simp [hk'.1, hk'.2])]; simp
      ·rw [hs] at ha
       rcases List.mem_append.1 ha with ha | ha
       ·exact h a ha
       ·rw [List.mem_singleton.1 ha]; exact fun _ _ => by omega
    ·have hk' : ¬ ((gt L i).1 = u /\ (gt L i).2.1 = w) := fun e => hk (decide_eq_true e)
     simp only [T_G, Zd, Sum.elim_inl]
     refine ⟨by omega, by omega, ⟨by omega, by omega, ?_, fun a ha => ?_⟩, by omega⟩
     ·rw [hs, List.filter_append, List.filter_cons, if_pos (decide_eq_true hk')]; simp
     ·rw [hs] at ha
      rcases List.mem_append.1 ha with ha | ha
      ·exact h a ha
      ·rw [List.mem_singleton.1 ha]; exact fun e1 e2 => absurd ⟨e1, e2⟩ hk'
  ·simp only [Zd, Sum.elim_inr]
   have e : L.take i.toNat = L := List.take_of_length_le (by omega)
   rw [e] at h ⊢
   exact ⟨rfl, h⟩
 ·rintro p ⟨rfl, h⟩
  have hf : (L.filter (fun x => decide (¬ (x.1 = u /\ x.2.1 = w)))).length ≤ L.length := List.length_filter_le _ _
  simp only [T_G, Zd]
  exact ⟨by omega, .inr ⟨h, rfl⟩⟩
theorem Zia (hl : L.length ≤ 1000000) (hA : A.length ≤ 65536) (hv : ZD A v) : ZaK A L v = some (A.set v.toNat false, ZbQ L v) := by
 refine Zeq.1 ?_
 unfold ZaK
 have hv1 := hv.2.1
 simp only [T_G, List.nil_append]
 refine ⟨by omega, ⟨hv.1, hv1⟩, ?_⟩
 refine Zl (fun p => p = ZbQ L v) ?_ fun p e => by simp only [Zd]; rw [e]
 refine ZU (fun z => 0 ≤ z.1 /\ z.1 ≤ (L.length : Int) /\ z.2 = ZbQ (L.take z.1.toNat) v) (fun z => ((L.length : Int) - z.1).toNat) ?_ ⟨by simp, by simp, rfl⟩
 rintro ⟨i, p⟩ ⟨i0, i1, e⟩
 dsimp only at *
 subst e
 unfold ZaO
 rw [Zt]
 refine ⟨fun hlt => ?_, fun hge => by simp only [Zd, Sum.elim_inr]; rw [List.take_of_length_le (by omega)]⟩
 have hs := Za9 i0 hlt
 have hf : (ZbQ (L.take i.toNat) v).length ≤ L.length := Nat.le_trans (List.length_filter_le _ _) (by rw [List.length_take]; omega)
 rw [T_G]
 refine ⟨i0, ?_⟩
 refine Zl (fun b => b = decide ((gt L i).1 ≠ v /\ (gt L i).2.1 ≠ v)) ?_ ?_
 ·by_cases q : (gt L i).1 = v <;> simp [q]
 ·rintro _ rfl
  rw [Zt]
  refine ⟨fun hk => ?_, fun hk => ?_⟩
  ·simp only [T_G, Zd, Sum.elim_inl]
   refine ⟨by omega, by omega, ⟨by omega, by omega, ?_⟩, by omega⟩
   rw [hs]; unfold ZbQ
   rw [List.filter_append, List.filter_cons, if_pos hk]; rfl
  ·simp only [T_G, Zd, Sum.elim_inl]
   refine ⟨by omega, ⟨by omega, by omega, ?_⟩, by omega⟩
   rw [hs]; unfold ZbQ
   rw [List.filter_append, List.filter_cons, if_neg hk]; simp
end Go.Vd

/-! (Ld13) -/

set_option linter.unusedVariables false
set_option linter.unusedSimpArgs false
set_option maxHeartbeats 1000000
namespace Go.Vd
variable {nodes : List Nod} {alive arcs : Int} {A : List Bool} {L : List OAr} {N : Int} {Arcs : List A3}
abbrev Stp := Int × Int × Int × Int × Int
abbrev ZkJ (script : List Stp) : Prop := ∀ x ∈ script, (0 ≤ x.1 /\ x.1 ≤ 255) /\ (-9223372036854775808 ≤ x.2.1 /\ x.2.1 ≤ 9223372036854775807) /\ (-9223372036854775808 ≤ x.2.2.1 /\ x.2.2.1 ≤ 9223372036854775807) /\ (0 ≤ x.2.2.2.1 /\ x.2.2.2.1 ≤ 18446744073709551615) /\ (-9223372036854775808 ≤ x.2.2.2.2 /\ x.2.2.2.2 ≤ 9223372036854775807)
def LdR (n : Nat) (r : List Nod × Int × Int × List Bool × List OAr) : Prop := OvR r.1 r.2.1 r.2.2.1 r.2.2.2.1 r.2.2.2.2 /\ r.2.2.2.2.length ≤ 2060 /\ r.2.2.2.1.length = n
theorem ZmF {script : List Stp} (hs : ZkJ script) (hl : (script.length : Int) ≤ 60) (h : OvR nodes alive arcs A L) (hb : L.length ≤ 2000) :
  T (ZI (fun zz_ => ZaE script zz_.1 zz_.2.1 zz_.2.2.1 zz_.2.2.2.1 zz_.2.2.2.2.1 zz_.2.2.2.2.2) (0, nodes, alive, arcs, A, L)) (LdR A.length) := by
 refine ZU (fun z => 0 ≤ z.1 /\ z.1 ≤ (script.length : Int) /\ OvR z.2.1 z.2.2.1 z.2.2.2.1 z.2.2.2.2.1 z.2.2.2.2.2 /\ (z.2.2.2.2.2.length : Int) ≤ 2000 + z.1 /\ z.2.2.2.2.1.length = A.length) (fun z => ((script.length : Int) - z.1).toNat) ?_ ⟨by simp, by simp, h, by simp; omega, rfl⟩
 rintro ⟨i, o, al, ar, B, M⟩ ⟨i0, i1, ho, hM, hB⟩
 dsimp only at *
 clear h hb
 unfold ZaE
 rw [Zt]
 refine ⟨fun hlt => ?_, fun hge => ?_⟩
 rotate_left
 ·simp only [Zd, Sum.elim_inr]
  exact ⟨ho, by dsimp only; omega, hB⟩
 have hm : gt script i ∈ script := by
  unfold gt
  rw [List.getD_eq_getElem?_getD, List.getElem?_eq_getElem (by omega)]
  exact List.getElem_mem _
 obtain ⟨_, b1, b2, b3, b4⟩ := hs _ hm
 generalize gt script i = st at *
 obtain ⟨kd, u, w, wt, via⟩ := st
 dsimp only at *
 rw [T_G]
 refine ⟨i0, ?_⟩
 refine Zl (fun r => OvR r.1 al r.2.1 B r.2.2 /\ (r.2.2.length : Int) ≤ 2000 + (i + 1)) ?_ ?_
 ·rw [Zt]
  refine ⟨fun _ => ?_, fun _ => ?_⟩
  ·have hlb := ho.lb
   refine Zl _ (ZnB (u := u) (via := via) ho (by omega) b2.1 b2.2 b3.1) ?_
   intro r hr
   rw [ZlC, Option.bind_some, Ziw, Option.bind_some]
   cases hr with
   | bad hn =>
    rw [if_neg (by simp [hn])]
    simp only [Zd]
    exact ⟨ho, by omega⟩
   | less a hc a1 a2 a3 a4 =>
    rw [hc, if_pos (by simp)]
    refine Zl _ (ZjP hlb) ?_
    rintro r (⟨_, rfl⟩ | ⟨hn, rfl⟩)
    ·simp only [Zd]
     exact ⟨ho, by omega⟩
    ·have := hn a a1 a2 a3; omega
   | put o' ar' hc hless h2 =>
    have hpl := Zj2 ho.kd (u, w, wt, via)
    have hpl2 : (ZeS M (u, w, wt, via)).length ≤ M.length + 1 := by rw [hpl]; split <;> omega
    rw [hc, if_pos (by simp)]
    refine Zl _ (ZjP hlb) ?_
    rintro r (⟨⟨a, a1, a2, a3, a4⟩, rfl⟩ | ⟨hn, rfl⟩)
    ·have := hless a a1 a2 a3; omega
    ·simp only [Zd]
     exact ⟨h2, by omega⟩
  ·simp only [Zd]
   exact ⟨ho, by omega⟩
 ·rintro ⟨o1, ar1, M1⟩ ⟨h1, l1⟩
  dsimp only at *
  rw [Zt]
  refine ⟨fun _ => ?_, fun _ => ?_⟩
  ·refine Zl _ (ZlH (v := u) h1) ?_
   intro r hr
   rw [ZgE, Option.bind_some]
   cases hr with
   | bad hn =>
    rw [decide_eq_false hn, if_neg (by decide)]
    simp only [T_G, Zd, Sum.elim_inl]
    exact ⟨by omega, ⟨by omega, by omega, h1, by omega, hB⟩, by omega⟩
   | ok o' hv h' =>
    have hrl : (ZbQ M1 u).length ≤ M1.length := List.length_filter_le _ _
    rw [decide_eq_true hv, if_pos rfl, Zia h1.lb h1.sm hv, Option.bind_some]
    simp only [T_G, Zd, Sum.elim_inl]
    exact ⟨by omega, ⟨by omega, by omega, h', by omega, by rw [List.length_set]; exact hB⟩, by omega⟩
  ·simp only [T_G, Zd, Sum.elim_inl]
   exact ⟨by omega, ⟨by omega, by omega, h1, by omega, hB⟩, by omega⟩
theorem Zmx {script : List Stp} (hs : ZkJ script) : T (ZbO N Arcs script) fun r => r = .inl () ∨ (GChk N Arcs .nil /\ N ≤ 12 /\ ∃ y, r = .inr y /\ LdR N.toNat y) := by
 unfold ZbO
 refine Zl (fun b => b = false -> (GChk N Arcs .nil /\ N ≤ 12 /\ (Arcs.length : Int) ≤ 2000) /\ (script.length : Int) ≤ 60) ?_ ?_
 ·refine Zl _ p_Few fun f hf => ?_
  rw [Zt]
  refine ⟨fun h => ?_, fun h => ?_⟩
  ·simp only [Zd]
   intro hd
   exact ⟨hf.1 h, by simpa using hd⟩
  ·simp only [Zd]
   intro hd; cases hd
 ·intro b hb
  rw [Zt]
  refine ⟨fun _ => by simp, fun hb' => ?_⟩
  obtain ⟨⟨hc, hN, ha⟩, hl⟩ := hb (by simpa using hb')
  refine Zl _ p_New ?_
  intro r hr
  cases hr with
  | bad er c n => exact absurd (c.uniq hc) n
  | ok M nodes _ k l h =>
   rw [Sum.elim_inr]
   refine Zl _ (ZlG hc) ?_
   rintro r ⟨M', k', l', rfl⟩
   obtain rfl := k.uniq k'
   dsimp only
   refine Zl _ (ZmF hs hl h (by rw [List.length_map]; omega)) ?_
   rintro ⟨a1, a2, a3, a4, a5⟩ hL
   simp only [Zd]
   refine .inr ⟨hc, hN, _, rfl, ?_⟩
   rw [List.length_replicate] at hL
   exact hL
end Go.Vd

/-! (OvO) -/

set_option linter.unusedVariables false
set_option linter.unusedSimpArgs false
set_option maxHeartbeats 1000000
namespace Go.Vd
variable {l : List Hf} {L : List OAr} {B : List Bool} {v wt via N : Int} {A M : List A3}
theorem ZkY (hr : Ris l) (hn : ∀ x ∈ l, x.1 ≠ v) (hl : l.length ≤ 1000000) : Zbe l v wt via = some (Zcm (v, wt, via) l) := by
 refine Zeq.1 ?_
 unfold Zbe
 refine Zl (fun p => 0 ≤ p /\ p ≤ (l.length : Int) /\ (∀ j, 0 ≤ j -> j < p -> (gt l j).1 < v) /\ (p < (l.length : Int) -> ¬ (gt l p).1 < v)) ?_ ?_
 ·refine ZU (fun i => 0 ≤ i /\ i ≤ (l.length : Int) /\ ∀ j, 0 ≤ j -> j < i -> (gt l j).1 < v) (fun i => ((l.length : Int) - i).toNat) ?_ ⟨by simp, by simp, fun j j0 j1 => by omega⟩
  rintro i ⟨i0, i1, h⟩
  unfold Zbr
  simp only [Zt, T_G, Zd, Sum.elim_inl, Sum.elim_inr]
  refine ⟨fun hlt => ⟨i0, fun hc => ⟨by omega, ⟨by omega, by omega, fun j j0 j1 => ?_⟩, by omega⟩, fun hc => ⟨i0, i1, h, fun _ => hc⟩⟩, fun hge => ⟨i0, i1, h, fun h => absurd h hge⟩⟩
  by_cases q : j = i
  ·rw [q]; exact hc
  ·exact h j j0 (by omega)
 ·rintro p ⟨p0, p1, h1, h2⟩
  have e : Zcm (v, wt, via) l = l.take p.toNat ++ ([(v, wt, via)] ++ l.drop p.toNat) := by
   conv => lhs; rw [show l = l.take p.toNat ++ ([] ++ l.drop p.toNat) by simp]
   refine Zhj (fun x hx => ?_) (fun x hx => by cases hx) (fun x hx => ?_)
   ·obtain ⟨j, j0, j1, rfl⟩ := Zfa p1 hx
    exact h1 j j0 j1
   ·obtain ⟨j, j0, j1, rfl⟩ := Ze3 p0 hx
    have a := h2 (by omega)
    have b := hn _ (ZeD (i := j) (by omega) j1)
    show v < (gt l j).1
    by_cases q : j = p
    ·rw [q] at b ⊢; omega
    ·have := hr.gt p0 (show p < j by omega) j1; omega
  rw [e]
  have t1 : (l.take p.toNat).length ≤ l.length := by rw [List.length_take]; omega
  have t2 : (l.drop p.toNat).length ≤ l.length := by rw [List.length_drop]; omega
  simp only [T_G, Zd, List.nil_append, List.drop_zero, List.take_length, List.length_append, List.length_cons, List.length_nil]
  refine ⟨⟨p0, p1⟩, by omega, by omega, by omega, by simp⟩
theorem ZnC (h : KD L) (hl : L.length ≤ 1000000) : Zb2 B L v = some (Zz L v) := by
 refine Zeq.1 ?_
 unfold Zb2
 refine Zl (fun o => o = Zz L v) ?_ fun o e => by simp only [Zd]; exact e
 refine ZU (fun z => 0 ≤ z.1 /\ z.1 ≤ (L.length : Int) /\ z.2 = Zz (L.take z.1.toNat) v) (fun z => ((L.length : Int) - z.1).toNat) ?_ ⟨by simp, by simp, rfl⟩
 rintro ⟨i, o⟩ ⟨i0, i1, e⟩
 dsimp only at *
 subst e
 unfold Zbp
 rw [Zt]
 refine ⟨fun hlt => ?_, fun hge => by simp only [Zd, Sum.elim_inr]; rw [List.take_of_length_le (by omega)]⟩
 have hs := Za9 i0 hlt
 have hk1 : KD (L.take i.toNat) := List.Pairwise.sublist (List.take_sublist _ _) h
 have hk2 : KD (L.take (i + 1).toNat) := List.Pairwise.sublist (List.take_sublist _ _) h
 have hlen := ZhP hk1 v
 have hlen2 : (L.take i.toNat).length ≤ L.length := by rw [List.length_take]; omega
 rw [hs] at hk2
 have hsn := Zh1 (L.take i.toNat) (gt L i) v
 rw [← hs] at hsn
 have hno := (List.pairwise_append.1 hk2).2.2
 rw [T_G, Zt]
 refine ⟨i0, fun hv => ?_, fun hv => ?_⟩
 ·rw [ZkY (Zcg _ _) (fun x hx hxe => hno _ ((Z1 hk1).1 hx) _ (List.mem_singleton.2 rfl) ⟨hv.symm, hxe⟩) (by omega), Option.bind_some]
  simp only [T_G, Zd, Sum.elim_inl]
  exact ⟨by omega, ⟨by omega, by omega, by rw [hsn, if_pos hv.symm]⟩, by omega⟩
 ·simp only [T_G, Zd, Sum.elim_inl]
  exact ⟨by omega, ⟨by omega, by omega, by rw [hsn, if_neg (fun e => hv e.symm)]⟩, by omega⟩
end Go.Vd

/-! (OvN) -/

set_option linter.unusedVariables false
set_option linter.unusedSimpArgs false
set_option maxHeartbeats 1000000
namespace Go.Vd
variable {l : List Hf} {L : List OAr} {B : List Bool} {v wt via N : Int} {A M : List A3}
theorem p_rIn (h : KD L) (hl : L.length ≤ 1000000) : Zcl B L v = some (inL L v) := by
 refine Zeq.1 ?_
 unfold Zcl
 refine Zl (fun o => o = inL L v) ?_ fun o e => by simp only [Zd]; exact e
 refine ZU (fun z => 0 ≤ z.1 /\ z.1 ≤ (L.length : Int) /\ z.2 = inL (L.take z.1.toNat) v) (fun z => ((L.length : Int) - z.1).toNat) ?_ ⟨by simp, by simp, rfl⟩
 rintro ⟨i, o⟩ ⟨i0, i1, e⟩
 dsimp only at *
 subst e
 unfold ZbB
 rw [Zt]
 refine ⟨fun hlt => ?_, fun hge => by simp only [Zd, Sum.elim_inr]; rw [List.take_of_length_le (by omega)]⟩
 have hs := Za9 i0 hlt
 have hk1 : KD (L.take i.toNat) := List.Pairwise.sublist (List.take_sublist _ _) h
 have hk2 : KD (L.take (i + 1).toNat) := List.Pairwise.sublist (List.take_sublist _ _) h
 have hlen := ZiZ hk1 v
 have hlen2 : (L.take i.toNat).length ≤ L.length := by rw [List.length_take]; omega
 rw [hs] at hk2
 have hsn := ZiT (L.take i.toNat) (gt L i) v
 rw [← hs] at hsn
 have hno := (List.pairwise_append.1 hk2).2.2
 rw [T_G, Zt]
 refine ⟨i0, fun hv => ?_, fun hv => ?_⟩
 ·rw [ZkY (ZcL _ _) (fun x hx hxe => hno _ ((Za1 hk1).1 hx) _ (List.mem_singleton.2 rfl) ⟨hxe, hv.symm⟩) (by omega), Option.bind_some]
  simp only [T_G, Zd, Sum.elim_inl]
  exact ⟨by omega, ⟨by omega, by omega, by rw [hsn, if_pos hv.symm]⟩, by omega⟩
 ·simp only [T_G, Zd, Sum.elim_inl]
  exact ⟨by omega, ⟨by omega, by omega, by rw [hsn, if_neg (fun e => hv e.symm)]⟩, by omega⟩
end Go.Vd

/-! (OvH) -/

set_option linter.unusedVariables false
set_option linter.unusedSimpArgs false
set_option maxHeartbeats 1000000
namespace Go.Vd
variable {L : List OAr} {A : List Bool} {u v w wt via : Int}
theorem Zlb (hl : L.length ≤ 1000000) : T (Zbh A L u w) fun r => Wt L u w r.1 r.2 := by
 unfold Zbh
 refine Zdm (fun _ => ∀ a ∈ L, ¬ (a.1 = u /\ a.2.1 = w)) ?_ fun _ h => by simp only [Zd]; exact .inr ⟨rfl, rfl, h⟩
 refine ZU (fun i => 0 ≤ i /\ i ≤ (L.length : Int) /\ ∀ a ∈ L.take i.toNat, ¬ (a.1 = u /\ a.2.1 = w)) (fun i => ((L.length : Int) - i).toNat) ?_ ⟨by simp, by simp, fun a ha => by simp at ha⟩
 rintro i ⟨i0, i1, h⟩
 unfold ZaP
 rw [Zt]
 refine ⟨fun hlt => ?_, fun hge => ?_⟩
 ·have hm : gt L i ∈ L := by
   unfold gt
   rw [List.getD_eq_getElem?_getD, List.getElem?_eq_getElem (by omega)]
   exact List.getElem_mem _
  have hs := Za9 i0 hlt
  have nx : ¬ ((gt L i).1 = u /\ (gt L i).2.1 = w) -> ∀ a ∈ L.take (i + 1).toNat, ¬ (a.1 = u /\ a.2.1 = w) := fun hn a ha => by
   rw [hs] at ha
   rcases List.mem_append.1 ha with ha | ha
   ·exact h a ha
   ·rw [List.mem_singleton.1 ha]; exact hn
  simp only [T_G, Zt, Zd1, Zd, Sum.elim_inl, Sum.elim_inr]
  exact ⟨i0, fun e1 => ⟨fun e2 => .inl ⟨rfl, _, hm, e1, e2, rfl⟩, fun e2 => ⟨by omega, ⟨by omega, by omega, nx fun e => e2 e.2⟩, by omega⟩⟩, fun e1 => ⟨by omega, ⟨by omega, by omega, nx fun e => e1 e.1⟩, by omega⟩⟩
 ·simp only [Zd, Sum.elim_inr]
  rw [List.take_of_length_le (by omega)] at h
  exact h
end Go.Vd

/-! (PrShortsBounds) -/

set_option linter.unusedVariables false
set_option linter.unusedSimpArgs false
set_option maxHeartbeats 1000000
namespace Go.Vd
variable {nodes : List Nod} {alive arcs : Int} {A : List Bool} {M : List OAr} {N v hops settles x1 x2 x3 : Int} {Arcs : List A3} {a : Hf} {E : Int -> Int -> Int} {Z : List (List Int)}
theorem ZgX (h : OvR nodes alive arcs A M) : (Zdp M v hops settles).length ≤ 1000000000000 := by
 unfold Zdp
 rw [List.length_flatMap]
 have : ∀ l : List Hf, ((l.map fun a => (ZbP M v hops settles a).length).sum) ≤ l.length * 1000000 := fun l => by
  induction l with
  | nil => simp
  | cons x l ih =>
   have : (ZbP M v hops settles x).length ≤ 1000000 := by
    unfold ZbP
    exact Nat.le_trans (List.length_filter_le _ _) (Nat.le_trans ZdQ (h.outLen v))
   simp only [List.map_cons, List.sum_cons, List.length_cons]
   omega
 have := this (inL M v)
 have h2 := h.inLen v
 omega
theorem ZgY {α β : Type} {f g : α -> List β} : ∀ {l : List α}, (∀ a ∈ l, f a = g a) -> l.flatMap f = l.flatMap g := by
 intro l
 induction l with
 | nil => intro _; rfl
 | cons a l ih => intro h; rw [List.flatMap_cons, List.flatMap_cons, h a (by simp), ih fun b hb => h b (by simp [hb])]
open Classical in
noncomputable def Zc4 (M : List OAr) (s : Int × Int × Int) : Bool := decide (s.2.2 ≤ 140737488355328 /\ ¬ ∃ x ∈ M, x.1 = s.1 /\ x.2.1 = s.2.1 /\ x.2.2.1 ≤ s.2.2)
def Zb4 (E : Int -> Int -> Int) (s : Int × Int × Int) : Bool := decide (s.2.2 ≤ 140737488355328 /\ E s.1 s.2.1 > s.2.2)
theorem ZgH (h : OvR nodes alive arcs A M) (ha : a ∈ inL M v) : ZD A a.1 /\ a.1 ≠ v := by
 have := h.en _ ((Za1 h.kd).1 ha)
 exact ⟨⟨this.1, this.2.1, this.2.2.2.2.1⟩, this.2.2.2.2.2.2.1⟩
theorem ZhV {l : List Hf} {s : Int × Int × Int} (hs : s ∈ Z0 a l) : s.1 = a.1 /\ s.2.1 ≠ a.1 := by
 unfold Z0 at hs
 obtain ⟨b, hb, rfl⟩ := List.mem_map.1 hs
 exact ⟨rfl, of_decide_eq_true (List.mem_filter.1 hb).2⟩
theorem Zmu (h : OvR nodes alive arcs A M) : Zdp M v 0 1048576 = (inL M v).flatMap fun a => (Z0 a (Zz M v)).filter (Zc4 M) := by
 unfold Zdp
 have : ∀ a ∈ inL M v, ZbP M v 0 1048576 a = (Z0 a (Zz M v)).filter (Zc4 M) := fun a ha => by
  unfold ZbP
  refine List.filter_congr fun s hs => ?_
  obtain ⟨s1, s2⟩ := ZhV hs
  unfold Zdo Zc4
  rw [Zna h (ZgH h ha).1 (by decide) s2]
  rw [Bool.eq_iff_iff, decide_eq_true_iff, decide_eq_true_iff]
  constructor
  ·rintro ⟨p, _, q⟩; exact ⟨p, q⟩
  ·rintro ⟨p, q⟩; exact ⟨p, by omega, q⟩
 rw [ZgY this]
structure MatE (A : List Bool) (M : List OAr) (v : Int) (E : Int -> Int -> Int) (Z : List (List Int)) : Prop where
 zl : (Z.length : Int) = A.length
 zr : ∀ i, 0 ≤ i -> i < (A.length : Int) -> ((gt Z i).length : Int) = A.length
 ze : ∀ i j, ZD A i -> ZD A j -> i ≠ v -> j ≠ v -> gt (gt Z i) j = E i j
 lo : ∀ i j d, ZD A i -> i ≠ v -> Wk (a3 (ZbQ M v)) i j d -> E i j ≤ d
 up : ∀ i j, ZD A i -> ZD A j -> E i j ≠ 18446744073709551615 -> Wk (a3 (ZbQ M v)) i j (E i j)
theorem matE (h : OvR nodes alive arcs A M) (hv : ZD A v) (hN : A.length ≤ 12) (hZ : Zj8 (A.set v.toNat false) (ZbQ M v) Z) : ∃ E, MatE A M v E Z := by
 obtain ⟨E, B, hB, h1, h2⟩ := hZ
 rw [List.length_set] at h1 h2
 have hok : ∀ a ∈ a3 (ZbQ M v), (0 ≤ a.1 /\ a.1 < (A.length : Int)) /\ 0 ≤ a.2.1 /\ a.2.1 < (A.length : Int) /\ 0 ≤ a.2.2 /\ a.2.2 ≤ 140737488355328 := fun a ha => by
  obtain ⟨x, y, w⟩ := a
  obtain ⟨c, hc, e1, e2, e3⟩ := Zek.1 ha
  obtain ⟨q1, q2, q3, q4, q5, q6, q7, q8, q9, _⟩ := h.en c (Zcu.1 hc).1
  dsimp only
  rw [← e1, ← e2, ← e3]
  exact ⟨⟨q1, q2⟩, q3, q4, q8, q9⟩
 refine ⟨E, h1.1, fun i i0 i1 => (h1.2 i i0 i1).1, fun i j hi hj iv jv => ?_, fun i j d hi _ k => (h2.lowX hB hok hi.1 hi.2.1 k).2.1, fun i j hi hj hne => h2.snd i j hi.1 hi.2.1 hj.1 hj.2.1 hne⟩
 rw [(h1.2 i hi.1 hi.2.1).2 j hj.1 hj.2.1]
 unfold Zav
 rw [if_neg]
 rintro ⟨_, q⟩
 apply q
 rw [Zfo hv.1 hv.2.1 hi.1, if_neg iv]
 exact hi.2.2
theorem Znp (h : OvR nodes alive arcs A M) (hN : A.length ≤ 12) (hE : MatE A M v E Z) : Zdp M v 1048576 1048576 = (inL M v).flatMap fun a => (Z0 a (Zz M v)).filter (Zb4 E) := by
 unfold Zdp
 have : ∀ a ∈ inL M v, ZbP M v 1048576 1048576 a = (Z0 a (Zz M v)).filter (Zb4 E) := fun a ha => by
  unfold ZbP
  refine List.filter_congr fun s hs => ?_
  obtain ⟨s1, s2⟩ := ZhV hs
  obtain ⟨la, lv⟩ := ZgH h ha
  obtain ⟨ls, _⟩ := ZiN h hs
  have hm := Zl9 hs
  unfold Zdo Zb4
  rw [Bool.eq_iff_iff, decide_eq_true_iff, decide_eq_true_iff, s1]
  constructor
  ·rintro ⟨p, q, _⟩
   refine ⟨p, ?_⟩
   by_cases e : E a.1 s.2.1 = 18446744073709551615
   ·omega
   ·refine Classical.byContradiction fun k => ?_
    have := ZnG (most := ZdY (Z0 a (Zz M v))) h la lv (by omega) (hE.up _ _ la ls e) (by omega)
    omega
  ·rintro ⟨p, q⟩
   refine ⟨p, ?_, ?_⟩
   ·refine Classical.byContradiction fun k => ?_
    unfold far at k
    split at k
    ·rename_i hs'
     obtain ⟨z, hz⟩ := Option.isSome_iff_exists.1 hs'
     rw [hz] at k
     have := hE.lo _ _ _ la lv (Zlf h la lv (by decide) hz).2
     dsimp only [Option.getD_some] at k
     omega
    ·omega
   ·rintro ⟨x, hx, e1, e2, e3⟩
    have hsv : s.2.1 ≠ v := by
     unfold Z0 at hs
     obtain ⟨b, hb, rfl⟩ := List.mem_map.1 hs
     have := h.en _ ((Z1 h.kd).1 (List.mem_filter.1 hb).1)
     exact fun e => this.2.2.2.2.2.2.1 e.symm
    have hk : Wk (a3 (ZbQ M v)) a.1 s.2.1 x.2.2.1 := .one (Zek.2 ⟨x, Zcu.2 ⟨hx, by rw [e1]; exact lv, by rw [e2]; exact hsv⟩, e1, e2, rfl⟩)
    have := hE.lo _ _ _ la lv hk
    omega
 rw [ZgY this]
theorem ZmS (h : OvR nodes alive arcs A M) (hE : MatE A M v E Z) (hs0 : settles ≤ 9223372036854775807) : ((inL M v).flatMap fun a => (Z0 a (Zz M v)).filter (Zb4 E)) = (Zdp M v hops settles).filter (Zb4 E) := by
 unfold Zdp
 rw [List.filter_flatMap]
 refine ZgY fun a ha => ?_
 unfold ZbP
 rw [List.filter_filter]
 refine List.filter_congr fun s hs => ?_
 obtain ⟨s1, s2⟩ := ZhV hs
 obtain ⟨la, lv⟩ := ZgH h ha
 unfold Zb4 Zdo
 rw [Bool.eq_iff_iff, Bool.and_eq_true, decide_eq_true_iff, decide_eq_true_iff]
 refine ⟨fun k => ⟨k, k.1, ?_, ?_⟩, fun k => k.1⟩
 ·refine Classical.byContradiction fun q => ?_
  unfold far at q
  split at q
  ·rename_i hs'
   obtain ⟨z, hz⟩ := Option.isSome_iff_exists.1 hs'
   rw [hz] at q
   have := hE.lo _ _ _ la lv (Zlf h la lv hs0 hz).2
   dsimp only [Option.getD_some] at q
   rw [← s1] at this
   omega
  ·omega
 ·rintro ⟨x, hx, e1, e2, e3⟩
  have hsv : s.2.1 ≠ v := by
   unfold Z0 at hs
   obtain ⟨b, hb, rfl⟩ := List.mem_map.1 hs
   have := h.en _ ((Z1 h.kd).1 (List.mem_filter.1 hb).1)
   exact fun e => this.2.2.2.2.2.2.1 e.symm
  have hk : Wk (a3 (ZbQ M v)) a.1 s.2.1 x.2.2.1 := .one (Zek.2 ⟨x, Zcu.2 ⟨hx, by rw [e1, s1]; exact lv, by rw [e2]; exact hsv⟩, by rw [e1, s1], e2, rfl⟩)
  have := hE.lo _ _ _ la lv hk
  rw [← s1] at this
  omega
theorem p_row (h : OvR nodes alive arcs A M) (hv : ZD A v) (hE : MatE A M v E Z) {I : List Hf} {i : Int} (hI : gt I i = a) (ha : a ∈ inL M v) {y24 : List Nod × Int × Int × List Bool × List OAr} (e24 : y24.2.2.2 = (A, M)) {p q : List (Int × Int × Int)} (hp : p.length ≤ 1000000000000) (hq : q.length ≤ 1000000000000) :
  T (ZI (fun zz_ => Z3 y24 Z I i (Zz M v) zz_.1 zz_.2.1 zz_.2.2) (p, q, 0)) fun r => r = (p ++ (Z0 a (Zz M v)).filter (Zc4 M), q ++ (Z0 a (Zz M v)).filter (Zb4 E)) := by
 obtain ⟨y1, y2, y3, y4⟩ := y24
 dsimp only at e24
 subst e24
 have hol := h.outLen v
 obtain ⟨la, lv⟩ := ZgH h ha
 have hae := h.en _ ((Za1 h.kd).1 ha)
 dsimp only at hae
 refine ZU (fun z => 0 ≤ z.2.2 /\ z.2.2 ≤ ((Zz M v).length : Int) /\ z.1 = p ++ (Z0 a ((Zz M v).take z.2.2.toNat)).filter (Zc4 M) /\ z.2.1 = q ++ (Z0 a ((Zz M v).take z.2.2.toNat)).filter (Zb4 E)) (fun z => (((Zz M v).length : Int) - z.2.2).toNat) ?_ ⟨by simp, by simp, by simp [Z0], by simp [Z0]⟩
 rintro ⟨p1, q1, j⟩ ⟨j0, j1, ep, eq⟩
 dsimp only at *
 have hol2 : ∀ P, ((Z0 a ((Zz M v).take j.toNat)).filter P).length ≤ 1000000 := fun P => Nat.le_trans (List.length_filter_le _ _) (Nat.le_trans ZdQ (by rw [List.length_take]; omega))
 have lp : p1.length ≤ p.length + 1000000 := by rw [ep, List.length_append]; have := hol2 (Zc4 M); omega
 have lq : q1.length ≤ q.length + 1000000 := by rw [eq, List.length_append]; have := hol2 (Zb4 E); omega
 unfold Z3
 dsimp only
 rw [hI, Zt]
 refine ⟨fun hlt => ?_, fun hge => ?_⟩
 rotate_left
 ·simp only [Zd, Sum.elim_inr]
  rw [List.take_of_length_le (by omega)] at ep eq
  rw [ep, eq]
 have hm := Zfs j0 hlt
 have hb' := h.en _ ((Z1 h.kd).1 hm)
 have hs := Zdk j0 hlt
 generalize gt (Zz M v) j = b at *
 dsimp only at hb'
 have hsn := ZhA (a := a) (l := (Zz M v).take j.toNat) (b := b)
 rw [← hs] at hsn
 rw [T_G]
 refine ⟨j0, ?_⟩
 refine Zl _ (Zlb (A := A) (u := a.1) (w := b.1) h.lb) ?_
 rintro ⟨x, t⟩ hW
 have lb : ZD A b.1 := ⟨hb'.2.2.1, hb'.2.2.2.1, hb'.2.2.2.2.2.1⟩
 have bv : b.1 ≠ v := fun e => hb'.2.2.2.2.2.2.1 e.symm
 have hze := hE.ze a.1 b.1 la lb lv bv
 have hzl := hE.zl
 have hzr := hE.zr a.1 la.1 la.2.1
 dsimp only
 rw [T_G]
 refine ⟨by omega, ?_⟩
 refine Zl (fun o => o = decide (a.1 = b.1 ∨ a.2.1 + b.2.1 > 140737488355328)) ?_ ?_
 ·by_cases e : a.1 = b.1
  ·rw [if_pos e]; simp [e]
  ·rw [if_neg e]; simp [e]
 rintro _ rfl
 rw [Zt]
 refine ⟨fun hk => ?_, fun hk => ?_⟩
 ·have hk' := of_decide_eq_true hk
  simp only [T_G, Zd, Sum.elim_inl]
  have nil : ∀ P : Int × Int × Int -> Bool, (P = Zc4 M ∨ P = Zb4 E) -> (if b.1 = a.1 then [] else [(a.1, b.1, a.2.1 + b.2.1)] : List (Int × Int × Int)).filter P = [] := fun P hP => by
   by_cases e : b.1 = a.1
   ·rw [if_pos e]; rfl
   ·rw [if_neg e, List.filter_cons, if_neg]
    ·rfl
    ·rcases hP with rfl | rfl
     ·unfold Zc4; rw [decide_eq_true_iff]; rintro ⟨q, _⟩; dsimp only at q; omega
     ·unfold Zb4; rw [decide_eq_true_iff]; rintro ⟨q, _⟩; dsimp only at q; omega
  refine ⟨by omega, ⟨by omega, by omega, ?_, ?_⟩, by omega⟩
  ·rw [hsn, List.filter_append, nil _ (.inl rfl), List.append_nil]; exact ep
  ·rw [hsn, List.filter_append, nil _ (.inr rfl), List.append_nil]; exact eq
 ·have hk' : ¬ a.1 = b.1 /\ ¬ a.2.1 + b.2.1 > 140737488355328 := by
   have : ¬ (a.1 = b.1 ∨ a.2.1 + b.2.1 > 140737488355328) := fun q => hk (decide_eq_true q)
   exact ⟨fun q => this (.inl q), fun q => this (.inr q)⟩
  rw [if_neg fun e => hk'.1 e.symm] at hsn
  have hA : (Zc4 M (a.1, b.1, a.2.1 + b.2.1) = true) ↔ ¬ (t = true /\ x ≤ a.2.1 + b.2.1) := by
   unfold Zc4
   rw [decide_eq_true_iff]
   dsimp only
   have : (∃ z ∈ M, z.1 = a.1 /\ z.2.1 = b.1 /\ z.2.2.1 ≤ a.2.1 + b.2.1) ↔ (t = true /\ x ≤ a.2.1 + b.2.1) := by
    constructor
    ·rintro ⟨y, y1, y2, y3, y4⟩
     have hy : Wt M a.1 b.1 y.2.2.1 true := .inl ⟨rfl, y, y1, y2, y3, rfl⟩
     obtain ⟨rfl, rfl⟩ := hW.uniq h.kd hy
     exact ⟨rfl, y4⟩
    ·rintro ⟨rfl, h2⟩
     rcases hW with ⟨_, y, y1, y2, y3, y4⟩ | ⟨h, _⟩
     ·exact ⟨y, y1, y2, y3, by omega⟩
     ·cases h
   rw [this]
   exact ⟨fun q => q.2, fun q => ⟨by omega, q⟩⟩
  have hB : (Zb4 E (a.1, b.1, a.2.1 + b.2.1) = true) ↔ E a.1 b.1 > a.2.1 + b.2.1 := by
   unfold Zb4
   rw [decide_eq_true_iff]
   exact ⟨fun q => q.2, fun q => ⟨by dsimp only; omega, q⟩⟩
  refine Zl (fun o => o = decide (¬ (t = true /\ x ≤ a.2.1 + b.2.1))) ?_ ?_
  ·cases t
   ·simp
   ·simp
  rintro _ rfl
  refine Zl (fun o => o = p ++ (Z0 a ((Zz M v).take (j + 1).toNat)).filter (Zc4 M)) ?_ ?_
  ·rw [hsn, List.filter_append, ← List.append_assoc, ← ep, Zt]
   refine ⟨fun q => ?_, fun q => ?_⟩
   ·have q' := hA.2 (of_decide_eq_true q)
    simp only [T_G, Zd]
    exact ⟨by omega, by rw [List.filter_cons, if_pos q']; rfl⟩
   ·have q' : ¬ Zc4 M (a.1, b.1, a.2.1 + b.2.1) = true := fun z => q (decide_eq_true (hA.1 z))
    simp only [Zd]
    rw [List.filter_cons, if_neg q']; simp
  rintro _ rfl
  rw [T_G, T_G]
  refine ⟨by have := la.1; have := la.2.1; omega, by have := lb.1; have := lb.2.1; omega, ?_⟩
  rw [hze, Zt]
  refine ⟨fun q => ?_, fun q => ?_⟩
  ·simp only [T_G, Zd, Sum.elim_inl]
   refine ⟨by omega, by omega, ⟨by omega, by omega, trivial, ?_⟩, by omega⟩
   rw [hsn, List.filter_append, ← List.append_assoc, ← eq, List.filter_cons, if_pos (hB.2 q)]; rfl
  ·simp only [T_G, Zd, Sum.elim_inl]
   refine ⟨by omega, ⟨by omega, by omega, trivial, ?_⟩, by omega⟩
   rw [hsn, List.filter_append, ← List.append_assoc, ← eq, List.filter_cons, if_neg fun z => q (hB.1 z)]; simp
theorem p_sub {S : List (Int × Int × Int)} {P : Int × Int × Int -> Bool} (hS : S.length ≤ 1000000000000) {o : List (Int × Int × Int) × List (Int × Int × Int)} (eo : o.2 = S.filter P) :
  T (ZI (fun zz_ => Z4 o S zz_.1 zz_.2) (0, 0)) fun r => r = (o.2.length : Int) := by
 have hfl : (S.filter P).length ≤ S.length := List.length_filter_le _ _
 refine ZU (fun z => 0 ≤ z.1 /\ z.1 ≤ (S.length : Int) /\ z.2 = (((S.take z.1.toNat).filter P).length : Int)) (fun z => ((S.length : Int) - z.1).toNat) ?_ ⟨by simp, by simp, by simp⟩
 rintro ⟨i, k⟩ ⟨i0, i1, e⟩
 dsimp only at i0 i1 e ⊢
 unfold Z4
 rw [eo, Zt]
 refine ⟨fun hlt => ?_, fun hge => ?_⟩
 rotate_left
 ·simp only [Zd, Sum.elim_inr]
  rw [e, List.take_of_length_le (by omega)]
 have hs := Zdk i0 hlt
 have hsp : S = S.take (i + 1).toNat ++ S.drop (i + 1).toNat := (List.take_append_drop _ _).symm
 have hf : S.filter P = (S.take i.toNat).filter P ++ ([gt S i].filter P ++ (S.drop (i + 1).toNat).filter P) := by
  conv => lhs; rw [hsp, hs]
  rw [List.filter_append, List.filter_append, List.append_assoc]
 have hl1 := congrArg List.length hf
 rw [List.length_append, List.length_append] at hl1
 have hnext := congrArg (fun l => ((l.filter P).length : Int)) hs
 rw [List.filter_append, List.length_append] at hnext
 generalize hgs : gt S i = s at *
 have hat : P s = true -> k < ((S.filter P).length : Int) /\ gt (S.filter P) k = s := fun hp => by
  have h1 : [s].filter P = [s] := by rw [List.filter_cons, if_pos hp]; rfl
  rw [h1] at hf hl1
  simp only [List.length_cons, List.length_nil] at hl1
  refine ⟨by omega, ?_⟩
  rw [hf, e]
  unfold gt
  rw [List.getD_eq_getElem?_getD, Int.toNat_natCast, List.getElem?_append_right (by omega)]
  simp
 rw [T_G]
 refine ⟨i0, ?_⟩
 rw [Zt]
 refine ⟨fun hk => ?_, fun hk => ?_⟩
 ·rw [T_G]
  refine ⟨by omega, ?_⟩
  rw [Zt]
  refine ⟨fun q => ?_, fun q => ?_⟩
  ·have hes : gt (S.filter P) k = s := Prod.ext q.1 (Prod.ext q.2.1 q.2.2)
   have hp : P s = true := by rw [← hes]; exact (List.mem_filter.1 (Zfs (by omega) hk)).2
   have h1 : [s].filter P = [s] := by rw [List.filter_cons, if_pos hp]; rfl
   rw [h1] at hnext
   simp only [T_G, Zd, Sum.elim_inl]
   refine ⟨by omega, by omega, ⟨by omega, by omega, ?_⟩, by omega⟩
   rw [hnext]; simp; omega
  ·have hp : ¬ P s = true := fun hp => q (by rw [(hat hp).2]; exact ⟨rfl, rfl, rfl⟩)
   have h1 : [s].filter P = [] := by rw [List.filter_cons, if_neg hp]; rfl
   rw [h1] at hnext
   simp only [T_G, Zd, Sum.elim_inl]
   refine ⟨by omega, ⟨by omega, by omega, ?_⟩, by omega⟩
   rw [hnext]; simp; omega
 ·have hp : ¬ P s = true := fun hp => hk (hat hp).1
  have h1 : [s].filter P = [] := by rw [List.filter_cons, if_neg hp]; rfl
  rw [h1] at hnext
  simp only [T_G, Zd, Sum.elim_inl]
  refine ⟨by omega, ⟨by omega, by omega, ?_⟩, by omega⟩
  rw [hnext]; simp; omega
theorem ZhL {script : List Stp} (hs : ZkJ script) (hs0 : settles ≤ 9223372036854775807) : Zaw N Arcs script v hops settles x1 x2 x3 = some true := by
 refine Zeq.1 ?_
 unfold Zaw
 refine Zl _ (Zmx hs) ?_
 rintro r (rfl | ⟨hc, hN, ⟨o, al, ar, A, M⟩, rfl, h, hL, hA⟩)
 ·rw [Sum.elim_inl]
  simp
 rw [Sum.elim_inr]
 dsimp only at *
 obtain ⟨n0, _, _⟩ := hc.small
 have hA12 : A.length ≤ 12 := by omega
 rw [ZgE, Option.bind_some]
 by_cases hv : ZD A v
 rotate_left
 ·rw [decide_eq_false hv, if_pos (by decide)]
  simp
 rw [decide_eq_true hv, if_neg (by decide)]
 refine Zl _ (ZfS h) ?_
 rintro r1 (⟨hn, _⟩ | ⟨_, rfl⟩)
 ·exact absurd hv hn
 refine Zl _ (ZfS h) ?_
 rintro r2 (⟨hn, _⟩ | ⟨_, rfl⟩)
 ·exact absurd hv hn
 refine Zl _ (ZfS h) ?_
 rintro r3 (⟨hn, _⟩ | ⟨_, rfl⟩)
 ·exact absurd hv hn
 dsimp only
 rw [if_pos rfl, if_pos rfl, if_pos rfl, Option.bind_some, if_neg (by decide), Zia h.lb h.sm hv, Option.bind_some]
 dsimp only
 have hsv : ∀ x, 0 ≤ x -> gt (A.set v.toNat false) x = if x = v then false else gt A x := fun x x0 => Zfo hv.1 hv.2.1 x0
 have hok : XOk (A.set v.toNat false) (ZbQ M v) 140737488355328 := ⟨fun a ha => by
  obtain ⟨m1, m2, m3⟩ := Zcu.1 ha
  obtain ⟨q1, q2, q3, q4, q5, q6, q7, q8, q9, _⟩ := h.en a m1
  rw [List.length_set, hsv _ q1, hsv _ q3, if_neg m2, if_neg m3]
  exact ⟨q1, q2, q3, q4, q5, q6, q7, q8, q9⟩⟩
 have hrl : (ZbQ M v).length ≤ M.length := List.length_filter_le _ _
 refine Zl _ (Zm4 hok (Int.le_refl _) (by decide) (by omega) (by rw [List.length_set]; exact hA12)) ?_
 intro Z hZ
 obtain ⟨E, hE⟩ := matE h hv hA12 hZ
 rw [p_rIn h.kd h.lb, Option.bind_some]
 have hil := h.inLen v
 have hol := h.outLen v
 have nlen : ∀ P : Int × Int × Int -> Bool, ∀ k : Nat, ((((inL M v).take k).flatMap fun a => (Z0 a (Zz M v)).filter P).length) ≤ 1000000 * (inL M v).length := fun P k => by
  rw [List.length_flatMap]
  have : ∀ l : List Hf, ((l.map fun a => ((Z0 a (Zz M v)).filter P).length).sum) ≤ 1000000 * l.length := fun l => by
   induction l with
   | nil => simp
   | cons x l ih =>
    have : ((Z0 x (Zz M v)).filter P).length ≤ 1000000 := Nat.le_trans (List.length_filter_le _ _) (Nat.le_trans ZdQ hol)
    simp only [List.map_cons, List.sum_cons, List.length_cons]
    omega
  refine Nat.le_trans (this _) (Nat.mul_le_mul_left _ ?_)
  rw [List.length_take]; omega
 refine Zl (fun r => r = ((inL M v).flatMap (fun a => (Z0 a (Zz M v)).filter (Zc4 M)), (inL M v).flatMap fun a => (Z0 a (Zz M v)).filter (Zb4 E))) ?_ ?_
 ·refine ZU (fun z => 0 ≤ z.2.2 /\ z.2.2 ≤ ((inL M v).length : Int) /\ z.1 = ((inL M v).take z.2.2.toNat).flatMap (fun a => (Z0 a (Zz M v)).filter (Zc4 M)) /\ z.2.1 = ((inL M v).take z.2.2.toNat).flatMap fun a => (Z0 a (Zz M v)).filter (Zb4 E)) (fun z => (((inL M v).length : Int) - z.2.2).toNat) ?_ ⟨by simp, by simp, by simp, by simp⟩
  rintro ⟨p, q, i⟩ ⟨i0, i1, ep, eq⟩
  dsimp only at *
  unfold Zai
  dsimp only
  rw [Zt]
  refine ⟨fun hlt => ?_, fun hge => ?_⟩
  rotate_left
  ·simp only [Zd, Sum.elim_inr]
   rw [List.take_of_length_le (by omega)] at ep eq
   rw [ep, eq]
  have hs' := Zdk i0 hlt
  rw [T_G]
  refine ⟨i0, ?_⟩
  rw [ZnC h.kd h.lb, Option.bind_some]
  have lp := nlen (Zc4 M) i.toNat
  have lq := nlen (Zb4 E) i.toNat
  rw [← ep] at lp
  rw [← eq] at lq
  refine Zl _ (p_row h hv hE (I := inL M v) (i := i) rfl (Zfs i0 hlt) (y24 := (o, al, ar, A, M)) rfl (by omega) (by omega)) ?_
  rintro _ rfl
  simp only [T_G, Zd, Sum.elim_inl]
  refine ⟨by omega, ⟨by omega, by omega, ?_, ?_⟩, by omega⟩
  ·rw [hs', List.flatMap_append, ← ep]; simp
  ·rw [hs', List.flatMap_append, ← eq]; simp
 rintro _ rfl
 have b0 : bnd 0 = 0 := rfl
 have b1 : bnd 1048576 = 1048576 := rfl
 dsimp only
 rw [b0, b1]
 have e1 := Zmu (v := v) h
 have e2 := Znp h hA12 hE
 have e3 := ZmS (hops := bnd hops) (settles := bnd settles) h hE Zlo
 have l1 : (Zdp M v 0 1048576).length ≤ 1000000000000 := ZgX h
 have l2 : (Zdp M v 1048576 1048576).length ≤ 1000000000000 := ZgX h
 have l3 : (Zdp M v (bnd hops) (bnd settles)).length ≤ 1000000000000 := ZgX h
 rw [← e1, ← e2, ZiK l1, Option.bind_some, ZiU l1, Option.bind_some, if_pos rfl, ZiK l2, Option.bind_some, ZiU l2, Option.bind_some, Option.bind_some, if_neg (by decide), ZiK l3, Option.bind_some]
 refine Zl _ (p_sub (P := Zb4 E) l3 (by dsimp only; rw [e2, e3])) ?_
 rintro _ rfl
 simp
end Go.Vd
