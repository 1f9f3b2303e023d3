/- Plain laws of arrays that are right, and of walks in them. No program here. -/
import Derived.Test.YtnepbkkdhalbiaaPwgVpA
set_option linter.unusedVariables false
namespace Go.Vd
theorem bad_t {c : Int} {ps : List (Int × Int)} (h : ¬ c = 0 ∨ 0 < (ps.length : Int)) : decide (c ≠ 0 ∨ ps ≠ []) = true := by
 apply decide_eq_true
 rcases h with h | h
 ·exact .inl h
 ·right; rintro rfl; simp at h
theorem bad_f {c : Int} {ps : List (Int × Int)} (h : c = 0 ∧ ¬ 0 < (ps.length : Int)) : decide (c ≠ 0 ∨ ps ≠ []) = false := by
 apply decide_eq_false
 rintro (k | k)
 ·exact k h.1
 ·exact k (List.eq_nil_of_length_eq_zero (by omega))
def arcNo (fi to wt : List Int) (v i : Int) : Int :=
 if gt to i < 0 ∨ gt to i ≥ (fi.length : Int) - 1 then 7
 else if gt to i = v ∨ (i > gt fi v ∧ gt to i ≤ gt to (i - 1)) then 14
 else if gt wt i < 0 ∨ gt wt i > 2147483647 then 8
 else 0
def Shape (fi to wt : List Int) : Prop := 0 ≤ (fi.length : Int) - 1 ∧ gt fi 0 = 0 ∧ gt fi ((fi.length : Int) - 1) = (to.length : Int) ∧ (to.length : Int) = (wt.length : Int)
def Small (fi to : List Int) : Prop := (fi.length : Int) - 1 ≤ 65536 ∧ (to.length : Int) ≤ 262144
def Mono (fi : List Int) (n : Int) : Prop := ∀ u : Int, 0 ≤ u → u < n → gt fi u ≤ gt fi (u + 1)
def In (fi : List Int) (v i : Int) : Prop := 0 ≤ v ∧ v < (fi.length : Int) - 1 ∧ gt fi v ≤ i ∧ i < gt fi (v + 1)
theorem Mono.le {fi : List Int} {n : Int} (h : Mono fi n) {u w : Int} (h0 : 0 ≤ u) (h1 : u ≤ w) (h2 : w ≤ n) : gt fi u ≤ gt fi w := by
 obtain ⟨k, rfl⟩ : ∃ k : Nat, w = u + k := ⟨(w - u).toNat, by omega⟩
 induction k with
 | zero => simp
 | succ k ih =>
  have a := ih (by omega) (by omega)
  have b := h (u + k) (by omega) (by omega)
  rw [show u + ((k + 1 : Nat) : Int) = u + k + 1 from by omega]
  omega
theorem In.uniq {fi : List Int} (h : Mono fi ((fi.length : Int) - 1)) {u v i : Int} (a : In fi u i) (b : In fi v i) : u = v := by
 obtain ⟨a1, a2, a3, a4⟩ := a
 obtain ⟨b1, b2, b3, b4⟩ := b
 rcases Int.lt_trichotomy u v with hl | he | hg
 ·have := h.le (u := u + 1) (w := v) (by omega) (by omega) (by omega); omega
 ·exact he
 ·have := h.le (u := v + 1) (w := u) (by omega) (by omega) (by omega); omega
theorem In.lt {fi : List Int} (h : Mono fi ((fi.length : Int) - 1)) {u v i j : Int} (a : In fi u i) (b : In fi v j) (hl : i < j) : u ≤ v := by
 obtain ⟨a1, a2, a3, a4⟩ := a
 obtain ⟨b1, b2, b3, b4⟩ := b
 by_cases hle : u ≤ v
 ·exact hle
 ·have := h.le (u := v + 1) (w := u) (by omega) (by omega) (by omega); omega
inductive Chk (fi to wt : List Int) : Er → Prop
 | shape : ¬ Shape fi to wt → Chk fi to wt (.no 14)
 | limit : Shape fi to wt → ¬ Small fi to → Chk fi to wt (.no 9)
 | mono (v : Int) : Shape fi to wt → Small fi to → 0 ≤ v → v < (fi.length : Int) - 1 → gt fi (v + 1) < gt fi v → Mono fi v → Chk fi to wt (.at 3 v (.no 14))
 | arc (v i : Int) : Shape fi to wt → Small fi to → Mono fi ((fi.length : Int) - 1) → In fi v i → arcNo fi to wt v i ≠ 0 → (∀ u j, In fi u j → j < i → arcNo fi to wt u j = 0) → Chk fi to wt (.at 4 i (.no (arcNo fi to wt v i)))
 | ok : Shape fi to wt → Small fi to → Mono fi ((fi.length : Int) - 1) → (∀ u j, In fi u j → arcNo fi to wt u j = 0) → Chk fi to wt .nil
theorem Mono.next {fi : List Int} {v : Int} (h : Mono fi v) (k : ¬ gt fi (v + 1) < gt fi v) : Mono fi (v + 1) := by
 intro u h0 h1
 by_cases e : u = v
 ·subst e; omega
 ·exact h u h0 (by omega)
theorem Mono.zero {fi : List Int} : Mono fi 0 := fun u h0 h1 => by omega
theorem Mono.all {fi : List Int} {v n : Int} (h : Mono fi v) (k : n ≤ v) : Mono fi n := fun u h0 h1 => h u h0 (by omega)
end Go.Vd
namespace Go.Vd
def Er.code : Er → Int
 | .nil => 0
 | .no n => n
 | .at _ _ e => e.code
def Er.pls : Er → List (Int × Int)
 | .at k i e => (k, i) :: e.pls
 | _ => []
def Rows (fi to wt : List Int) (v i : Int) : Prop := ∀ u j, In fi u j → (u < v ∨ (u = v ∧ j < i)) → arcNo fi to wt u j = 0
theorem Rows.zero {fi to wt : List Int} {i : Int} (h : i ≤ gt fi 0) : Rows fi to wt 0 i := by
 rintro u j ⟨a1, a2, a3, a4⟩ (b | ⟨rfl, b⟩) <;> omega
theorem Rows.step {fi to wt : List Int} {v i : Int} (h : Rows fi to wt v i) (h0 : arcNo fi to wt v i = 0) : Rows fi to wt v (i + 1) := by
 rintro u j hI (b | ⟨rfl, b⟩)
 ·exact h u j hI (.inl b)
 ·by_cases e : j = i
  ·subst e; exact h0
  ·exact h u j hI (.inr ⟨rfl, by omega⟩)
theorem Rows.row {fi to wt : List Int} {v i : Int} (h : Rows fi to wt v i) (hi : ¬ i < gt fi (v + 1)) {k : Int} (hk : k ≤ gt fi (v + 1)) : Rows fi to wt (v + 1) k := by
 rintro u j hI (b | ⟨rfl, b⟩)
 ·by_cases e : u = v
  ·subst e; exact h u j hI (.inr ⟨rfl, by have := hI.2.2.2; omega⟩)
  ·exact h u j hI (.inl (by omega))
 ·have := hI.2.2.1; omega
theorem Rows.before {fi to wt : List Int} {v i : Int} (hM : Mono fi ((fi.length : Int) - 1)) (h : Rows fi to wt v i) (hI : In fi v i) : ∀ u j, In fi u j → j < i → arcNo fi to wt u j = 0 := by
 intro u j hu hj
 have := In.lt hM hu hI hj
 by_cases e : u = v
 ·exact h u j hu (.inr ⟨e, hj⟩)
 ·exact h u j hu (.inl (by omega))
theorem Rows.all {fi to wt : List Int} {v i : Int} (h : Rows fi to wt v i) (hv : ¬ v < (fi.length : Int) - 1) : ∀ u j, In fi u j → arcNo fi to wt u j = 0 := by
 intro u j hu
 exact h u j hu (.inl (by have := hu.2.1; omega))
end Go.Vd
namespace Go.Vd
theorem Chk.rise {fi to wt : List Int} (h : Chk fi to wt .nil) {v i : Int} (hI : In fi v i) (hJ : gt fi v < i) : gt to (i - 1) < gt to i := by
 cases h with
 | ok h1 h2 h3 h4 =>
  have := h4 v i hI
  unfold arcNo at this
  split at this
  ·simp at this
  ·split at this
   ·simp at this
   ·omega
def Rise (xs : List Int) : Prop := ∀ i : Int, 0 < i → i < (xs.length : Int) → gt xs (i - 1) < gt xs i
theorem Rise.lt {xs : List Int} (h : Rise xs) {i j : Int} (h0 : 0 ≤ i) (h1 : i < j) (h2 : j < (xs.length : Int)) : gt xs i < gt xs j := by
 obtain ⟨k, rfl⟩ : ∃ k : Nat, j = i + 1 + k := ⟨(j - i - 1).toNat, by omega⟩
 induction k with
 | zero =>
  have := h (i + 1) (by omega) (by omega)
  rw [show i + 1 - 1 = i from by omega] at this
  simpa using this
 | succ k ih =>
  have a := ih (by omega) (by omega)
  have b := h (i + 1 + (k + 1 : Nat)) (by omega) (by omega)
  rw [show i + 1 + ((k + 1 : Nat) : Int) - 1 = i + 1 + k from by omega] at b
  omega
theorem gt_sub {l : List Int} {p r k : Int} (h0 : 0 ≤ p) (h1 : p ≤ r) (h2 : r ≤ (l.length : Int)) (k0 : 0 ≤ k) (k1 : k < r - p) : gt ((l.take r.toNat).drop p.toNat) k = gt l (p + k) := by
 unfold gt
 rw [List.getD_eq_getElem?_getD, List.getD_eq_getElem?_getD, List.getElem?_drop, List.getElem?_take, if_pos (by omega)]
 congr 2
 omega
theorem len_sub {l : List Int} {p r : Int} (h0 : 0 ≤ p) (h1 : p ≤ r) (h2 : r ≤ (l.length : Int)) : (((l.take r.toNat).drop p.toNat).length : Int) = r - p := by
 rw [List.length_drop, List.length_take]; omega
end Go.Vd
namespace Go.Vd
theorem Chk.bad {fi to wt : List Int} {er : Er} (h : Chk fi to wt er) : (er.code ≠ 0 ∨ er.pls ≠ []) ↔ er ≠ .nil := by
 cases h <;> simp [Er.code, Er.pls]
end Go.Vd
namespace Go.Vd
section
variable {fi to wt : List Int} (h : Chk fi to wt .nil)
include h
theorem Chk.shp : Shape fi to wt := by cases h with | ok h1 h2 h3 h4 => exact h1
theorem Chk.small : Small fi to := by cases h with | ok h1 h2 h3 h4 => exact h2
theorem Chk.mon : Mono fi ((fi.length : Int) - 1) := by cases h with | ok h1 h2 h3 h4 => exact h3
theorem Chk.arcs : ∀ u j, In fi u j → arcNo fi to wt u j = 0 := by cases h with | ok h1 h2 h3 h4 => exact h4
theorem Chk.riseSub {v : Int} (v0 : 0 ≤ v) (v1 : v < (fi.length : Int) - 1) : Rise ((to.take (gt fi (v + 1)).toNat).drop (gt fi v).toNat) := by
 obtain ⟨a1, a2, a3, a4⟩ := h.shp
 have hM := h.mon
 have b0 := hM v v0 v1
 have b1 := hM.le (u := 0) (w := v) (by omega) (by omega) (by omega)
 have b2 := hM.le (u := v + 1) (w := (fi.length : Int) - 1) (by omega) (by omega) (by omega)
 intro i i0 i1
 rw [len_sub (by omega) (by omega) (by omega)] at i1
 rw [gt_sub (by omega) (by omega) (by omega) (by omega) (by omega), gt_sub (by omega) (by omega) (by omega) (by omega) (by omega)]
 have := h.rise (v := v) (i := gt fi v + i) ⟨v0, v1, by omega, by omega⟩ (by omega)
 rwa [show gt fi v + i - 1 = gt fi v + (i - 1) from by omega] at this
theorem Chk.weight {u j : Int} (hI : In fi u j) : 0 ≤ gt wt j ∧ gt wt j ≤ 2147483647 := by
 have := h.arcs u j hI
 unfold arcNo at this
 split at this
 ·simp at this
 ·split at this
  ·simp at this
  ·split at this
   ·simp at this
   ·omega
end
end Go.Vd
namespace Go.Vd
def Arcw (fi to wt : List Int) (v w x : Int) : Prop := ∃ i, In fi v i ∧ gt to i = w ∧ x = gt wt i
inductive WSum (fi to wt l : List Int) : Int → Int → Prop
 | zero : WSum fi to wt l 0 0
 | step (k s x : Int) : 0 ≤ k → WSum fi to wt l k s → Arcw fi to wt (gt l k) (gt l (k + 1)) x → WSum fi to wt l (k + 1) (s + x)
def Nodes (fi l : List Int) (k : Int) : Prop := ∀ j : Int, 0 ≤ j → j < k → 0 ≤ gt l j ∧ gt l j < (fi.length : Int) - 1
theorem Nodes.zero {fi l : List Int} : Nodes fi l 0 := fun j h0 h1 => by omega
theorem Nodes.next {fi l : List Int} {k : Int} (h : Nodes fi l k) (h0 : ¬ gt l k < 0) (h1 : ¬ gt l k ≥ (fi.length : Int) - 1) : Nodes fi l (k + 1) := by
 intro j j0 j1
 by_cases e : j = k
 ·subst e; omega
 ·exact h j j0 (by omega)
theorem Nodes.all {fi l : List Int} {k : Int} (h : Nodes fi l k) (hk : ¬ k < (l.length : Int)) : Nodes fi l (l.length : Int) := fun j h0 h1 => h j h0 (by omega)
inductive Len (fi to wt l : List Int) : Int → Er → Prop
 | bad (er : Er) : Chk fi to wt er → er ≠ .nil → Len fi to wt l 0 er
 | missing : Chk fi to wt .nil → (l.length : Int) = 0 → Len fi to wt l 0 (.no 5)
 | node (i : Int) : Chk fi to wt .nil → 0 ≤ i → i < (l.length : Int) → (gt l i < 0 ∨ gt l i ≥ (fi.length : Int) - 1) → Nodes fi l i → Len fi to wt l 0 (.at 3 i (.no 7))
 | nowalk (i s : Int) : Chk fi to wt .nil → Nodes fi l (l.length : Int) → 0 ≤ i → i < (l.length : Int) - 1 → WSum fi to wt l i s → (∀ x, ¬ Arcw fi to wt (gt l i) (gt l (i + 1)) x) → Len fi to wt l 0 (.at 4 i (.no 16))
 | ok (s : Int) : Chk fi to wt .nil → Nodes fi l (l.length : Int) → 0 < (l.length : Int) → WSum fi to wt l ((l.length : Int) - 1) s → Len fi to wt l s .nil
end Go.Vd
namespace Go.Vd
def At (s : List Int) (f : Int → Option Int) : Prop := s.Nodup ∧ ∀ k, f k = if k ∈ s then some ((s.idxOf k : Int) + 1) else none
theorem idxOf_mem {a b : List Int} {k : Int} (h : k ∈ a) : (a ++ b).idxOf k = a.idxOf k := by
 rw [List.idxOf_append, if_pos h]
theorem At.nil : At [] (fun _ => none) := ⟨by simp, fun k => by simp⟩
theorem At.none {s : List Int} {f : Int → Option Int} (h : At s f) {v : Int} (h0 : (f v).getD 0 = 0) : v ∉ s := by
 intro hv
 rw [h.2 v, if_pos hv] at h0
 simp at h0; omega
theorem At.some {s : List Int} {f : Int → Option Int} (h : At s f) {v : Int} (h0 : ¬ (f v).getD 0 = 0) : v ∈ s ∧ (f v).getD 0 = (s.idxOf v : Int) + 1 := by
 by_cases hv : v ∈ s
 ·refine ⟨hv, ?_⟩; rw [h.2 v, if_pos hv]; rfl
 ·rw [h.2 v, if_neg hv] at h0; exact absurd rfl h0
theorem At.add {s : List Int} {f : Int → Option Int} (h : At s f) {v : Int} (h0 : v ∉ s) : At (s ++ [v]) (fun x => if x = v then Option.some ((s ++ [v]).length : Int) else f x) := by
 refine ⟨?_, fun k => ?_⟩
 ·rw [List.nodup_append]
  refine ⟨h.1, by simp, fun x hx y hy => ?_⟩
  simp at hy; subst hy; rintro rfl; exact h0 hx
 ·by_cases hk : k = v
  ·subst hk
   dsimp only
   rw [if_pos rfl, if_pos (by simp), List.idxOf_append, if_neg h0]
   simp
  ·dsimp only
   rw [if_neg hk, h.2 k]
   by_cases hs : k ∈ s
   ·rw [if_pos hs, if_pos (by simp [hs]), idxOf_mem hs]
   ·rw [if_neg hs, if_neg (by simp [hs, hk])]
theorem At.cut {s : List Int} {f g : Int → Option Int} (h : At s f) {i : Nat} (hg : ∀ k, g k = if k ∈ s.drop i then Option.none else f k) : At (s.take i) g := by
 have hnd : (s.take i ++ s.drop i).Nodup := by rw [List.take_append_drop]; exact h.1
 rw [List.nodup_append] at hnd
 refine ⟨hnd.1, fun k => ?_⟩
 rw [hg, h.2]
 by_cases h1 : k ∈ s.drop i
 ·rw [if_pos h1, if_neg (fun h2 => hnd.2.2 k h2 k h1 rfl)]
 ·rw [if_neg h1]
  by_cases h2 : k ∈ s.take i
  ·rw [if_pos (List.mem_of_mem_take h2), if_pos h2]
   have : s.idxOf k = (s.take i).idxOf k := by
    conv => lhs; rw [← List.take_append_drop i s]
    exact idxOf_mem h2
   rw [this]
  ·rw [if_neg h2, if_neg (fun h3 => by
    rw [← List.take_append_drop i s, List.mem_append] at h3
    exact h3.elim h2 h1)]
end Go.Vd
namespace Go.Vd
end Go.Vd
