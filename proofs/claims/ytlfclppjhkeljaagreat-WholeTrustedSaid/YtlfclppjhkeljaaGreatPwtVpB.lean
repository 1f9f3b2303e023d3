/- Plain laws of arrays that are right, and of walks in them. No program here. -/
import Derived.Test.YtlfclppjhkeljaaGreatPwtVpA
set_option linter.unusedVariables false
namespace Go.Vd
theorem ZiY {l : List Int} {i : Int} (h0 : 0 ≤ i) (h1 : i < (l.length : Int)) : l.take (i + 1).toNat = l.take i.toNat ++ [gt l i] := by
 rw [show (i + 1).toNat = i.toNat + 1 from by omega, List.take_add_one, Zdk h0 h1]; rfl
theorem ZkP {c : Int} {ps : List (Int × Int)} (h : ¬ c = 0 ∨ 0 < (ps.length : Int)) : decide (c ≠ 0 ∨ ps ≠ []) = true := by
 apply decide_eq_true
 rcases h with h | h
 ·exact .inl h
 ·right; rintro rfl; simp at h
theorem bad_f {c : Int} {ps : List (Int × Int)} (h : c = 0 ∧ ¬ 0 < (ps.length : Int)) : decide (c ≠ 0 ∨ ps ≠ []) = false := by
 apply decide_eq_false
 rintro (k | k)
 ·exact k h.1
 ·exact k (List.eq_nil_of_length_eq_zero (by omega))
def ZgG (fi to wt : List Int) (v i : Int) : Int :=
 if gt to i < 0 ∨ gt to i ≥ (fi.length : Int) - 1 then 7
 else if gt to i = v ∨ (i > gt fi v ∧ gt to i ≤ gt to (i - 1)) then 14
 else if gt wt i < 0 ∨ gt wt i > 2147483647 then 8
 else 0
def Zgz (fi to wt : List Int) : Prop := 0 ≤ (fi.length : Int) - 1 ∧ gt fi 0 = 0 ∧ gt fi ((fi.length : Int) - 1) = (to.length : Int) ∧ (to.length : Int) = (wt.length : Int)
def ZhT (fi to : List Int) : Prop := (fi.length : Int) - 1 ≤ 65536 ∧ (to.length : Int) ≤ 262144
def Mono (fi : List Int) (n : Int) : Prop := ∀ u : Int, 0 ≤ u → u < n → gt fi u ≤ gt fi (u + 1)
def In (fi : List Int) (v i : Int) : Prop := 0 ≤ v ∧ v < (fi.length : Int) - 1 ∧ gt fi v ≤ i ∧ i < gt fi (v + 1)
inductive Chk (fi to wt : List Int) : Er → Prop
 | shape : ¬ Zgz fi to wt → Chk fi to wt (.no 14)
 | limit : Zgz fi to wt → ¬ ZhT fi to → Chk fi to wt (.no 9)
 | mono (v : Int) : Zgz fi to wt → ZhT fi to → 0 ≤ v → v < (fi.length : Int) - 1 → gt fi (v + 1) < gt fi v → Mono fi v → Chk fi to wt (.at 3 v (.no 14))
 | arc (v i : Int) : Zgz fi to wt → ZhT fi to → Mono fi ((fi.length : Int) - 1) → In fi v i → ZgG fi to wt v i ≠ 0 → (∀ u j, In fi u j → j < i → ZgG fi to wt u j = 0) → Chk fi to wt (.at 4 i (.no (ZgG fi to wt v i)))
 | ok : Zgz fi to wt → ZhT fi to → Mono fi ((fi.length : Int) - 1) → (∀ u j, In fi u j → ZgG fi to wt u j = 0) → Chk fi to wt .nil
end Go.Vd
namespace Go.Vd
def Er.code : Er → Int
 | .nil => 0
 | .no n => n
 | .at _ _ e => e.code
def Er.pls : Er → List (Int × Int)
 | .at k i e => (k, i) :: e.pls
 | _ => []
def Rows (fi to wt : List Int) (v i : Int) : Prop := ∀ u j, In fi u j → (u < v ∨ (u = v ∧ j < i)) → ZgG fi to wt u j = 0
end Go.Vd
namespace Go.Vd
end Go.Vd
namespace Go.Vd
end Go.Vd
namespace Go.Vd
section
variable {fi to wt : List Int} (h : Chk fi to wt .nil)
include h
end
end Go.Vd
namespace Go.Vd
def Arcw (fi to wt : List Int) (v w x : Int) : Prop := ∃ i, In fi v i ∧ gt to i = w ∧ x = gt wt i
inductive WSum (fi to wt l : List Int) : Int → Int → Prop
 | zero : WSum fi to wt l 0 0
 | step (k s x : Int) : 0 ≤ k → WSum fi to wt l k s → Arcw fi to wt (gt l k) (gt l (k + 1)) x → WSum fi to wt l (k + 1) (s + x)
def Zjq (fi l : List Int) (k : Int) : Prop := ∀ j : Int, 0 ≤ j → j < k → 0 ≤ gt l j ∧ gt l j < (fi.length : Int) - 1
inductive Len (fi to wt l : List Int) : Int → Er → Prop
 | bad (er : Er) : Chk fi to wt er → er ≠ .nil → Len fi to wt l 0 er
 | missing : Chk fi to wt .nil → (l.length : Int) = 0 → Len fi to wt l 0 (.no 5)
 | node (i : Int) : Chk fi to wt .nil → 0 ≤ i → i < (l.length : Int) → (gt l i < 0 ∨ gt l i ≥ (fi.length : Int) - 1) → Zjq fi l i → Len fi to wt l 0 (.at 3 i (.no 7))
 | nowalk (i s : Int) : Chk fi to wt .nil → Zjq fi l (l.length : Int) → 0 ≤ i → i < (l.length : Int) - 1 → WSum fi to wt l i s → (∀ x, ¬ Arcw fi to wt (gt l i) (gt l (i + 1)) x) → Len fi to wt l 0 (.at 4 i (.no 16))
 | ok (s : Int) : Chk fi to wt .nil → Zjq fi l (l.length : Int) → 0 < (l.length : Int) → WSum fi to wt l ((l.length : Int) - 1) s → Len fi to wt l s .nil
end Go.Vd
namespace Go.Vd
def Zcy (s : List Int) (v : Int) : List Int := if v ∈ s then s.take (s.idxOf v + 1) else s ++ [v]
def ZT (l : List Int) : List Int := l.foldl Zcy []
def At (s : List Int) (f : Int → Option Int) : Prop := s.Nodup ∧ ∀ k, f k = if k ∈ s then some ((s.idxOf k : Int) + 1) else none
theorem Zhw {a b : List Int} {k : Int} (h : k ∈ a) : (a ++ b).idxOf k = a.idxOf k := by
 rw [List.idxOf_append, if_pos h]
theorem At.nil : At [] (fun _ => none) := ⟨by simp, fun k => by simp⟩
theorem ZiI {l : List Int} {i : Int} (h0 : 0 ≤ i) (h1 : i < (l.length : Int)) : ZT (l.take (i + 1).toNat) = Zcy (ZT (l.take i.toNat)) (gt l i) := by
 rw [ZiY h0 h1]; unfold ZT; rw [List.foldl_append]; rfl
theorem At.none {s : List Int} {f : Int → Option Int} (h : At s f) {v : Int} (h0 : (f v).getD 0 = 0) : v ∉ s := by
 intro hv
 rw [h.2 v, if_pos hv] at h0
 simp at h0; omega
theorem At.some {s : List Int} {f : Int → Option Int} (h : At s f) {v : Int} (h0 : ¬ (f v).getD 0 = 0) : v ∈ s ∧ (f v).getD 0 = (s.idxOf v : Int) + 1 := by
 by_cases hv : v ∈ s
 ·refine ⟨hv, ?_⟩; rw [h.2 v, if_pos hv]; rfl
 ·rw [h.2 v, if_neg hv] at h0; exact absurd rfl h0
theorem At.add {s : List Int} {f : Int → Option Int} (h : At s f) {v : Int} (h0 : v ∉ s) : At (s ++ [v]) (fun x => if x = v then Option.some ((s ++ [v]).length : Int) else f x) := by
 refine ⟨?_, fun k => ?_⟩
 ·rw [List.nodup_append]
  refine ⟨h.1, by simp, fun x hx y hy => ?_⟩
  simp at hy; subst hy; rintro rfl; exact h0 hx
 ·by_cases hk : k = v
  ·subst hk
   dsimp only
   rw [if_pos rfl, if_pos (by simp), List.idxOf_append, if_neg h0]
   simp
  ·dsimp only
   rw [if_neg hk, h.2 k]
   by_cases hs : k ∈ s
   ·rw [if_pos hs, if_pos (by simp [hs]), Zhw hs]
   ·rw [if_neg hs, if_neg (by simp [hs, hk])]
theorem At.cut {s : List Int} {f g : Int → Option Int} (h : At s f) {i : Nat} (hg : ∀ k, g k = if k ∈ s.drop i then Option.none else f k) : At (s.take i) g := by
 have hnd : (s.take i ++ s.drop i).Nodup := by rw [List.take_append_drop]; exact h.1
 rw [List.nodup_append] at hnd
 refine ⟨hnd.1, fun k => ?_⟩
 rw [hg, h.2]
 by_cases h1 : k ∈ s.drop i
 ·rw [if_pos h1, if_neg (fun h2 => hnd.2.2 k h2 k h1 rfl)]
 ·rw [if_neg h1]
  by_cases h2 : k ∈ s.take i
  ·rw [if_pos (List.mem_of_mem_take h2), if_pos h2]
   have : s.idxOf k = (s.take i).idxOf k := by
    conv => lhs; rw [← List.take_append_drop i s]
    exact Zhw h2
   rw [this]
  ·rw [if_neg h2, if_neg (fun h3 => by
    rw [← List.take_append_drop i s, List.mem_append] at h3
    exact h3.elim h2 h1)]
end Go.Vd
namespace Go.Vd
theorem Zj5 (s : List Int) (v : Int) : (Zcy s v).length ≤ s.length + 1 := by
 unfold Zcy
 split
 ·rw [List.length_take]; omega
 ·simp
theorem ZjE (l : List Int) : (ZT l).length ≤ l.length := by
 have key : ∀ (l s : List Int), (l.foldl Zcy s).length ≤ s.length + l.length := by
  intro l
  induction l with
  | nil => intro s; simp
  | cons v l ih =>
   intro s
   have := ih (Zcy s v)
   have h1 := Zj5 s v
   simp only [List.foldl_cons, List.length_cons]; omega
 simpa [ZT] using key l []
end Go.Vd
