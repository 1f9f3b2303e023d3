/- Plain laws of arrays that are right, and of walks in them. No program here. -/
import Derived.Test.YtmcecdjpconioaaGreatDoorPscVpA
set_option linter.unusedVariables false
namespace Go.Vd
theorem ZiU {c : Int} {ps : List (Int × Int)} (h : ¬ c = 0 ∨ 0 < (ps.length : Int)) : decide (c ≠ 0 ∨ ps ≠ []) = true := by
 apply decide_eq_true
 rcases h with h | h
 ·exact .inl h
 ·right; rintro rfl; simp at h
theorem ZmP {c : Int} {ps : List (Int × Int)} (h : c = 0 ∧ ¬ 0 < (ps.length : Int)) : decide (c ≠ 0 ∨ ps ≠ []) = false := by
 apply decide_eq_false
 rintro (k | k)
 ·exact k h.1
 ·exact k (List.eq_nil_of_length_eq_zero (by omega))
def ZhV (fi to wt : List Int) (v i : Int) : Int :=
 if gt to i < 0 ∨ gt to i ≥ (fi.length : Int) - 1 then 7
 else if gt to i = v ∨ (i > gt fi v ∧ gt to i ≤ gt to (i - 1)) then 14
 else if gt wt i < 0 ∨ gt wt i > 2147483647 then 8
 else 0
def ZhT (fi to wt : List Int) : Prop := 0 ≤ (fi.length : Int) - 1 ∧ gt fi 0 = 0 ∧ gt fi ((fi.length : Int) - 1) = (to.length : Int) ∧ (to.length : Int) = (wt.length : Int)
def ZiY (fi to : List Int) : Prop := (fi.length : Int) - 1 ≤ 65536 ∧ (to.length : Int) ≤ 262144
def Mono (fi : List Int) (n : Int) : Prop := ∀ u : Int, 0 ≤ u → u < n → gt fi u ≤ gt fi (u + 1)
def In (fi : List Int) (v i : Int) : Prop := 0 ≤ v ∧ v < (fi.length : Int) - 1 ∧ gt fi v ≤ i ∧ i < gt fi (v + 1)
inductive Chk (fi to wt : List Int) : Er → Prop
 | shape : ¬ ZhT fi to wt → Chk fi to wt (.no 14)
 | limit : ZhT fi to wt → ¬ ZiY fi to → Chk fi to wt (.no 9)
 | mono (v : Int) : ZhT fi to wt → ZiY fi to → 0 ≤ v → v < (fi.length : Int) - 1 → gt fi (v + 1) < gt fi v → Mono fi v → Chk fi to wt (.at 3 v (.no 14))
 | arc (v i : Int) : ZhT fi to wt → ZiY fi to → Mono fi ((fi.length : Int) - 1) → In fi v i → ZhV fi to wt v i ≠ 0 → (∀ u j, In fi u j → j < i → ZhV fi to wt u j = 0) → Chk fi to wt (.at 4 i (.no (ZhV fi to wt v i)))
 | ok : ZhT fi to wt → ZiY fi to → Mono fi ((fi.length : Int) - 1) → (∀ u j, In fi u j → ZhV fi to wt u j = 0) → Chk fi to wt .nil
end Go.Vd
namespace Go.Vd
def Er.code : Er → Int
 | .nil => 0
 | .no n => n
 | .at _ _ e => e.code
def Er.pls : Er → List (Int × Int)
 | .at k i e => (k, i) :: e.pls
 | _ => []
def Rows (fi to wt : List Int) (v i : Int) : Prop := ∀ u j, In fi u j → (u < v ∨ (u = v ∧ j < i)) → ZhV fi to wt u j = 0
end Go.Vd
namespace Go.Vd
end Go.Vd
namespace Go.Vd
end Go.Vd
namespace Go.Vd
section
variable {fi to wt : List Int} (h : Chk fi to wt .nil)
include h
end
end Go.Vd
namespace Go.Vd
def Arcw (fi to wt : List Int) (v w x : Int) : Prop := ∃ i, In fi v i ∧ gt to i = w ∧ x = gt wt i
inductive WSum (fi to wt l : List Int) : Int → Int → Prop
 | zero : WSum fi to wt l 0 0
 | step (k s x : Int) : 0 ≤ k → WSum fi to wt l k s → Arcw fi to wt (gt l k) (gt l (k + 1)) x → WSum fi to wt l (k + 1) (s + x)
def ZkN (fi l : List Int) (k : Int) : Prop := ∀ j : Int, 0 ≤ j → j < k → 0 ≤ gt l j ∧ gt l j < (fi.length : Int) - 1
inductive Len (fi to wt l : List Int) : Int → Er → Prop
 | bad (er : Er) : Chk fi to wt er → er ≠ .nil → Len fi to wt l 0 er
 | missing : Chk fi to wt .nil → (l.length : Int) = 0 → Len fi to wt l 0 (.no 5)
 | node (i : Int) : Chk fi to wt .nil → 0 ≤ i → i < (l.length : Int) → (gt l i < 0 ∨ gt l i ≥ (fi.length : Int) - 1) → ZkN fi l i → Len fi to wt l 0 (.at 3 i (.no 7))
 | nowalk (i s : Int) : Chk fi to wt .nil → ZkN fi l (l.length : Int) → 0 ≤ i → i < (l.length : Int) - 1 → WSum fi to wt l i s → (∀ x, ¬ Arcw fi to wt (gt l i) (gt l (i + 1)) x) → Len fi to wt l 0 (.at 4 i (.no 16))
 | ok (s : Int) : Chk fi to wt .nil → ZkN fi l (l.length : Int) → 0 < (l.length : Int) → WSum fi to wt l ((l.length : Int) - 1) s → Len fi to wt l s .nil
end Go.Vd
namespace Go.Vd
end Go.Vd
namespace Go.Vd
end Go.Vd
