/-
  Places compared; errors.As at a number by ways.
-/
import Derived.Test.YtmndpcokgbfgkaaDoorDrF
set_option linter.unusedVariables false
set_option linter.unusedSimpArgs false
set_option maxHeartbeats 4000000
set_option maxRecDepth 100000
namespace Go.Vd
open Go.Proofs Go.Proofs.YtmndpcokgbfgkaaDoor
theorem pr_pureX {α : Type} (P : Program) (a : α) : pr P (pure a : Sem α) = some a := rfl
theorem pr_undX {P : Program} {t : TypeId} {d : TypeDesc} (h : P.underlying t = some d) : pr P (underlying t) = some d := by
  simp only [underlying, pr_bind]
  show ((pr P (program : Sem Program)).bind _) = _
  simp [show pr P (program : Sem Program) = some P from rfl, h]
  rfl
theorem eqI (d : Nat) (t : TypeId) (h : Tryd.prog.underlying t = some (.int .i64)) (a c : Int) : pr Tryd.prog (Op.equalIn (d+1) t (.int .i64 a) (.int .i64 c)) = some (a == c) := by
  simp only [Op.equalIn, pr_bind, pr_undX h]
  simp [pr_pureX]
theorem pe1 (a b : Int) : pr Tryd.prog (part 39 #[.int .i64 a, .int .i64 b] 0) = some (.int .i64 a) := by kernel_rfl
theorem pe2 (a b : Int) : pr Tryd.prog (part 3 #[.int .i64 a, .int .i64 b] 1) = some (.int .i64 b) := by kernel_rfl
theorem pstood : Tryd.prog.stoodInHeld 62 = false := by kernel_rfl
theorem pr_prog {P : Program} : pr P (program : Sem Program) = some P := rfl
theorem eqS (a b c d : Int) : pr Tryd.prog (Op.equalIn Op.maxDepth 62 (.agg #[.int .i64 a, .int .i64 b]) (.agg #[.int .i64 c, .int .i64 d])) = some (a == c && b == d) := by
  rw [show Op.maxDepth = 9998 + 1 + 1 from rfl, Op.equalIn]
  rw [pr_bind, pr_undX Tryd.underlying62]
  simp only [Option.bind_some, pr_bind, pr_prog, pstood, Bool.false_eq_true, if_false]
  simp [pr_bind, pe1, pe2, eqI 9998 39 Tryd.underlying39, eqI 9998 3 Tryd.underlying3]
  by_cases h1 : a = c
  · by_cases h2 : b = d
    · simp [h1, h2, pr_pureX, pr_bind, pe2, eqI 9998 3 Tryd.underlying3]
    · simp [h1, h2, pr_pureX, pr_bind, pe2, eqI 9998 3 Tryd.underlying3]
  · simp [h1, pr_pureX]
theorem eg (x y : Operand) (a b c d : Int) : pr Tryd.prog (eqGuard .neq 62 x y (.agg #[.int .i64 a, .int .i64 b]) (.agg #[.int .i64 c, .int .i64 d])) = some () := by kernel_rfl
theorem aBin_place (x y : Operand) (a b c d : Int) : aBin Tryd.prog .neq 62 x y (.agg #[.int .i64 a, .int .i64 b]) (.agg #[.int .i64 c, .int .i64 d]) = some (.bool (!decide (a = c ∧ b = d))) := by
  unfold aBin
  rw [if_pos (show (plain (.agg #[.int .i64 a, .int .i64 b]) && plain (.agg #[.int .i64 c, .int .i64 d])) = true from rfl), pr_bind, eg]
  have : pr Tryd.prog (binOp .neq 62 (.agg #[.int .i64 a, .int .i64 b]) (.agg #[.int .i64 c, .int .i64 d])) = some (.bool (!decide (a = c ∧ b = d))) := by
    simp only [binOp, Op.equal, pr_bind, eqS]
    simp [pr_pureX]
    by_cases h1 : a = c <;> by_cases h2 : b = d <;> simp [h1, h2]
  simp only [Option.bind_some, this]
  rfl

theorem a_asN_y {H : AH} (hw : WF H) {tb : Nat} {x hd : Value} {e : Er} {fp : Fp} (hrow : Row H tb [x]) (ev : Ev 27 71 H hd e fp) (hn : e ≠ .nil) (h : e.num.isSome = true) :
    ACalls Tryd.prog 23 #[hd, .iface 76 (.pointer (some ⟨tb, 0, none⟩))] H fun v H' => v = .bool true ∧ FrS [tb] H H' ∧ Row H' tb [.int .i64 (e.num.getD 0)] := by
  refine (a_asN hw hrow ev hn).mono fun v H' ⟨h1, h2, h3⟩ => ?_
  cases hc : e.num with
  | none => rw [hc] at h; cases h
  | some n => rw [hc] at h1 h3; exact ⟨h1, h2, h3⟩
theorem a_asN_n {H : AH} (hw : WF H) {tb : Nat} {x hd : Value} {e : Er} {fp : Fp} (hrow : Row H tb [x]) (ev : Ev 27 71 H hd e fp) (hn : e ≠ .nil) (h : ¬ e.num.isSome = true) :
    ACalls Tryd.prog 23 #[hd, .iface 76 (.pointer (some ⟨tb, 0, none⟩))] H fun v H' => v = .bool false ∧ FrS [tb] H H' ∧ Row H' tb [x] := by
  refine (a_asN hw hrow ev hn).mono fun v H' ⟨h1, h2, h3⟩ => ?_
  cases hc : e.num with
  | none => rw [hc] at h1 h3; exact ⟨h1, h2, h3⟩
  | some n => rw [hc] at h; exact absurd rfl h
end Go.Vd
