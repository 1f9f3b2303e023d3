/- The walks of the functions (printed by a program of ours). -/
import Derived.Test.YtmndpcokgbfgkaaDoorPhf0
import Derived.Test.YtmndpcokgbfgkaaDoorDrG
import Derived.Test.YtmndpcokgbfgkaaDoorIHf
import Derived.Test.YtmndpcokgbfgkaaDoorSoA
import Derived.Test.YtmndpcokgbfgkaaDoorVeT
set_option linter.unusedVariables false
set_option linter.unusedSimpArgs false
set_option linter.unusedSectionVars false
/-! (KHf0) -/

set_option maxRecDepth 100000
set_option maxHeartbeats 4000000
set_option linter.unusedVariables false
namespace Go.Vd
open Go.Proofs
attribute [local irreducible] wpSeq wpOrd aWp
set_option linter.unusedSimpArgs false
theorem e_pure {α : Type} (P : Program) (a : α) : pr P (pure a : Sem α) = some a := rfl
theorem e_prog {P : Program} : pr P (program : Sem Program) = some P := rfl
theorem e_und {P : Program} {t : TypeId} {d : TypeDesc} (h : P.underlying t = some d) : pr P (underlying t) = some d := by
 simp only [underlying, pr_bind]
 show ((pr P (program : Sem Program)).bind _) = _
 simp [show pr P (program : Sem Program) = some P from rfl, h]
 rfl
theorem e_int {P : Program} (d : Nat) (t : TypeId) (k : IntKind) (h : P.underlying t = some (.int k)) (a c : Int) : pr P (Op.equalIn (d+1) t (.int k a) (.int k c)) = some (a == c) := by
 simp only [Op.equalIn, pr_bind, e_und h]
 simp [e_pure]
theorem e_bool {P : Program} (d : Nat) (t : TypeId) (h : P.underlying t = some .bool) (a c : Bool) : pr P (Op.equalIn (d+1) t (.bool a) (.bool c)) = some (a == c) := by
 simp only [Op.equalIn, pr_bind, e_und h]
 simp [e_pure]

theorem e36_p0 (a0 : Int) (a1 : Int) (a2 : Int) (a3 : Int) : pr Tryd.prog (part 34 #[.int .u32 a0, .int .u64 a1, .int .u32 a2, .int .u32 a3] 0) = some (.int .u32 a0) := by kernel_rfl
theorem e36_q0 (a c : Int) : pr Tryd.prog (Op.equalIn 9999 34 (.int .u32 a) (.int .u32 c)) = some (a == c) := e_int 9998 34 .u32 Go.Proofs.Tryd.underlying34 a c
theorem e36_p1 (a0 : Int) (a1 : Int) (a2 : Int) (a3 : Int) : pr Tryd.prog (part 33 #[.int .u32 a0, .int .u64 a1, .int .u32 a2, .int .u32 a3] 1) = some (.int .u64 a1) := by kernel_rfl
theorem e36_q1 (a c : Int) : pr Tryd.prog (Op.equalIn 9999 33 (.int .u64 a) (.int .u64 c)) = some (a == c) := e_int 9998 33 .u64 Go.Proofs.Tryd.underlying33 a c
theorem e36_p2 (a0 : Int) (a1 : Int) (a2 : Int) (a3 : Int) : pr Tryd.prog (part 34 #[.int .u32 a0, .int .u64 a1, .int .u32 a2, .int .u32 a3] 2) = some (.int .u32 a2) := by kernel_rfl
theorem e36_q2 (a c : Int) : pr Tryd.prog (Op.equalIn 9999 34 (.int .u32 a) (.int .u32 c)) = some (a == c) := e_int 9998 34 .u32 Go.Proofs.Tryd.underlying34 a c
theorem e36_p3 (a0 : Int) (a1 : Int) (a2 : Int) (a3 : Int) : pr Tryd.prog (part 34 #[.int .u32 a0, .int .u64 a1, .int .u32 a2, .int .u32 a3] 3) = some (.int .u32 a3) := by kernel_rfl
theorem e36_q3 (a c : Int) : pr Tryd.prog (Op.equalIn 9999 34 (.int .u32 a) (.int .u32 c)) = some (a == c) := e_int 9998 34 .u32 Go.Proofs.Tryd.underlying34 a c
theorem e36_stood : Tryd.prog.stoodInHeld 36 = false := by kernel_rfl
theorem e36_eq (a0 : Int) (a1 : Int) (a2 : Int) (a3 : Int) (c0 : Int) (c1 : Int) (c2 : Int) (c3 : Int) : pr Tryd.prog (Op.equalIn Op.maxDepth 36 (.agg #[.int .u32 a0, .int .u64 a1, .int .u32 a2, .int .u32 a3]) (.agg #[.int .u32 c0, .int .u64 c1, .int .u32 c2, .int .u32 c3])) = some (a0 == c0 && a1 == c1 && a2 == c2 && a3 == c3) := by
 rw [show Op.maxDepth = 9998 + 1 + 1 from rfl, Op.equalIn]
 rw [pr_bind, e_und Go.Proofs.Tryd.underlying36]
 simp only [Option.bind_some, pr_bind, e_prog, e36_stood, Bool.false_eq_true, if_false]
 simp [pr_bind, e36_p0, e36_p1, e36_p2, e36_p3, e36_q0, e36_q1, e36_q2, e36_q3]
 by_cases h0 : a0 = c0
 ·subst h0
  by_cases h1 : a1 = c1
  ·subst h1
   by_cases h2 : a2 = c2
   ·subst h2
    by_cases h3 : a3 = c3
    ·subst h3
     simp [e_pure, pr_bind, e36_p0, e36_p1, e36_p2, e36_p3, e36_q0, e36_q1, e36_q2, e36_q3]
    ·simp [e_pure, pr_bind, e36_p0, e36_p1, e36_p2, e36_p3, e36_q0, e36_q1, e36_q2, e36_q3, h3]
   ·simp [e_pure, pr_bind, e36_p0, e36_p1, e36_p2, e36_p3, e36_q0, e36_q1, e36_q2, e36_q3, h2]
  ·simp [e_pure, pr_bind, e36_p0, e36_p1, e36_p2, e36_p3, e36_q0, e36_q1, e36_q2, e36_q3, h1]
 ·simp [e_pure, pr_bind, e36_p0, e36_p1, e36_p2, e36_p3, e36_q0, e36_q1, e36_q2, e36_q3, h0]
theorem e36_gneq (x y : Operand) (a0 : Int) (a1 : Int) (a2 : Int) (a3 : Int) (c0 : Int) (c1 : Int) (c2 : Int) (c3 : Int) : pr Tryd.prog (eqGuard .neq 36 x y (.agg #[.int .u32 a0, .int .u64 a1, .int .u32 a2, .int .u32 a3]) (.agg #[.int .u32 c0, .int .u64 c1, .int .u32 c2, .int .u32 c3])) = some () := by kernel_rfl
theorem aBin_neq36 (x y : Operand) (a0 : Int) (a1 : Int) (a2 : Int) (a3 : Int) (c0 : Int) (c1 : Int) (c2 : Int) (c3 : Int) : aBin Tryd.prog .neq 36 x y (.agg #[.int .u32 a0, .int .u64 a1, .int .u32 a2, .int .u32 a3]) (.agg #[.int .u32 c0, .int .u64 c1, .int .u32 c2, .int .u32 c3]) = some (.bool (!decide (a0 = c0 ∧ a1 = c1 ∧ a2 = c2 ∧ a3 = c3))) := by
 unfold aBin
 rw [if_pos (show (plain (.agg #[.int .u32 a0, .int .u64 a1, .int .u32 a2, .int .u32 a3]) && plain (.agg #[.int .u32 c0, .int .u64 c1, .int .u32 c2, .int .u32 c3])) = true from rfl), pr_bind, e36_gneq]
 have : pr Tryd.prog (binOp .neq 36 (.agg #[.int .u32 a0, .int .u64 a1, .int .u32 a2, .int .u32 a3]) (.agg #[.int .u32 c0, .int .u64 c1, .int .u32 c2, .int .u32 c3])) = some (.bool (!decide (a0 = c0 ∧ a1 = c1 ∧ a2 = c2 ∧ a3 = c3))) := by
  simp only [binOp, Op.equal, pr_bind, e36_eq]
  by_cases g0 : a0 = c0 <;> by_cases g1 : a1 = c1 <;> by_cases g2 : a2 = c2 <;> by_cases g3 : a3 = c3 <;> simp [e_pure, g0, g1, g2, g3]
 simp only [Option.bind_some, this]
 rfl
theorem e36_geql (x y : Operand) (a0 : Int) (a1 : Int) (a2 : Int) (a3 : Int) (c0 : Int) (c1 : Int) (c2 : Int) (c3 : Int) : pr Tryd.prog (eqGuard .eql 36 x y (.agg #[.int .u32 a0, .int .u64 a1, .int .u32 a2, .int .u32 a3]) (.agg #[.int .u32 c0, .int .u64 c1, .int .u32 c2, .int .u32 c3])) = some () := by kernel_rfl
theorem aBin_eql36 (x y : Operand) (a0 : Int) (a1 : Int) (a2 : Int) (a3 : Int) (c0 : Int) (c1 : Int) (c2 : Int) (c3 : Int) : aBin Tryd.prog .eql 36 x y (.agg #[.int .u32 a0, .int .u64 a1, .int .u32 a2, .int .u32 a3]) (.agg #[.int .u32 c0, .int .u64 c1, .int .u32 c2, .int .u32 c3]) = some (.bool (decide (a0 = c0 ∧ a1 = c1 ∧ a2 = c2 ∧ a3 = c3))) := by
 unfold aBin
 rw [if_pos (show (plain (.agg #[.int .u32 a0, .int .u64 a1, .int .u32 a2, .int .u32 a3]) && plain (.agg #[.int .u32 c0, .int .u64 c1, .int .u32 c2, .int .u32 c3])) = true from rfl), pr_bind, e36_geql]
 have : pr Tryd.prog (binOp .eql 36 (.agg #[.int .u32 a0, .int .u64 a1, .int .u32 a2, .int .u32 a3]) (.agg #[.int .u32 c0, .int .u64 c1, .int .u32 c2, .int .u32 c3])) = some (.bool (decide (a0 = c0 ∧ a1 = c1 ∧ a2 = c2 ∧ a3 = c3))) := by
  simp only [binOp, Op.equal, pr_bind, e36_eq]
  by_cases g0 : a0 = c0 <;> by_cases g1 : a1 = c1 <;> by_cases g2 : a2 = c2 <;> by_cases g3 : a3 = c3 <;> simp [e_pure, g0, g1, g2, g3]
 simp only [Option.bind_some, this]
 rfl
theorem e60_p0 (a0 : Int) (a1 : Int) (a2 : Int) : pr Tryd.prog (part 3 #[.int .i64 a0, .int .i64 a1, .int .i64 a2] 0) = some (.int .i64 a0) := by kernel_rfl
theorem e60_q0 (a c : Int) : pr Tryd.prog (Op.equalIn 9999 3 (.int .i64 a) (.int .i64 c)) = some (a == c) := e_int 9998 3 .i64 Go.Proofs.Tryd.underlying3 a c
theorem e60_p1 (a0 : Int) (a1 : Int) (a2 : Int) : pr Tryd.prog (part 3 #[.int .i64 a0, .int .i64 a1, .int .i64 a2] 1) = some (.int .i64 a1) := by kernel_rfl
theorem e60_q1 (a c : Int) : pr Tryd.prog (Op.equalIn 9999 3 (.int .i64 a) (.int .i64 c)) = some (a == c) := e_int 9998 3 .i64 Go.Proofs.Tryd.underlying3 a c
theorem e60_p2 (a0 : Int) (a1 : Int) (a2 : Int) : pr Tryd.prog (part 3 #[.int .i64 a0, .int .i64 a1, .int .i64 a2] 2) = some (.int .i64 a2) := by kernel_rfl
theorem e60_q2 (a c : Int) : pr Tryd.prog (Op.equalIn 9999 3 (.int .i64 a) (.int .i64 c)) = some (a == c) := e_int 9998 3 .i64 Go.Proofs.Tryd.underlying3 a c
theorem e60_stood : Tryd.prog.stoodInHeld 60 = false := by kernel_rfl
theorem e60_eq (a0 : Int) (a1 : Int) (a2 : Int) (c0 : Int) (c1 : Int) (c2 : Int) : pr Tryd.prog (Op.equalIn Op.maxDepth 60 (.agg #[.int .i64 a0, .int .i64 a1, .int .i64 a2]) (.agg #[.int .i64 c0, .int .i64 c1, .int .i64 c2])) = some (a0 == c0 && a1 == c1 && a2 == c2) := by
 rw [show Op.maxDepth = 9998 + 1 + 1 from rfl, Op.equalIn]
 rw [pr_bind, e_und Go.Proofs.Tryd.underlying60]
 simp only [Option.bind_some, pr_bind, e_prog, e60_stood, Bool.false_eq_true, if_false]
 simp [pr_bind, e60_p0, e60_p1, e60_p2, e60_q0, e60_q1, e60_q2]
 by_cases h0 : a0 = c0
 ·subst h0
  by_cases h1 : a1 = c1
  ·subst h1
   by_cases h2 : a2 = c2
   ·subst h2
    simp [e_pure, pr_bind, e60_p0, e60_p1, e60_p2, e60_q0, e60_q1, e60_q2]
   ·simp [e_pure, pr_bind, e60_p0, e60_p1, e60_p2, e60_q0, e60_q1, e60_q2, h2]
  ·simp [e_pure, pr_bind, e60_p0, e60_p1, e60_p2, e60_q0, e60_q1, e60_q2, h1]
 ·simp [e_pure, pr_bind, e60_p0, e60_p1, e60_p2, e60_q0, e60_q1, e60_q2, h0]
theorem e60_gneq (x y : Operand) (a0 : Int) (a1 : Int) (a2 : Int) (c0 : Int) (c1 : Int) (c2 : Int) : pr Tryd.prog (eqGuard .neq 60 x y (.agg #[.int .i64 a0, .int .i64 a1, .int .i64 a2]) (.agg #[.int .i64 c0, .int .i64 c1, .int .i64 c2])) = some () := by kernel_rfl
theorem aBin_neq60 (x y : Operand) (a0 : Int) (a1 : Int) (a2 : Int) (c0 : Int) (c1 : Int) (c2 : Int) : aBin Tryd.prog .neq 60 x y (.agg #[.int .i64 a0, .int .i64 a1, .int .i64 a2]) (.agg #[.int .i64 c0, .int .i64 c1, .int .i64 c2]) = some (.bool (!decide (a0 = c0 ∧ a1 = c1 ∧ a2 = c2))) := by
 unfold aBin
 rw [if_pos (show (plain (.agg #[.int .i64 a0, .int .i64 a1, .int .i64 a2]) && plain (.agg #[.int .i64 c0, .int .i64 c1, .int .i64 c2])) = true from rfl), pr_bind, e60_gneq]
 have : pr Tryd.prog (binOp .neq 60 (.agg #[.int .i64 a0, .int .i64 a1, .int .i64 a2]) (.agg #[.int .i64 c0, .int .i64 c1, .int .i64 c2])) = some (.bool (!decide (a0 = c0 ∧ a1 = c1 ∧ a2 = c2))) := by
  simp only [binOp, Op.equal, pr_bind, e60_eq]
  by_cases g0 : a0 = c0 <;> by_cases g1 : a1 = c1 <;> by_cases g2 : a2 = c2 <;> simp [e_pure, g0, g1, g2]
 simp only [Option.bind_some, this]
 rfl
theorem e60_geql (x y : Operand) (a0 : Int) (a1 : Int) (a2 : Int) (c0 : Int) (c1 : Int) (c2 : Int) : pr Tryd.prog (eqGuard .eql 60 x y (.agg #[.int .i64 a0, .int .i64 a1, .int .i64 a2]) (.agg #[.int .i64 c0, .int .i64 c1, .int .i64 c2])) = some () := by kernel_rfl
theorem aBin_eql60 (x y : Operand) (a0 : Int) (a1 : Int) (a2 : Int) (c0 : Int) (c1 : Int) (c2 : Int) : aBin Tryd.prog .eql 60 x y (.agg #[.int .i64 a0, .int .i64 a1, .int .i64 a2]) (.agg #[.int .i64 c0, .int .i64 c1, .int .i64 c2]) = some (.bool (decide (a0 = c0 ∧ a1 = c1 ∧ a2 = c2))) := by
 unfold aBin
 rw [if_pos (show (plain (.agg #[.int .i64 a0, .int .i64 a1, .int .i64 a2]) && plain (.agg #[.int .i64 c0, .int .i64 c1, .int .i64 c2])) = true from rfl), pr_bind, e60_geql]
 have : pr Tryd.prog (binOp .eql 60 (.agg #[.int .i64 a0, .int .i64 a1, .int .i64 a2]) (.agg #[.int .i64 c0, .int .i64 c1, .int .i64 c2])) = some (.bool (decide (a0 = c0 ∧ a1 = c1 ∧ a2 = c2))) := by
  simp only [binOp, Op.equal, pr_bind, e60_eq]
  by_cases g0 : a0 = c0 <;> by_cases g1 : a1 = c1 <;> by_cases g2 : a2 = c2 <;> simp [e_pure, g0, g1, g2]
 simp only [Option.bind_some, this]
 rfl
theorem e62_p0 (a0 : Int) (a1 : Int) : pr Tryd.prog (part 39 #[.int .i64 a0, .int .i64 a1] 0) = some (.int .i64 a0) := by kernel_rfl
theorem e62_q0 (a c : Int) : pr Tryd.prog (Op.equalIn 9999 39 (.int .i64 a) (.int .i64 c)) = some (a == c) := e_int 9998 39 .i64 Go.Proofs.Tryd.underlying39 a c
theorem e62_p1 (a0 : Int) (a1 : Int) : pr Tryd.prog (part 3 #[.int .i64 a0, .int .i64 a1] 1) = some (.int .i64 a1) := by kernel_rfl
theorem e62_q1 (a c : Int) : pr Tryd.prog (Op.equalIn 9999 3 (.int .i64 a) (.int .i64 c)) = some (a == c) := e_int 9998 3 .i64 Go.Proofs.Tryd.underlying3 a c
theorem e62_stood : Tryd.prog.stoodInHeld 62 = false := by kernel_rfl
theorem e62_eq (a0 : Int) (a1 : Int) (c0 : Int) (c1 : Int) : pr Tryd.prog (Op.equalIn Op.maxDepth 62 (.agg #[.int .i64 a0, .int .i64 a1]) (.agg #[.int .i64 c0, .int .i64 c1])) = some (a0 == c0 && a1 == c1) := by
 rw [show Op.maxDepth = 9998 + 1 + 1 from rfl, Op.equalIn]
 rw [pr_bind, e_und Go.Proofs.Tryd.underlying62]
 simp only [Option.bind_some, pr_bind, e_prog, e62_stood, Bool.false_eq_true, if_false]
 simp [pr_bind, e62_p0, e62_p1, e62_q0, e62_q1]
 by_cases h0 : a0 = c0
 ·subst h0
  by_cases h1 : a1 = c1
  ·subst h1
   simp [e_pure, pr_bind, e62_p0, e62_p1, e62_q0, e62_q1]
  ·simp [e_pure, pr_bind, e62_p0, e62_p1, e62_q0, e62_q1, h1]
 ·simp [e_pure, pr_bind, e62_p0, e62_p1, e62_q0, e62_q1, h0]
theorem e62_gneq (x y : Operand) (a0 : Int) (a1 : Int) (c0 : Int) (c1 : Int) : pr Tryd.prog (eqGuard .neq 62 x y (.agg #[.int .i64 a0, .int .i64 a1]) (.agg #[.int .i64 c0, .int .i64 c1])) = some () := by kernel_rfl
theorem aBin_neq62 (x y : Operand) (a0 : Int) (a1 : Int) (c0 : Int) (c1 : Int) : aBin Tryd.prog .neq 62 x y (.agg #[.int .i64 a0, .int .i64 a1]) (.agg #[.int .i64 c0, .int .i64 c1]) = some (.bool (!decide (a0 = c0 ∧ a1 = c1))) := by
 unfold aBin
 rw [if_pos (show (plain (.agg #[.int .i64 a0, .int .i64 a1]) && plain (.agg #[.int .i64 c0, .int .i64 c1])) = true from rfl), pr_bind, e62_gneq]
 have : pr Tryd.prog (binOp .neq 62 (.agg #[.int .i64 a0, .int .i64 a1]) (.agg #[.int .i64 c0, .int .i64 c1])) = some (.bool (!decide (a0 = c0 ∧ a1 = c1))) := by
  simp only [binOp, Op.equal, pr_bind, e62_eq]
  by_cases g0 : a0 = c0 <;> by_cases g1 : a1 = c1 <;> simp [e_pure, g0, g1]
 simp only [Option.bind_some, this]
 rfl
theorem e62_geql (x y : Operand) (a0 : Int) (a1 : Int) (c0 : Int) (c1 : Int) : pr Tryd.prog (eqGuard .eql 62 x y (.agg #[.int .i64 a0, .int .i64 a1]) (.agg #[.int .i64 c0, .int .i64 c1])) = some () := by kernel_rfl
theorem aBin_eql62 (x y : Operand) (a0 : Int) (a1 : Int) (c0 : Int) (c1 : Int) : aBin Tryd.prog .eql 62 x y (.agg #[.int .i64 a0, .int .i64 a1]) (.agg #[.int .i64 c0, .int .i64 c1]) = some (.bool (decide (a0 = c0 ∧ a1 = c1))) := by
 unfold aBin
 rw [if_pos (show (plain (.agg #[.int .i64 a0, .int .i64 a1]) && plain (.agg #[.int .i64 c0, .int .i64 c1])) = true from rfl), pr_bind, e62_geql]
 have : pr Tryd.prog (binOp .eql 62 (.agg #[.int .i64 a0, .int .i64 a1]) (.agg #[.int .i64 c0, .int .i64 c1])) = some (.bool (decide (a0 = c0 ∧ a1 = c1))) := by
  simp only [binOp, Op.equal, pr_bind, e62_eq]
  by_cases g0 : a0 = c0 <;> by_cases g1 : a1 = c1 <;> simp [e_pure, g0, g1]
 simp only [Option.bind_some, this]
 rfl
theorem c_viaductref10_Three {H : AH} {r : List (Int) × List (Int) × List (Int × Int × Int × Int) × List (Int) × List (Int × Int × Int × Int)}
  (wf : WF H) (hr : z_viaductref10_Three = some r) :
  ACalls Tryd.prog 6 #[] H fun v H' => ∃ (s3 : Value) (f4 : Fp) (s7 : Value) (f8 : Fp) (s11 : Value) (f12 : Fp) (s15 : Value) (f16 : Fp) (s19 : Value) (f20 : Fp), v = .agg #[s3, s7, s11, s15, s19] ∧ FrS [] H H' ∧ Ow (encI .u32) 1 H' s3 r.1 f4 ∧ Ow (encI .u32) 1 H' s7 r.2.1 f8 ∧ Ow enc_u32_u64_u32_u32 4 H' s11 r.2.2.1 f12 ∧ Ow (encI .u32) 1 H' s15 r.2.2.2.1 f16 ∧ Ow enc_u32_u64_u32_u32 4 H' s19 r.2.2.2.2 f20 ∧ Inn [] H f4 ∧ Inn [] H f8 ∧ Inn [] H f12 ∧ Inn [] H f16 ∧ Inn [] H f20 ∧ Dj f4 f8 ∧ Dj f4 f12 ∧ Dj f8 f12 ∧ Dj f4 f16 ∧ Dj f8 f16 ∧ Dj f12 f16 ∧ Dj f4 f20 ∧ Dj f8 f20 ∧ Dj f12 f20 ∧ Dj f16 f20 := by
 refine acalls_of_body mixed Tryd.func6 rfl (Nat.le_of_ble_eq_true rfl) ?_
 unfold z_viaductref10_Three at hr
 refine w_seqk fun K36 k36 => ?_
 refine w_reg (by kernel_rfl) ?_
 refine s_rwk wf [.slice none 0 0, .slice none 0 0, .slice none 0 0, .slice none 0 0, .slice none 0 0] (by kernel_rfl) fun b37 H38 e39 hb40 r41 => ?_
 refine s_nil ?_
 refine k36 _ _ ?_
 refine w_seqk fun K43 k43 => ?_
 refine w_reg (by kernel_rfl) ?_
 refine s_owk (enc := (encI .u32)) (sz := 1) e39.wf [1, 0, 2] 3 (by decide) (fun _ _ => rfl) (fun _ _ => rfl) rfl (by kernel_rfl) fun s44 f45 H46 e47 hf48 hm49 => ?_
 obtain ⟨a50, n51, c52, rfl⟩ := hm49.form
 refine s_owk (enc := (encI .u32)) (sz := 1) e47.wf [0, 1, 2, 2] 4 (by decide) (fun _ _ => rfl) (fun _ _ => rfl) rfl (by kernel_rfl) fun s54 f55 H56 e57 hf58 hm59 => ?_
 obtain ⟨a60, n61, c62, rfl⟩ := hm59.form
 refine s_qk (.agg #[.int .u32 2, .int .u64 1, .int .u32 4294967295, .int .u32 4294967295]) (by kernel_rfl) ?_
 refine s_qk (.agg #[.int .u32 2, .int .u64 5, .int .u32 2, .int .u32 0]) (by kernel_rfl) ?_
 refine s_owk (enc := enc_u32_u64_u32_u32) (sz := 4) e57.wf [(2, 1, 4294967295, 4294967295), (2, 5, 2, 0)] 2 (by decide) (fun _ _ => rfl) (fun _ _ => rfl) rfl (by kernel_rfl) fun s64 f65 H66 e67 hf68 hm69 => ?_
 obtain ⟨a70, n71, c72, rfl⟩ := hm69.form
 refine s_owk (enc := (encI .u32)) (sz := 1) e67.wf [0, 1, 1, 1] 4 (by decide) (fun _ _ => rfl) (fun _ _ => rfl) rfl (by kernel_rfl) fun s74 f75 H76 e77 hf78 hm79 => ?_
 obtain ⟨a80, n81, c82, rfl⟩ := hm79.form
 refine s_qk (.agg #[.int .u32 1, .int .u64 4, .int .u32 4294967295, .int .u32 4294967295]) (by kernel_rfl) ?_
 refine s_owk (enc := enc_u32_u64_u32_u32) (sz := 4) e77.wf [(1, 4, 4294967295, 4294967295)] 1 (by decide) (fun _ _ => rfl) (fun _ _ => rfl) rfl (by kernel_rfl) fun s84 f85 H86 e87 hf88 hm89 => ?_
 obtain ⟨a90, n91, c92, rfl⟩ := hm89.form
 refine s_qk (.agg #[.slice a50 n51 c52, .slice a60 n61 c62, .slice a70 n71 c72, .slice a80 n81 c82, .slice a90 n91 c92]) (by kernel_rfl) ?_
 have u98 := (((((r41.ext e47).ext e57).ext e67).ext e77).ext e87)
 have u99 := (hm79.ext e87)
 have u100 := ((hm69.ext e77).ext e87)
 have u101 := (((hm59.ext e67).ext e77).ext e87)
 have u102 := ((((hm49.ext e57).ext e67).ext e77).ext e87)
 obtain ⟨H94, q95, e96, r97⟩ := Row.store (P := Tryd.prog) (t := 31) (p := 0) e87.wf u98 (.agg #[.slice a50 n51 c52, .slice a60 n61 c62, .slice a70 n71 c72, .slice a80 n81 c82, .slice a90 n91 c92]) [.slice a50 n51 c52, .slice a60 n61 c62, .slice a70 n71 c72, .slice a80 n81 c82, .slice a90 n91 c92] (by kernel_rfl) (by kernel_rfl) (one_cons (u102.one1) (one_cons (u101.one1) (one_cons (u100.one1) (one_cons (u99.one1) (one_cons (hm89.one1) (one_nil)))))) (Nat.le_of_ble_eq_true (by kernel_rfl)) [.slice a50 n51 c52, .slice a60 n61 c62, .slice a70 n71 c72, .slice a80 n81 c82, .slice a90 n91 c92] (by kernel_rfl)
 refine s_ek (undef) (by kernel_rfl) (map_ok q95) ?_
 refine s_nil ?_
 refine k43 _ _ ?_
 refine w_ret ?_
 refine b_ret (fn := Tryd.f6) (vs := [.agg #[.slice a50 n51 c52, .slice a60 n61 c62, .slice a70 n71 c72, .slice a80 n81 c82, .slice a90 n91 c92]]) (aRes_cell (Eq.trans (b := aLoad Tryd.prog 31 (.pointer (some ⟨b37, 0, none⟩)) H94) (by kernel_rfl) (r97.ld (by kernel_rfl))) (rfl)) ?_
 have u103 := (u102.fr e96 (Dj.symm (hf48.djn r41.ltF)))
 have u104 := (u101.fr e96 (Dj.symm (hf58.djn (r41.ltF.le e47.next))))
 have u105 := (u100.fr e96 (Dj.symm (hf68.djn (r41.ltF.le (ntr e47.next e57.next)))))
 have u106 := (u99.fr e96 (Dj.symm (hf78.djn (r41.ltF.le (ntr (ntr e47.next e57.next) e67.next)))))
 have u107 := (hm89.fr e96 (Dj.symm (hf88.djn (r41.ltF.le (ntr (ntr (ntr e47.next e57.next) e67.next) e77.next)))))
 obtain rfl := Option.some.inj hr
 exact ⟨(.slice a50 n51 c52), f45, (.slice a60 n61 c62), f55, (.slice a70 n71 c72), f65, (.slice a80 n81 c82), f75, (.slice a90 n91 c92), f85, rfl, (FrS.step wf (((((((FrS.refl (W := []) wf).extR e39).extR e47).extR e57).extR e67).extR e77).extR e87) e96 (hb40.fresh (Nat.le_refl _))), u103, u104, u105, u106, u107, (hf48.fresh e39.next), (hf58.fresh (ntr e39.next e47.next)), (hf68.fresh (ntr (ntr e39.next e47.next) e57.next)), (hf78.fresh (ntr (ntr (ntr e39.next e47.next) e57.next) e67.next)), (hf88.fresh (ntr (ntr (ntr (ntr e39.next e47.next) e57.next) e67.next) e77.next)), (Dj.symm (hf58.djn hm49.lt)), (Dj.symm (hf68.djn (hm49.lt.le e57.next))), (Dj.symm (hf68.djn hm59.lt)), (Dj.symm (hf78.djn (hm49.lt.le (ntr e57.next e67.next)))), (Dj.symm (hf78.djn (hm59.lt.le e67.next))), (Dj.symm (hf78.djn hm69.lt)), (Dj.symm (hf88.djn (hm49.lt.le (ntr (ntr e57.next e67.next) e77.next)))), (Dj.symm (hf88.djn (hm59.lt.le (ntr e67.next e77.next)))), (Dj.symm (hf88.djn (hm69.lt.le e77.next))), (Dj.symm (hf88.djn hm79.lt))⟩

theorem c_fault_At {H : AH} {ev_err : Value} {fp_err : Fp} {kind : Int} {at_ : Int} {err : Er} {r : Er}
  (wf : WF H) (h_err : Ev 27 71 H ev_err err fp_err) (hr : z_fault_At kind at_ err = some r) :
  ACalls Tryd.prog 35 #[.int .i64 kind, .int .i64 at_, ev_err] H fun v H' => ∃ (v3 : Value) (f4 : Fp), v = v3 ∧ FrS [] H H' ∧ Ev 27 71 H' v3 r f4 ∧ Inn fp_err H f4 := by
 refine acalls_of_body mixed Tryd.func35 rfl (Nat.le_of_ble_eq_true rfl) ?_
 unfold z_fault_At at hr
 refine w_seqk fun K6 k6 => ?_
 refine w_reg (by kernel_rfl) ?_
 refine s_qk (.nilIface) (by kernel_rfl) ?_
 refine s_nil ?_
 refine k6 _ _ ?_
 refine w_seqk fun K7 k7 => ?_
 refine w_seqk fun K8 k8 => ?_
 refine w_reg (by kernel_rfl) ?_
 refine s_qk (ev_err) (by kernel_rfl) ?_
 rcases (h_err).cases with ⟨h9, rfl⟩ | ⟨h9, t10, x11, rfl⟩
 ·have r12 := ite_t h9 hr
  refine s_qk (.bool true) (by kernel_rfl) ?_
  refine s_nil ?_
  refine k8 _ _ ?_
  refine w_cond true (by kernel_rfl) rfl (fun _ => ?_) (fun h => by cases h)
  refine w_seqk fun K13 k13 => ?_
  refine w_reg (by kernel_rfl) ?_
  refine s_qk (.nilIface) (by kernel_rfl) ?_
  refine s_nil ?_
  refine k13 _ _ ?_
  refine w_ret (th_ret ?_)
  refine b_ret (fn := Tryd.f35) (vs := [.nilIface]) (aRes_tmp (by kernel_rfl) (rfl)) ?_
  obtain rfl := Option.some.inj r12
  exact ⟨(.nilIface), [], rfl, (FrS.refl (W := []) wf), Ev.nil, Inn.nil⟩
 ·have r14 := ite_f h9 hr
  refine s_ql (.bool false) (x := aBin Tryd.prog .eql 41 (.tmp 7) (.const .nilIface) (.iface t10 x11) .nilIface) (by kernel_rfl) (aBin_nil (by kernel_rfl)) ?_
  refine s_nil ?_
  refine k8 _ _ ?_
  refine w_cond false (by kernel_rfl) rfl (fun h => by cases h) (fun _ => ?_)
  refine w_skip ?_
  refine k7 _ _ ?_
  refine w_seqk fun K15 k15 => ?_
  refine w_reg (by kernel_rfl) ?_
  refine s_qk (.int .i64 kind) (by kernel_rfl) ?_
  refine s_qk (.int .i64 at_) (by kernel_rfl) ?_
  refine s_qk (.agg #[.int .i64 kind, .int .i64 at_]) (by kernel_rfl) ?_
  refine s_qk (.iface t10 x11) (by kernel_rfl) ?_
  refine s_qk (.agg #[.int .i64 kind, .int .i64 at_, .iface t10 x11]) (by kernel_rfl) ?_
  refine s_rwl wf [.int .i64 kind, .int .i64 at_, .iface t10 x11] (one_cons (rfl) (one_cons (rfl) (one_cons (h_err.one1) (one_nil)))) (by kernel_rfl) fun b16 H17 e18 hb19 r20 => ?_
  have u22 := (h_err.ext e18)
  obtain ⟨fq23, he24, hi25⟩ := Ev.at r20 u22 hb19
  refine s_qk (.iface 71 (.pointer (some ⟨b16, 0, none⟩))) (by kernel_rfl) ?_
  refine s_qk (.iface 71 (.pointer (some ⟨b16, 0, none⟩))) (by kernel_rfl) ?_
  refine s_nil ?_
  refine k15 _ _ ?_
  refine w_ret ?_
  refine b_ret (fn := Tryd.f35) (vs := [.iface 71 (.pointer (some ⟨b16, 0, none⟩))]) (aRes_tmp (by kernel_rfl) (rfl)) ?_
  obtain rfl := Option.some.inj r14
  exact ⟨(.iface 71 (.pointer (some ⟨b16, 0, none⟩))), fq23, rfl, ((FrS.refl (W := []) wf).extR e18), he24, (Inn.trans Inn.refl' (Nat.le_refl _) hi25)⟩

theorem c_hier_firsts {H : AH} {hd_l : Value} {fp_l : Fp} {l : List (Int)} {links : Int} {r : Er}
  (wf : WF H) (h_l : Sq (encI .u32) 1 H hd_l l fp_l) (hr : z_hier_firsts l links = some r) :
  ACalls Tryd.prog 31 #[hd_l, .int .i64 links] H fun v H' => ∃ (v3 : Value) (f4 : Fp), v = v3 ∧ FrS [] H H' ∧ Ev 27 71 H' v3 r f4 ∧ Inn [] H f4 := by
 refine acalls_of_body mixed Tryd.func31 rfl (Nat.le_of_ble_eq_true rfl) ?_
 unfold z_hier_firsts at hr
 refine w_seqk fun K6 k6 => ?_
 refine w_reg (by kernel_rfl) ?_
 refine s_qk (.nilIface) (by kernel_rfl) ?_
 refine s_nil ?_
 refine k6 _ _ ?_
 refine w_seqk fun K7 k7 => ?_
 refine w_seqk fun K8 k8 => ?_
 refine w_reg (by kernel_rfl) ?_
 refine s_qk (hd_l) (by kernel_rfl) ?_
 obtain ⟨g9, r10⟩ := G_some hr
 refine s_ql (elp hd_l 1 (0 : Int).toNat 0) (x := aIndexAddr Tryd.prog 28 hd_l (.int .i64 0)) (by kernel_rfl) (h_l.idxb (by kernel_rfl) (by decide) g9) ?_
 refine s_ql (.int .u32 (gt l 0)) (x := aLoad Tryd.prog 34 (elp hd_l 1 (0 : Int).toNat 0) H) (by kernel_rfl) (h_l.ld (by decide) g9 (by kernel_rfl)) ?_
 refine s_qk (.bool (!decide ((gt l 0) = 0))) (by kernel_rfl) ?_
 refine s_nil ?_
 refine k8 _ _ ?_
 refine w_condn ((gt l 0) = 0) (by kernel_rfl) rfl (fun h11 => ?_) (fun h11 => ?_)
 ·have r12 := ite_f h11 r10
  refine w_seqk fun K13 k13 => ?_
  refine w_reg (by kernel_rfl) ?_
  refine s_qk (.iface 27 (.int .i64 14)) (by kernel_rfl) ?_
  refine s_qk (.iface 27 (.int .i64 14)) (by kernel_rfl) ?_
  refine s_nil ?_
  refine k13 _ _ ?_
  refine w_ret (th_ret ?_)
  refine b_ret (fn := Tryd.f31) (vs := [.iface 27 (.int .i64 14)]) (aRes_tmp (by kernel_rfl) (rfl)) ?_
  obtain rfl := Option.some.inj r12
  exact ⟨(.iface 27 (.int .i64 14)), [], rfl, (FrS.refl (W := []) wf), Ev.no, Inn.nil⟩
 ·have r14 := ite_t h11 r10
  refine w_skip ?_
  refine k7 _ _ ?_
  refine w_seqk fun K15 k15 => ?_
  refine w_seqk fun K16 k16 => ?_
  refine w_reg (by kernel_rfl) ?_
  refine s_qk (hd_l) (by kernel_rfl) ?_
  refine s_ql (.int .i64 (l.length : Int)) (x := aLen Tryd.prog 28 hd_l H) (by kernel_rfl) (h_l.lenb (by kernel_rfl)) ?_
  obtain ⟨g17, r18⟩ := G_some r14
  refine s_w (((l.length : Int) - 1)) (k := .i64) (x := ((l.length : Int) - 1)) (by kernel_rfl) (wrap64 g17) ?_
  refine s_qk (.int .i64 0) (by kernel_rfl) ?_
  refine s_nil ?_
  refine k16 _ _ ?_
  obtain ⟨z22, hx20, r21⟩ := bind_some r18
  refine w_mid (fun α H23 => ∃ o19, z22 = Sum.inr o19 ∧ Has α [(0, hd_l), (1, .int .i64 links)] ∧ H = H23) (fun K25 k25 => ?_) (fun α H23 hM => ?_)
  ·refine w_block ?_
   obtain ⟨n27, hn28⟩ := loopO_iff.1 hx20
   refine w_loopn (fun n α H29 => ∃ (i0 : Int), iterO (fun zz_ => z_hier_firsts_l0 l zz_) n i0 = some z22 ∧ Has α [(0, hd_l), (1, .int .i64 links), (13, .int .i64 ((l.length : Int) - 1)), (14, .int .i64 i0)] ∧ H = H29) n27 ⟨0, hn28, ⟨by kernel_rfl, by kernel_rfl, by kernel_rfl, by kernel_rfl, trivial⟩, rfl⟩ ?_
   rintro n27 α H29 ⟨i0, hi32, hh31, rfl⟩ K37 k37
   obtain ⟨n33, z34, rfl, hz35, hn36⟩ := iter_succ hi32
   obtain ⟨β, rfl⟩ := has_ex hh31
   clear hh31
   replace hz35 : z_hier_firsts_l0 l i0 = some z34 := hz35
   unfold z_hier_firsts_l0 at hz35
   refine w_seqk fun K38 k38 => ?_
   refine w_reg (by kernel_rfl) ?_
   refine s_qk (.bool (decide (i0 < ((l.length : Int) - 1)))) (by kernel_rfl) ?_
   refine s_nil ?_
   refine k38 _ _ ?_
   refine w_seqk fun K39 k39 => ?_
   refine w_condp (i0 < ((l.length : Int) - 1)) (by kernel_rfl) rfl (fun h40 => ?_) (fun h40 => ?_)
   ·have r41 := ite_t h40 hz35
    refine w_skip ?_
    refine k39 _ _ ?_
    refine w_seqk fun K42 k42 => ?_
    refine w_block ?_
    refine w_seqk fun K43 k43 => ?_
    refine w_reg (by kernel_rfl) ?_
    refine s_qk (.int .i64 i0) (by kernel_rfl) ?_
    refine s_qk (.int .i64 i0) (by kernel_rfl) ?_
    refine s_nil ?_
    refine k43 _ _ ?_
    refine w_seqk fun K44 k44 => ?_
    refine w_draw [0, 1, 2, 3, 4, 5, 6, 7, 8, 9] (by kernel_rfl) ?_
    refine d_qk (hd_l) (by kernel_rfl) ?_
    refine d_qk (.int .i64 i0) (by kernel_rfl) ?_
    obtain ⟨g45, r46⟩ := G_some r41
    refine d_w ((i0 + 1)) (k := .i64) (x := (i0 + 1)) (by kernel_rfl) (wrap64 g45) ?_
    obtain ⟨g47, r48⟩ := G_some r46
    refine d_ql (elp hd_l 1 (i0 + 1).toNat 0) (x := aIndexAddr Tryd.prog 28 hd_l (.int .i64 (i0 + 1))) (by kernel_rfl) (h_l.idxb (by kernel_rfl) g47.1 g47.2) ?_
    refine d_ql (.int .u32 (gt l (i0 + 1))) (x := aLoad Tryd.prog 34 (elp hd_l 1 (i0 + 1).toNat 0) H) (by kernel_rfl) (h_l.ld g47.1 g47.2 (by kernel_rfl)) ?_
    refine d_qk (hd_l) (by kernel_rfl) ?_
    refine d_qk (.int .i64 i0) (by kernel_rfl) ?_
    obtain ⟨g49, r50⟩ := G_some r48
    refine d_ql (elp hd_l 1 i0.toNat 0) (x := aIndexAddr Tryd.prog 28 hd_l (.int .i64 i0)) (by kernel_rfl) (h_l.idxb (by kernel_rfl) g49.1 g49.2) ?_
    refine d_ql (.int .u32 (gt l i0)) (x := aLoad Tryd.prog 34 (elp hd_l 1 i0.toNat 0) H) (by kernel_rfl) (h_l.ld g49.1 g49.2 (by kernel_rfl)) ?_
    refine d_qk (.bool (decide ((gt l (i0 + 1)) < (gt l i0)))) (by kernel_rfl) ?_
    refine d_nil ?_
    refine k44 _ _ ?_
    refine w_condp ((gt l (i0 + 1)) < (gt l i0)) (by kernel_rfl) rfl (fun h51 => ?_) (fun h51 => ?_)
    ·have r52 := ite_t h51 r50
     refine w_seqk fun K53 k53 => ?_
     refine w_reg (by kernel_rfl) ?_
     refine s_qk (.int .i64 i0) (by kernel_rfl) ?_
     refine s_qk (.iface 27 (.int .i64 14)) (by kernel_rfl) ?_
     obtain ⟨y54, hy55, r56⟩ := bind_some r52
     refine s_ck 35 #[.int .i64 3, .int .i64 i0, .iface 27 (.int .i64 14)] (by kernel_rfl) (c_fault_At wf (Ev.no (tf := 71)) hy55) ?_
     rintro v57 H59 ⟨_, f58, rfl, e60, m61, i62⟩
     refine s_qk (v57) (by kernel_rfl) ?_
     refine s_nil ?_
     refine k53 _ _ ?_
     refine w_ret (bl_ret (th_ret (th_ret (bl_ret (th_ret (th_ret ?_))))))
     obtain ⟨v64, hv65, hz66⟩ := map_some r56
     subst hz66
     obtain rfl := it_inr hn36
     have hq67 := elim_inl r21
     rw [hq67] at hv65
     refine b_ret (fn := Tryd.f31) (vs := [v57]) (aRes_tmp (by kernel_rfl) (rfl)) ?_
     obtain rfl := Option.some.inj hv65
     exact ⟨(v57), f58, rfl, (FrS.step wf (FrS.refl (W := []) wf) e60 Inn.nil), m61, (i62.fresh (Nat.le_refl _))⟩
    ·have r68 := ite_f h51 r50
     refine w_skip ?_
     refine k42 _ _ ?_
     refine w_reg (by kernel_rfl) ?_
     obtain ⟨g69, r70⟩ := G_some r68
     refine s_w ((i0 + 1)) (k := .i64) (x := (i0 + 1)) (by kernel_rfl) (wrap64 (by have := g69; omega)) ?_
     refine s_qk (.int .i64 (i0 + 1)) (by kernel_rfl) ?_
     refine s_nil ?_
     obtain rfl := Option.some.inj r70
     exact k37 n33 _ _ (Nat.lt_succ_self _) ⟨(i0 + 1), hn36, ⟨by kernel_rfl, by kernel_rfl, by kernel_rfl, by kernel_rfl, trivial⟩, rfl⟩
   ·have r71 := ite_f h40 hz35
    refine w_exit (th_exit (th_exit (bl_eq ?_)))
    obtain rfl := Option.some.inj r71
    obtain rfl := it_inr hn36
    exact k25 _ _ ⟨_, rfl, ⟨by kernel_rfl, by kernel_rfl, trivial⟩, rfl⟩
  ·obtain ⟨o19, rfl, hh26, rfl⟩ := hM
   have r72 := elim_inr r21
   obtain ⟨β, rfl⟩ := has_ex hh26
   clear hh26
   refine k15 _ _ ?_
   refine w_seqk fun K73 k73 => ?_
   refine w_seqk fun K74 k74 => ?_
   refine w_reg (by kernel_rfl) ?_
   refine s_qk (hd_l) (by kernel_rfl) ?_
   refine s_qk (hd_l) (by kernel_rfl) ?_
   refine s_ql (.int .i64 (l.length : Int)) (x := aLen Tryd.prog 28 hd_l H) (by kernel_rfl) (h_l.lenb (by kernel_rfl)) ?_
   refine s_w (((l.length : Int) - 1)) (k := .i64) (x := ((l.length : Int) - 1)) (by kernel_rfl) (wrap64 g17) ?_
   obtain ⟨g75, r76⟩ := G_some r72
   refine s_ql (elp hd_l 1 ((l.length : Int) - 1).toNat 0) (x := aIndexAddr Tryd.prog 28 hd_l (.int .i64 ((l.length : Int) - 1))) (by kernel_rfl) (h_l.idxb (by kernel_rfl) g75.1 g75.2) ?_
   refine s_ql (.int .u32 (gt l ((l.length : Int) - 1))) (x := aLoad Tryd.prog 34 (elp hd_l 1 ((l.length : Int) - 1).toNat 0) H) (by kernel_rfl) (h_l.ld g75.1 g75.2 (by kernel_rfl)) ?_
   obtain ⟨g77, r78⟩ := G_some r76
   refine s_w ((gt l ((l.length : Int) - 1))) (k := .i64) (x := (gt l ((l.length : Int) - 1))) (by kernel_rfl) (wrap64 g77) ?_
   refine s_qk (.int .i64 links) (by kernel_rfl) ?_
   refine s_qk (.bool (!decide ((gt l ((l.length : Int) - 1)) = links))) (by kernel_rfl) ?_
   refine s_nil ?_
   refine k74 _ _ ?_
   refine w_condn ((gt l ((l.length : Int) - 1)) = links) (by kernel_rfl) rfl (fun h79 => ?_) (fun h79 => ?_)
   ·have r80 := ite_f h79 r78
    refine w_seqk fun K81 k81 => ?_
    refine w_reg (by kernel_rfl) ?_
    refine s_qk (.iface 27 (.int .i64 14)) (by kernel_rfl) ?_
    refine s_qk (.iface 27 (.int .i64 14)) (by kernel_rfl) ?_
    refine s_nil ?_
    refine k81 _ _ ?_
    refine w_ret (th_ret ?_)
    refine b_ret (fn := Tryd.f31) (vs := [.iface 27 (.int .i64 14)]) (aRes_tmp (by kernel_rfl) (rfl)) ?_
    obtain rfl := Option.some.inj r80
    exact ⟨(.iface 27 (.int .i64 14)), [], rfl, (FrS.refl (W := []) wf), Ev.no, Inn.nil⟩
   ·have r82 := ite_t h79 r78
    refine w_skip ?_
    refine k73 _ _ ?_
    refine w_seqk fun K83 k83 => ?_
    refine w_reg (by kernel_rfl) ?_
    refine s_qk (.nilIface) (by kernel_rfl) ?_
    refine s_nil ?_
    refine k83 _ _ ?_
    refine w_ret ?_
    refine b_ret (fn := Tryd.f31) (vs := [.nilIface]) (aRes_tmp (by kernel_rfl) (rfl)) ?_
    obtain rfl := Option.some.inj r82
    exact ⟨(.nilIface), [], rfl, (FrS.refl (W := []) wf), Ev.nil, Inn.nil⟩

theorem c_hier_order {H : AH} {hd_l : Value} {fp_l : Fp} {l : List (Int)} {r : Er}
  (wf : WF H) (h_l : Sq (encI .u32) 1 H hd_l l fp_l) (hr : z_hier_order l = some r) :
  ACalls Tryd.prog 32 #[hd_l] H fun v H' => ∃ (v3 : Value) (f4 : Fp), v = v3 ∧ FrS [] H H' ∧ Ev 27 71 H' v3 r f4 ∧ Inn [] H f4 := by
 refine acalls_of_body mixed Tryd.func32 rfl (Nat.le_of_ble_eq_true rfl) ?_
 unfold z_hier_order at hr
 refine w_seqk fun K6 k6 => ?_
 refine w_reg (by kernel_rfl) ?_
 refine s_qk (.nilIface) (by kernel_rfl) ?_
 refine s_nil ?_
 refine k6 _ _ ?_
 refine w_seqk fun K7 k7 => ?_
 refine w_reg (by kernel_rfl) ?_
 refine s_qk (hd_l) (by kernel_rfl) ?_
 refine s_ql (.int .i64 (l.length : Int)) (x := aLen Tryd.prog 28 hd_l H) (by kernel_rfl) (h_l.lenb (by kernel_rfl)) ?_
 obtain ⟨g8, r9⟩ := G_some hr
 refine s_mks (t := 45) (m := 8) (l := (l.length : Int)) (c := (l.length : Int)) (enc := (encI .i64)) (sz := 1) wf (0 : Int) (by kernel_rfl) (by decide) g8.1 (Int.le_refl _) (by omega) (by have := g8; omega) (by kernel_rfl) fun s10 f11 H12 e13 hf14 hm15 => ?_
 obtain ⟨a16, n17, c18, rfl⟩ := hm15.form
 have hm15 : Ow (encI .i64) 1 H12 (.slice a16 n17 c18) (List.replicate l.length (0 : Int)) f11 := hm15
 refine s_qk (.slice a16 n17 c18) (by kernel_rfl) ?_
 refine s_nil ?_
 refine k7 _ _ ?_
 refine w_seqk fun K20 k20 => ?_
 refine w_seqk fun K21 k21 => ?_
 refine w_reg (by kernel_rfl) ?_
 refine s_qk (hd_l) (by kernel_rfl) ?_
 have u22 := (h_l.ext e13)
 refine s_ql (.int .i64 (l.length : Int)) (x := aLen Tryd.prog 28 hd_l H12) (by kernel_rfl) (u22.lenb (by kernel_rfl)) ?_
 refine s_qk (.int .i64 0) (by kernel_rfl) ?_
 refine s_nil ?_
 refine k21 _ _ ?_
 obtain ⟨z26, hx24, r25⟩ := bind_some r9
 refine w_mid (fun α H27 => ∃ o23, z26 = Sum.inr o23 ∧ Has α [] ∧ FrS f11 H12 H27) (fun K29 k29 => ?_) (fun α H27 hM => ?_)
 ·refine w_block ?_
  obtain ⟨n31, hn32⟩ := loopO_iff.1 hx24
  refine w_loopn (fun n α H33 => ∃ (i0 : Int), ∃ (seen1 : List (Int)), iterO (fun zz_ => z_hier_order_l0 l zz_.1 zz_.2) n (i0, seen1) = some z26 ∧ Has α [(0, hd_l), (3, .slice a16 n17 c18), (9, hd_l), (10, .int .i64 (l.length : Int)), (11, .int .i64 i0)] ∧ FrS f11 H12 H33 ∧ Ow (encI .i64) 1 H33 (.slice a16 n17 c18) seen1 f11) n31 ⟨0, (List.replicate l.length (0 : Int)), hn32, ⟨by kernel_rfl, by kernel_rfl, by kernel_rfl, by kernel_rfl, by kernel_rfl, trivial⟩, (FrS.refl (W := f11) e13.wf), hm15⟩ ?_
  rintro n31 α H33 ⟨i0, seen1, hi38, hh37, e34, m36⟩ K43 k43
  obtain ⟨n39, z40, rfl, hz41, hn42⟩ := iter_succ hi38
  obtain ⟨β, rfl⟩ := has_ex hh37
  clear hh37
  replace hz41 : z_hier_order_l0 l i0 seen1 = some z40 := hz41
  unfold z_hier_order_l0 at hz41
  refine w_seqk fun K44 k44 => ?_
  refine w_reg (by kernel_rfl) ?_
  refine s_qk (.bool (decide (i0 < (l.length : Int)))) (by kernel_rfl) ?_
  refine s_nil ?_
  refine k44 _ _ ?_
  refine w_seqk fun K45 k45 => ?_
  refine w_condp (i0 < (l.length : Int)) (by kernel_rfl) rfl (fun h46 => ?_) (fun h46 => ?_)
  ·have r47 := ite_t h46 hz41
   refine w_skip ?_
   refine k45 _ _ ?_
   refine w_seqk fun K48 k48 => ?_
   refine w_block ?_
   refine w_seqk fun K49 k49 => ?_
   refine w_reg (by kernel_rfl) ?_
   refine s_qk (.int .i64 i0) (by kernel_rfl) ?_
   obtain ⟨g50, r51⟩ := G_some r47
   have u52 := (u22.fr e34 (hf14.djn h_l.lt))
   refine s_ql (elp hd_l 1 i0.toNat 0) (x := aIndexAddr Tryd.prog 28 hd_l (.int .i64 i0)) (by kernel_rfl) (u52.idxb (by kernel_rfl) g50 h46) ?_
   refine s_ql (.int .u32 (gt l i0)) (x := aLoad Tryd.prog 34 (elp hd_l 1 i0.toNat 0) H33) (by kernel_rfl) (u52.ld g50 h46 (by kernel_rfl)) ?_
   refine s_qk (.int .i64 i0) (by kernel_rfl) ?_
   refine s_qk (.int .u32 (gt l i0)) (by kernel_rfl) ?_
   refine s_nil ?_
   refine k49 _ _ ?_
   refine w_seqk fun K53 k53 => ?_
   refine w_seqk fun K54 k54 => ?_
   obtain ⟨o55, hx56, r57⟩ := bind_some r51
   refine w_mid (fun α H58 => Has α [(0, hd_l), (3, .slice a16 n17 c18), (4, .int .i64 i0), (5, .int .u32 (gt l i0)), (9, hd_l), (10, .int .i64 (l.length : Int)), (11, .int .i64 i0), (27, .bool o55)] ∧ H33 = H58) (fun K60 k60 => ?_) (fun α H58 hM => ?_)
   ·refine w_reg (by kernel_rfl) ?_
    refine s_qk (.int .u32 (gt l i0)) (by kernel_rfl) ?_
    obtain ⟨g62, r63⟩ := G_some hx56
    refine s_w ((gt l i0)) (k := .i64) (x := (gt l i0)) (by kernel_rfl) (wrap64 g62) ?_
    refine s_qk (hd_l) (by kernel_rfl) ?_
    refine s_ql (.int .i64 (l.length : Int)) (x := aLen Tryd.prog 28 hd_l H33) (by kernel_rfl) (u52.lenb (by kernel_rfl)) ?_
    refine s_b ((gt l i0) ≥ (l.length : Int)) (by kernel_rfl) (fun h64 => ?_) (fun h64 => ?_)
    ·have r65 := ite_t h64 r63
     refine s_qk (.bool true) (by kernel_rfl) ?_
     refine s_no (by kernel_rfl) ?_
     refine s_no (by kernel_rfl) ?_
     refine s_no (by kernel_rfl) ?_
     refine s_no (by kernel_rfl) ?_
     refine s_no (by kernel_rfl) ?_
     refine s_qk (.bool true) (by kernel_rfl) ?_
     refine s_nil ?_
     obtain rfl := Option.some.inj r65
     exact k60 _ _ ⟨⟨by kernel_rfl, by kernel_rfl, by kernel_rfl, by kernel_rfl, by kernel_rfl, by kernel_rfl, by kernel_rfl, by kernel_rfl, trivial⟩, rfl⟩
    ·have r66 := ite_f h64 r63
     refine s_qk (.bool false) (by kernel_rfl) ?_
     refine s_qk (.slice a16 n17 c18) (by kernel_rfl) ?_
     refine s_qk (.int .u32 (gt l i0)) (by kernel_rfl) ?_
     obtain ⟨g67, r68⟩ := G_some r66
     refine s_ql (elp (.slice a16 n17 c18) 1 (gt l i0).toNat 0) (x := aIndexAddr Tryd.prog 45 (.slice a16 n17 c18) (.int .u32 (gt l i0))) (by kernel_rfl) (m36.sq.idxb (by kernel_rfl) g67.1 g67.2) ?_
     refine s_ql (.int .i64 (gt seen1 (gt l i0))) (x := aLoad Tryd.prog 3 (elp (.slice a16 n17 c18) 1 (gt l i0).toNat 0) H33) (by kernel_rfl) (m36.sq.ld g67.1 g67.2 (by kernel_rfl)) ?_
     refine s_qk (.bool (decide ((gt seen1 (gt l i0)) > 0))) (by kernel_rfl) ?_
     refine s_qk (.bool (decide ((gt seen1 (gt l i0)) > 0))) (by kernel_rfl) ?_
     refine s_nil ?_
     obtain rfl := Option.some.inj r68
     exact k60 _ _ ⟨⟨by kernel_rfl, by kernel_rfl, by kernel_rfl, by kernel_rfl, by kernel_rfl, by kernel_rfl, by kernel_rfl, by kernel_rfl, trivial⟩, rfl⟩
   ·obtain ⟨hh61, rfl⟩ := hM
    obtain ⟨β, rfl⟩ := has_ex hh61
    clear hh61
    refine k54 _ _ ?_
    refine w_cond (o55) (by kernel_rfl) rfl (fun h69 => ?_) (fun h69 => ?_)
    ·have r70 := ite_t h69 r57
     refine w_seqk fun K71 k71 => ?_
     refine w_reg (by kernel_rfl) ?_
     refine s_qk (.int .i64 i0) (by kernel_rfl) ?_
     refine s_qk (.iface 27 (.int .i64 20)) (by kernel_rfl) ?_
     obtain ⟨y72, hy73, r74⟩ := bind_some r70
     refine s_ck 35 #[.int .i64 3, .int .i64 i0, .iface 27 (.int .i64 20)] (by kernel_rfl) (c_fault_At e34.wf (Ev.no (tf := 71)) hy73) ?_
     rintro v75 H77 ⟨_, f76, rfl, e78, m79, i80⟩
     refine s_qk (v75) (by kernel_rfl) ?_
     refine s_nil ?_
     refine k71 _ _ ?_
     refine w_ret (th_ret (bl_ret (th_ret (th_ret (bl_ret (th_ret (th_ret ?_)))))))
     obtain ⟨v82, hv83, hz84⟩ := map_some r74
     subst hz84
     obtain rfl := it_inr hn42
     have hq85 := elim_inl r25
     rw [hq85] at hv83
     refine b_ret (fn := Tryd.f32) (vs := [v75]) (aRes_tmp (by kernel_rfl) (rfl)) ?_
     obtain rfl := Option.some.inj hv83
     exact ⟨(v75), f76, rfl, (FrS.step wf (FrS.step wf ((FrS.refl (W := []) wf).extR e13) e34 (hf14.fresh (Nat.le_refl _))) e78 Inn.nil), m79, (i80.fresh (ntr e13.next e34.next))⟩
    ·have r86 := ite_bf h69 r57
     refine w_skip ?_
     refine k53 _ _ ?_
     refine w_reg (by kernel_rfl) ?_
     refine s_qk (.slice a16 n17 c18) (by kernel_rfl) ?_
     refine s_qk (.int .u32 (gt l i0)) (by kernel_rfl) ?_
     obtain ⟨g87, r88⟩ := G_some r86
     refine s_ql (elp (.slice a16 n17 c18) 1 (gt l i0).toNat 0) (x := aIndexAddr Tryd.prog 45 (.slice a16 n17 c18) (.int .u32 (gt l i0))) (by kernel_rfl) (m36.sq.idxb (by kernel_rfl) g87.1 g87.2) ?_
     obtain ⟨H89, q90, e91, hm92⟩ := Ow.store (P := Tryd.prog) (t := 3) (off := 0) e34.wf m36 g87.1 g87.2 (.int .i64 1) [.int .i64 1] (by kernel_rfl) (by kernel_rfl) rfl 1 (Nat.le_of_ble_eq_true rfl) (by kernel_rfl)
     refine s_ek (undef) (by kernel_rfl) (map_ok q90) ?_
     refine s_nil ?_
     refine k48 _ _ ?_
     refine w_reg (by kernel_rfl) ?_
     obtain ⟨g93, r94⟩ := G_some r88
     refine s_w ((i0 + 1)) (k := .i64) (x := (i0 + 1)) (by kernel_rfl) (wrap64 (by have := g93; omega)) ?_
     refine s_qk (.int .i64 (i0 + 1)) (by kernel_rfl) ?_
     refine s_nil ?_
     obtain rfl := Option.some.inj r94
     exact k43 n39 _ _ (Nat.lt_succ_self _) ⟨(i0 + 1), (seen1.set (gt l i0).toNat 1), hn42, ⟨by kernel_rfl, by kernel_rfl, by kernel_rfl, by kernel_rfl, by kernel_rfl, trivial⟩, (FrS.step e13.wf (FrS.step e13.wf (FrS.refl (W := f11) e13.wf) e34 Inn.refl') e91 Inn.refl'), hm92⟩
  ·have r95 := ite_f h46 hz41
   refine w_exit (th_exit (th_exit (bl_eq ?_)))
   obtain rfl := Option.some.inj r95
   obtain rfl := it_inr hn42
   exact k29 _ _ ⟨_, rfl, trivial, (FrS.step e13.wf (FrS.refl (W := f11) e13.wf) e34 Inn.refl')⟩
 ·obtain ⟨o23, rfl, hh30, e28⟩ := hM
  have r96 := elim_inr r25
  obtain ⟨β, rfl⟩ := has_ex hh30
  clear hh30
  refine k20 _ _ ?_
  refine w_seqk fun K97 k97 => ?_
  refine w_reg (by kernel_rfl) ?_
  refine s_qk (.nilIface) (by kernel_rfl) ?_
  refine s_nil ?_
  refine k97 _ _ ?_
  refine w_ret ?_
  refine b_ret (fn := Tryd.f32) (vs := [.nilIface]) (aRes_tmp (by kernel_rfl) (rfl)) ?_
  obtain rfl := Option.some.inj r96
  exact ⟨(.nilIface), [], rfl, (FrS.step wf ((FrS.refl (W := []) wf).extR e13) e28 (hf14.fresh (Nat.le_refl _))), Ev.nil, Inn.nil⟩

theorem c_hier_links {H : AH} {hd_Node : Value} {fp_Node : Fp} {hd_UpFirst : Value} {fp_UpFirst : Fp} {hd_Up : Value} {fp_Up : Fp} {hd_DownFirst : Value} {fp_DownFirst : Fp} {hd_Down : Value} {fp_Down : Fp} {Node : List (Int)} {UpFirst : List (Int)} {Up : List (Int × Int × Int × Int)} {DownFirst : List (Int)} {Down : List (Int × Int × Int × Int)} {r : Unit}
  (wf : WF H) (h_Node : Sq (encI .u32) 1 H hd_Node Node fp_Node) (h_UpFirst : Sq (encI .u32) 1 H hd_UpFirst UpFirst fp_UpFirst) (h_Up : Sq enc_u32_u64_u32_u32 4 H hd_Up Up fp_Up) (h_DownFirst : Sq (encI .u32) 1 H hd_DownFirst DownFirst fp_DownFirst) (h_Down : Sq enc_u32_u64_u32_u32 4 H hd_Down Down fp_Down) (hr : z_hier_links Node UpFirst Up DownFirst Down = some r) :
  ACalls Tryd.prog 33 #[.agg #[hd_Node, hd_UpFirst, hd_Up, hd_DownFirst, hd_Down]] H fun v H' => ∃ (b3 : Nat), v = .func (.func 45) #[] #[.pointer (some ⟨b3, 0, none⟩)] ∧ FrS [] H H' ∧ Row H' b3 [hd_Node, hd_UpFirst, hd_Up, hd_DownFirst, hd_Down] ∧ Inn [] H [b3] := by
 refine acalls_of_body mixed Tryd.func33 rfl (Nat.le_of_ble_eq_true rfl) ?_
 unfold z_hier_links at hr
 refine w_seqk fun K5 k5 => ?_
 refine w_reg (by kernel_rfl) ?_
 refine s_rwl wf [hd_Node, hd_UpFirst, hd_Up, hd_DownFirst, hd_Down] (one_cons (h_Node.one1) (one_cons (h_UpFirst.one1) (one_cons (h_Up.one1) (one_cons (h_DownFirst.one1) (one_cons (h_Down.one1) (one_nil)))))) (by kernel_rfl) fun b6 H7 e8 hb9 r10 => ?_
 refine s_qk (.nilFunc) (by kernel_rfl) ?_
 refine s_nil ?_
 refine k5 _ _ ?_
 refine w_seqk fun K12 k12 => ?_
 refine w_reg (by kernel_rfl) ?_
 refine s_qk (.func (.func 45) #[] #[.pointer (some ⟨b6, 0, none⟩)]) (by kernel_rfl) ?_
 refine s_qk (.func (.func 45) #[] #[.pointer (some ⟨b6, 0, none⟩)]) (by kernel_rfl) ?_
 refine s_nil ?_
 refine k12 _ _ ?_
 refine w_ret ?_
 refine b_ret (fn := Tryd.f33) (vs := [.func (.func 45) #[] #[.pointer (some ⟨b6, 0, none⟩)]]) (aRes_tmp (by kernel_rfl) (rfl)) ?_
 obtain rfl := Option.some.inj hr
 exact ⟨b6, rfl, ((FrS.refl (W := []) wf).extR e8), r10, (hb9.fresh (Nat.le_refl _))⟩

theorem c_hier_links_1 [Pins] {H : AH} {l_ : Nat} {I_ : AH → List (Int × Int × Int × Int × Int × Int × Int × Int) → Fp → Prop} {fp_tr : Fp} {b_p : Nat} {hd_l : Value} {fp_l : Fp} {hd_l_2 : Value} {fp_l_2 : Fp} {hd_l_3 : Value} {fp_l_3 : Fp} {hd_l_4 : Value} {fp_l_4 : Fp} {hd_l_5 : Value} {fp_l_5 : Fp} {ok_ : List (Int × Int × Int × Int × Int × Int × Int × Int) → Bool} {tr : List (Int × Int × Int × Int × Int × Int × Int × Int)} {l : List (Int)} {l_2 : List (Int)} {l_3 : List (Int × Int × Int × Int)} {l_4 : List (Int)} {l_5 : List (Int × Int × Int × Int)} {r : List (Int × Int × Int × Int × Int × Int × Int × Int)}
  (wf : WF H) (hyl : Yld Tryd.prog l_ ok_ (fun x_ => #[.int .i64 x_.1, .agg #[.int .u32 x_.2.1, .int .u64 x_.2.2.1, .int .u32 x_.2.2.2.1, .int .u32 x_.2.2.2.2.1, .int .i64 x_.2.2.2.2.2.1, .int .i64 x_.2.2.2.2.2.2.1, .int .i64 x_.2.2.2.2.2.2.2]]) I_) (h_tr : Trc I_ H tr fp_tr) (h_l : Sq (encI .u32) 1 H hd_l l fp_l) (h_l_2 : Sq (encI .u32) 1 H hd_l_2 l_2 fp_l_2) (h_l_3 : Sq enc_u32_u64_u32_u32 4 H hd_l_3 l_3 fp_l_3) (h_l_4 : Sq (encI .u32) 1 H hd_l_4 l_4 fp_l_4) (h_l_5 : Sq enc_u32_u64_u32_u32 4 H hd_l_5 l_5 fp_l_5) (h_p : Row H b_p [hd_l, hd_l_2, hd_l_3, hd_l_4, hd_l_5]) (dj_fp_tr_fp_l_3 : Dj fp_tr fp_l_3) (dj_fp_tr_b_p : Dj fp_tr [b_p]) (dj_fp_tr_fp_l_2 : Dj fp_tr fp_l_2) (dj_fp_tr_fp_l : Dj fp_tr fp_l) (dj_fp_tr_fp_l_4 : Dj fp_tr fp_l_4) (dj_fp_tr_fp_l_5 : Dj fp_tr fp_l_5) (hr : z_hier_links_1 ok_ tr l l_2 l_3 l_4 l_5 = some r) :
  ACalls Tryd.prog 45 #[.func (.yield l_) #[] #[], .pointer (some ⟨b_p, 0, none⟩)] H fun v H' => ∃ (f3 : Fp), v = .tuple #[] ∧ FrS fp_tr H H' ∧ Trc I_ H' r f3 ∧ Inn fp_tr H f3 := by
 refine acalls_of_body mixed Tryd.func45 rfl (Nat.le_of_ble_eq_true rfl) ?_
 unfold z_hier_links_1 at hr
 refine w_seqk fun K5 k5 => ?_
 refine w_reg (by kernel_rfl) ?_
 refine s_qk (.int .i64 0) (by kernel_rfl) ?_
 refine s_nil ?_
 refine k5 _ _ ?_
 refine w_seqk fun K6 k6 => ?_
 refine w_seqk fun K7 k7 => ?_
 refine w_reg (by kernel_rfl) ?_
 refine s_qk (.pointer (some ⟨b_p, 0, none⟩)) (by kernel_rfl) ?_
 refine s_ql (hd_l) (x := aLoad Tryd.prog 28 (.pointer (some ⟨b_p, 0, none⟩)) H) (by kernel_rfl) (h_p.ld (by kernel_rfl)) ?_
 refine s_ql (.int .i64 (l.length : Int)) (x := aLen Tryd.prog 28 hd_l H) (by kernel_rfl) (h_l.lenb (by kernel_rfl)) ?_
 refine s_qk (.int .i64 0) (by kernel_rfl) ?_
 refine s_nil ?_
 refine k7 _ _ ?_
 obtain ⟨o8, hx9, r10⟩ := bind_some hr
 refine w_mid (fun α H11 => ∃ (f15 : Fp), Has α [(0, .func (.yield l_) #[] #[]), (1, .pointer (some ⟨b_p, 0, none⟩)), (3, .int .i64 o8.2)] ∧ FrS fp_tr H H11 ∧ Trc I_ H11 o8.1 f15 ∧ Inn fp_tr H f15) (fun K17 k17 => ?_) (fun α H11 hM => ?_)
 ·refine w_block ?_
  obtain ⟨n19, hn20⟩ := loopO_iff.1 hx9
  refine w_loopn (fun n α H21 => ∃ (yield3 : List (Int × Int × Int × Int × Int × Int × Int × Int)), ∃ (i4 : Int), ∃ (i5 : Int), ∃ (f25 : Fp), iterO (fun zz_ => z_hier_links_1_l1 ok_ l l_2 l_3 zz_.1 zz_.2.1 zz_.2.2) n (yield3, i4, i5) = some o8 ∧ Has α [(0, .func (.yield l_) #[] #[]), (1, .pointer (some ⟨b_p, 0, none⟩)), (3, .int .i64 i5), (12, .int .i64 (l.length : Int)), (13, .int .i64 i4)] ∧ FrS fp_tr H H21 ∧ Trc I_ H21 yield3 f25 ∧ Inn fp_tr H f25) n19 ⟨tr, 0, 0, fp_tr, hn20, ⟨by kernel_rfl, by kernel_rfl, by kernel_rfl, by kernel_rfl, by kernel_rfl, trivial⟩, (FrS.refl (W := fp_tr) wf), h_tr, Inn.refl'⟩ ?_
  rintro n19 α H21 ⟨yield3, i4, i5, f25, hi28, hh27, e22, m24, i26⟩ K33 k33
  obtain ⟨n29, z30, rfl, hz31, hn32⟩ := iter_succ hi28
  obtain ⟨β, rfl⟩ := has_ex hh27
  clear hh27
  replace hz31 : z_hier_links_1_l1 ok_ l l_2 l_3 yield3 i4 i5 = some z30 := hz31
  unfold z_hier_links_1_l1 at hz31
  refine w_seqk fun K34 k34 => ?_
  refine w_reg (by kernel_rfl) ?_
  refine s_qk (.bool (decide (i4 < (l.length : Int)))) (by kernel_rfl) ?_
  refine s_nil ?_
  refine k34 _ _ ?_
  refine w_seqk fun K35 k35 => ?_
  refine w_condp (i4 < (l.length : Int)) (by kernel_rfl) rfl (fun h36 => ?_) (fun h36 => ?_)
  ·have r37 := ite_t h36 hz31
   refine w_skip ?_
   refine k35 _ _ ?_
   refine w_seqk fun K38 k38 => ?_
   refine w_block ?_
   refine w_seqk fun K39 k39 => ?_
   refine w_reg (by kernel_rfl) ?_
   refine s_qk (.int .i64 i4) (by kernel_rfl) ?_
   refine s_qk (.int .i64 i4) (by kernel_rfl) ?_
   refine s_nil ?_
   refine k39 _ _ ?_
   refine w_seqk fun K40 k40 => ?_
   refine w_draw [0, 1, 2, 3, 4, 5, 6, 7, 8, 9, 10, 11, 12, 13, 14, 15] (by kernel_rfl) ?_
   refine d_qk (.pointer (some ⟨b_p, 2, none⟩)) (by kernel_rfl) ?_
   have u41 := (h_p.frS e22 dj_fp_tr_b_p)
   refine d_ql (hd_l_3) (x := aLoad Tryd.prog 29 (.pointer (some ⟨b_p, 2, none⟩)) H21) (by kernel_rfl) (u41.ld (by kernel_rfl)) ?_
   refine d_qk (.pointer (some ⟨b_p, 1, none⟩)) (by kernel_rfl) ?_
   refine d_ql (hd_l_2) (x := aLoad Tryd.prog 28 (.pointer (some ⟨b_p, 1, none⟩)) H21) (by kernel_rfl) (u41.ld (by kernel_rfl)) ?_
   refine d_qk (.int .i64 i4) (by kernel_rfl) ?_
   obtain ⟨g42, r43⟩ := G_some r37
   have u44 := (h_l_2.fr e22 dj_fp_tr_fp_l_2)
   refine d_ql (elp hd_l_2 1 i4.toNat 0) (x := aIndexAddr Tryd.prog 28 hd_l_2 (.int .i64 i4)) (by kernel_rfl) (u44.idxb (by kernel_rfl) g42.1 g42.2) ?_
   refine d_ql (.int .u32 (gt l_2 i4)) (x := aLoad Tryd.prog 34 (elp hd_l_2 1 i4.toNat 0) H21) (by kernel_rfl) (u44.ld g42.1 g42.2 (by kernel_rfl)) ?_
   refine d_qk (.pointer (some ⟨b_p, 1, none⟩)) (by kernel_rfl) ?_
   refine d_ql (hd_l_2) (x := aLoad Tryd.prog 28 (.pointer (some ⟨b_p, 1, none⟩)) H21) (by kernel_rfl) (u41.ld (by kernel_rfl)) ?_
   refine d_qk (.int .i64 i4) (by kernel_rfl) ?_
   obtain ⟨g45, r46⟩ := G_some r43
   refine d_w ((i4 + 1)) (k := .i64) (x := (i4 + 1)) (by kernel_rfl) (wrap64 (by have := g45; omega)) ?_
   obtain ⟨g47, r48⟩ := G_some r46
   refine d_ql (elp hd_l_2 1 (i4 + 1).toNat 0) (x := aIndexAddr Tryd.prog 28 hd_l_2 (.int .i64 (i4 + 1))) (by kernel_rfl) (u44.idxb (by kernel_rfl) g47.1 g47.2) ?_
   refine d_ql (.int .u32 (gt l_2 (i4 + 1))) (x := aLoad Tryd.prog 34 (elp hd_l_2 1 (i4 + 1).toNat 0) H21) (by kernel_rfl) (u44.ld g47.1 g47.2 (by kernel_rfl)) ?_
   obtain ⟨g49, r50⟩ := G_some r48
   have u54 := (h_l_3.fr e22 dj_fp_tr_fp_l_3)
   obtain ⟨s51, q52, hs53⟩ := Sq.cut (P := Tryd.prog) u54 (t := 29) (by kernel_rfl) (lo := (some (.int .u32 (gt l_2 i4)))) (hi := (some (.int .u32 (gt l_2 (i4 + 1))))) (l := (gt l_2 i4).toNat) (r := (gt l_2 (i4 + 1)).toNat) (aBound_int _ (by have := g49; omega)) (aBound_int _ (by have := g49; omega)) (by have := g49; omega) (by have := g49; omega)
   obtain ⟨a55, n56, c57, rfl⟩ := hs53.form
   refine d_ql (.slice a55 n56 c57) (by kernel_rfl) q52 ?_
   refine d_ql (.int .i64 (((l_3.take (gt l_2 (i4 + 1)).toNat).drop (gt l_2 i4).toNat).length : Int)) (x := aLen Tryd.prog 29 (.slice a55 n56 c57) H21) (by kernel_rfl) (hs53.lenb (by kernel_rfl)) ?_
   refine d_qk (.int .i64 0) (by kernel_rfl) ?_
   refine d_nil ?_
   refine k40 _ _ ?_
   obtain ⟨o59, hx60, r61⟩ := bind_some r50
   refine w_mid (fun α H62 => ∃ (f66 : Fp), Has α [(0, .func (.yield l_) #[] #[]), (1, .pointer (some ⟨b_p, 0, none⟩)), (3, .int .i64 o59.2), (12, .int .i64 (l.length : Int)), (13, .int .i64 i4)] ∧ FrS f25 H21 H62 ∧ Trc I_ H62 o59.1 f66 ∧ Inn f25 H21 f66) (fun K68 k68 => ?_) (fun α H62 hM => ?_)
   ·refine w_block ?_
    obtain ⟨n70, hn71⟩ := loopO_iff.1 hx60
    refine w_loopn (fun n α H72 => ∃ (yield0 : List (Int × Int × Int × Int × Int × Int × Int × Int)), ∃ (i1 : Int), ∃ (i2 : Int), ∃ (f76 : Fp), iterO (fun zz_ => z_hier_links_1_l0 ok_ l_2 l_3 i4 zz_.1 zz_.2.1 zz_.2.2) n (yield0, i1, i2) = some o59 ∧ Has α [(0, .func (.yield l_) #[] #[]), (1, .pointer (some ⟨b_p, 0, none⟩)), (3, .int .i64 i1), (4, .int .i64 i4), (12, .int .i64 (l.length : Int)), (13, .int .i64 i4), (29, .slice a55 n56 c57), (30, .int .i64 (((l_3.take (gt l_2 (i4 + 1)).toNat).drop (gt l_2 i4).toNat).length : Int)), (31, .int .i64 i2)] ∧ FrS f25 H21 H72 ∧ Trc I_ H72 yield0 f76 ∧ Inn f25 H21 f76) n70 ⟨yield3, i5, 0, f25, hn71, ⟨by kernel_rfl, by kernel_rfl, by kernel_rfl, by kernel_rfl, by kernel_rfl, by kernel_rfl, by kernel_rfl, by kernel_rfl, by kernel_rfl, trivial⟩, (FrS.refl (W := f25) e22.wf), m24, Inn.refl'⟩ ?_
    rintro n70 α H72 ⟨yield0, i1, i2, f76, hi79, hh78, e73, m75, i77⟩ K84 k84
    obtain ⟨n80, z81, rfl, hz82, hn83⟩ := iter_succ hi79
    obtain ⟨β, rfl⟩ := has_ex hh78
    clear hh78
    replace hz82 : z_hier_links_1_l0 ok_ l_2 l_3 i4 yield0 i1 i2 = some z81 := hz82
    unfold z_hier_links_1_l0 at hz82
    refine w_seqk fun K85 k85 => ?_
    refine w_reg (by kernel_rfl) ?_
    refine s_qk (.bool (decide (i2 < (((l_3.take (gt l_2 (i4 + 1)).toNat).drop (gt l_2 i4).toNat).length : Int)))) (by kernel_rfl) ?_
    refine s_nil ?_
    refine k85 _ _ ?_
    refine w_seqk fun K86 k86 => ?_
    refine w_condp (i2 < (((l_3.take (gt l_2 (i4 + 1)).toNat).drop (gt l_2 i4).toNat).length : Int)) (by kernel_rfl) rfl (fun h87 => ?_) (fun h87 => ?_)
    ·have r88 := ite_t h87 hz82
     refine w_skip ?_
     refine k86 _ _ ?_
     refine w_seqk fun K89 k89 => ?_
     refine w_block ?_
     refine w_seqk fun K90 k90 => ?_
     refine w_reg (by kernel_rfl) ?_
     obtain ⟨g91, r92⟩ := G_some r88
     have u93 := (hs53.fr e73 (i26.dj dj_fp_tr_fp_l_3 h_l_3.lt))
     refine s_ql (elp (.slice a55 n56 c57) 4 i2.toNat 0) (x := aIndexAddr Tryd.prog 29 (.slice a55 n56 c57) (.int .i64 i2)) (by kernel_rfl) (u93.idxb (by kernel_rfl) g91 h87) ?_
     refine s_ql (.agg #[.int .u32 ((gt ((l_3.take (gt l_2 (i4 + 1)).toNat).drop (gt l_2 i4).toNat) i2).1), .int .u64 ((gt ((l_3.take (gt l_2 (i4 + 1)).toNat).drop (gt l_2 i4).toNat) i2).2.1), .int .u32 ((gt ((l_3.take (gt l_2 (i4 + 1)).toNat).drop (gt l_2 i4).toNat) i2).2.2.1), .int .u32 ((gt ((l_3.take (gt l_2 (i4 + 1)).toNat).drop (gt l_2 i4).toNat) i2).2.2.2)]) (x := aLoad Tryd.prog 36 (elp (.slice a55 n56 c57) 4 i2.toNat 0) H72) (by kernel_rfl) (u93.ld g91 h87 (by kernel_rfl)) ?_
     refine s_rwk e73.wf [.int .u32 0, .int .u64 0, .int .u32 0, .int .u32 0] (by kernel_rfl) fun b94 H95 e96 hb97 r98 => ?_
     obtain ⟨H100, q101, e102, r103⟩ := Row.store (P := Tryd.prog) (t := 36) (p := 0) e96.wf r98 (.agg #[.int .u32 ((gt ((l_3.take (gt l_2 (i4 + 1)).toNat).drop (gt l_2 i4).toNat) i2).1), .int .u64 ((gt ((l_3.take (gt l_2 (i4 + 1)).toNat).drop (gt l_2 i4).toNat) i2).2.1), .int .u32 ((gt ((l_3.take (gt l_2 (i4 + 1)).toNat).drop (gt l_2 i4).toNat) i2).2.2.1), .int .u32 ((gt ((l_3.take (gt l_2 (i4 + 1)).toNat).drop (gt l_2 i4).toNat) i2).2.2.2)]) [.int .u32 ((gt ((l_3.take (gt l_2 (i4 + 1)).toNat).drop (gt l_2 i4).toNat) i2).1), .int .u64 ((gt ((l_3.take (gt l_2 (i4 + 1)).toNat).drop (gt l_2 i4).toNat) i2).2.1), .int .u32 ((gt ((l_3.take (gt l_2 (i4 + 1)).toNat).drop (gt l_2 i4).toNat) i2).2.2.1), .int .u32 ((gt ((l_3.take (gt l_2 (i4 + 1)).toNat).drop (gt l_2 i4).toNat) i2).2.2.2)] (by kernel_rfl) (by kernel_rfl) (one_cons (rfl) (one_cons (rfl) (one_cons (rfl) (one_cons (rfl) (one_nil))))) (Nat.le_of_ble_eq_true (by kernel_rfl)) [.int .u32 ((gt ((l_3.take (gt l_2 (i4 + 1)).toNat).drop (gt l_2 i4).toNat) i2).1), .int .u64 ((gt ((l_3.take (gt l_2 (i4 + 1)).toNat).drop (gt l_2 i4).toNat) i2).2.1), .int .u32 ((gt ((l_3.take (gt l_2 (i4 + 1)).toNat).drop (gt l_2 i4).toNat) i2).2.2.1), .int .u32 ((gt ((l_3.take (gt l_2 (i4 + 1)).toNat).drop (gt l_2 i4).toNat) i2).2.2.2)] (by kernel_rfl)
     refine s_ek (undef) (by kernel_rfl) (map_ok q101) ?_
     refine s_nil ?_
     refine k90 _ _ ?_
     refine w_seqk fun K104 k104 => ?_
     refine w_seqk fun K105 k105 => ?_
     refine w_reg (by kernel_rfl) ?_
     refine s_qk (.func (.yield l_) #[] #[]) (by kernel_rfl) ?_
     refine s_qk (.int .i64 i1) (by kernel_rfl) ?_
     refine s_ql (.agg #[.int .u32 ((gt ((l_3.take (gt l_2 (i4 + 1)).toNat).drop (gt l_2 i4).toNat) i2).1), .int .u64 ((gt ((l_3.take (gt l_2 (i4 + 1)).toNat).drop (gt l_2 i4).toNat) i2).2.1), .int .u32 ((gt ((l_3.take (gt l_2 (i4 + 1)).toNat).drop (gt l_2 i4).toNat) i2).2.2.1), .int .u32 ((gt ((l_3.take (gt l_2 (i4 + 1)).toNat).drop (gt l_2 i4).toNat) i2).2.2.2)]) (x := aLoad Tryd.prog 36 (.pointer (some ⟨b94, 0, none⟩)) H100) (by kernel_rfl) (r103.ld (by kernel_rfl)) ?_
     refine s_qk (.int .i64 i4) (by kernel_rfl) ?_
     refine s_qk (.pointer (some ⟨b94, 0, none⟩)) (by kernel_rfl) ?_
     refine s_ql (.int .u32 ((gt ((l_3.take (gt l_2 (i4 + 1)).toNat).drop (gt l_2 i4).toNat) i2).1)) (x := aLoad Tryd.prog 34 (.pointer (some ⟨b94, 0, none⟩)) H100) (by kernel_rfl) (r103.ld (by kernel_rfl)) ?_
     obtain ⟨g106, r107⟩ := G_some r92
     refine s_w ((gt ((l_3.take (gt l_2 (i4 + 1)).toNat).drop (gt l_2 i4).toNat) i2).1) (k := .i64) (x := (gt ((l_3.take (gt l_2 (i4 + 1)).toNat).drop (gt l_2 i4).toNat) i2).1) (by kernel_rfl) (wrap64 g106) ?_
     refine s_qk (.int .i64 i4) (by kernel_rfl) ?_
     refine s_qk (.agg #[.int .u32 ((gt ((l_3.take (gt l_2 (i4 + 1)).toNat).drop (gt l_2 i4).toNat) i2).1), .int .u64 ((gt ((l_3.take (gt l_2 (i4 + 1)).toNat).drop (gt l_2 i4).toNat) i2).2.1), .int .u32 ((gt ((l_3.take (gt l_2 (i4 + 1)).toNat).drop (gt l_2 i4).toNat) i2).2.2.1), .int .u32 ((gt ((l_3.take (gt l_2 (i4 + 1)).toNat).drop (gt l_2 i4).toNat) i2).2.2.2), .int .i64 i4, .int .i64 ((gt ((l_3.take (gt l_2 (i4 + 1)).toNat).drop (gt l_2 i4).toNat) i2).1), .int .i64 i4]) (by kernel_rfl) ?_
     obtain ⟨g108, r109⟩ := G_some r107
     have u115 := ((m75.ext e96).fr e102 (hb97.djn m75.lt))
     refine s_y l_ #[.int .i64 i1, .agg #[.int .u32 ((gt ((l_3.take (gt l_2 (i4 + 1)).toNat).drop (gt l_2 i4).toNat) i2).1), .int .u64 ((gt ((l_3.take (gt l_2 (i4 + 1)).toNat).drop (gt l_2 i4).toNat) i2).2.1), .int .u32 ((gt ((l_3.take (gt l_2 (i4 + 1)).toNat).drop (gt l_2 i4).toNat) i2).2.2.1), .int .u32 ((gt ((l_3.take (gt l_2 (i4 + 1)).toNat).drop (gt l_2 i4).toNat) i2).2.2.2), .int .i64 i4, .int .i64 ((gt ((l_3.take (gt l_2 (i4 + 1)).toNat).drop (gt l_2 i4).toNat) i2).1), .int .i64 i4]] (by kernel_rfl) (by kernel_rfl) (hyl _ _ _ (i1, (gt ((l_3.take (gt l_2 (i4 + 1)).toNat).drop (gt l_2 i4).toNat) i2).1, (gt ((l_3.take (gt l_2 (i4 + 1)).toNat).drop (gt l_2 i4).toNat) i2).2.1, (gt ((l_3.take (gt l_2 (i4 + 1)).toNat).drop (gt l_2 i4).toNat) i2).2.2.1, (gt ((l_3.take (gt l_2 (i4 + 1)).toNat).drop (gt l_2 i4).toNat) i2).2.2.2, i4, (gt ((l_3.take (gt l_2 (i4 + 1)).toNat).drop (gt l_2 i4).toNat) i2).1, i4) e102.wf g108 u115.at) ?_
     rintro _ H110 ⟨rfl, f111, e112, hm113, hf114⟩
     refine s_qk (.bool false) (by kernel_rfl) ?_
     refine s_nil ?_
     refine k105 _ _ ?_
     refine w_cond false (by kernel_rfl) rfl (fun h => by cases h) (fun _ => ?_)
     refine w_skip ?_
     refine k104 _ _ ?_
     refine w_reg (by kernel_rfl) ?_
     refine s_qk (.int .i64 i1) (by kernel_rfl) ?_
     obtain ⟨g116, r117⟩ := G_some r109
     refine s_w ((i1 + 1)) (k := .i64) (x := (i1 + 1)) (by kernel_rfl) (wrap64 g116) ?_
     refine s_qk (.int .i64 (i1 + 1)) (by kernel_rfl) ?_
     refine s_nil ?_
     refine k89 _ _ ?_
     refine w_reg (by kernel_rfl) ?_
     obtain ⟨g118, r119⟩ := G_some r117
     refine s_w ((i2 + 1)) (k := .i64) (x := (i2 + 1)) (by kernel_rfl) (wrap64 (by have := g118; omega)) ?_
     refine s_qk (.int .i64 (i2 + 1)) (by kernel_rfl) ?_
     refine s_nil ?_
     obtain rfl := Option.some.inj r119
     exact k84 n80 _ _ (Nat.lt_succ_self _) ⟨(yield0 ++ [(i1, (gt ((l_3.take (gt l_2 (i4 + 1)).toNat).drop (gt l_2 i4).toNat) i2).1, (gt ((l_3.take (gt l_2 (i4 + 1)).toNat).drop (gt l_2 i4).toNat) i2).2.1, (gt ((l_3.take (gt l_2 (i4 + 1)).toNat).drop (gt l_2 i4).toNat) i2).2.2.1, (gt ((l_3.take (gt l_2 (i4 + 1)).toNat).drop (gt l_2 i4).toNat) i2).2.2.2, i4, (gt ((l_3.take (gt l_2 (i4 + 1)).toNat).drop (gt l_2 i4).toNat) i2).1, i4)]), (i1 + 1), (i2 + 1), f111, hn83, ⟨by kernel_rfl, by kernel_rfl, by kernel_rfl, by kernel_rfl, by kernel_rfl, by kernel_rfl, by kernel_rfl, by kernel_rfl, by kernel_rfl, trivial⟩, (FrS.step e22.wf (FrS.step e22.wf ((FrS.step e22.wf (FrS.refl (W := f25) e22.wf) e73 Inn.refl').extR e96) e102 (hb97.fresh e73.next)) e112 (Inn.trans Inn.refl' (Nat.le_refl _) i77)), hm113, (Inn.trans (Inn.trans Inn.refl' (Nat.le_refl _) i77) (ntr (ntr e73.next e96.next) e102.next) hf114)⟩
    ·have r120 := ite_f h87 hz82
     refine w_exit (th_exit (th_exit (bl_eq ?_)))
     obtain rfl := Option.some.inj r120
     obtain rfl := it_inr hn83
     exact k68 _ _ ⟨f76, ⟨by kernel_rfl, by kernel_rfl, by kernel_rfl, by kernel_rfl, by kernel_rfl, trivial⟩, (FrS.step e22.wf (FrS.refl (W := f25) e22.wf) e73 Inn.refl'), m75, (Inn.trans Inn.refl' (Nat.le_refl _) i77)⟩
   ·obtain ⟨f66, hh69, e63, m65, i67⟩ := hM
    obtain ⟨β, rfl⟩ := has_ex hh69
    clear hh69
    refine k38 _ _ ?_
    refine w_reg (by kernel_rfl) ?_
    refine s_w ((i4 + 1)) (k := .i64) (x := (i4 + 1)) (by kernel_rfl) (wrap64 (by have := g45; omega)) ?_
    refine s_qk (.int .i64 (i4 + 1)) (by kernel_rfl) ?_
    refine s_nil ?_
    obtain rfl := Option.some.inj r61
    exact k33 n29 _ _ (Nat.lt_succ_self _) ⟨o59.1, (i4 + 1), o59.2, f66, hn32, ⟨by kernel_rfl, by kernel_rfl, by kernel_rfl, by kernel_rfl, by kernel_rfl, trivial⟩, (FrS.step wf (FrS.step wf (FrS.refl (W := fp_tr) wf) e22 Inn.refl') e63 (Inn.trans Inn.refl' (Nat.le_refl _) i26)), m65, (Inn.trans (Inn.trans Inn.refl' (Nat.le_refl _) i26) e22.next i67)⟩
  ·have r121 := ite_f h36 hz31
   refine w_exit (th_exit (th_exit (bl_eq ?_)))
   obtain rfl := Option.some.inj r121
   obtain rfl := it_inr hn32
   exact k17 _ _ ⟨f25, ⟨by kernel_rfl, by kernel_rfl, by kernel_rfl, trivial⟩, (FrS.step wf (FrS.refl (W := fp_tr) wf) e22 Inn.refl'), m24, (Inn.trans Inn.refl' (Nat.le_refl _) i26)⟩
 ·obtain ⟨f15, hh18, e12, m14, i16⟩ := hM
  obtain ⟨β, rfl⟩ := has_ex hh18
  clear hh18
  refine k6 _ _ ?_
  refine w_seqk fun K122 k122 => ?_
  refine w_reg (by kernel_rfl) ?_
  refine s_qk (.pointer (some ⟨b_p, 0, none⟩)) (by kernel_rfl) ?_
  have u123 := (h_p.frS e12 dj_fp_tr_b_p)
  refine s_ql (hd_l) (x := aLoad Tryd.prog 28 (.pointer (some ⟨b_p, 0, none⟩)) H11) (by kernel_rfl) (u123.ld (by kernel_rfl)) ?_
  have u124 := (h_l.fr e12 dj_fp_tr_fp_l)
  refine s_ql (.int .i64 (l.length : Int)) (x := aLen Tryd.prog 28 hd_l H11) (by kernel_rfl) (u124.lenb (by kernel_rfl)) ?_
  refine s_qk (.int .i64 0) (by kernel_rfl) ?_
  refine s_nil ?_
  refine k122 _ _ ?_
  obtain ⟨o125, hx126, r127⟩ := bind_some r10
  refine w_mid (fun α H128 => ∃ (f132 : Fp), Has α [] ∧ FrS f15 H11 H128 ∧ Trc I_ H128 o125 f132 ∧ Inn f15 H11 f132) (fun K134 k134 => ?_) (fun α H128 hM => ?_)
  ·refine w_block ?_
   obtain ⟨n136, hn137⟩ := loopO_iff.1 hx126
   refine w_loopn (fun n α H138 => ∃ (yield9 : List (Int × Int × Int × Int × Int × Int × Int × Int)), ∃ (i10 : Int), ∃ (i11 : Int), ∃ (f142 : Fp), iterO (fun zz_ => z_hier_links_1_l3 ok_ l l_4 l_5 zz_.1 zz_.2.1 zz_.2.2) n (yield9, i10, i11) = some o125 ∧ Has α [(0, .func (.yield l_) #[] #[]), (1, .pointer (some ⟨b_p, 0, none⟩)), (3, .int .i64 i10), (52, .int .i64 (l.length : Int)), (53, .int .i64 i11)] ∧ FrS f15 H11 H138 ∧ Trc I_ H138 yield9 f142 ∧ Inn f15 H11 f142) n136 ⟨o8.1, o8.2, 0, f15, hn137, ⟨by kernel_rfl, by kernel_rfl, by kernel_rfl, by kernel_rfl, by kernel_rfl, trivial⟩, (FrS.refl (W := f15) e12.wf), m14, Inn.refl'⟩ ?_
   rintro n136 α H138 ⟨yield9, i10, i11, f142, hi145, hh144, e139, m141, i143⟩ K150 k150
   obtain ⟨n146, z147, rfl, hz148, hn149⟩ := iter_succ hi145
   obtain ⟨β, rfl⟩ := has_ex hh144
   clear hh144
   replace hz148 : z_hier_links_1_l3 ok_ l l_4 l_5 yield9 i10 i11 = some z147 := hz148
   unfold z_hier_links_1_l3 at hz148
   refine w_seqk fun K151 k151 => ?_
   refine w_reg (by kernel_rfl) ?_
   refine s_qk (.bool (decide (i11 < (l.length : Int)))) (by kernel_rfl) ?_
   refine s_nil ?_
   refine k151 _ _ ?_
   refine w_seqk fun K152 k152 => ?_
   refine w_condp (i11 < (l.length : Int)) (by kernel_rfl) rfl (fun h153 => ?_) (fun h153 => ?_)
   ·have r154 := ite_t h153 hz148
    refine w_skip ?_
    refine k152 _ _ ?_
    refine w_seqk fun K155 k155 => ?_
    refine w_block ?_
    refine w_seqk fun K156 k156 => ?_
    refine w_reg (by kernel_rfl) ?_
    refine s_qk (.int .i64 i11) (by kernel_rfl) ?_
    refine s_qk (.int .i64 i11) (by kernel_rfl) ?_
    refine s_nil ?_
    refine k156 _ _ ?_
    refine w_seqk fun K157 k157 => ?_
    refine w_draw [0, 1, 2, 3, 4, 5, 6, 7, 8, 9, 10, 11, 12, 13, 14, 15] (by kernel_rfl) ?_
    refine d_qk (.pointer (some ⟨b_p, 4, none⟩)) (by kernel_rfl) ?_
    have u158 := (u123.frS e139 (i16.dj dj_fp_tr_b_p h_p.ltF))
    refine d_ql (hd_l_5) (x := aLoad Tryd.prog 29 (.pointer (some ⟨b_p, 4, none⟩)) H138) (by kernel_rfl) (u158.ld (by kernel_rfl)) ?_
    refine d_qk (.pointer (some ⟨b_p, 3, none⟩)) (by kernel_rfl) ?_
    refine d_ql (hd_l_4) (x := aLoad Tryd.prog 28 (.pointer (some ⟨b_p, 3, none⟩)) H138) (by kernel_rfl) (u158.ld (by kernel_rfl)) ?_
    refine d_qk (.int .i64 i11) (by kernel_rfl) ?_
    obtain ⟨g159, r160⟩ := G_some r154
    have u161 := ((h_l_4.fr e12 dj_fp_tr_fp_l_4).fr e139 (i16.dj dj_fp_tr_fp_l_4 h_l_4.lt))
    refine d_ql (elp hd_l_4 1 i11.toNat 0) (x := aIndexAddr Tryd.prog 28 hd_l_4 (.int .i64 i11)) (by kernel_rfl) (u161.idxb (by kernel_rfl) g159.1 g159.2) ?_
    refine d_ql (.int .u32 (gt l_4 i11)) (x := aLoad Tryd.prog 34 (elp hd_l_4 1 i11.toNat 0) H138) (by kernel_rfl) (u161.ld g159.1 g159.2 (by kernel_rfl)) ?_
    refine d_qk (.pointer (some ⟨b_p, 3, none⟩)) (by kernel_rfl) ?_
    refine d_ql (hd_l_4) (x := aLoad Tryd.prog 28 (.pointer (some ⟨b_p, 3, none⟩)) H138) (by kernel_rfl) (u158.ld (by kernel_rfl)) ?_
    refine d_qk (.int .i64 i11) (by kernel_rfl) ?_
    obtain ⟨g162, r163⟩ := G_some r160
    refine d_w ((i11 + 1)) (k := .i64) (x := (i11 + 1)) (by kernel_rfl) (wrap64 (by have := g162; omega)) ?_
    obtain ⟨g164, r165⟩ := G_some r163
    refine d_ql (elp hd_l_4 1 (i11 + 1).toNat 0) (x := aIndexAddr Tryd.prog 28 hd_l_4 (.int .i64 (i11 + 1))) (by kernel_rfl) (u161.idxb (by kernel_rfl) g164.1 g164.2) ?_
    refine d_ql (.int .u32 (gt l_4 (i11 + 1))) (x := aLoad Tryd.prog 34 (elp hd_l_4 1 (i11 + 1).toNat 0) H138) (by kernel_rfl) (u161.ld g164.1 g164.2 (by kernel_rfl)) ?_
    obtain ⟨g166, r167⟩ := G_some r165
    have u171 := ((h_l_5.fr e12 dj_fp_tr_fp_l_5).fr e139 (i16.dj dj_fp_tr_fp_l_5 h_l_5.lt))
    obtain ⟨s168, q169, hs170⟩ := Sq.cut (P := Tryd.prog) u171 (t := 29) (by kernel_rfl) (lo := (some (.int .u32 (gt l_4 i11)))) (hi := (some (.int .u32 (gt l_4 (i11 + 1))))) (l := (gt l_4 i11).toNat) (r := (gt l_4 (i11 + 1)).toNat) (aBound_int _ (by have := g166; omega)) (aBound_int _ (by have := g166; omega)) (by have := g166; omega) (by have := g166; omega)
    obtain ⟨a172, n173, c174, rfl⟩ := hs170.form
    refine d_ql (.slice a172 n173 c174) (by kernel_rfl) q169 ?_
    refine d_ql (.int .i64 (((l_5.take (gt l_4 (i11 + 1)).toNat).drop (gt l_4 i11).toNat).length : Int)) (x := aLen Tryd.prog 29 (.slice a172 n173 c174) H138) (by kernel_rfl) (hs170.lenb (by kernel_rfl)) ?_
    refine d_qk (.int .i64 0) (by kernel_rfl) ?_
    refine d_nil ?_
    refine k157 _ _ ?_
    obtain ⟨o176, hx177, r178⟩ := bind_some r167
    refine w_mid (fun α H179 => ∃ (f183 : Fp), Has α [(0, .func (.yield l_) #[] #[]), (1, .pointer (some ⟨b_p, 0, none⟩)), (3, .int .i64 o176.2), (52, .int .i64 (l.length : Int)), (53, .int .i64 i11)] ∧ FrS f142 H138 H179 ∧ Trc I_ H179 o176.1 f183 ∧ Inn f142 H138 f183) (fun K185 k185 => ?_) (fun α H179 hM => ?_)
    ·refine w_block ?_
     obtain ⟨n187, hn188⟩ := loopO_iff.1 hx177
     refine w_loopn (fun n α H189 => ∃ (yield6 : List (Int × Int × Int × Int × Int × Int × Int × Int)), ∃ (i7 : Int), ∃ (i8 : Int), ∃ (f193 : Fp), iterO (fun zz_ => z_hier_links_1_l2 ok_ l_4 l_5 i11 zz_.1 zz_.2.1 zz_.2.2) n (yield6, i7, i8) = some o176 ∧ Has α [(0, .func (.yield l_) #[] #[]), (1, .pointer (some ⟨b_p, 0, none⟩)), (3, .int .i64 i7), (7, .int .i64 i11), (52, .int .i64 (l.length : Int)), (53, .int .i64 i11), (69, .slice a172 n173 c174), (70, .int .i64 (((l_5.take (gt l_4 (i11 + 1)).toNat).drop (gt l_4 i11).toNat).length : Int)), (71, .int .i64 i8)] ∧ FrS f142 H138 H189 ∧ Trc I_ H189 yield6 f193 ∧ Inn f142 H138 f193) n187 ⟨yield9, i10, 0, f142, hn188, ⟨by kernel_rfl, by kernel_rfl, by kernel_rfl, by kernel_rfl, by kernel_rfl, by kernel_rfl, by kernel_rfl, by kernel_rfl, by kernel_rfl, trivial⟩, (FrS.refl (W := f142) e139.wf), m141, Inn.refl'⟩ ?_
     rintro n187 α H189 ⟨yield6, i7, i8, f193, hi196, hh195, e190, m192, i194⟩ K201 k201
     obtain ⟨n197, z198, rfl, hz199, hn200⟩ := iter_succ hi196
     obtain ⟨β, rfl⟩ := has_ex hh195
     clear hh195
     replace hz199 : z_hier_links_1_l2 ok_ l_4 l_5 i11 yield6 i7 i8 = some z198 := hz199
     unfold z_hier_links_1_l2 at hz199
     refine w_seqk fun K202 k202 => ?_
     refine w_reg (by kernel_rfl) ?_
     refine s_qk (.bool (decide (i8 < (((l_5.take (gt l_4 (i11 + 1)).toNat).drop (gt l_4 i11).toNat).length : Int)))) (by kernel_rfl) ?_
     refine s_nil ?_
     refine k202 _ _ ?_
     refine w_seqk fun K203 k203 => ?_
     refine w_condp (i8 < (((l_5.take (gt l_4 (i11 + 1)).toNat).drop (gt l_4 i11).toNat).length : Int)) (by kernel_rfl) rfl (fun h204 => ?_) (fun h204 => ?_)
     ·have r205 := ite_t h204 hz199
      refine w_skip ?_
      refine k203 _ _ ?_
      refine w_seqk fun K206 k206 => ?_
      refine w_block ?_
      refine w_seqk fun K207 k207 => ?_
      refine w_reg (by kernel_rfl) ?_
      obtain ⟨g208, r209⟩ := G_some r205
      have u210 := (hs170.fr e190 (i143.dj (i16.dj dj_fp_tr_fp_l_5 h_l_5.lt) (h_l_5.lt.le e12.next)))
      refine s_ql (elp (.slice a172 n173 c174) 4 i8.toNat 0) (x := aIndexAddr Tryd.prog 29 (.slice a172 n173 c174) (.int .i64 i8)) (by kernel_rfl) (u210.idxb (by kernel_rfl) g208 h204) ?_
      refine s_ql (.agg #[.int .u32 ((gt ((l_5.take (gt l_4 (i11 + 1)).toNat).drop (gt l_4 i11).toNat) i8).1), .int .u64 ((gt ((l_5.take (gt l_4 (i11 + 1)).toNat).drop (gt l_4 i11).toNat) i8).2.1), .int .u32 ((gt ((l_5.take (gt l_4 (i11 + 1)).toNat).drop (gt l_4 i11).toNat) i8).2.2.1), .int .u32 ((gt ((l_5.take (gt l_4 (i11 + 1)).toNat).drop (gt l_4 i11).toNat) i8).2.2.2)]) (x := aLoad Tryd.prog 36 (elp (.slice a172 n173 c174) 4 i8.toNat 0) H189) (by kernel_rfl) (u210.ld g208 h204 (by kernel_rfl)) ?_
      refine s_rwk e190.wf [.int .u32 0, .int .u64 0, .int .u32 0, .int .u32 0] (by kernel_rfl) fun b211 H212 e213 hb214 r215 => ?_
      obtain ⟨H217, q218, e219, r220⟩ := Row.store (P := Tryd.prog) (t := 36) (p := 0) e213.wf r215 (.agg #[.int .u32 ((gt ((l_5.take (gt l_4 (i11 + 1)).toNat).drop (gt l_4 i11).toNat) i8).1), .int .u64 ((gt ((l_5.take (gt l_4 (i11 + 1)).toNat).drop (gt l_4 i11).toNat) i8).2.1), .int .u32 ((gt ((l_5.take (gt l_4 (i11 + 1)).toNat).drop (gt l_4 i11).toNat) i8).2.2.1), .int .u32 ((gt ((l_5.take (gt l_4 (i11 + 1)).toNat).drop (gt l_4 i11).toNat) i8).2.2.2)]) [.int .u32 ((gt ((l_5.take (gt l_4 (i11 + 1)).toNat).drop (gt l_4 i11).toNat) i8).1), .int .u64 ((gt ((l_5.take (gt l_4 (i11 + 1)).toNat).drop (gt l_4 i11).toNat) i8).2.1), .int .u32 ((gt ((l_5.take (gt l_4 (i11 + 1)).toNat).drop (gt l_4 i11).toNat) i8).2.2.1), .int .u32 ((gt ((l_5.take (gt l_4 (i11 + 1)).toNat).drop (gt l_4 i11).toNat) i8).2.2.2)] (by kernel_rfl) (by kernel_rfl) (one_cons (rfl) (one_cons (rfl) (one_cons (rfl) (one_cons (rfl) (one_nil))))) (Nat.le_of_ble_eq_true (by kernel_rfl)) [.int .u32 ((gt ((l_5.take (gt l_4 (i11 + 1)).toNat).drop (gt l_4 i11).toNat) i8).1), .int .u64 ((gt ((l_5.take (gt l_4 (i11 + 1)).toNat).drop (gt l_4 i11).toNat) i8).2.1), .int .u32 ((gt ((l_5.take (gt l_4 (i11 + 1)).toNat).drop (gt l_4 i11).toNat) i8).2.2.1), .int .u32 ((gt ((l_5.take (gt l_4 (i11 + 1)).toNat).drop (gt l_4 i11).toNat) i8).2.2.2)] (by kernel_rfl)
      refine s_ek (undef) (by kernel_rfl) (map_ok q218) ?_
      refine s_nil ?_
      refine k207 _ _ ?_
      refine w_seqk fun K221 k221 => ?_
      refine w_seqk fun K222 k222 => ?_
      refine w_reg (by kernel_rfl) ?_
      refine s_qk (.func (.yield l_) #[] #[]) (by kernel_rfl) ?_
      refine s_qk (.int .i64 i7) (by kernel_rfl) ?_
      refine s_ql (.agg #[.int .u32 ((gt ((l_5.take (gt l_4 (i11 + 1)).toNat).drop (gt l_4 i11).toNat) i8).1), .int .u64 ((gt ((l_5.take (gt l_4 (i11 + 1)).toNat).drop (gt l_4 i11).toNat) i8).2.1), .int .u32 ((gt ((l_5.take (gt l_4 (i11 + 1)).toNat).drop (gt l_4 i11).toNat) i8).2.2.1), .int .u32 ((gt ((l_5.take (gt l_4 (i11 + 1)).toNat).drop (gt l_4 i11).toNat) i8).2.2.2)]) (x := aLoad Tryd.prog 36 (.pointer (some ⟨b211, 0, none⟩)) H217) (by kernel_rfl) (r220.ld (by kernel_rfl)) ?_
      refine s_qk (.pointer (some ⟨b211, 0, none⟩)) (by kernel_rfl) ?_
      refine s_ql (.int .u32 ((gt ((l_5.take (gt l_4 (i11 + 1)).toNat).drop (gt l_4 i11).toNat) i8).1)) (x := aLoad Tryd.prog 34 (.pointer (some ⟨b211, 0, none⟩)) H217) (by kernel_rfl) (r220.ld (by kernel_rfl)) ?_
      obtain ⟨g223, r224⟩ := G_some r209
      refine s_w ((gt ((l_5.take (gt l_4 (i11 + 1)).toNat).drop (gt l_4 i11).toNat) i8).1) (k := .i64) (x := (gt ((l_5.take (gt l_4 (i11 + 1)).toNat).drop (gt l_4 i11).toNat) i8).1) (by kernel_rfl) (wrap64 g223) ?_
      refine s_qk (.int .i64 i11) (by kernel_rfl) ?_
      refine s_qk (.int .i64 i11) (by kernel_rfl) ?_
      refine s_qk (.agg #[.int .u32 ((gt ((l_5.take (gt l_4 (i11 + 1)).toNat).drop (gt l_4 i11).toNat) i8).1), .int .u64 ((gt ((l_5.take (gt l_4 (i11 + 1)).toNat).drop (gt l_4 i11).toNat) i8).2.1), .int .u32 ((gt ((l_5.take (gt l_4 (i11 + 1)).toNat).drop (gt l_4 i11).toNat) i8).2.2.1), .int .u32 ((gt ((l_5.take (gt l_4 (i11 + 1)).toNat).drop (gt l_4 i11).toNat) i8).2.2.2), .int .i64 ((gt ((l_5.take (gt l_4 (i11 + 1)).toNat).drop (gt l_4 i11).toNat) i8).1), .int .i64 i11, .int .i64 i11]) (by kernel_rfl) ?_
      obtain ⟨g225, r226⟩ := G_some r224
      have u232 := ((m192.ext e213).fr e219 (hb214.djn m192.lt))
      refine s_y l_ #[.int .i64 i7, .agg #[.int .u32 ((gt ((l_5.take (gt l_4 (i11 + 1)).toNat).drop (gt l_4 i11).toNat) i8).1), .int .u64 ((gt ((l_5.take (gt l_4 (i11 + 1)).toNat).drop (gt l_4 i11).toNat) i8).2.1), .int .u32 ((gt ((l_5.take (gt l_4 (i11 + 1)).toNat).drop (gt l_4 i11).toNat) i8).2.2.1), .int .u32 ((gt ((l_5.take (gt l_4 (i11 + 1)).toNat).drop (gt l_4 i11).toNat) i8).2.2.2), .int .i64 ((gt ((l_5.take (gt l_4 (i11 + 1)).toNat).drop (gt l_4 i11).toNat) i8).1), .int .i64 i11, .int .i64 i11]] (by kernel_rfl) (by kernel_rfl) (hyl _ _ _ (i7, (gt ((l_5.take (gt l_4 (i11 + 1)).toNat).drop (gt l_4 i11).toNat) i8).1, (gt ((l_5.take (gt l_4 (i11 + 1)).toNat).drop (gt l_4 i11).toNat) i8).2.1, (gt ((l_5.take (gt l_4 (i11 + 1)).toNat).drop (gt l_4 i11).toNat) i8).2.2.1, (gt ((l_5.take (gt l_4 (i11 + 1)).toNat).drop (gt l_4 i11).toNat) i8).2.2.2, (gt ((l_5.take (gt l_4 (i11 + 1)).toNat).drop (gt l_4 i11).toNat) i8).1, i11, i11) e219.wf g225 u232.at) ?_
      rintro _ H227 ⟨rfl, f228, e229, hm230, hf231⟩
      refine s_qk (.bool false) (by kernel_rfl) ?_
      refine s_nil ?_
      refine k222 _ _ ?_
      refine w_cond false (by kernel_rfl) rfl (fun h => by cases h) (fun _ => ?_)
      refine w_skip ?_
      refine k221 _ _ ?_
      refine w_reg (by kernel_rfl) ?_
      refine s_qk (.int .i64 i7) (by kernel_rfl) ?_
      obtain ⟨g233, r234⟩ := G_some r226
      refine s_w ((i7 + 1)) (k := .i64) (x := (i7 + 1)) (by kernel_rfl) (wrap64 g233) ?_
      refine s_qk (.int .i64 (i7 + 1)) (by kernel_rfl) ?_
      refine s_nil ?_
      refine k206 _ _ ?_
      refine w_reg (by kernel_rfl) ?_
      obtain ⟨g235, r236⟩ := G_some r234
      refine s_w ((i8 + 1)) (k := .i64) (x := (i8 + 1)) (by kernel_rfl) (wrap64 (by have := g235; omega)) ?_
      refine s_qk (.int .i64 (i8 + 1)) (by kernel_rfl) ?_
      refine s_nil ?_
      obtain rfl := Option.some.inj r236
      exact k201 n197 _ _ (Nat.lt_succ_self _) ⟨(yield6 ++ [(i7, (gt ((l_5.take (gt l_4 (i11 + 1)).toNat).drop (gt l_4 i11).toNat) i8).1, (gt ((l_5.take (gt l_4 (i11 + 1)).toNat).drop (gt l_4 i11).toNat) i8).2.1, (gt ((l_5.take (gt l_4 (i11 + 1)).toNat).drop (gt l_4 i11).toNat) i8).2.2.1, (gt ((l_5.take (gt l_4 (i11 + 1)).toNat).drop (gt l_4 i11).toNat) i8).2.2.2, (gt ((l_5.take (gt l_4 (i11 + 1)).toNat).drop (gt l_4 i11).toNat) i8).1, i11, i11)]), (i7 + 1), (i8 + 1), f228, hn200, ⟨by kernel_rfl, by kernel_rfl, by kernel_rfl, by kernel_rfl, by kernel_rfl, by kernel_rfl, by kernel_rfl, by kernel_rfl, by kernel_rfl, trivial⟩, (FrS.step e139.wf (FrS.step e139.wf ((FrS.step e139.wf (FrS.refl (W := f142) e139.wf) e190 Inn.refl').extR e213) e219 (hb214.fresh e190.next)) e229 (Inn.trans Inn.refl' (Nat.le_refl _) i194)), hm230, (Inn.trans (Inn.trans Inn.refl' (Nat.le_refl _) i194) (ntr (ntr e190.next e213.next) e219.next) hf231)⟩
     ·have r237 := ite_f h204 hz199
      refine w_exit (th_exit (th_exit (bl_eq ?_)))
      obtain rfl := Option.some.inj r237
      obtain rfl := it_inr hn200
      exact k185 _ _ ⟨f193, ⟨by kernel_rfl, by kernel_rfl, by kernel_rfl, by kernel_rfl, by kernel_rfl, trivial⟩, (FrS.step e139.wf (FrS.refl (W := f142) e139.wf) e190 Inn.refl'), m192, (Inn.trans Inn.refl' (Nat.le_refl _) i194)⟩
    ·obtain ⟨f183, hh186, e180, m182, i184⟩ := hM
     obtain ⟨β, rfl⟩ := has_ex hh186
     clear hh186
     refine k155 _ _ ?_
     refine w_reg (by kernel_rfl) ?_
     refine s_w ((i11 + 1)) (k := .i64) (x := (i11 + 1)) (by kernel_rfl) (wrap64 (by have := g162; omega)) ?_
     refine s_qk (.int .i64 (i11 + 1)) (by kernel_rfl) ?_
     refine s_nil ?_
     obtain rfl := Option.some.inj r178
     exact k150 n146 _ _ (Nat.lt_succ_self _) ⟨o176.1, o176.2, (i11 + 1), f183, hn149, ⟨by kernel_rfl, by kernel_rfl, by kernel_rfl, by kernel_rfl, by kernel_rfl, trivial⟩, (FrS.step e12.wf (FrS.step e12.wf (FrS.refl (W := f15) e12.wf) e139 Inn.refl') e180 (Inn.trans Inn.refl' (Nat.le_refl _) i143)), m182, (Inn.trans (Inn.trans Inn.refl' (Nat.le_refl _) i143) e139.next i184)⟩
   ·have r238 := ite_f h153 hz148
    refine w_exit (th_exit (th_exit (bl_eq ?_)))
    obtain rfl := Option.some.inj r238
    obtain rfl := it_inr hn149
    exact k134 _ _ ⟨f142, trivial, (FrS.step e12.wf (FrS.refl (W := f15) e12.wf) e139 Inn.refl'), m141, (Inn.trans Inn.refl' (Nat.le_refl _) i143)⟩
  ·obtain ⟨f132, hh135, e129, m131, i133⟩ := hM
   obtain ⟨β, rfl⟩ := has_ex hh135
   clear hh135
   refine b_nrm (fn := Tryd.f45) (vs := []) (rfl) ?_
   obtain rfl := Option.some.inj r127
   exact ⟨f132, rfl, (FrS.step wf (FrS.step wf (FrS.refl (W := fp_tr) wf) e12 Inn.refl') e129 (Inn.trans Inn.refl' (Nat.le_refl _) i16)), m131, (Inn.trans (Inn.trans Inn.refl' (Nat.le_refl _) i16) e12.next i133)⟩

theorem c_hier_plain {H : AH} {To : Int} {Weight : Int} {Left : Int} {Right : Int} {r : Bool}
  (wf : WF H) (hr : z_hier_plain To Weight Left Right = some r) :
  ACalls Tryd.prog 27 #[.agg #[.int .u32 To, .int .u64 Weight, .int .u32 Left, .int .u32 Right]] H fun v H' => v = .bool r ∧ FrS [] H H' := by
 refine acalls_of_body mixed Tryd.func27 rfl (Nat.le_of_ble_eq_true rfl) ?_
 unfold z_hier_plain at hr
 refine w_seqk fun K1 k1 => ?_
 refine w_reg (by kernel_rfl) ?_
 refine s_rwl wf [.int .u32 To, .int .u64 Weight, .int .u32 Left, .int .u32 Right] (one_cons (rfl) (one_cons (rfl) (one_cons (rfl) (one_cons (rfl) (one_nil))))) (by kernel_rfl) fun b2 H3 e4 hb5 r6 => ?_
 refine s_qk (.bool false) (by kernel_rfl) ?_
 refine s_nil ?_
 refine k1 _ _ ?_
 refine w_seqk fun K8 k8 => ?_
 refine w_reg (by kernel_rfl) ?_
 refine s_qk (.pointer (some ⟨b2, 2, none⟩)) (by kernel_rfl) ?_
 refine s_ql (.int .u32 Left) (x := aLoad Tryd.prog 34 (.pointer (some ⟨b2, 2, none⟩)) H3) (by kernel_rfl) (r6.ld (by kernel_rfl)) ?_
 refine s_b (Left = 4294967295) (by kernel_rfl) (fun h9 => ?_) (fun h9 => ?_)
 ·have r10 := ite_t h9 hr
  refine s_qk (.bool true) (by kernel_rfl) ?_
  refine s_qk (.pointer (some ⟨b2, 3, none⟩)) (by kernel_rfl) ?_
  refine s_ql (.int .u32 Right) (x := aLoad Tryd.prog 34 (.pointer (some ⟨b2, 3, none⟩)) H3) (by kernel_rfl) (r6.ld (by kernel_rfl)) ?_
  refine s_qk (.bool (decide (Right = 4294967295))) (by kernel_rfl) ?_
  refine s_qk (.bool (decide (Right = 4294967295))) (by kernel_rfl) ?_
  refine s_qk (.bool (decide (Right = 4294967295))) (by kernel_rfl) ?_
  refine s_nil ?_
  refine k8 _ _ ?_
  refine w_ret ?_
  refine b_ret (fn := Tryd.f27) (vs := [.bool (decide (Right = 4294967295))]) (aRes_tmp (by kernel_rfl) (rfl)) ?_
  obtain rfl := Option.some.inj r10
  exact ⟨rfl, ((FrS.refl (W := []) wf).extR e4)⟩
 ·have r11 := ite_f h9 hr
  refine s_qk (.bool false) (by kernel_rfl) ?_
  refine s_no (by kernel_rfl) ?_
  refine s_no (by kernel_rfl) ?_
  refine s_no (by kernel_rfl) ?_
  refine s_qk (.bool false) (by kernel_rfl) ?_
  refine s_qk (.bool false) (by kernel_rfl) ?_
  refine s_nil ?_
  refine k8 _ _ ?_
  refine w_ret ?_
  refine b_ret (fn := Tryd.f27) (vs := [.bool false]) (aRes_tmp (by kernel_rfl) (rfl)) ?_
  obtain rfl := Option.some.inj r11
  exact ⟨rfl, ((FrS.refl (W := []) wf).extR e4)⟩


end Go.Vd

/-! (KHf1) -/

set_option maxRecDepth 100000
set_option maxHeartbeats 4000000
set_option linter.unusedVariables false
namespace Go.Vd
open Go.Proofs
attribute [local irreducible] wpSeq wpOrd aWp
theorem c_hier_shape {H : AH} {hd_Node : Value} {fp_Node : Fp} {hd_UpFirst : Value} {fp_UpFirst : Fp} {hd_Up : Value} {fp_Up : Fp} {hd_DownFirst : Value} {fp_DownFirst : Fp} {hd_Down : Value} {fp_Down : Fp} {hd_all : Value} {fp_all : Fp} {Node : List (Int)} {UpFirst : List (Int)} {Up : List (Int × Int × Int × Int)} {DownFirst : List (Int)} {Down : List (Int × Int × Int × Int)} {all : List (Int × Int × Int × Int × Int × Int × Int)} {i : Int} {r : Bool}
  (wf : WF H) (h_Node : Sq (encI .u32) 1 H hd_Node Node fp_Node) (h_UpFirst : Sq (encI .u32) 1 H hd_UpFirst UpFirst fp_UpFirst) (h_Up : Sq enc_u32_u64_u32_u32 4 H hd_Up Up fp_Up) (h_DownFirst : Sq (encI .u32) 1 H hd_DownFirst DownFirst fp_DownFirst) (h_Down : Sq enc_u32_u64_u32_u32 4 H hd_Down Down fp_Down) (h_all : Sq enc_u32_u64_u32_u32_i64_i64_i64 7 H hd_all all fp_all) (hr : z_hier_shape Node UpFirst Up DownFirst Down all i = some r) :
  ACalls Tryd.prog 34 #[.agg #[hd_Node, hd_UpFirst, hd_Up, hd_DownFirst, hd_Down], hd_all, .int .i64 i] H fun v H' => v = .bool r ∧ FrS [] H H' := by
 refine acalls_of_body mixed Tryd.func34 rfl (Nat.le_of_ble_eq_true rfl) ?_
 unfold z_hier_shape at hr
 refine w_seqk fun K1 k1 => ?_
 refine w_reg (by kernel_rfl) ?_
 refine s_rwl wf [hd_Node, hd_UpFirst, hd_Up, hd_DownFirst, hd_Down] (one_cons (h_Node.one1) (one_cons (h_UpFirst.one1) (one_cons (h_Up.one1) (one_cons (h_DownFirst.one1) (one_cons (h_Down.one1) (one_nil)))))) (by kernel_rfl) fun b2 H3 e4 hb5 r6 => ?_
 refine s_qk (.bool false) (by kernel_rfl) ?_
 refine s_nil ?_
 refine k1 _ _ ?_
 refine w_seqk fun K8 k8 => ?_
 refine w_reg (by kernel_rfl) ?_
 refine s_qk (hd_all) (by kernel_rfl) ?_
 refine s_qk (.int .i64 i) (by kernel_rfl) ?_
 obtain ⟨g9, r10⟩ := G_some hr
 have u11 := (h_all.ext e4)
 refine s_ql (elp hd_all 7 i.toNat 0) (x := aIndexAddr Tryd.prog 63 hd_all (.int .i64 i)) (by kernel_rfl) (u11.idxb (by kernel_rfl) g9.1 g9.2) ?_
 refine s_ql (.agg #[.int .u32 ((gt all i).1), .int .u64 ((gt all i).2.1), .int .u32 ((gt all i).2.2.1), .int .u32 ((gt all i).2.2.2.1), .int .i64 ((gt all i).2.2.2.2.1), .int .i64 ((gt all i).2.2.2.2.2.1), .int .i64 ((gt all i).2.2.2.2.2.2)]) (x := aLoad Tryd.prog 67 (elp hd_all 7 i.toNat 0) H3) (by kernel_rfl) (u11.ld g9.1 g9.2 (by kernel_rfl)) ?_
 refine s_rwk e4.wf [.int .u32 0, .int .u64 0, .int .u32 0, .int .u32 0, .int .i64 0, .int .i64 0, .int .i64 0] (by kernel_rfl) fun b12 H13 e14 hb15 r16 => ?_
 obtain ⟨H18, q19, e20, r21⟩ := Row.store (P := Tryd.prog) (t := 67) (p := 0) e14.wf r16 (.agg #[.int .u32 ((gt all i).1), .int .u64 ((gt all i).2.1), .int .u32 ((gt all i).2.2.1), .int .u32 ((gt all i).2.2.2.1), .int .i64 ((gt all i).2.2.2.2.1), .int .i64 ((gt all i).2.2.2.2.2.1), .int .i64 ((gt all i).2.2.2.2.2.2)]) [.int .u32 ((gt all i).1), .int .u64 ((gt all i).2.1), .int .u32 ((gt all i).2.2.1), .int .u32 ((gt all i).2.2.2.1), .int .i64 ((gt all i).2.2.2.2.1), .int .i64 ((gt all i).2.2.2.2.2.1), .int .i64 ((gt all i).2.2.2.2.2.2)] (by kernel_rfl) (by kernel_rfl) (one_cons (rfl) (one_cons (rfl) (one_cons (rfl) (one_cons (rfl) (one_cons (rfl) (one_cons (rfl) (one_cons (rfl) (one_nil)))))))) (Nat.le_of_ble_eq_true (by kernel_rfl)) [.int .u32 ((gt all i).1), .int .u64 ((gt all i).2.1), .int .u32 ((gt all i).2.2.1), .int .u32 ((gt all i).2.2.2.1), .int .i64 ((gt all i).2.2.2.2.1), .int .i64 ((gt all i).2.2.2.2.2.1), .int .i64 ((gt all i).2.2.2.2.2.2)] (by kernel_rfl)
 refine s_ek (undef) (by kernel_rfl) (map_ok q19) ?_
 refine s_nil ?_
 refine k8 _ _ ?_
 refine w_seqk fun K22 k22 => ?_
 refine w_block ?_
 refine w_seqk fun K23 k23 => ?_
 obtain ⟨o24, hx25, r26⟩ := bind_some r10
 refine w_mid (fun α H27 => Has α [(1, hd_all), (2, .int .i64 i), (3, .pointer (some ⟨b2, 0, none⟩)), (7, .pointer (some ⟨b12, 0, none⟩)), (16, .bool o24)] ∧ H18 = H27) (fun K29 k29 => ?_) (fun α H27 hM => ?_)
 ·refine w_reg (by kernel_rfl) ?_
  refine s_qk (.pointer (some ⟨b12, 0, none⟩)) (by kernel_rfl) ?_
  refine s_qk (.pointer (some ⟨b12, 0, none⟩)) (by kernel_rfl) ?_
  refine s_ql (.int .u32 ((gt all i).1)) (x := aLoad Tryd.prog 34 (.pointer (some ⟨b12, 0, none⟩)) H18) (by kernel_rfl) (r21.ld (by kernel_rfl)) ?_
  obtain ⟨g31, r32⟩ := G_some hx25
  refine s_w ((gt all i).1) (k := .i64) (x := (gt all i).1) (by kernel_rfl) (wrap64 g31) ?_
  refine s_qk (.pointer (some ⟨b2, 0, none⟩)) (by kernel_rfl) ?_
  have u33 := ((r6.ext e14).frS e20 (hb15.djn r6.ltF))
  refine s_ql (hd_Node) (x := aLoad Tryd.prog 28 (.pointer (some ⟨b2, 0, none⟩)) H18) (by kernel_rfl) (u33.ld (by kernel_rfl)) ?_
  have u34 := (((h_Node.ext e4).ext e14).fr e20 (hb15.djn (h_Node.lt.le e4.next)))
  refine s_ql (.int .i64 (Node.length : Int)) (x := aLen Tryd.prog 28 hd_Node H18) (by kernel_rfl) (u34.lenb (by kernel_rfl)) ?_
  refine s_b (((gt all i).1) ≥ (Node.length : Int)) (by kernel_rfl) (fun h35 => ?_) (fun h35 => ?_)
  ·have r36 := ite_t h35 r32
   refine s_qk (.bool true) (by kernel_rfl) ?_
   refine s_no (by kernel_rfl) ?_
   refine s_no (by kernel_rfl) ?_
   refine s_no (by kernel_rfl) ?_
   refine s_no (by kernel_rfl) ?_
   refine s_no (by kernel_rfl) ?_
   refine s_no (by kernel_rfl) ?_
   refine s_no (by kernel_rfl) ?_
   refine s_qk (.bool true) (by kernel_rfl) ?_
   refine s_qk (.bool true) (by kernel_rfl) ?_
   refine s_nil ?_
   obtain rfl := Option.some.inj r36
   exact k29 _ _ ⟨⟨by kernel_rfl, by kernel_rfl, by kernel_rfl, by kernel_rfl, by kernel_rfl, trivial⟩, rfl⟩
  ·have r37 := ite_f h35 r32
   refine s_qk (.bool false) (by kernel_rfl) ?_
   refine s_qk (.pointer (some ⟨b12, 0, none⟩)) (by kernel_rfl) ?_
   refine s_qk (.pointer (some ⟨b12, 0, none⟩)) (by kernel_rfl) ?_
   refine s_ql (.int .u32 ((gt all i).1)) (x := aLoad Tryd.prog 34 (.pointer (some ⟨b12, 0, none⟩)) H18) (by kernel_rfl) (r21.ld (by kernel_rfl)) ?_
   refine s_w ((gt all i).1) (k := .i64) (x := (gt all i).1) (by kernel_rfl) (wrap64 g31) ?_
   refine s_qk (.pointer (some ⟨b12, 6, none⟩)) (by kernel_rfl) ?_
   refine s_ql (.int .i64 ((gt all i).2.2.2.2.2.2)) (x := aLoad Tryd.prog 3 (.pointer (some ⟨b12, 6, none⟩)) H18) (by kernel_rfl) (r21.ld (by kernel_rfl)) ?_
   refine s_qk (.bool (decide (((gt all i).1) ≤ ((gt all i).2.2.2.2.2.2)))) (by kernel_rfl) ?_
   refine s_qk (.bool (decide (((gt all i).1) ≤ ((gt all i).2.2.2.2.2.2)))) (by kernel_rfl) ?_
   refine s_qk (.bool (decide (((gt all i).1) ≤ ((gt all i).2.2.2.2.2.2)))) (by kernel_rfl) ?_
   refine s_nil ?_
   obtain rfl := Option.some.inj r37
   exact k29 _ _ ⟨⟨by kernel_rfl, by kernel_rfl, by kernel_rfl, by kernel_rfl, by kernel_rfl, trivial⟩, rfl⟩
 ·obtain ⟨hh30, rfl⟩ := hM
  obtain ⟨β, rfl⟩ := has_ex hh30
  clear hh30
  refine k23 _ _ ?_
  refine w_cond (o24) (by kernel_rfl) rfl (fun h38 => ?_) (fun h38 => ?_)
  ·have r39 := ite_t h38 r26
   refine w_seqk fun K40 k40 => ?_
   refine w_reg (by kernel_rfl) ?_
   refine s_qk (.bool false) (by kernel_rfl) ?_
   refine s_nil ?_
   refine k40 _ _ ?_
   refine w_ret (bl_ret (th_ret ?_))
   refine b_ret (fn := Tryd.f34) (vs := [.bool false]) (aRes_tmp (by kernel_rfl) (rfl)) ?_
   obtain rfl := Option.some.inj r39
   exact ⟨rfl, (FrS.step wf (((FrS.refl (W := []) wf).extR e4).extR e14) e20 (hb15.fresh e4.next))⟩
  ·have r41 := ite_bf h38 r26
   refine w_seqk fun K42 k42 => ?_
   obtain ⟨o43, hx44, r45⟩ := bind_some r41
   refine w_mid (fun α H46 => Has α [(1, hd_all), (3, .pointer (some ⟨b2, 0, none⟩)), (7, .pointer (some ⟨b12, 0, none⟩)), (34, .bool o43)] ∧ H18 = H46) (fun K48 k48 => ?_) (fun α H46 hM => ?_)
   ·refine w_draw [0, 1, 2, 3, 4, 5, 6, 7, 8, 9, 10, 11, 12, 13, 14, 15, 16, 17, 18, 19, 20, 21, 22, 23, 24, 25, 26, 27, 28, 29, 30, 31, 32, 33] (by kernel_rfl) ?_
    refine d_qk (.int .i64 i) (by kernel_rfl) ?_
    refine d_b (i > 0) (by kernel_rfl) (fun h50 => ?_) (fun h50 => ?_)
    ·have r51 := ite_t h50 hx44
     refine d_qk (.bool true) (by kernel_rfl) ?_
     refine d_qk (.int .i64 i) (by kernel_rfl) ?_
     refine d_qk (.pointer (some ⟨b2, 2, none⟩)) (by kernel_rfl) ?_
     have u52 := ((r6.ext e14).frS e20 (hb15.djn r6.ltF))
     refine d_ql (hd_Up) (x := aLoad Tryd.prog 29 (.pointer (some ⟨b2, 2, none⟩)) H18) (by kernel_rfl) (u52.ld (by kernel_rfl)) ?_
     have u53 := (((h_Up.ext e4).ext e14).fr e20 (hb15.djn (h_Up.lt.le e4.next)))
     refine d_ql (.int .i64 (Up.length : Int)) (x := aLen Tryd.prog 29 hd_Up H18) (by kernel_rfl) (u53.lenb (by kernel_rfl)) ?_
     refine d_bn (i = (Up.length : Int)) (by kernel_rfl) (fun h54 => ?_) (fun h54 => ?_)
     ·have r55 := ite_t h54 r51
      refine d_qk (.bool false) (by kernel_rfl) ?_
      refine d_qk (.bool false) (by kernel_rfl) ?_
      refine d_idle (by kernel_rfl) ?_
      refine d_idle (by kernel_rfl) ?_
      refine d_idle (by kernel_rfl) ?_
      refine d_idle (by kernel_rfl) ?_
      refine d_idle (by kernel_rfl) ?_
      refine d_idle (by kernel_rfl) ?_
      refine d_idle (by kernel_rfl) ?_
      refine d_idle (by kernel_rfl) ?_
      refine d_idle (by kernel_rfl) ?_
      refine d_qk (.bool false) (by kernel_rfl) ?_
      refine d_qk (.bool false) (by kernel_rfl) ?_
      refine d_idle (by kernel_rfl) ?_
      refine d_idle (by kernel_rfl) ?_
      refine d_idle (by kernel_rfl) ?_
      refine d_idle (by kernel_rfl) ?_
      refine d_idle (by kernel_rfl) ?_
      refine d_idle (by kernel_rfl) ?_
      refine d_idle (by kernel_rfl) ?_
      refine d_idle (by kernel_rfl) ?_
      refine d_idle (by kernel_rfl) ?_
      refine d_idle (by kernel_rfl) ?_
      refine d_idle (by kernel_rfl) ?_
      refine d_qk (.bool false) (by kernel_rfl) ?_
      refine d_qk (.bool false) (by kernel_rfl) ?_
      refine d_nil ?_
      obtain rfl := Option.some.inj r55
      exact k48 _ _ ⟨⟨by kernel_rfl, by kernel_rfl, by kernel_rfl, by kernel_rfl, trivial⟩, rfl⟩
     ·have r56 := ite_f h54 r51
      refine d_qk (.bool true) (by kernel_rfl) ?_
      refine d_qk (.bool true) (by kernel_rfl) ?_
      refine d_qk (hd_all) (by kernel_rfl) ?_
      refine d_qk (.int .i64 i) (by kernel_rfl) ?_
      obtain ⟨g57, r58⟩ := G_some r56
      refine d_w ((i - 1)) (k := .i64) (x := (i - 1)) (by kernel_rfl) (wrap64 g57) ?_
      obtain ⟨g59, r60⟩ := G_some r58
      have u61 := ((u11.ext e14).fr e20 (hb15.djn (h_all.lt.le e4.next)))
      refine d_ql (elp hd_all 7 (i - 1).toNat 0) (x := aIndexAddr Tryd.prog 63 hd_all (.int .i64 (i - 1))) (by kernel_rfl) (u61.idxb (by kernel_rfl) g59.1 g59.2) ?_
      refine d_ql (elp hd_all 7 (i - 1).toNat 6) (x := aFieldAddr Tryd.prog 67 (elp hd_all 7 (i - 1).toNat 0) 3) (by kernel_rfl) (Sq.fldq (d := 6) u61 g59.1 g59.2 (by kernel_rfl)) ?_
      refine d_ql (.int .i64 ((gt all (i - 1)).2.2.2.2.2.2)) (x := aLoad Tryd.prog 3 (elp hd_all 7 (i - 1).toNat 6) H18) (by kernel_rfl) (u61.ld g59.1 g59.2 (by kernel_rfl)) ?_
      refine d_qk (.pointer (some ⟨b12, 6, none⟩)) (by kernel_rfl) ?_
      refine d_ql (.int .i64 ((gt all i).2.2.2.2.2.2)) (x := aLoad Tryd.prog 3 (.pointer (some ⟨b12, 6, none⟩)) H18) (by kernel_rfl) (r21.ld (by kernel_rfl)) ?_
      refine d_b (((gt all (i - 1)).2.2.2.2.2.2) = ((gt all i).2.2.2.2.2.2)) (by kernel_rfl) (fun h62 => ?_) (fun h62 => ?_)
      ·have r63 := ite_t h62 r60
       refine d_qk (.bool true) (by kernel_rfl) ?_
       refine d_qk (.bool true) (by kernel_rfl) ?_
       refine d_qk (hd_all) (by kernel_rfl) ?_
       refine d_qk (.int .i64 i) (by kernel_rfl) ?_
       obtain ⟨g64, r65⟩ := G_some r63
       refine d_w ((i - 1)) (k := .i64) (x := (i - 1)) (by kernel_rfl) (wrap64 (by have := g64; omega)) ?_
       refine d_ql (elp hd_all 7 (i - 1).toNat 0) (x := aIndexAddr Tryd.prog 63 hd_all (.int .i64 (i - 1))) (by kernel_rfl) (u61.idxb (by kernel_rfl) g59.1 g59.2) ?_
       refine d_ql (elp hd_all 7 (i - 1).toNat 0) (x := aFieldAddr Tryd.prog 67 (elp hd_all 7 (i - 1).toNat 0) 0) (by kernel_rfl) (Sq.fldq (d := 0) u61 g59.1 g59.2 (by kernel_rfl)) ?_
       refine d_ql (elp hd_all 7 (i - 1).toNat 0) (x := aFieldAddr Tryd.prog 36 (elp hd_all 7 (i - 1).toNat 0) 0) (by kernel_rfl) (Sq.fldq (d := 0) u61 g59.1 g59.2 (by kernel_rfl)) ?_
       refine d_ql (.int .u32 ((gt all (i - 1)).1)) (x := aLoad Tryd.prog 34 (elp hd_all 7 (i - 1).toNat 0) H18) (by kernel_rfl) (u61.ld g59.1 g59.2 (by kernel_rfl)) ?_
       refine d_qk (.pointer (some ⟨b12, 0, none⟩)) (by kernel_rfl) ?_
       refine d_qk (.pointer (some ⟨b12, 0, none⟩)) (by kernel_rfl) ?_
       refine d_ql (.int .u32 ((gt all i).1)) (x := aLoad Tryd.prog 34 (.pointer (some ⟨b12, 0, none⟩)) H18) (by kernel_rfl) (r21.ld (by kernel_rfl)) ?_
       refine d_qk (.bool (decide (((gt all (i - 1)).1) ≥ ((gt all i).1)))) (by kernel_rfl) ?_
       refine d_qk (.bool (decide (((gt all (i - 1)).1) ≥ ((gt all i).1)))) (by kernel_rfl) ?_
       refine d_qk (.bool (decide (((gt all (i - 1)).1) ≥ ((gt all i).1)))) (by kernel_rfl) ?_
       refine d_nil ?_
       obtain rfl := Option.some.inj r65
       exact k48 _ _ ⟨⟨by kernel_rfl, by kernel_rfl, by kernel_rfl, by kernel_rfl, trivial⟩, rfl⟩
      ·have r66 := ite_f h62 r60
       refine d_qk (.bool false) (by kernel_rfl) ?_
       refine d_qk (.bool false) (by kernel_rfl) ?_
       refine d_idle (by kernel_rfl) ?_
       refine d_idle (by kernel_rfl) ?_
       refine d_idle (by kernel_rfl) ?_
       refine d_idle (by kernel_rfl) ?_
       refine d_idle (by kernel_rfl) ?_
       refine d_idle (by kernel_rfl) ?_
       refine d_idle (by kernel_rfl) ?_
       refine d_idle (by kernel_rfl) ?_
       refine d_idle (by kernel_rfl) ?_
       refine d_idle (by kernel_rfl) ?_
       refine d_idle (by kernel_rfl) ?_
       refine d_qk (.bool false) (by kernel_rfl) ?_
       refine d_qk (.bool false) (by kernel_rfl) ?_
       refine d_nil ?_
       obtain rfl := Option.some.inj r66
       exact k48 _ _ ⟨⟨by kernel_rfl, by kernel_rfl, by kernel_rfl, by kernel_rfl, trivial⟩, rfl⟩
    ·have r67 := ite_f h50 hx44
     refine d_qk (.bool false) (by kernel_rfl) ?_
     refine d_idle (by kernel_rfl) ?_
     refine d_idle (by kernel_rfl) ?_
     refine d_idle (by kernel_rfl) ?_
     refine d_idle (by kernel_rfl) ?_
     refine d_idle (by kernel_rfl) ?_
     refine d_qk (.bool false) (by kernel_rfl) ?_
     refine d_qk (.bool false) (by kernel_rfl) ?_
     refine d_idle (by kernel_rfl) ?_
     refine d_idle (by kernel_rfl) ?_
     refine d_idle (by kernel_rfl) ?_
     refine d_idle (by kernel_rfl) ?_
     refine d_idle (by kernel_rfl) ?_
     refine d_idle (by kernel_rfl) ?_
     refine d_idle (by kernel_rfl) ?_
     refine d_idle (by kernel_rfl) ?_
     refine d_idle (by kernel_rfl) ?_
     refine d_qk (.bool false) (by kernel_rfl) ?_
     refine d_qk (.bool false) (by kernel_rfl) ?_
     refine d_idle (by kernel_rfl) ?_
     refine d_idle (by kernel_rfl) ?_
     refine d_idle (by kernel_rfl) ?_
     refine d_idle (by kernel_rfl) ?_
     refine d_idle (by kernel_rfl) ?_
     refine d_idle (by kernel_rfl) ?_
     refine d_idle (by kernel_rfl) ?_
     refine d_idle (by kernel_rfl) ?_
     refine d_idle (by kernel_rfl) ?_
     refine d_idle (by kernel_rfl) ?_
     refine d_idle (by kernel_rfl) ?_
     refine d_qk (.bool false) (by kernel_rfl) ?_
     refine d_qk (.bool false) (by kernel_rfl) ?_
     refine d_nil ?_
     obtain rfl := Option.some.inj r67
     exact k48 _ _ ⟨⟨by kernel_rfl, by kernel_rfl, by kernel_rfl, by kernel_rfl, trivial⟩, rfl⟩
   ·obtain ⟨hh49, rfl⟩ := hM
    obtain ⟨β, rfl⟩ := has_ex hh49
    clear hh49
    refine k42 _ _ ?_
    refine w_cond (o43) (by kernel_rfl) rfl (fun h68 => ?_) (fun h68 => ?_)
    ·have r69 := ite_t h68 r45
     refine w_seqk fun K70 k70 => ?_
     refine w_reg (by kernel_rfl) ?_
     refine s_qk (.bool false) (by kernel_rfl) ?_
     refine s_nil ?_
     refine k70 _ _ ?_
     refine w_ret (bl_ret (th_ret ?_))
     refine b_ret (fn := Tryd.f34) (vs := [.bool false]) (aRes_tmp (by kernel_rfl) (rfl)) ?_
     obtain rfl := Option.some.inj r69
     exact ⟨rfl, (FrS.step wf (((FrS.refl (W := []) wf).extR e4).extR e14) e20 (hb15.fresh e4.next))⟩
    ·have r71 := ite_bf h68 r45
     refine w_seqk fun K72 k72 => ?_
     refine w_reg (by kernel_rfl) ?_
     refine s_qk (.pointer (some ⟨b12, 0, none⟩)) (by kernel_rfl) ?_
     refine s_ql (.agg #[.int .u32 ((gt all i).1), .int .u64 ((gt all i).2.1), .int .u32 ((gt all i).2.2.1), .int .u32 ((gt all i).2.2.2.1)]) (x := aLoad Tryd.prog 36 (.pointer (some ⟨b12, 0, none⟩)) H18) (by kernel_rfl) (r21.ld (by kernel_rfl)) ?_
     obtain ⟨y73, hy74, r75⟩ := bind_some r71
     refine s_ck 27 #[.agg #[.int .u32 ((gt all i).1), .int .u64 ((gt all i).2.1), .int .u32 ((gt all i).2.2.1), .int .u32 ((gt all i).2.2.2.1)]] (by kernel_rfl) (c_hier_plain e20.wf hy74) ?_
     rintro _ H76 ⟨rfl, e77⟩
     refine s_qk (.bool y73) (by kernel_rfl) ?_
     refine s_nil ?_
     refine k72 _ _ ?_
     refine w_cond (y73) (by kernel_rfl) rfl (fun h78 => ?_) (fun h78 => ?_)
     ·have r79 := ite_t h78 r75
      refine w_seqk fun K80 k80 => ?_
      refine w_reg (by kernel_rfl) ?_
      refine s_qk (.bool true) (by kernel_rfl) ?_
      refine s_nil ?_
      refine k80 _ _ ?_
      refine w_ret (bl_ret (th_ret ?_))
      refine b_ret (fn := Tryd.f34) (vs := [.bool true]) (aRes_tmp (by kernel_rfl) (rfl)) ?_
      obtain rfl := Option.some.inj r79
      exact ⟨rfl, (FrS.step wf (FrS.step wf (((FrS.refl (W := []) wf).extR e4).extR e14) e20 (hb15.fresh e4.next)) e77 Inn.nil)⟩
     ·have r81 := ite_bf h78 r75
      refine w_skip ?_
      refine k22 _ _ ?_
      refine w_seqk fun K82 k82 => ?_
      refine w_draw [0, 1, 2, 3, 4, 5, 6, 7, 8, 9] (by kernel_rfl) ?_
      refine d_qk (.pointer (some ⟨b12, 0, none⟩)) (by kernel_rfl) ?_
      refine d_qk (.pointer (some ⟨b12, 2, none⟩)) (by kernel_rfl) ?_
      have u83 := (r21.frS e77 Dj.nil_l)
      refine d_ql (.int .u32 ((gt all i).2.2.1)) (x := aLoad Tryd.prog 34 (.pointer (some ⟨b12, 2, none⟩)) H76) (by kernel_rfl) (u83.ld (by kernel_rfl)) ?_
      obtain ⟨g84, r85⟩ := G_some r81
      refine d_w ((gt all i).2.2.1) (k := .i64) (x := (gt all i).2.2.1) (by kernel_rfl) (wrap64 g84) ?_
      refine d_qk (.pointer (some ⟨b12, 0, none⟩)) (by kernel_rfl) ?_
      refine d_qk (.pointer (some ⟨b12, 3, none⟩)) (by kernel_rfl) ?_
      refine d_ql (.int .u32 ((gt all i).2.2.2.1)) (x := aLoad Tryd.prog 34 (.pointer (some ⟨b12, 3, none⟩)) H76) (by kernel_rfl) (u83.ld (by kernel_rfl)) ?_
      obtain ⟨g86, r87⟩ := G_some r85
      refine d_w ((gt all i).2.2.2.1) (k := .i64) (x := (gt all i).2.2.2.1) (by kernel_rfl) (wrap64 g86) ?_
      refine d_qk (.int .i64 ((gt all i).2.2.1)) (by kernel_rfl) ?_
      refine d_qk (.int .i64 ((gt all i).2.2.2.1)) (by kernel_rfl) ?_
      refine d_nil ?_
      refine k82 _ _ ?_
      refine w_seqk fun K88 k88 => ?_
      refine w_seqk fun K89 k89 => ?_
      obtain ⟨o90, hx91, r92⟩ := bind_some r87
      refine w_mid (fun α H93 => Has α [(1, hd_all), (7, .pointer (some ⟨b12, 0, none⟩)), (8, .int .i64 ((gt all i).2.2.1)), (9, .int .i64 ((gt all i).2.2.2.1)), (97, .bool o90)] ∧ H76 = H93) (fun K95 k95 => ?_) (fun α H93 hM => ?_)
      ·refine w_reg (by kernel_rfl) ?_
       refine s_qk (.int .i64 ((gt all i).2.2.1)) (by kernel_rfl) ?_
       refine s_qk (.pointer (some ⟨b2, 2, none⟩)) (by kernel_rfl) ?_
       have u97 := (((r6.ext e14).frS e20 (hb15.djn r6.ltF)).frS e77 Dj.nil_l)
       refine s_ql (hd_Up) (x := aLoad Tryd.prog 29 (.pointer (some ⟨b2, 2, none⟩)) H76) (by kernel_rfl) (u97.ld (by kernel_rfl)) ?_
       have u98 := ((((h_Up.ext e4).ext e14).fr e20 (hb15.djn (h_Up.lt.le e4.next))).fr e77 Dj.nil_l)
       refine s_ql (.int .i64 (Up.length : Int)) (x := aLen Tryd.prog 29 hd_Up H76) (by kernel_rfl) (u98.lenb (by kernel_rfl)) ?_
       refine s_b (((gt all i).2.2.1) < (Up.length : Int)) (by kernel_rfl) (fun h99 => ?_) (fun h99 => ?_)
       ·have r100 := ite_t h99 hx91
        refine s_qk (.bool true) (by kernel_rfl) ?_
        refine s_no (by kernel_rfl) ?_
        refine s_no (by kernel_rfl) ?_
        refine s_no (by kernel_rfl) ?_
        refine s_no (by kernel_rfl) ?_
        refine s_qk (.bool true) (by kernel_rfl) ?_
        refine s_qk (.bool true) (by kernel_rfl) ?_
        refine s_no (by kernel_rfl) ?_
        refine s_no (by kernel_rfl) ?_
        refine s_no (by kernel_rfl) ?_
        refine s_no (by kernel_rfl) ?_
        refine s_no (by kernel_rfl) ?_
        refine s_qk (.bool true) (by kernel_rfl) ?_
        refine s_nil ?_
        obtain rfl := Option.some.inj r100
        exact k95 _ _ ⟨⟨by kernel_rfl, by kernel_rfl, by kernel_rfl, by kernel_rfl, by kernel_rfl, trivial⟩, rfl⟩
       ·have r101 := ite_f h99 hx91
        refine s_qk (.bool false) (by kernel_rfl) ?_
        refine s_qk (.int .i64 ((gt all i).2.2.1)) (by kernel_rfl) ?_
        refine s_qk (hd_all) (by kernel_rfl) ?_
        have u102 := (((u11.ext e14).fr e20 (hb15.djn (h_all.lt.le e4.next))).fr e77 Dj.nil_l)
        refine s_ql (.int .i64 (all.length : Int)) (x := aLen Tryd.prog 63 hd_all H76) (by kernel_rfl) (u102.lenb (by kernel_rfl)) ?_
        refine s_b (((gt all i).2.2.1) ≥ (all.length : Int)) (by kernel_rfl) (fun h103 => ?_) (fun h103 => ?_)
        ·have r104 := ite_t h103 r101
         refine s_qk (.bool true) (by kernel_rfl) ?_
         refine s_qk (.bool true) (by kernel_rfl) ?_
         refine s_no (by kernel_rfl) ?_
         refine s_no (by kernel_rfl) ?_
         refine s_no (by kernel_rfl) ?_
         refine s_no (by kernel_rfl) ?_
         refine s_no (by kernel_rfl) ?_
         refine s_qk (.bool true) (by kernel_rfl) ?_
         refine s_nil ?_
         obtain rfl := Option.some.inj r104
         exact k95 _ _ ⟨⟨by kernel_rfl, by kernel_rfl, by kernel_rfl, by kernel_rfl, by kernel_rfl, trivial⟩, rfl⟩
        ·have r105 := ite_f h103 r101
         refine s_qk (.bool false) (by kernel_rfl) ?_
         refine s_qk (.bool false) (by kernel_rfl) ?_
         refine s_qk (.int .i64 ((gt all i).2.2.2.1)) (by kernel_rfl) ?_
         refine s_qk (.pointer (some ⟨b2, 2, none⟩)) (by kernel_rfl) ?_
         refine s_ql (hd_Up) (x := aLoad Tryd.prog 29 (.pointer (some ⟨b2, 2, none⟩)) H76) (by kernel_rfl) (u97.ld (by kernel_rfl)) ?_
         refine s_ql (.int .i64 (Up.length : Int)) (x := aLen Tryd.prog 29 hd_Up H76) (by kernel_rfl) (u98.lenb (by kernel_rfl)) ?_
         refine s_qk (.bool (decide (((gt all i).2.2.2.1) ≥ (Up.length : Int)))) (by kernel_rfl) ?_
         refine s_qk (.bool (decide (((gt all i).2.2.2.1) ≥ (Up.length : Int)))) (by kernel_rfl) ?_
         refine s_nil ?_
         obtain rfl := Option.some.inj r105
         exact k95 _ _ ⟨⟨by kernel_rfl, by kernel_rfl, by kernel_rfl, by kernel_rfl, by kernel_rfl, trivial⟩, rfl⟩
      ·obtain ⟨hh96, rfl⟩ := hM
       obtain ⟨β, rfl⟩ := has_ex hh96
       clear hh96
       refine k89 _ _ ?_
       refine w_cond (o90) (by kernel_rfl) rfl (fun h106 => ?_) (fun h106 => ?_)
       ·have r107 := ite_t h106 r92
        refine w_seqk fun K108 k108 => ?_
        refine w_reg (by kernel_rfl) ?_
        refine s_qk (.bool false) (by kernel_rfl) ?_
        refine s_nil ?_
        refine k108 _ _ ?_
        refine w_ret (th_ret ?_)
        refine b_ret (fn := Tryd.f34) (vs := [.bool false]) (aRes_tmp (by kernel_rfl) (rfl)) ?_
        obtain rfl := Option.some.inj r107
        exact ⟨rfl, (FrS.step wf (FrS.step wf (((FrS.refl (W := []) wf).extR e4).extR e14) e20 (hb15.fresh e4.next)) e77 Inn.nil)⟩
       ·have r109 := ite_bf h106 r92
        refine w_skip ?_
        refine k88 _ _ ?_
        refine w_seqk fun K110 k110 => ?_
        refine w_draw [0, 1, 2, 3, 4, 5, 6, 7, 8, 9, 10, 11] (by kernel_rfl) ?_
        refine d_qk (hd_all) (by kernel_rfl) ?_
        refine d_qk (.int .i64 ((gt all i).2.2.1)) (by kernel_rfl) ?_
        obtain ⟨g111, r112⟩ := G_some r109
        have u113 := (((u11.ext e14).fr e20 (hb15.djn (h_all.lt.le e4.next))).fr e77 Dj.nil_l)
        refine d_ql (elp hd_all 7 ((gt all i).2.2.1).toNat 0) (x := aIndexAddr Tryd.prog 63 hd_all (.int .i64 ((gt all i).2.2.1))) (by kernel_rfl) (u113.idxb (by kernel_rfl) g111.1 g111.2) ?_
        refine d_ql (.agg #[.int .u32 ((gt all ((gt all i).2.2.1)).1), .int .u64 ((gt all ((gt all i).2.2.1)).2.1), .int .u32 ((gt all ((gt all i).2.2.1)).2.2.1), .int .u32 ((gt all ((gt all i).2.2.1)).2.2.2.1), .int .i64 ((gt all ((gt all i).2.2.1)).2.2.2.2.1), .int .i64 ((gt all ((gt all i).2.2.1)).2.2.2.2.2.1), .int .i64 ((gt all ((gt all i).2.2.1)).2.2.2.2.2.2)]) (x := aLoad Tryd.prog 67 (elp hd_all 7 ((gt all i).2.2.1).toNat 0) H76) (by kernel_rfl) (u113.ld g111.1 g111.2 (by kernel_rfl)) ?_
        refine d_qk (hd_all) (by kernel_rfl) ?_
        refine d_qk (.int .i64 ((gt all i).2.2.2.1)) (by kernel_rfl) ?_
        obtain ⟨g114, r115⟩ := G_some r112
        refine d_ql (elp hd_all 7 ((gt all i).2.2.2.1).toNat 0) (x := aIndexAddr Tryd.prog 63 hd_all (.int .i64 ((gt all i).2.2.2.1))) (by kernel_rfl) (u113.idxb (by kernel_rfl) g114.1 g114.2) ?_
        refine d_fl (.agg #[.int .u32 ((gt all ((gt all i).2.2.2.1)).1), .int .u64 ((gt all ((gt all i).2.2.2.1)).2.1), .int .u32 ((gt all ((gt all i).2.2.2.1)).2.2.1), .int .u32 ((gt all ((gt all i).2.2.2.1)).2.2.2.1), .int .i64 ((gt all ((gt all i).2.2.2.1)).2.2.2.2.1), .int .i64 ((gt all ((gt all i).2.2.2.1)).2.2.2.2.2.1), .int .i64 ((gt all ((gt all i).2.2.2.1)).2.2.2.2.2.2)]) (x := aLoad Tryd.prog 67 (elp hd_all 7 ((gt all i).2.2.2.1).toNat 0) H76) (by kernel_rfl) (u113.ld g114.1 g114.2 (by kernel_rfl)) ?_
        refine d_rwk e77.wf [.int .u32 0, .int .u64 0, .int .u32 0, .int .u32 0, .int .i64 0, .int .i64 0, .int .i64 0] (by kernel_rfl) fun b116 H117 e118 hb119 r120 => ?_
        refine d_rwk e118.wf [.int .u32 0, .int .u64 0, .int .u32 0, .int .u32 0, .int .i64 0, .int .i64 0, .int .i64 0] (by kernel_rfl) fun b122 H123 e124 hb125 r126 => ?_
        have u132 := (r120.ext e124)
        obtain ⟨H128, q129, e130, r131⟩ := Row.store (P := Tryd.prog) (t := 67) (p := 0) e124.wf u132 (.agg #[.int .u32 ((gt all ((gt all i).2.2.1)).1), .int .u64 ((gt all ((gt all i).2.2.1)).2.1), .int .u32 ((gt all ((gt all i).2.2.1)).2.2.1), .int .u32 ((gt all ((gt all i).2.2.1)).2.2.2.1), .int .i64 ((gt all ((gt all i).2.2.1)).2.2.2.2.1), .int .i64 ((gt all ((gt all i).2.2.1)).2.2.2.2.2.1), .int .i64 ((gt all ((gt all i).2.2.1)).2.2.2.2.2.2)]) [.int .u32 ((gt all ((gt all i).2.2.1)).1), .int .u64 ((gt all ((gt all i).2.2.1)).2.1), .int .u32 ((gt all ((gt all i).2.2.1)).2.2.1), .int .u32 ((gt all ((gt all i).2.2.1)).2.2.2.1), .int .i64 ((gt all ((gt all i).2.2.1)).2.2.2.2.1), .int .i64 ((gt all ((gt all i).2.2.1)).2.2.2.2.2.1), .int .i64 ((gt all ((gt all i).2.2.1)).2.2.2.2.2.2)] (by kernel_rfl) (by kernel_rfl) (one_cons (rfl) (one_cons (rfl) (one_cons (rfl) (one_cons (rfl) (one_cons (rfl) (one_cons (rfl) (one_cons (rfl) (one_nil)))))))) (Nat.le_of_ble_eq_true (by kernel_rfl)) [.int .u32 ((gt all ((gt all i).2.2.1)).1), .int .u64 ((gt all ((gt all i).2.2.1)).2.1), .int .u32 ((gt all ((gt all i).2.2.1)).2.2.1), .int .u32 ((gt all ((gt all i).2.2.1)).2.2.2.1), .int .i64 ((gt all ((gt all i).2.2.1)).2.2.2.2.1), .int .i64 ((gt all ((gt all i).2.2.1)).2.2.2.2.2.1), .int .i64 ((gt all ((gt all i).2.2.1)).2.2.2.2.2.2)] (by kernel_rfl)
        have u133 := (((u113.ext e118).ext e124).fr e130 (hb119.djn (h_all.lt.le (ntr (ntr (ntr e4.next e14.next) e20.next) e77.next))))
        refine d_ek (undef) (by kernel_rfl) (map_ok q129) (st_ql (y := aLoad Tryd.prog 67 (elp hd_all 7 ((gt all i).2.2.2.1).toNat 0) H128) (by kernel_rfl) (u133.ld g114.1 g114.2 (by kernel_rfl)) (st_nil)) ?_
        have u138 := (r126.frS e130 (Dj.symm (hb125.djn r120.ltF)))
        obtain ⟨H134, q135, e136, r137⟩ := Row.store (P := Tryd.prog) (t := 67) (p := 0) e130.wf u138 (.agg #[.int .u32 ((gt all ((gt all i).2.2.2.1)).1), .int .u64 ((gt all ((gt all i).2.2.2.1)).2.1), .int .u32 ((gt all ((gt all i).2.2.2.1)).2.2.1), .int .u32 ((gt all ((gt all i).2.2.2.1)).2.2.2.1), .int .i64 ((gt all ((gt all i).2.2.2.1)).2.2.2.2.1), .int .i64 ((gt all ((gt all i).2.2.2.1)).2.2.2.2.2.1), .int .i64 ((gt all ((gt all i).2.2.2.1)).2.2.2.2.2.2)]) [.int .u32 ((gt all ((gt all i).2.2.2.1)).1), .int .u64 ((gt all ((gt all i).2.2.2.1)).2.1), .int .u32 ((gt all ((gt all i).2.2.2.1)).2.2.1), .int .u32 ((gt all ((gt all i).2.2.2.1)).2.2.2.1), .int .i64 ((gt all ((gt all i).2.2.2.1)).2.2.2.2.1), .int .i64 ((gt all ((gt all i).2.2.2.1)).2.2.2.2.2.1), .int .i64 ((gt all ((gt all i).2.2.2.1)).2.2.2.2.2.2)] (by kernel_rfl) (by kernel_rfl) (one_cons (rfl) (one_cons (rfl) (one_cons (rfl) (one_cons (rfl) (one_cons (rfl) (one_cons (rfl) (one_cons (rfl) (one_nil)))))))) (Nat.le_of_ble_eq_true (by kernel_rfl)) [.int .u32 ((gt all ((gt all i).2.2.2.1)).1), .int .u64 ((gt all ((gt all i).2.2.2.1)).2.1), .int .u32 ((gt all ((gt all i).2.2.2.1)).2.2.1), .int .u32 ((gt all ((gt all i).2.2.2.1)).2.2.2.1), .int .i64 ((gt all ((gt all i).2.2.2.1)).2.2.2.2.1), .int .i64 ((gt all ((gt all i).2.2.2.1)).2.2.2.2.2.1), .int .i64 ((gt all ((gt all i).2.2.2.1)).2.2.2.2.2.2)] (by kernel_rfl)
        refine d_ek (undef) (by kernel_rfl) (map_ok q135) (st_anc (by kernel_rfl) (st_nil)) ?_
        refine d_nil ?_
        refine k110 _ _ ?_
        refine w_seqk fun K139 k139 => ?_
        refine w_reg (by kernel_rfl) ?_
        refine s_qk (.pointer (some ⟨b116, 4, none⟩)) (by kernel_rfl) ?_
        have u140 := (r131.frS e136 (hb125.djn r120.ltF))
        refine s_ql (.int .i64 ((gt all ((gt all i).2.2.1)).2.2.2.2.1)) (x := aLoad Tryd.prog 3 (.pointer (some ⟨b116, 4, none⟩)) H134) (by kernel_rfl) (u140.ld (by kernel_rfl)) ?_
        refine s_qk (.pointer (some ⟨b12, 4, none⟩)) (by kernel_rfl) ?_
        have u141 := ((((u83.ext e118).ext e124).frS e130 (hb119.djn (r16.ltF.le (ntr e20.next e77.next)))).frS e136 (hb125.djn (r16.ltF.le (ntr (ntr e20.next e77.next) e118.next))))
        refine s_ql (.int .i64 ((gt all i).2.2.2.2.1)) (x := aLoad Tryd.prog 3 (.pointer (some ⟨b12, 4, none⟩)) H134) (by kernel_rfl) (u141.ld (by kernel_rfl)) ?_
        refine s_b (((gt all ((gt all i).2.2.1)).2.2.2.2.1) = ((gt all i).2.2.2.2.1)) (by kernel_rfl) (fun h142 => ?_) (fun h142 => ?_)
        ·have r143 := ite_t h142 r115
         refine s_qk (.bool true) (by kernel_rfl) ?_
         refine s_qk (.pointer (some ⟨b122, 5, none⟩)) (by kernel_rfl) ?_
         refine s_ql (.int .i64 ((gt all ((gt all i).2.2.2.1)).2.2.2.2.2.1)) (x := aLoad Tryd.prog 3 (.pointer (some ⟨b122, 5, none⟩)) H134) (by kernel_rfl) (r137.ld (by kernel_rfl)) ?_
         refine s_qk (.pointer (some ⟨b12, 5, none⟩)) (by kernel_rfl) ?_
         refine s_ql (.int .i64 ((gt all i).2.2.2.2.2.1)) (x := aLoad Tryd.prog 3 (.pointer (some ⟨b12, 5, none⟩)) H134) (by kernel_rfl) (u141.ld (by kernel_rfl)) ?_
         refine s_b (((gt all ((gt all i).2.2.2.1)).2.2.2.2.2.1) = ((gt all i).2.2.2.2.2.1)) (by kernel_rfl) (fun h144 => ?_) (fun h144 => ?_)
         ·have r145 := ite_t h144 r143
          refine s_qk (.bool true) (by kernel_rfl) ?_
          refine s_qk (.bool true) (by kernel_rfl) ?_
          refine s_qk (.pointer (some ⟨b116, 6, none⟩)) (by kernel_rfl) ?_
          refine s_ql (.int .i64 ((gt all ((gt all i).2.2.1)).2.2.2.2.2.2)) (x := aLoad Tryd.prog 3 (.pointer (some ⟨b116, 6, none⟩)) H134) (by kernel_rfl) (u140.ld (by kernel_rfl)) ?_
          refine s_qk (.pointer (some ⟨b122, 6, none⟩)) (by kernel_rfl) ?_
          refine s_ql (.int .i64 ((gt all ((gt all i).2.2.2.1)).2.2.2.2.2.2)) (x := aLoad Tryd.prog 3 (.pointer (some ⟨b122, 6, none⟩)) H134) (by kernel_rfl) (r137.ld (by kernel_rfl)) ?_
          refine s_qk (.bool (decide (((gt all ((gt all i).2.2.1)).2.2.2.2.2.2) = ((gt all ((gt all i).2.2.2.1)).2.2.2.2.2.2)))) (by kernel_rfl) ?_
          refine s_qk (.bool (decide (((gt all ((gt all i).2.2.1)).2.2.2.2.2.2) = ((gt all ((gt all i).2.2.2.1)).2.2.2.2.2.2)))) (by kernel_rfl) ?_
          refine s_qk (.bool (decide (((gt all ((gt all i).2.2.1)).2.2.2.2.2.2) = ((gt all ((gt all i).2.2.2.1)).2.2.2.2.2.2)))) (by kernel_rfl) ?_
          refine s_nil ?_
          refine k139 _ _ ?_
          refine w_ret ?_
          refine b_ret (fn := Tryd.f34) (vs := [.bool (decide (((gt all ((gt all i).2.2.1)).2.2.2.2.2.2) = ((gt all ((gt all i).2.2.2.1)).2.2.2.2.2.2)))]) (aRes_tmp (by kernel_rfl) (rfl)) ?_
          obtain rfl := Option.some.inj r145
          exact ⟨rfl, (FrS.step wf (FrS.step wf (((FrS.step wf (FrS.step wf (((FrS.refl (W := []) wf).extR e4).extR e14) e20 (hb15.fresh e4.next)) e77 Inn.nil).extR e118).extR e124) e130 (hb119.fresh (ntr (ntr (ntr e4.next e14.next) e20.next) e77.next))) e136 (hb125.fresh (ntr (ntr (ntr (ntr e4.next e14.next) e20.next) e77.next) e118.next)))⟩
         ·have r146 := ite_f h144 r143
          refine s_qk (.bool false) (by kernel_rfl) ?_
          refine s_qk (.bool false) (by kernel_rfl) ?_
          refine s_no (by kernel_rfl) ?_
          refine s_no (by kernel_rfl) ?_
          refine s_no (by kernel_rfl) ?_
          refine s_no (by kernel_rfl) ?_
          refine s_no (by kernel_rfl) ?_
          refine s_qk (.bool false) (by kernel_rfl) ?_
          refine s_qk (.bool false) (by kernel_rfl) ?_
          refine s_nil ?_
          refine k139 _ _ ?_
          refine w_ret ?_
          refine b_ret (fn := Tryd.f34) (vs := [.bool false]) (aRes_tmp (by kernel_rfl) (rfl)) ?_
          obtain rfl := Option.some.inj r146
          exact ⟨rfl, (FrS.step wf (FrS.step wf (((FrS.step wf (FrS.step wf (((FrS.refl (W := []) wf).extR e4).extR e14) e20 (hb15.fresh e4.next)) e77 Inn.nil).extR e118).extR e124) e130 (hb119.fresh (ntr (ntr (ntr e4.next e14.next) e20.next) e77.next))) e136 (hb125.fresh (ntr (ntr (ntr (ntr e4.next e14.next) e20.next) e77.next) e118.next)))⟩
        ·have r147 := ite_f h142 r115
         refine s_qk (.bool false) (by kernel_rfl) ?_
         refine s_no (by kernel_rfl) ?_
         refine s_no (by kernel_rfl) ?_
         refine s_no (by kernel_rfl) ?_
         refine s_no (by kernel_rfl) ?_
         refine s_no (by kernel_rfl) ?_
         refine s_qk (.bool false) (by kernel_rfl) ?_
         refine s_qk (.bool false) (by kernel_rfl) ?_
         refine s_no (by kernel_rfl) ?_
         refine s_no (by kernel_rfl) ?_
         refine s_no (by kernel_rfl) ?_
         refine s_no (by kernel_rfl) ?_
         refine s_no (by kernel_rfl) ?_
         refine s_qk (.bool false) (by kernel_rfl) ?_
         refine s_qk (.bool false) (by kernel_rfl) ?_
         refine s_nil ?_
         refine k139 _ _ ?_
         refine w_ret ?_
         refine b_ret (fn := Tryd.f34) (vs := [.bool false]) (aRes_tmp (by kernel_rfl) (rfl)) ?_
         obtain rfl := Option.some.inj r147
         exact ⟨rfl, (FrS.step wf (FrS.step wf (((FrS.step wf (FrS.step wf (((FrS.refl (W := []) wf).extR e4).extR e14) e20 (hb15.fresh e4.next)) e77 Inn.nil).extR e118).extR e124) e130 (hb119.fresh (ntr (ntr (ntr e4.next e14.next) e20.next) e77.next))) e136 (hb125.fresh (ntr (ntr (ntr (ntr e4.next e14.next) e20.next) e77.next) e118.next)))⟩

theorem c_hier_weight {H : AH} {hd_all : Value} {fp_all : Fp} {all : List (Int × Int × Int × Int × Int × Int × Int)} {i : Int} {r : Bool}
  (wf : WF H) (h_all : Sq enc_u32_u64_u32_u32_i64_i64_i64 7 H hd_all all fp_all) (hr : z_hier_weight all i = some r) :
  ACalls Tryd.prog 36 #[hd_all, .int .i64 i] H fun v H' => v = .bool r ∧ FrS [] H H' := by
 refine acalls_of_body mixed Tryd.func36 rfl (Nat.le_of_ble_eq_true rfl) ?_
 unfold z_hier_weight at hr
 refine w_seqk fun K1 k1 => ?_
 refine w_reg (by kernel_rfl) ?_
 refine s_qk (.bool false) (by kernel_rfl) ?_
 refine s_nil ?_
 refine k1 _ _ ?_
 refine w_seqk fun K2 k2 => ?_
 refine w_reg (by kernel_rfl) ?_
 refine s_qk (hd_all) (by kernel_rfl) ?_
 refine s_qk (.int .i64 i) (by kernel_rfl) ?_
 obtain ⟨g3, r4⟩ := G_some hr
 refine s_ql (elp hd_all 7 i.toNat 0) (x := aIndexAddr Tryd.prog 63 hd_all (.int .i64 i)) (by kernel_rfl) (h_all.idxb (by kernel_rfl) g3.1 g3.2) ?_
 refine s_ql (elp hd_all 7 i.toNat 0) (x := aFieldAddr Tryd.prog 67 (elp hd_all 7 i.toNat 0) 0) (by kernel_rfl) (Sq.fldq (d := 0) h_all g3.1 g3.2 (by kernel_rfl)) ?_
 refine s_ql (.agg #[.int .u32 ((gt all i).1), .int .u64 ((gt all i).2.1), .int .u32 ((gt all i).2.2.1), .int .u32 ((gt all i).2.2.2.1)]) (x := aLoad Tryd.prog 36 (elp hd_all 7 i.toNat 0) H) (by kernel_rfl) (h_all.ld g3.1 g3.2 (by kernel_rfl)) ?_
 refine s_rwk wf [.int .u32 0, .int .u64 0, .int .u32 0, .int .u32 0] (by kernel_rfl) fun b5 H6 e7 hb8 r9 => ?_
 obtain ⟨H11, q12, e13, r14⟩ := Row.store (P := Tryd.prog) (t := 36) (p := 0) e7.wf r9 (.agg #[.int .u32 ((gt all i).1), .int .u64 ((gt all i).2.1), .int .u32 ((gt all i).2.2.1), .int .u32 ((gt all i).2.2.2.1)]) [.int .u32 ((gt all i).1), .int .u64 ((gt all i).2.1), .int .u32 ((gt all i).2.2.1), .int .u32 ((gt all i).2.2.2.1)] (by kernel_rfl) (by kernel_rfl) (one_cons (rfl) (one_cons (rfl) (one_cons (rfl) (one_cons (rfl) (one_nil))))) (Nat.le_of_ble_eq_true (by kernel_rfl)) [.int .u32 ((gt all i).1), .int .u64 ((gt all i).2.1), .int .u32 ((gt all i).2.2.1), .int .u32 ((gt all i).2.2.2.1)] (by kernel_rfl)
 refine s_ek (undef) (by kernel_rfl) (map_ok q12) ?_
 refine s_nil ?_
 refine k2 _ _ ?_
 refine w_seqk fun K15 k15 => ?_
 refine w_seqk fun K16 k16 => ?_
 refine w_reg (by kernel_rfl) ?_
 refine s_ql (.agg #[.int .u32 ((gt all i).1), .int .u64 ((gt all i).2.1), .int .u32 ((gt all i).2.2.1), .int .u32 ((gt all i).2.2.2.1)]) (x := aLoad Tryd.prog 36 (.pointer (some ⟨b5, 0, none⟩)) H11) (by kernel_rfl) (r14.ld (by kernel_rfl)) ?_
 obtain ⟨y17, hy18, r19⟩ := bind_some r4
 refine s_ck 27 #[.agg #[.int .u32 ((gt all i).1), .int .u64 ((gt all i).2.1), .int .u32 ((gt all i).2.2.1), .int .u32 ((gt all i).2.2.2.1)]] (by kernel_rfl) (c_hier_plain e13.wf hy18) ?_
 rintro _ H20 ⟨rfl, e21⟩
 refine s_nil ?_
 refine k16 _ _ ?_
 refine w_cond (y17) (by kernel_rfl) rfl (fun h22 => ?_) (fun h22 => ?_)
 ·have r23 := ite_t h22 r19
  refine w_seqk fun K24 k24 => ?_
  refine w_reg (by kernel_rfl) ?_
  refine s_qk (.pointer (some ⟨b5, 1, none⟩)) (by kernel_rfl) ?_
  have u25 := (r14.frS e21 Dj.nil_l)
  refine s_ql (.int .u64 ((gt all i).2.1)) (x := aLoad Tryd.prog 33 (.pointer (some ⟨b5, 1, none⟩)) H20) (by kernel_rfl) (u25.ld (by kernel_rfl)) ?_
  refine s_qk (.bool (decide (((gt all i).2.1) ≤ 2147483647))) (by kernel_rfl) ?_
  refine s_qk (.bool (decide (((gt all i).2.1) ≤ 2147483647))) (by kernel_rfl) ?_
  refine s_nil ?_
  refine k24 _ _ ?_
  refine w_ret (th_ret ?_)
  refine b_ret (fn := Tryd.f36) (vs := [.bool (decide (((gt all i).2.1) ≤ 2147483647))]) (aRes_tmp (by kernel_rfl) (rfl)) ?_
  obtain rfl := Option.some.inj r23
  exact ⟨rfl, (FrS.step wf (FrS.step wf ((FrS.refl (W := []) wf).extR e7) e13 (hb8.fresh (Nat.le_refl _))) e21 Inn.nil)⟩
 ·have r26 := ite_bf h22 r19
  refine w_skip ?_
  refine k15 _ _ ?_
  refine w_seqk fun K27 k27 => ?_
  refine w_draw [0, 1, 2, 3, 4, 5, 6, 7, 8, 9, 10, 11, 12, 13, 14, 15] (by kernel_rfl) ?_
  refine d_qk (hd_all) (by kernel_rfl) ?_
  refine d_qk (.pointer (some ⟨b5, 2, none⟩)) (by kernel_rfl) ?_
  have u28 := (r14.frS e21 Dj.nil_l)
  refine d_ql (.int .u32 ((gt all i).2.2.1)) (x := aLoad Tryd.prog 34 (.pointer (some ⟨b5, 2, none⟩)) H20) (by kernel_rfl) (u28.ld (by kernel_rfl)) ?_
  obtain ⟨g29, r30⟩ := G_some r26
  have u31 := (((h_all.ext e7).fr e13 (hb8.djn h_all.lt)).fr e21 Dj.nil_l)
  refine d_ql (elp hd_all 7 ((gt all i).2.2.1).toNat 0) (x := aIndexAddr Tryd.prog 63 hd_all (.int .u32 ((gt all i).2.2.1))) (by kernel_rfl) (u31.idxb (by kernel_rfl) g29.1 g29.2) ?_
  refine d_ql (elp hd_all 7 ((gt all i).2.2.1).toNat 0) (x := aFieldAddr Tryd.prog 67 (elp hd_all 7 ((gt all i).2.2.1).toNat 0) 0) (by kernel_rfl) (Sq.fldq (d := 0) u31 g29.1 g29.2 (by kernel_rfl)) ?_
  refine d_ql (elp hd_all 7 ((gt all i).2.2.1).toNat 1) (x := aFieldAddr Tryd.prog 36 (elp hd_all 7 ((gt all i).2.2.1).toNat 0) 1) (by kernel_rfl) (Sq.fldq (d := 1) u31 g29.1 g29.2 (by kernel_rfl)) ?_
  refine d_ql (.int .u64 ((gt all ((gt all i).2.2.1)).2.1)) (x := aLoad Tryd.prog 33 (elp hd_all 7 ((gt all i).2.2.1).toNat 1) H20) (by kernel_rfl) (u31.ld g29.1 g29.2 (by kernel_rfl)) ?_
  refine d_qk (hd_all) (by kernel_rfl) ?_
  refine d_qk (.pointer (some ⟨b5, 3, none⟩)) (by kernel_rfl) ?_
  refine d_ql (.int .u32 ((gt all i).2.2.2.1)) (x := aLoad Tryd.prog 34 (.pointer (some ⟨b5, 3, none⟩)) H20) (by kernel_rfl) (u28.ld (by kernel_rfl)) ?_
  obtain ⟨g32, r33⟩ := G_some r30
  refine d_ql (elp hd_all 7 ((gt all i).2.2.2.1).toNat 0) (x := aIndexAddr Tryd.prog 63 hd_all (.int .u32 ((gt all i).2.2.2.1))) (by kernel_rfl) (u31.idxb (by kernel_rfl) g32.1 g32.2) ?_
  refine d_ql (elp hd_all 7 ((gt all i).2.2.2.1).toNat 0) (x := aFieldAddr Tryd.prog 67 (elp hd_all 7 ((gt all i).2.2.2.1).toNat 0) 0) (by kernel_rfl) (Sq.fldq (d := 0) u31 g32.1 g32.2 (by kernel_rfl)) ?_
  refine d_ql (elp hd_all 7 ((gt all i).2.2.2.1).toNat 1) (x := aFieldAddr Tryd.prog 36 (elp hd_all 7 ((gt all i).2.2.2.1).toNat 0) 1) (by kernel_rfl) (Sq.fldq (d := 1) u31 g32.1 g32.2 (by kernel_rfl)) ?_
  refine d_ql (.int .u64 ((gt all ((gt all i).2.2.2.1)).2.1)) (x := aLoad Tryd.prog 33 (elp hd_all 7 ((gt all i).2.2.2.1).toNat 1) H20) (by kernel_rfl) (u31.ld g32.1 g32.2 (by kernel_rfl)) ?_
  refine d_qk (.int .u64 ((gt all ((gt all i).2.2.1)).2.1)) (by kernel_rfl) ?_
  refine d_qk (.int .u64 ((gt all ((gt all i).2.2.2.1)).2.1)) (by kernel_rfl) ?_
  refine d_nil ?_
  refine k27 _ _ ?_
  refine w_seqk fun K34 k34 => ?_
  refine w_reg (by kernel_rfl) ?_
  refine s_qk (.pointer (some ⟨b5, 1, none⟩)) (by kernel_rfl) ?_
  refine s_ql (.int .u64 ((gt all i).2.1)) (x := aLoad Tryd.prog 33 (.pointer (some ⟨b5, 1, none⟩)) H20) (by kernel_rfl) (u28.ld (by kernel_rfl)) ?_
  refine s_b (((gt all i).2.1) ≤ 140737488355328) (by kernel_rfl) (fun h35 => ?_) (fun h35 => ?_)
  ·have r36 := ite_t h35 r33
   refine s_qk (.bool true) (by kernel_rfl) ?_
   refine s_qk (.int .u64 ((gt all ((gt all i).2.2.1)).2.1)) (by kernel_rfl) ?_
   refine s_b (((gt all ((gt all i).2.2.1)).2.1) ≤ 140737488355328) (by kernel_rfl) (fun h37 => ?_) (fun h37 => ?_)
   ·have r38 := ite_t h37 r36
    refine s_qk (.bool true) (by kernel_rfl) ?_
    refine s_qk (.bool true) (by kernel_rfl) ?_
    refine s_qk (.int .u64 ((gt all ((gt all i).2.2.2.1)).2.1)) (by kernel_rfl) ?_
    refine s_b (((gt all ((gt all i).2.2.2.1)).2.1) ≤ 140737488355328) (by kernel_rfl) (fun h39 => ?_) (fun h39 => ?_)
    ·have r40 := ite_t h39 r38
     refine s_qk (.bool true) (by kernel_rfl) ?_
     refine s_qk (.bool true) (by kernel_rfl) ?_
     refine s_qk (.int .u64 ((gt all ((gt all i).2.2.1)).2.1)) (by kernel_rfl) ?_
     refine s_qk (.int .u64 ((gt all ((gt all i).2.2.2.1)).2.1)) (by kernel_rfl) ?_
     obtain ⟨g41, r42⟩ := G_some r40
     refine s_w ((((gt all ((gt all i).2.2.1)).2.1) + ((gt all ((gt all i).2.2.2.1)).2.1))) (k := .u64) (x := (((gt all ((gt all i).2.2.1)).2.1) + ((gt all ((gt all i).2.2.2.1)).2.1))) (by kernel_rfl) (wrapu64 g41) ?_
     refine s_qk (.pointer (some ⟨b5, 1, none⟩)) (by kernel_rfl) ?_
     refine s_ql (.int .u64 ((gt all i).2.1)) (x := aLoad Tryd.prog 33 (.pointer (some ⟨b5, 1, none⟩)) H20) (by kernel_rfl) (u28.ld (by kernel_rfl)) ?_
     refine s_qk (.bool (decide ((((gt all ((gt all i).2.2.1)).2.1) + ((gt all ((gt all i).2.2.2.1)).2.1)) = ((gt all i).2.1)))) (by kernel_rfl) ?_
     refine s_qk (.bool (decide ((((gt all ((gt all i).2.2.1)).2.1) + ((gt all ((gt all i).2.2.2.1)).2.1)) = ((gt all i).2.1)))) (by kernel_rfl) ?_
     refine s_qk (.bool (decide ((((gt all ((gt all i).2.2.1)).2.1) + ((gt all ((gt all i).2.2.2.1)).2.1)) = ((gt all i).2.1)))) (by kernel_rfl) ?_
     refine s_nil ?_
     refine k34 _ _ ?_
     refine w_ret ?_
     refine b_ret (fn := Tryd.f36) (vs := [.bool (decide ((((gt all ((gt all i).2.2.1)).2.1) + ((gt all ((gt all i).2.2.2.1)).2.1)) = ((gt all i).2.1)))]) (aRes_tmp (by kernel_rfl) (rfl)) ?_
     obtain rfl := Option.some.inj r42
     exact ⟨rfl, (FrS.step wf (FrS.step wf ((FrS.refl (W := []) wf).extR e7) e13 (hb8.fresh (Nat.le_refl _))) e21 Inn.nil)⟩
    ·have r43 := ite_f h39 r38
     refine s_qk (.bool false) (by kernel_rfl) ?_
     refine s_qk (.bool false) (by kernel_rfl) ?_
     refine s_no (by kernel_rfl) ?_
     refine s_no (by kernel_rfl) ?_
     refine s_no (by kernel_rfl) ?_
     refine s_no (by kernel_rfl) ?_
     refine s_no (by kernel_rfl) ?_
     refine s_no (by kernel_rfl) ?_
     refine s_qk (.bool false) (by kernel_rfl) ?_
     refine s_qk (.bool false) (by kernel_rfl) ?_
     refine s_nil ?_
     refine k34 _ _ ?_
     refine w_ret ?_
     refine b_ret (fn := Tryd.f36) (vs := [.bool false]) (aRes_tmp (by kernel_rfl) (rfl)) ?_
     obtain rfl := Option.some.inj r43
     exact ⟨rfl, (FrS.step wf (FrS.step wf ((FrS.refl (W := []) wf).extR e7) e13 (hb8.fresh (Nat.le_refl _))) e21 Inn.nil)⟩
   ·have r44 := ite_f h37 r36
    refine s_qk (.bool false) (by kernel_rfl) ?_
    refine s_qk (.bool false) (by kernel_rfl) ?_
    refine s_no (by kernel_rfl) ?_
    refine s_no (by kernel_rfl) ?_
    refine s_qk (.bool false) (by kernel_rfl) ?_
    refine s_qk (.bool false) (by kernel_rfl) ?_
    refine s_no (by kernel_rfl) ?_
    refine s_no (by kernel_rfl) ?_
    refine s_no (by kernel_rfl) ?_
    refine s_no (by kernel_rfl) ?_
    refine s_no (by kernel_rfl) ?_
    refine s_no (by kernel_rfl) ?_
    refine s_qk (.bool false) (by kernel_rfl) ?_
    refine s_qk (.bool false) (by kernel_rfl) ?_
    refine s_nil ?_
    refine k34 _ _ ?_
    refine w_ret ?_
    refine b_ret (fn := Tryd.f36) (vs := [.bool false]) (aRes_tmp (by kernel_rfl) (rfl)) ?_
    obtain rfl := Option.some.inj r44
    exact ⟨rfl, (FrS.step wf (FrS.step wf ((FrS.refl (W := []) wf).extR e7) e13 (hb8.fresh (Nat.le_refl _))) e21 Inn.nil)⟩
  ·have r45 := ite_f h35 r33
   refine s_qk (.bool false) (by kernel_rfl) ?_
   refine s_no (by kernel_rfl) ?_
   refine s_no (by kernel_rfl) ?_
   refine s_qk (.bool false) (by kernel_rfl) ?_
   refine s_qk (.bool false) (by kernel_rfl) ?_
   refine s_no (by kernel_rfl) ?_
   refine s_no (by kernel_rfl) ?_
   refine s_qk (.bool false) (by kernel_rfl) ?_
   refine s_qk (.bool false) (by kernel_rfl) ?_
   refine s_no (by kernel_rfl) ?_
   refine s_no (by kernel_rfl) ?_
   refine s_no (by kernel_rfl) ?_
   refine s_no (by kernel_rfl) ?_
   refine s_no (by kernel_rfl) ?_
   refine s_no (by kernel_rfl) ?_
   refine s_qk (.bool false) (by kernel_rfl) ?_
   refine s_qk (.bool false) (by kernel_rfl) ?_
   refine s_nil ?_
   refine k34 _ _ ?_
   refine w_ret ?_
   refine b_ret (fn := Tryd.f36) (vs := [.bool false]) (aRes_tmp (by kernel_rfl) (rfl)) ?_
   obtain rfl := Option.some.inj r45
   exact ⟨rfl, (FrS.step wf (FrS.step wf ((FrS.refl (W := []) wf).extR e7) e13 (hb8.fresh (Nat.le_refl _))) e21 Inn.nil)⟩

theorem c_hier_ends {H : AH} {hd_Node : Value} {fp_Node : Fp} {hd_UpFirst : Value} {fp_UpFirst : Fp} {hd_Up : Value} {fp_Up : Fp} {hd_DownFirst : Value} {fp_DownFirst : Fp} {hd_Down : Value} {fp_Down : Fp} {Node : List (Int)} {UpFirst : List (Int)} {Up : List (Int × Int × Int × Int)} {DownFirst : List (Int)} {Down : List (Int × Int × Int × Int)} {r : List (Int × Int × Int × Int × Int × Int × Int) × Er}
  (wf : WF H) (h_Node : Sq (encI .u32) 1 H hd_Node Node fp_Node) (h_UpFirst : Sq (encI .u32) 1 H hd_UpFirst UpFirst fp_UpFirst) (h_Up : Sq enc_u32_u64_u32_u32 4 H hd_Up Up fp_Up) (h_DownFirst : Sq (encI .u32) 1 H hd_DownFirst DownFirst fp_DownFirst) (h_Down : Sq enc_u32_u64_u32_u32 4 H hd_Down Down fp_Down) (hr : z_hier_ends Node UpFirst Up DownFirst Down = some r) :
  ACalls Tryd.prog 18 #[.agg #[hd_Node, hd_UpFirst, hd_Up, hd_DownFirst, hd_Down]] H fun v H' => ∃ (s3 : Value) (f4 : Fp) (v7 : Value) (f8 : Fp), v = .tuple #[s3, v7] ∧ FrS [] H H' ∧ Ow enc_u32_u64_u32_u32_i64_i64_i64 7 H' s3 r.1 f4 ∧ Ev 27 71 H' v7 r.2 f8 ∧ Inn [] H f4 ∧ Inn [] H f8 ∧ Dj f4 f8 := by
 refine acalls_of_body mixed Tryd.func18 rfl (Nat.le_of_ble_eq_true rfl) ?_
 unfold z_hier_ends at hr
 refine w_seqk fun K12 k12 => ?_
 refine w_reg (by kernel_rfl) ?_
 refine s_rwl wf [hd_Node, hd_UpFirst, hd_Up, hd_DownFirst, hd_Down] (one_cons (h_Node.one1) (one_cons (h_UpFirst.one1) (one_cons (h_Up.one1) (one_cons (h_DownFirst.one1) (one_cons (h_Down.one1) (one_nil)))))) (by kernel_rfl) fun b13 H14 e15 hb16 r17 => ?_
 refine s_qk (.slice none 0 0) (by kernel_rfl) ?_
 refine s_qk (.nilIface) (by kernel_rfl) ?_
 refine s_nil ?_
 refine k12 _ _ ?_
 refine w_seqk fun K19 k19 => ?_
 refine w_reg (by kernel_rfl) ?_
 refine s_qk (.pointer (some ⟨b13, 0, none⟩)) (by kernel_rfl) ?_
 refine s_ql (hd_Node) (x := aLoad Tryd.prog 28 (.pointer (some ⟨b13, 0, none⟩)) H14) (by kernel_rfl) (r17.ld (by kernel_rfl)) ?_
 have u20 := (h_Node.ext e15)
 refine s_ql (.int .i64 (Node.length : Int)) (x := aLen Tryd.prog 28 hd_Node H14) (by kernel_rfl) (u20.lenb (by kernel_rfl)) ?_
 refine s_qk (.int .i64 (Node.length : Int)) (by kernel_rfl) ?_
 refine s_nil ?_
 refine k19 _ _ ?_
 refine w_seqk fun K21 k21 => ?_
 refine w_block ?_
 refine w_seqk fun K22 k22 => ?_
 obtain ⟨o23, hx24, r25⟩ := bind_some hr
 refine w_mid (fun α H26 => Has α [(1, .pointer (some ⟨b13, 0, none⟩)), (4, .int .i64 (Node.length : Int)), (15, .bool o23)] ∧ H14 = H26) (fun K28 k28 => ?_) (fun α H26 hM => ?_)
 ·refine w_reg (by kernel_rfl) ?_
  refine s_qk (.int .i64 (Node.length : Int)) (by kernel_rfl) ?_
  refine s_b ((Node.length : Int) > 65536) (by kernel_rfl) (fun h30 => ?_) (fun h30 => ?_)
  ·have r31 := ite_t h30 hx24
   refine s_qk (.bool true) (by kernel_rfl) ?_
   refine s_no (by kernel_rfl) ?_
   refine s_no (by kernel_rfl) ?_
   refine s_no (by kernel_rfl) ?_
   refine s_no (by kernel_rfl) ?_
   refine s_no (by kernel_rfl) ?_
   refine s_no (by kernel_rfl) ?_
   refine s_no (by kernel_rfl) ?_
   refine s_no (by kernel_rfl) ?_
   refine s_qk (.bool true) (by kernel_rfl) ?_
   refine s_qk (.bool true) (by kernel_rfl) ?_
   refine s_nil ?_
   obtain rfl := Option.some.inj r31
   exact k28 _ _ ⟨⟨by kernel_rfl, by kernel_rfl, by kernel_rfl, trivial⟩, rfl⟩
  ·have r32 := ite_f h30 hx24
   refine s_qk (.bool false) (by kernel_rfl) ?_
   refine s_qk (.pointer (some ⟨b13, 2, none⟩)) (by kernel_rfl) ?_
   refine s_ql (hd_Up) (x := aLoad Tryd.prog 29 (.pointer (some ⟨b13, 2, none⟩)) H14) (by kernel_rfl) (r17.ld (by kernel_rfl)) ?_
   have u33 := (h_Up.ext e15)
   refine s_ql (.int .i64 (Up.length : Int)) (x := aLen Tryd.prog 29 hd_Up H14) (by kernel_rfl) (u33.lenb (by kernel_rfl)) ?_
   refine s_qk (.pointer (some ⟨b13, 4, none⟩)) (by kernel_rfl) ?_
   refine s_ql (hd_Down) (x := aLoad Tryd.prog 29 (.pointer (some ⟨b13, 4, none⟩)) H14) (by kernel_rfl) (r17.ld (by kernel_rfl)) ?_
   have u34 := (h_Down.ext e15)
   refine s_ql (.int .i64 (Down.length : Int)) (x := aLen Tryd.prog 29 hd_Down H14) (by kernel_rfl) (u34.lenb (by kernel_rfl)) ?_
   obtain ⟨g35, r36⟩ := G_some r32
   refine s_w (((Up.length : Int) + (Down.length : Int))) (k := .i64) (x := ((Up.length : Int) + (Down.length : Int))) (by kernel_rfl) (wrap64 g35) ?_
   refine s_qk (.bool (decide (((Up.length : Int) + (Down.length : Int)) > 1048576))) (by kernel_rfl) ?_
   refine s_qk (.bool (decide (((Up.length : Int) + (Down.length : Int)) > 1048576))) (by kernel_rfl) ?_
   refine s_qk (.bool (decide (((Up.length : Int) + (Down.length : Int)) > 1048576))) (by kernel_rfl) ?_
   refine s_nil ?_
   obtain rfl := Option.some.inj r36
   exact k28 _ _ ⟨⟨by kernel_rfl, by kernel_rfl, by kernel_rfl, trivial⟩, rfl⟩
 ·obtain ⟨hh29, rfl⟩ := hM
  obtain ⟨β, rfl⟩ := has_ex hh29
  clear hh29
  refine k22 _ _ ?_
  refine w_cond (o23) (by kernel_rfl) rfl (fun h37 => ?_) (fun h37 => ?_)
  ·have r38 := ite_t h37 r25
   refine w_seqk fun K39 k39 => ?_
   refine w_reg (by kernel_rfl) ?_
   refine s_qk (.iface 27 (.int .i64 9)) (by kernel_rfl) ?_
   refine s_qk (.slice none 0 0) (by kernel_rfl) ?_
   refine s_qk (.iface 27 (.int .i64 9)) (by kernel_rfl) ?_
   refine s_nil ?_
   refine k39 _ _ ?_
   refine w_ret (bl_ret (th_ret ?_))
   refine b_ret (fn := Tryd.f18) (vs := [.slice none 0 0, .iface 27 (.int .i64 9)]) (aRes_tmp (by kernel_rfl) (aRes_tmp (by kernel_rfl) (rfl))) ?_
   obtain rfl := Option.some.inj r38
   exact ⟨(.slice none 0 0), [], (.iface 27 (.int .i64 9)), [], rfl, ((FrS.refl (W := []) wf).extR e15), (Ow.nil (by decide)), Ev.no, Inn.nil, Inn.nil, Dj.nil_l⟩
  ·have r40 := ite_bf h37 r25
   refine w_seqk fun K41 k41 => ?_
   obtain ⟨o42, hx43, r44⟩ := bind_some r40
   refine w_mid (fun α H45 => Has α [(1, .pointer (some ⟨b13, 0, none⟩)), (29, .bool o42)] ∧ H14 = H45) (fun K47 k47 => ?_) (fun α H45 hM => ?_)
   ·refine w_reg (by kernel_rfl) ?_
    refine s_qk (.pointer (some ⟨b13, 1, none⟩)) (by kernel_rfl) ?_
    refine s_ql (hd_UpFirst) (x := aLoad Tryd.prog 28 (.pointer (some ⟨b13, 1, none⟩)) H14) (by kernel_rfl) (r17.ld (by kernel_rfl)) ?_
    have u49 := (h_UpFirst.ext e15)
    refine s_ql (.int .i64 (UpFirst.length : Int)) (x := aLen Tryd.prog 28 hd_UpFirst H14) (by kernel_rfl) (u49.lenb (by kernel_rfl)) ?_
    refine s_qk (.int .i64 (Node.length : Int)) (by kernel_rfl) ?_
    obtain ⟨g50, r51⟩ := G_some hx43
    refine s_w (((Node.length : Int) + 1)) (k := .i64) (x := ((Node.length : Int) + 1)) (by kernel_rfl) (wrap64 (by have := g50; omega)) ?_
    refine s_bn ((UpFirst.length : Int) = ((Node.length : Int) + 1)) (by kernel_rfl) (fun h52 => ?_) (fun h52 => ?_)
    ·have r53 := ite_t h52 r51
     refine s_qk (.bool false) (by kernel_rfl) ?_
     refine s_qk (.pointer (some ⟨b13, 3, none⟩)) (by kernel_rfl) ?_
     refine s_ql (hd_DownFirst) (x := aLoad Tryd.prog 28 (.pointer (some ⟨b13, 3, none⟩)) H14) (by kernel_rfl) (r17.ld (by kernel_rfl)) ?_
     have u54 := (h_DownFirst.ext e15)
     refine s_ql (.int .i64 (DownFirst.length : Int)) (x := aLen Tryd.prog 28 hd_DownFirst H14) (by kernel_rfl) (u54.lenb (by kernel_rfl)) ?_
     refine s_qk (.int .i64 (Node.length : Int)) (by kernel_rfl) ?_
     refine s_w (((Node.length : Int) + 1)) (k := .i64) (x := ((Node.length : Int) + 1)) (by kernel_rfl) (wrap64 (by have := g50; omega)) ?_
     refine s_qk (.bool (!decide ((DownFirst.length : Int) = ((Node.length : Int) + 1)))) (by kernel_rfl) ?_
     refine s_qk (.bool (!decide ((DownFirst.length : Int) = ((Node.length : Int) + 1)))) (by kernel_rfl) ?_
     refine s_qk (.bool (!decide ((DownFirst.length : Int) = ((Node.length : Int) + 1)))) (by kernel_rfl) ?_
     refine s_nil ?_
     obtain rfl := Option.some.inj r53
     exact k47 _ _ ⟨⟨by kernel_rfl, by kernel_rfl, trivial⟩, rfl⟩
    ·have r55 := ite_f h52 r51
     refine s_qk (.bool true) (by kernel_rfl) ?_
     refine s_no (by kernel_rfl) ?_
     refine s_no (by kernel_rfl) ?_
     refine s_no (by kernel_rfl) ?_
     refine s_no (by kernel_rfl) ?_
     refine s_no (by kernel_rfl) ?_
     refine s_no (by kernel_rfl) ?_
     refine s_qk (.bool true) (by kernel_rfl) ?_
     refine s_qk (.bool true) (by kernel_rfl) ?_
     refine s_nil ?_
     obtain rfl := Option.some.inj r55
     exact k47 _ _ ⟨⟨by kernel_rfl, by kernel_rfl, trivial⟩, rfl⟩
   ·obtain ⟨hh48, rfl⟩ := hM
    obtain ⟨β, rfl⟩ := has_ex hh48
    clear hh48
    refine k41 _ _ ?_
    refine w_cond (o42) (by kernel_rfl) rfl (fun h56 => ?_) (fun h56 => ?_)
    ·have r57 := ite_t h56 r44
     refine w_seqk fun K58 k58 => ?_
     refine w_reg (by kernel_rfl) ?_
     refine s_qk (.iface 27 (.int .i64 14)) (by kernel_rfl) ?_
     refine s_qk (.slice none 0 0) (by kernel_rfl) ?_
     refine s_qk (.iface 27 (.int .i64 14)) (by kernel_rfl) ?_
     refine s_nil ?_
     refine k58 _ _ ?_
     refine w_ret (bl_ret (th_ret ?_))
     refine b_ret (fn := Tryd.f18) (vs := [.slice none 0 0, .iface 27 (.int .i64 14)]) (aRes_tmp (by kernel_rfl) (aRes_tmp (by kernel_rfl) (rfl))) ?_
     obtain rfl := Option.some.inj r57
     exact ⟨(.slice none 0 0), [], (.iface 27 (.int .i64 14)), [], rfl, ((FrS.refl (W := []) wf).extR e15), (Ow.nil (by decide)), Ev.no, Inn.nil, Inn.nil, Dj.nil_l⟩
    ·have r59 := ite_bf h56 r44
     refine w_skip ?_
     refine k21 _ _ ?_
     refine w_seqk fun K60 k60 => ?_
     refine w_seqk fun K61 k61 => ?_
     refine w_reg (by kernel_rfl) ?_
     refine s_qk (.pointer (some ⟨b13, 1, none⟩)) (by kernel_rfl) ?_
     refine s_ql (hd_UpFirst) (x := aLoad Tryd.prog 28 (.pointer (some ⟨b13, 1, none⟩)) H14) (by kernel_rfl) (r17.ld (by kernel_rfl)) ?_
     refine s_qk (.pointer (some ⟨b13, 2, none⟩)) (by kernel_rfl) ?_
     refine s_ql (hd_Up) (x := aLoad Tryd.prog 29 (.pointer (some ⟨b13, 2, none⟩)) H14) (by kernel_rfl) (r17.ld (by kernel_rfl)) ?_
     have u62 := (h_Up.ext e15)
     refine s_ql (.int .i64 (Up.length : Int)) (x := aLen Tryd.prog 29 hd_Up H14) (by kernel_rfl) (u62.lenb (by kernel_rfl)) ?_
     have u63 := (h_UpFirst.ext e15)
     obtain ⟨y64, hy65, r66⟩ := bind_some r59
     refine s_ck 31 #[hd_UpFirst, .int .i64 (Up.length : Int)] (by kernel_rfl) (c_hier_firsts e15.wf u63 hy65) ?_
     rintro v67 H69 ⟨_, f68, rfl, e70, m71, i72⟩
     refine s_qk (v67) (by kernel_rfl) ?_
     refine s_nil ?_
     refine k61 _ _ ?_
     refine w_seqk fun K74 k74 => ?_
     refine w_reg (by kernel_rfl) ?_
     refine s_qk (v67) (by kernel_rfl) ?_
     rcases (m71).cases with ⟨h75, rfl⟩ | ⟨h75, t76, x77, rfl⟩
     ·have r78 := ite_t h75 r66
      refine s_qk (.bool false) (by kernel_rfl) ?_
      refine s_nil ?_
      refine k74 _ _ ?_
      refine w_cond false (by kernel_rfl) rfl (fun h => by cases h) (fun _ => ?_)
      refine w_skip ?_
      refine k60 _ _ ?_
      refine w_seqk fun K79 k79 => ?_
      refine w_seqk fun K80 k80 => ?_
      refine w_reg (by kernel_rfl) ?_
      refine s_qk (.pointer (some ⟨b13, 3, none⟩)) (by kernel_rfl) ?_
      have u81 := (r17.frS e70 Dj.nil_l)
      refine s_ql (hd_DownFirst) (x := aLoad Tryd.prog 28 (.pointer (some ⟨b13, 3, none⟩)) H69) (by kernel_rfl) (u81.ld (by kernel_rfl)) ?_
      refine s_qk (.pointer (some ⟨b13, 4, none⟩)) (by kernel_rfl) ?_
      refine s_ql (hd_Down) (x := aLoad Tryd.prog 29 (.pointer (some ⟨b13, 4, none⟩)) H69) (by kernel_rfl) (u81.ld (by kernel_rfl)) ?_
      have u82 := ((h_Down.ext e15).fr e70 Dj.nil_l)
      refine s_ql (.int .i64 (Down.length : Int)) (x := aLen Tryd.prog 29 hd_Down H69) (by kernel_rfl) (u82.lenb (by kernel_rfl)) ?_
      have u83 := ((h_DownFirst.ext e15).fr e70 Dj.nil_l)
      obtain ⟨y84, hy85, r86⟩ := bind_some r78
      refine s_ck 31 #[hd_DownFirst, .int .i64 (Down.length : Int)] (by kernel_rfl) (c_hier_firsts e70.wf u83 hy85) ?_
      rintro v87 H89 ⟨_, f88, rfl, e90, m91, i92⟩
      refine s_qk (v87) (by kernel_rfl) ?_
      refine s_nil ?_
      refine k80 _ _ ?_
      refine w_seqk fun K94 k94 => ?_
      refine w_reg (by kernel_rfl) ?_
      refine s_qk (v87) (by kernel_rfl) ?_
      rcases (m91).cases with ⟨h95, rfl⟩ | ⟨h95, t96, x97, rfl⟩
      ·have r98 := ite_t h95 r86
       refine s_qk (.bool false) (by kernel_rfl) ?_
       refine s_nil ?_
       refine k94 _ _ ?_
       refine w_cond false (by kernel_rfl) rfl (fun h => by cases h) (fun _ => ?_)
       refine w_skip ?_
       refine k79 _ _ ?_
       refine w_seqk fun K99 k99 => ?_
       refine w_seqk fun K100 k100 => ?_
       refine w_reg (by kernel_rfl) ?_
       refine s_qk (.pointer (some ⟨b13, 0, none⟩)) (by kernel_rfl) ?_
       have u101 := (u81.frS e90 Dj.nil_l)
       refine s_ql (hd_Node) (x := aLoad Tryd.prog 28 (.pointer (some ⟨b13, 0, none⟩)) H89) (by kernel_rfl) (u101.ld (by kernel_rfl)) ?_
       have u102 := ((u20.fr e70 Dj.nil_l).fr e90 Dj.nil_l)
       obtain ⟨y103, hy104, r105⟩ := bind_some r98
       refine s_ck 32 #[hd_Node] (by kernel_rfl) (c_hier_order e90.wf u102 hy104) ?_
       rintro v106 H108 ⟨_, f107, rfl, e109, m110, i111⟩
       refine s_qk (v106) (by kernel_rfl) ?_
       refine s_nil ?_
       refine k100 _ _ ?_
       refine w_seqk fun K113 k113 => ?_
       refine w_reg (by kernel_rfl) ?_
       refine s_qk (v106) (by kernel_rfl) ?_
       rcases (m110).cases with ⟨h114, rfl⟩ | ⟨h114, t115, x116, rfl⟩
       ·have r117 := ite_t h114 r105
        refine s_qk (.bool false) (by kernel_rfl) ?_
        refine s_nil ?_
        refine k113 _ _ ?_
        refine w_cond false (by kernel_rfl) rfl (fun h => by cases h) (fun _ => ?_)
        refine w_skip ?_
        refine k99 _ _ ?_
        refine w_seqk fun K118 k118 => ?_
        refine w_reg (by kernel_rfl) ?_
        refine s_rwk e109.wf [.slice none 0 0] (by kernel_rfl) fun b119 H120 e121 hb122 r123 => ?_
        refine s_nil ?_
        refine k118 _ _ ?_
        refine w_seqk fun K125 k125 => ?_
        refine w_seqk fun K126 k126 => ?_
        refine w_reg (by kernel_rfl) ?_
        have u127 := ((u101.frS e109 Dj.nil_l).ext e121)
        refine s_ql (.agg #[hd_Node, hd_UpFirst, hd_Up, hd_DownFirst, hd_Down]) (x := aLoad Tryd.prog 31 (.pointer (some ⟨b13, 0, none⟩)) H120) (by kernel_rfl) (u127.ld (by kernel_rfl)) ?_
        have u128 := ((u102.fr e109 Dj.nil_l).ext e121)
        have u129 := ((((u63.fr e70 Dj.nil_l).fr e90 Dj.nil_l).fr e109 Dj.nil_l).ext e121)
        have u130 := ((((u62.fr e70 Dj.nil_l).fr e90 Dj.nil_l).fr e109 Dj.nil_l).ext e121)
        have u131 := (((u83.fr e90 Dj.nil_l).fr e109 Dj.nil_l).ext e121)
        have u132 := (((u82.fr e90 Dj.nil_l).fr e109 Dj.nil_l).ext e121)
        obtain ⟨y133, hy134, r135⟩ := bind_some r117
        refine s_ck 33 #[.agg #[hd_Node, hd_UpFirst, hd_Up, hd_DownFirst, hd_Down]] (by kernel_rfl) (c_hier_links e121.wf u128 u129 u130 u131 u132 hy134) ?_
        rintro _ H137 ⟨b136, rfl, e138, m139, i140⟩
        refine s_nil ?_
        refine k126 _ _ ?_
        refine w_block ?_
        obtain ⟨y142, hy143, r144⟩ := bind_some r135
        obtain ⟨o145, ho146, r147⟩ := bind_some r144
        refine w_mid (fun α H148 => ∃ (s152 : Value) (f153 : Fp), Has α [(1, .pointer (some ⟨b13, 0, none⟩)), (8, .pointer (some ⟨b119, 0, none⟩))] ∧ FrS [b119] H137 H148 ∧ Ow enc_u32_u64_u32_u32_i64_i64_i64 7 H148 s152 o145 f153 ∧ Row H148 b119 [s152] ∧ Inn [] H137 f153) (fun K157 k157 => ?_) (fun α H148 hM => ?_)
        ·refine w_range 45 #[.pointer (some ⟨b136, 0, none⟩)] (by kernel_rfl) (by kernel_rfl) (by kernel_rfl) (by kernel_rfl) ?_
         intro p1_ l_ hY_
         have hyl169 : Yld Tryd.prog l_ (fun tr_ => (foldO (fun x_ zz_ => z_hier_ends_l0 x_ zz_) [] tr_).isSome) (fun x_ => #[.int .i64 x_.1, .agg #[.int .u32 x_.2.1, .int .u64 x_.2.2.1, .int .u32 x_.2.2.2.1, .int .u32 x_.2.2.2.2.1, .int .i64 x_.2.2.2.2.2.1, .int .i64 x_.2.2.2.2.2.2.1, .int .i64 x_.2.2.2.2.2.2.2]]) (fun (H_ : AH) (xs_ : List (Int × Int × Int × Int × Int × Int × Int × Int)) (fp_ : Fp) => ∃ (all0 : List (Int × Int × Int × Int × Int × Int × Int)), ∃ (s162 : Value), ∃ (f163 : Fp), foldO (fun x_ zz_ => z_hier_ends_l0 x_ zz_) [] xs_ = some all0 ∧ fp_ = (f163 ++ [b119]) ∧ Ow enc_u32_u64_u32_u32_i64_i64_i64 7 H_ s162 all0 f163 ∧ Row H_ b119 [s162] ∧ Dj f163 [b119]) := by
          rintro H159 xs_ fp_ x_ wf hok_ ⟨all0, s162, f163, hf_, rfl, m161, m165, d167⟩
          obtain ⟨z_, hz0_⟩ := Option.isSome_iff_exists.1 hok_
          have hz := hz0_
          rw [foldO_snoc hf_] at hz
          replace hz : z_hier_ends_l0 x_ all0 = some z_ := hz
          unfold z_hier_ends_l0 at hz
          refine hY_ #[.int .i64 x_.1, .agg #[.int .u32 x_.2.1, .int .u64 x_.2.2.1, .int .u32 x_.2.2.2.1, .int .u32 x_.2.2.2.2.1, .int .i64 x_.2.2.2.2.2.1, .int .i64 x_.2.2.2.2.2.2.1, .int .i64 x_.2.2.2.2.2.2.2]] H159 _ rfl (fun p2_ => ?_)
          obtain ⟨a170, n171, c172, rfl⟩ := m161.form
          refine r_reg (by kernel_rfl) ?_
          refine s_rwk wf [.int .u32 0, .int .u64 0, .int .u32 0, .int .u32 0, .int .i64 0, .int .i64 0, .int .i64 0] (by kernel_rfl) fun b173 H174 e175 hb176 r177 => ?_
          obtain ⟨H179, q180, e181, r182⟩ := Row.store (P := Tryd.prog) (t := 67) (p := 0) e175.wf r177 (.agg #[.int .u32 x_.2.1, .int .u64 x_.2.2.1, .int .u32 x_.2.2.2.1, .int .u32 x_.2.2.2.2.1, .int .i64 x_.2.2.2.2.2.1, .int .i64 x_.2.2.2.2.2.2.1, .int .i64 x_.2.2.2.2.2.2.2]) [.int .u32 x_.2.1, .int .u64 x_.2.2.1, .int .u32 x_.2.2.2.1, .int .u32 x_.2.2.2.2.1, .int .i64 x_.2.2.2.2.2.1, .int .i64 x_.2.2.2.2.2.2.1, .int .i64 x_.2.2.2.2.2.2.2] (by kernel_rfl) (by kernel_rfl) (one_cons (rfl) (one_cons (rfl) (one_cons (rfl) (one_cons (rfl) (one_cons (rfl) (one_cons (rfl) (one_cons (rfl) (one_nil)))))))) (Nat.le_of_ble_eq_true (by kernel_rfl)) [.int .u32 x_.2.1, .int .u64 x_.2.2.1, .int .u32 x_.2.2.2.1, .int .u32 x_.2.2.2.2.1, .int .i64 x_.2.2.2.2.2.1, .int .i64 x_.2.2.2.2.2.2.1, .int .i64 x_.2.2.2.2.2.2.2] (by kernel_rfl)
          refine s_ek (undef) (by kernel_rfl) (map_ok q180) ?_
          refine s_nil ?_
          refine r_block ?_
          refine r_reg (by kernel_rfl) ?_
          have u183 := ((m165.ext e175).frS e181 (hb176.djn m165.ltF))
          refine s_ql (.slice a170 n171 c172) (x := aLoad Tryd.prog 63 (.pointer (some ⟨b119, 0, none⟩)) H179) (by kernel_rfl) (u183.ld (by kernel_rfl)) ?_
          refine s_ql (.agg #[.int .u32 x_.2.1, .int .u64 x_.2.2.1, .int .u32 x_.2.2.2.1, .int .u32 x_.2.2.2.2.1, .int .i64 x_.2.2.2.2.2.1, .int .i64 x_.2.2.2.2.2.2.1, .int .i64 x_.2.2.2.2.2.2.2]) (x := aLoad Tryd.prog 67 (.pointer (some ⟨b173, 0, none⟩)) H179) (by kernel_rfl) (r182.ld (by kernel_rfl)) ?_
          refine s_owk (enc := enc_u32_u64_u32_u32_i64_i64_i64) (sz := 7) e181.wf [(x_.2.1, x_.2.2.1, x_.2.2.2.1, x_.2.2.2.2.1, x_.2.2.2.2.2.1, x_.2.2.2.2.2.2.1, x_.2.2.2.2.2.2.2)] 1 (by decide) (fun _ _ => rfl) (fun _ _ => rfl) rfl (by kernel_rfl) fun s184 f185 H186 e187 hf188 hm189 => ?_
          obtain ⟨a190, n191, c192, rfl⟩ := hm189.form
          have u194 := (((m161.ext e175).fr e181 (hb176.djn m161.lt)).ext e187)
          obtain ⟨g195, r196⟩ := G_some hz
          obtain ⟨s197, H198, f199, q203, e200, hm201, hf202⟩ := Ow.append (P := Tryd.prog) 48 e187.wf u194 hm189.sq (fun _ _ => rfl) (at_ := #[63, 63]) rfl rfl (by kernel_rfl) (by kernel_rfl) (by decide) (by have := g195; first | omega | (simp only [List.length_cons, List.length_nil] at this ⊢; omega) | (simp at this ⊢; omega))
          obtain ⟨a204, n205, c206, rfl⟩ := hm201.form
          refine s_ek (.slice a204 n205 c206) (by kernel_rfl) (q203) ?_
          have u212 := ((u183.ext e187).frS e200 d167)
          obtain ⟨H208, q209, e210, r211⟩ := Row.store (P := Tryd.prog) (t := 63) (p := 0) e200.wf u212 (.slice a204 n205 c206) [.slice a204 n205 c206] (by kernel_rfl) (by kernel_rfl) (one_cons (hm201.one1) (one_nil)) (Nat.le_of_ble_eq_true (by kernel_rfl)) [.slice a204 n205 c206] (by kernel_rfl)
          refine s_ek (undef) (by kernel_rfl) (map_ok q209) ?_
          refine s_nil ?_
          obtain rfl := Option.some.inj r196
          have u213 := (hm201.fr e210 (Dj.symm (hf202.dj d167 (m165.ltF.le (ntr (ntr e175.next e181.next) e187.next)))))
          exact ⟨rfl, (f199 ++ [b119]), (FrS.step wf (FrS.step wf ((FrS.step wf ((FrS.refl (W := (f163 ++ [b119])) wf).extR e175) e181 (hb176.fresh (Nat.le_refl _))).extR e187) e200 Inn.left) e210 (Inn.right Inn.refl')), ⟨(Lt.app (hm201.lt.le e210.next) (m165.ltF.le (ntr (ntr (ntr (ntr e175.next e181.next) e187.next) e200.next) e210.next))), e210.wf, fun W_ H_2 k_ d_ => ⟨(all0 ++ [(x_.2.1, x_.2.2.1, x_.2.2.2.1, x_.2.2.2.2.1, x_.2.2.2.2.2.1, x_.2.2.2.2.2.2.1, x_.2.2.2.2.2.2.2)]), (.slice a204 n205 c206), f199, hz0_, rfl, (u213.fr k_ (Dj.appL d_)), (r211.frS k_ (Dj.appR d_)), (hf202.dj d167 (m165.ltF.le (ntr (ntr e175.next e181.next) e187.next)))⟩⟩, (Inn.app (Inn.trans Inn.left (ntr (ntr e175.next e181.next) e187.next) hf202) (Inn.right Inn.refl'))⟩
         have u214 := (r123.frS e138 Dj.nil_l)
         have u215 := (u128.fr e138 Dj.nil_l)
         have u216 := (u129.fr e138 Dj.nil_l)
         have u217 := (u130.fr e138 Dj.nil_l)
         have u218 := (u131.fr e138 Dj.nil_l)
         have u219 := (u132.fr e138 Dj.nil_l)
         refine (c_hier_links_1 e138.wf hyl169 ⟨(Lt.app Lt.nil (r123.ltF.le e138.next)), e138.wf, fun W_ H_2 k_ d_ => ⟨[], (.slice none 0 0), [], rfl, rfl, (Ow.nil (by decide)), (u214.frS k_ (Dj.appR d_)), Dj.nil_l⟩⟩ u215 u216 u217 u218 u219 m139 (Dj.app Dj.nil_l (hb122.djn (h_Up.lt.le (ntr (ntr (ntr e15.next e70.next) e90.next) e109.next)))) (Dj.app Dj.nil_l (Dj.symm (i140.djn r123.ltF))) (Dj.app Dj.nil_l (hb122.djn (h_UpFirst.lt.le (ntr (ntr (ntr e15.next e70.next) e90.next) e109.next)))) (Dj.app Dj.nil_l (hb122.djn (h_Node.lt.le (ntr (ntr (ntr e15.next e70.next) e90.next) e109.next)))) (Dj.app Dj.nil_l (hb122.djn (h_DownFirst.lt.le (ntr (ntr (ntr e15.next e70.next) e90.next) e109.next)))) (Dj.app Dj.nil_l (hb122.djn (h_Down.lt.le (ntr (ntr (ntr e15.next e70.next) e90.next) e109.next)))) hy143).mono ?_
         rintro _ H220 ⟨_, rfl, e221, m222, i223⟩
         obtain ⟨q224, s225, f226, hf230, rfl, m227, m228, d229⟩ := m222.at
         rw [hf230] at ho146; cases ho146
         exact k157 _ _ ⟨s225, f226, ⟨by kernel_rfl, by kernel_rfl, trivial⟩, e221.mono (fun t_ ht_ => by simpa using ht_), m227, m228, Inn.off (fun t_ ht_ => i223 t_ (List.mem_append_left _ ht_)) (Dj.app Dj.nil_l (Dj.symm d229))⟩
        ·obtain ⟨s152, f153, hh158, e149, m151, m155, i156⟩ := hM
         obtain ⟨β, rfl⟩ := has_ex hh158
         clear hh158
         obtain ⟨a231, n232, c233, rfl⟩ := m151.form
         refine k125 _ _ ?_
         refine w_seqk fun K234 k234 => ?_
         refine w_seqk fun K235 k235 => ?_
         refine w_reg (by kernel_rfl) ?_
         refine s_ql (.slice a231 n232 c233) (x := aLoad Tryd.prog 63 (.pointer (some ⟨b119, 0, none⟩)) H148) (by kernel_rfl) (m155.ld (by kernel_rfl)) ?_
         refine s_ql (.int .i64 (o145.length : Int)) (x := aLen Tryd.prog 63 (.slice a231 n232 c233) H148) (by kernel_rfl) (m151.sq.lenb (by kernel_rfl)) ?_
         refine s_qk (.int .i64 0) (by kernel_rfl) ?_
         refine s_nil ?_
         refine k235 _ _ ?_
         obtain ⟨z239, hx237, r238⟩ := bind_some r147
         refine w_mid (fun α H240 => ∃ o236, z239 = Sum.inr o236 ∧ Has α [(8, .pointer (some ⟨b119, 0, none⟩))] ∧ FrS [] H148 H240) (fun K242 k242 => ?_) (fun α H240 hM => ?_)
         ·refine w_block ?_
          obtain ⟨n244, hn245⟩ := loopO_iff.1 hx237
          refine w_loopn (fun n α H246 => ∃ (i1 : Int), iterO (fun zz_ => z_hier_ends_l1 Node UpFirst Up DownFirst Down o145 zz_) n i1 = some z239 ∧ Has α [(1, .pointer (some ⟨b13, 0, none⟩)), (8, .pointer (some ⟨b119, 0, none⟩)), (78, .int .i64 (o145.length : Int)), (79, .int .i64 i1)] ∧ FrS [] H148 H246) n244 ⟨0, hn245, ⟨by kernel_rfl, by kernel_rfl, by kernel_rfl, by kernel_rfl, trivial⟩, (FrS.refl (W := []) e149.wf)⟩ ?_
          rintro n244 α H246 ⟨i1, hi249, hh248, e247⟩ K254 k254
          obtain ⟨n250, z251, rfl, hz252, hn253⟩ := iter_succ hi249
          obtain ⟨β, rfl⟩ := has_ex hh248
          clear hh248
          replace hz252 : z_hier_ends_l1 Node UpFirst Up DownFirst Down o145 i1 = some z251 := hz252
          unfold z_hier_ends_l1 at hz252
          refine w_seqk fun K255 k255 => ?_
          refine w_reg (by kernel_rfl) ?_
          refine s_qk (.bool (decide (i1 < (o145.length : Int)))) (by kernel_rfl) ?_
          refine s_nil ?_
          refine k255 _ _ ?_
          refine w_seqk fun K256 k256 => ?_
          refine w_condp (i1 < (o145.length : Int)) (by kernel_rfl) rfl (fun h257 => ?_) (fun h257 => ?_)
          ·have r258 := ite_t h257 hz252
           refine w_skip ?_
           refine k256 _ _ ?_
           refine w_seqk fun K259 k259 => ?_
           refine w_block ?_
           refine w_seqk fun K260 k260 => ?_
           refine w_reg (by kernel_rfl) ?_
           refine s_qk (.int .i64 i1) (by kernel_rfl) ?_
           refine s_qk (.int .i64 i1) (by kernel_rfl) ?_
           refine s_nil ?_
           refine k260 _ _ ?_
           refine w_block ?_
           refine w_seqk fun K261 k261 => ?_
           refine w_reg (by kernel_rfl) ?_
           have u262 := (((u127.frS e138 Dj.nil_l).frS e149 (hb122.djn (r17.ltF.le (ntr (ntr e70.next e90.next) e109.next)))).frS e247 Dj.nil_l)
           refine s_ql (.agg #[hd_Node, hd_UpFirst, hd_Up, hd_DownFirst, hd_Down]) (x := aLoad Tryd.prog 31 (.pointer (some ⟨b13, 0, none⟩)) H246) (by kernel_rfl) (u262.ld (by kernel_rfl)) ?_
           have u263 := (m155.frS e247 Dj.nil_l)
           refine s_ql (.slice a231 n232 c233) (x := aLoad Tryd.prog 63 (.pointer (some ⟨b119, 0, none⟩)) H246) (by kernel_rfl) (u263.ld (by kernel_rfl)) ?_
           refine s_qk (.int .i64 i1) (by kernel_rfl) ?_
           have u264 := (((u128.fr e138 Dj.nil_l).fr e149 (hb122.djn (h_Node.lt.le (ntr (ntr (ntr e15.next e70.next) e90.next) e109.next)))).fr e247 Dj.nil_l)
           have u265 := (((u129.fr e138 Dj.nil_l).fr e149 (hb122.djn (h_UpFirst.lt.le (ntr (ntr (ntr e15.next e70.next) e90.next) e109.next)))).fr e247 Dj.nil_l)
           have u266 := (((u130.fr e138 Dj.nil_l).fr e149 (hb122.djn (h_Up.lt.le (ntr (ntr (ntr e15.next e70.next) e90.next) e109.next)))).fr e247 Dj.nil_l)
           have u267 := (((u131.fr e138 Dj.nil_l).fr e149 (hb122.djn (h_DownFirst.lt.le (ntr (ntr (ntr e15.next e70.next) e90.next) e109.next)))).fr e247 Dj.nil_l)
           have u268 := (((u132.fr e138 Dj.nil_l).fr e149 (hb122.djn (h_Down.lt.le (ntr (ntr (ntr e15.next e70.next) e90.next) e109.next)))).fr e247 Dj.nil_l)
           have u269 := (m151.fr e247 Dj.nil_l)
           obtain ⟨y270, hy271, r272⟩ := bind_some r258
           refine s_ck 34 #[.agg #[hd_Node, hd_UpFirst, hd_Up, hd_DownFirst, hd_Down], .slice a231 n232 c233, .int .i64 i1] (by kernel_rfl) (c_hier_shape e247.wf u264 u265 u266 u267 u268 u269.sq hy271) ?_
           rintro _ H273 ⟨rfl, e274⟩
           refine s_qk (.bool (!y270)) (by kernel_rfl) ?_
           refine s_qk (.bool (!y270)) (by kernel_rfl) ?_
           refine s_nil ?_
           refine k261 _ _ ?_
           refine w_cond ((!y270)) (by kernel_rfl) rfl (fun h275 => ?_) (fun h275 => ?_)
           ·have r276 := ite_t h275 r272
            refine w_seqk fun K277 k277 => ?_
            refine w_reg (by kernel_rfl) ?_
            refine s_qk (.int .i64 i1) (by kernel_rfl) ?_
            refine s_qk (.iface 27 (.int .i64 14)) (by kernel_rfl) ?_
            obtain ⟨y278, hy279, r280⟩ := bind_some r276
            refine s_ck 35 #[.int .i64 4, .int .i64 i1, .iface 27 (.int .i64 14)] (by kernel_rfl) (c_fault_At e274.wf (Ev.no (tf := 71)) hy279) ?_
            rintro v281 H283 ⟨_, f282, rfl, e284, m285, i286⟩
            refine s_qk (.slice none 0 0) (by kernel_rfl) ?_
            refine s_qk (v281) (by kernel_rfl) ?_
            refine s_nil ?_
            refine k277 _ _ ?_
            refine w_ret (bl_ret (bl_ret (th_ret (th_ret (bl_ret (th_ret (th_ret ?_)))))))
            obtain ⟨v288, hv289, hz290⟩ := map_some r280
            subst hz290
            obtain rfl := it_inr hn253
            have hq291 := elim_inl r238
            rw [hq291] at hv289
            refine b_ret (fn := Tryd.f18) (vs := [.slice none 0 0, v281]) (aRes_tmp (by kernel_rfl) (aRes_tmp (by kernel_rfl) (rfl))) ?_
            obtain rfl := Option.some.inj hv289
            exact ⟨(.slice none 0 0), [], (v281), f282, rfl, (FrS.step wf (FrS.step wf (FrS.step wf (FrS.step wf (FrS.step wf ((FrS.step wf (FrS.step wf (FrS.step wf ((FrS.refl (W := []) wf).extR e15) e70 Inn.nil) e90 Inn.nil) e109 Inn.nil).extR e121) e138 Inn.nil) e149 (hb122.fresh (ntr (ntr (ntr e15.next e70.next) e90.next) e109.next))) e247 Inn.nil) e274 Inn.nil) e284 Inn.nil), (Ow.nil (by decide)), m285, Inn.nil, (i286.fresh (ntr (ntr (ntr (ntr (ntr (ntr (ntr (ntr e15.next e70.next) e90.next) e109.next) e121.next) e138.next) e149.next) e247.next) e274.next)), Dj.nil_l⟩
           ·have r292 := ite_bf h275 r272
            refine w_seqk fun K293 k293 => ?_
            refine w_reg (by kernel_rfl) ?_
            have u294 := (u263.frS e274 Dj.nil_l)
            refine s_ql (.slice a231 n232 c233) (x := aLoad Tryd.prog 63 (.pointer (some ⟨b119, 0, none⟩)) H273) (by kernel_rfl) (u294.ld (by kernel_rfl)) ?_
            refine s_qk (.int .i64 i1) (by kernel_rfl) ?_
            have u295 := (u269.fr e274 Dj.nil_l)
            obtain ⟨y296, hy297, r298⟩ := bind_some r292
            refine s_ck 36 #[.slice a231 n232 c233, .int .i64 i1] (by kernel_rfl) (c_hier_weight e274.wf u295.sq hy297) ?_
            rintro _ H299 ⟨rfl, e300⟩
            refine s_qk (.bool (!y296)) (by kernel_rfl) ?_
            refine s_qk (.bool (!y296)) (by kernel_rfl) ?_
            refine s_nil ?_
            refine k293 _ _ ?_
            refine w_cond ((!y296)) (by kernel_rfl) rfl (fun h301 => ?_) (fun h301 => ?_)
            ·have r302 := ite_t h301 r298
             refine w_seqk fun K303 k303 => ?_
             refine w_reg (by kernel_rfl) ?_
             refine s_qk (.int .i64 i1) (by kernel_rfl) ?_
             refine s_qk (.iface 27 (.int .i64 8)) (by kernel_rfl) ?_
             obtain ⟨y304, hy305, r306⟩ := bind_some r302
             refine s_ck 35 #[.int .i64 4, .int .i64 i1, .iface 27 (.int .i64 8)] (by kernel_rfl) (c_fault_At e300.wf (Ev.no (tf := 71)) hy305) ?_
             rintro v307 H309 ⟨_, f308, rfl, e310, m311, i312⟩
             refine s_qk (.slice none 0 0) (by kernel_rfl) ?_
             refine s_qk (v307) (by kernel_rfl) ?_
             refine s_nil ?_
             refine k303 _ _ ?_
             refine w_ret (bl_ret (bl_ret (th_ret (th_ret (bl_ret (th_ret (th_ret ?_)))))))
             obtain ⟨v314, hv315, hz316⟩ := map_some r306
             subst hz316
             obtain rfl := it_inr hn253
             have hq317 := elim_inl r238
             rw [hq317] at hv315
             refine b_ret (fn := Tryd.f18) (vs := [.slice none 0 0, v307]) (aRes_tmp (by kernel_rfl) (aRes_tmp (by kernel_rfl) (rfl))) ?_
             obtain rfl := Option.some.inj hv315
             exact ⟨(.slice none 0 0), [], (v307), f308, rfl, (FrS.step wf (FrS.step wf (FrS.step wf (FrS.step wf (FrS.step wf (FrS.step wf ((FrS.step wf (FrS.step wf (FrS.step wf ((FrS.refl (W := []) wf).extR e15) e70 Inn.nil) e90 Inn.nil) e109 Inn.nil).extR e121) e138 Inn.nil) e149 (hb122.fresh (ntr (ntr (ntr e15.next e70.next) e90.next) e109.next))) e247 Inn.nil) e274 Inn.nil) e300 Inn.nil) e310 Inn.nil), (Ow.nil (by decide)), m311, Inn.nil, (i312.fresh (ntr (ntr (ntr (ntr (ntr (ntr (ntr (ntr (ntr e15.next e70.next) e90.next) e109.next) e121.next) e138.next) e149.next) e247.next) e274.next) e300.next)), Dj.nil_l⟩
            ·have r318 := ite_bf h301 r298
             refine w_skip ?_
             refine k259 _ _ ?_
             refine w_reg (by kernel_rfl) ?_
             obtain ⟨g319, r320⟩ := G_some r318
             refine s_w ((i1 + 1)) (k := .i64) (x := (i1 + 1)) (by kernel_rfl) (wrap64 g319) ?_
             refine s_qk (.int .i64 (i1 + 1)) (by kernel_rfl) ?_
             refine s_nil ?_
             obtain rfl := Option.some.inj r320
             exact k254 n250 _ _ (Nat.lt_succ_self _) ⟨(i1 + 1), hn253, ⟨by kernel_rfl, by kernel_rfl, by kernel_rfl, by kernel_rfl, trivial⟩, (FrS.step e149.wf (FrS.step e149.wf (FrS.step e149.wf (FrS.refl (W := []) e149.wf) e247 Inn.nil) e274 Inn.nil) e300 Inn.nil)⟩
          ·have r321 := ite_f h257 hz252
           refine w_exit (th_exit (th_exit (bl_eq ?_)))
           obtain rfl := Option.some.inj r321
           obtain rfl := it_inr hn253
           exact k242 _ _ ⟨_, rfl, ⟨by kernel_rfl, trivial⟩, (FrS.step e149.wf (FrS.refl (W := []) e149.wf) e247 Inn.nil)⟩
         ·obtain ⟨o236, rfl, hh243, e241⟩ := hM
          have r322 := elim_inr r238
          obtain ⟨β, rfl⟩ := has_ex hh243
          clear hh243
          refine k234 _ _ ?_
          refine w_seqk fun K323 k323 => ?_
          refine w_reg (by kernel_rfl) ?_
          have u324 := (m155.frS e241 Dj.nil_l)
          refine s_ql (.slice a231 n232 c233) (x := aLoad Tryd.prog 63 (.pointer (some ⟨b119, 0, none⟩)) H240) (by kernel_rfl) (u324.ld (by kernel_rfl)) ?_
          refine s_qk (.slice a231 n232 c233) (by kernel_rfl) ?_
          refine s_qk (.nilIface) (by kernel_rfl) ?_
          refine s_nil ?_
          refine k323 _ _ ?_
          refine w_ret ?_
          refine b_ret (fn := Tryd.f18) (vs := [.slice a231 n232 c233, .nilIface]) (aRes_tmp (by kernel_rfl) (aRes_tmp (by kernel_rfl) (rfl))) ?_
          have u325 := (m151.fr e241 Dj.nil_l)
          obtain rfl := Option.some.inj r322
          exact ⟨(.slice a231 n232 c233), f153, (.nilIface), [], rfl, (FrS.step wf (FrS.step wf (FrS.step wf ((FrS.step wf (FrS.step wf (FrS.step wf ((FrS.refl (W := []) wf).extR e15) e70 Inn.nil) e90 Inn.nil) e109 Inn.nil).extR e121) e138 Inn.nil) e149 (hb122.fresh (ntr (ntr (ntr e15.next e70.next) e90.next) e109.next))) e241 Inn.nil), u325, Ev.nil, (i156.fresh (ntr (ntr (ntr (ntr (ntr e15.next e70.next) e90.next) e109.next) e121.next) e138.next)), Inn.nil, Dj.nil_r⟩
       ·have r326 := ite_f h114 r105
        refine s_ql (.bool true) (x := aBin Tryd.prog .neq 41 (.tmp 66) (.const .nilIface) (.iface t115 x116) .nilIface) (by kernel_rfl) (aBin_nnil (by kernel_rfl)) ?_
        refine s_nil ?_
        refine k113 _ _ ?_
        refine w_cond true (by kernel_rfl) rfl (fun _ => ?_) (fun h => by cases h)
        refine w_seqk fun K327 k327 => ?_
        refine w_reg (by kernel_rfl) ?_
        refine s_qk (.iface t115 x116) (by kernel_rfl) ?_
        refine s_qk (.slice none 0 0) (by kernel_rfl) ?_
        refine s_qk (.iface t115 x116) (by kernel_rfl) ?_
        refine s_nil ?_
        refine k327 _ _ ?_
        refine w_ret (th_ret ?_)
        refine b_ret (fn := Tryd.f18) (vs := [.slice none 0 0, .iface t115 x116]) (aRes_tmp (by kernel_rfl) (aRes_tmp (by kernel_rfl) (rfl))) ?_
        obtain rfl := Option.some.inj r326
        exact ⟨(.slice none 0 0), [], (.iface t115 x116), f107, rfl, (FrS.step wf (FrS.step wf (FrS.step wf ((FrS.refl (W := []) wf).extR e15) e70 Inn.nil) e90 Inn.nil) e109 Inn.nil), (Ow.nil (by decide)), m110, Inn.nil, (i111.fresh (ntr (ntr e15.next e70.next) e90.next)), Dj.nil_l⟩
      ·have r328 := ite_f h95 r86
       refine s_ql (.bool true) (x := aBin Tryd.prog .neq 41 (.tmp 60) (.const .nilIface) (.iface t96 x97) .nilIface) (by kernel_rfl) (aBin_nnil (by kernel_rfl)) ?_
       refine s_nil ?_
       refine k94 _ _ ?_
       refine w_cond true (by kernel_rfl) rfl (fun _ => ?_) (fun h => by cases h)
       refine w_seqk fun K329 k329 => ?_
       refine w_reg (by kernel_rfl) ?_
       refine s_qk (.iface t96 x97) (by kernel_rfl) ?_
       refine s_qk (.slice none 0 0) (by kernel_rfl) ?_
       refine s_qk (.iface t96 x97) (by kernel_rfl) ?_
       refine s_nil ?_
       refine k329 _ _ ?_
       refine w_ret (th_ret ?_)
       refine b_ret (fn := Tryd.f18) (vs := [.slice none 0 0, .iface t96 x97]) (aRes_tmp (by kernel_rfl) (aRes_tmp (by kernel_rfl) (rfl))) ?_
       obtain rfl := Option.some.inj r328
       exact ⟨(.slice none 0 0), [], (.iface t96 x97), f88, rfl, (FrS.step wf (FrS.step wf ((FrS.refl (W := []) wf).extR e15) e70 Inn.nil) e90 Inn.nil), (Ow.nil (by decide)), m91, Inn.nil, (i92.fresh (ntr e15.next e70.next)), Dj.nil_l⟩
     ·have r330 := ite_f h75 r66
      refine s_ql (.bool true) (x := aBin Tryd.prog .neq 41 (.tmp 51) (.const .nilIface) (.iface t76 x77) .nilIface) (by kernel_rfl) (aBin_nnil (by kernel_rfl)) ?_
      refine s_nil ?_
      refine k74 _ _ ?_
      refine w_cond true (by kernel_rfl) rfl (fun _ => ?_) (fun h => by cases h)
      refine w_seqk fun K331 k331 => ?_
      refine w_reg (by kernel_rfl) ?_
      refine s_qk (.iface t76 x77) (by kernel_rfl) ?_
      refine s_qk (.slice none 0 0) (by kernel_rfl) ?_
      refine s_qk (.iface t76 x77) (by kernel_rfl) ?_
      refine s_nil ?_
      refine k331 _ _ ?_
      refine w_ret (th_ret ?_)
      refine b_ret (fn := Tryd.f18) (vs := [.slice none 0 0, .iface t76 x77]) (aRes_tmp (by kernel_rfl) (aRes_tmp (by kernel_rfl) (rfl))) ?_
      obtain rfl := Option.some.inj r330
      exact ⟨(.slice none 0 0), [], (.iface t76 x77), f68, rfl, (FrS.step wf ((FrS.refl (W := []) wf).extR e15) e70 Inn.nil), (Ow.nil (by decide)), m71, Inn.nil, (i72.fresh e15.next), Dj.nil_l⟩

theorem c_hier_Graph_1 {H : AH} {From : Int} {To : Int} {Weight : Int} {From_ : Int} {To_ : Int} {Weight_ : Int} {r : Int}
  (wf : WF H) (hr : z_hier_Graph_1 From To Weight From_ To_ Weight_ = some r) :
  ACalls Tryd.prog 29 #[.agg #[.int .i64 From, .int .i64 To, .int .i64 Weight], .agg #[.int .i64 From_, .int .i64 To_, .int .i64 Weight_]] H fun v H' => v = .int .i64 r ∧ FrS [] H H' := by
 refine acalls_of_body mixed Tryd.func29 rfl (Nat.le_of_ble_eq_true rfl) ?_
 unfold z_hier_Graph_1 at hr
 refine w_seqk fun K1 k1 => ?_
 refine w_reg (by kernel_rfl) ?_
 refine s_rwl wf [.int .i64 From, .int .i64 To, .int .i64 Weight] (one_cons (rfl) (one_cons (rfl) (one_cons (rfl) (one_nil)))) (by kernel_rfl) fun b2 H3 e4 hb5 r6 => ?_
 refine s_rwl e4.wf [.int .i64 From_, .int .i64 To_, .int .i64 Weight_] (one_cons (rfl) (one_cons (rfl) (one_cons (rfl) (one_nil)))) (by kernel_rfl) fun b8 H9 e10 hb11 r12 => ?_
 refine s_qk (.int .i64 0) (by kernel_rfl) ?_
 refine s_nil ?_
 refine k1 _ _ ?_
 refine w_seqk fun K14 k14 => ?_
 refine w_seqk fun K15 k15 => ?_
 refine w_reg (by kernel_rfl) ?_
 refine s_qk (.pointer (some ⟨b2, 0, none⟩)) (by kernel_rfl) ?_
 have u16 := (r6.ext e10)
 refine s_ql (.int .i64 From) (x := aLoad Tryd.prog 3 (.pointer (some ⟨b2, 0, none⟩)) H9) (by kernel_rfl) (u16.ld (by kernel_rfl)) ?_
 refine s_qk (.pointer (some ⟨b8, 0, none⟩)) (by kernel_rfl) ?_
 refine s_ql (.int .i64 From_) (x := aLoad Tryd.prog 3 (.pointer (some ⟨b8, 0, none⟩)) H9) (by kernel_rfl) (r12.ld (by kernel_rfl)) ?_
 refine s_qk (.bool (!decide (From = From_))) (by kernel_rfl) ?_
 refine s_nil ?_
 refine k15 _ _ ?_
 refine w_condn (From = From_) (by kernel_rfl) rfl (fun h17 => ?_) (fun h17 => ?_)
 ·have r18 := ite_f h17 hr
  refine w_seqk fun K19 k19 => ?_
  refine w_reg (by kernel_rfl) ?_
  refine s_qk (.pointer (some ⟨b2, 0, none⟩)) (by kernel_rfl) ?_
  refine s_ql (.int .i64 From) (x := aLoad Tryd.prog 3 (.pointer (some ⟨b2, 0, none⟩)) H9) (by kernel_rfl) (u16.ld (by kernel_rfl)) ?_
  refine s_qk (.pointer (some ⟨b8, 0, none⟩)) (by kernel_rfl) ?_
  refine s_ql (.int .i64 From_) (x := aLoad Tryd.prog 3 (.pointer (some ⟨b8, 0, none⟩)) H9) (by kernel_rfl) (r12.ld (by kernel_rfl)) ?_
  obtain ⟨g20, r21⟩ := G_some r18
  refine s_w ((From - From_)) (k := .i64) (x := (From - From_)) (by kernel_rfl) (wrap64 g20) ?_
  refine s_qk (.int .i64 (From - From_)) (by kernel_rfl) ?_
  refine s_nil ?_
  refine k19 _ _ ?_
  refine w_ret (th_ret ?_)
  refine b_ret (fn := Tryd.f29) (vs := [.int .i64 (From - From_)]) (aRes_tmp (by kernel_rfl) (rfl)) ?_
  obtain rfl := Option.some.inj r21
  exact ⟨rfl, (((FrS.refl (W := []) wf).extR e4).extR e10)⟩
 ·have r22 := ite_t h17 hr
  refine w_skip ?_
  refine k14 _ _ ?_
  refine w_seqk fun K23 k23 => ?_
  refine w_reg (by kernel_rfl) ?_
  refine s_qk (.pointer (some ⟨b2, 1, none⟩)) (by kernel_rfl) ?_
  refine s_ql (.int .i64 To) (x := aLoad Tryd.prog 3 (.pointer (some ⟨b2, 1, none⟩)) H9) (by kernel_rfl) (u16.ld (by kernel_rfl)) ?_
  refine s_qk (.pointer (some ⟨b8, 1, none⟩)) (by kernel_rfl) ?_
  refine s_ql (.int .i64 To_) (x := aLoad Tryd.prog 3 (.pointer (some ⟨b8, 1, none⟩)) H9) (by kernel_rfl) (r12.ld (by kernel_rfl)) ?_
  obtain ⟨g24, r25⟩ := G_some r22
  refine s_w ((To - To_)) (k := .i64) (x := (To - To_)) (by kernel_rfl) (wrap64 g24) ?_
  refine s_qk (.int .i64 (To - To_)) (by kernel_rfl) ?_
  refine s_nil ?_
  refine k23 _ _ ?_
  refine w_ret ?_
  refine b_ret (fn := Tryd.f29) (vs := [.int .i64 (To - To_)]) (aRes_tmp (by kernel_rfl) (rfl)) ?_
  obtain rfl := Option.some.inj r25
  exact ⟨rfl, (((FrS.refl (W := []) wf).extR e4).extR e10)⟩


end Go.Vd

/-! (KHf2) -/

set_option maxRecDepth 100000
set_option maxHeartbeats 4000000
set_option linter.unusedVariables false
namespace Go.Vd
open Go.Proofs
attribute [local irreducible] wpSeq wpOrd aWp
theorem c_hier_Graph {H : AH} {hd_Node : Value} {fp_Node : Fp} {hd_UpFirst : Value} {fp_UpFirst : Fp} {hd_Up : Value} {fp_Up : Fp} {hd_DownFirst : Value} {fp_DownFirst : Fp} {hd_Down : Value} {fp_Down : Fp} {Node : List (Int)} {UpFirst : List (Int)} {Up : List (Int × Int × Int × Int)} {DownFirst : List (Int)} {Down : List (Int × Int × Int × Int)} {r : Int × List (Int × Int × Int) × Er}
  (wf : WF H) (h_Node : Sq (encI .u32) 1 H hd_Node Node fp_Node) (h_UpFirst : Sq (encI .u32) 1 H hd_UpFirst UpFirst fp_UpFirst) (h_Up : Sq enc_u32_u64_u32_u32 4 H hd_Up Up fp_Up) (h_DownFirst : Sq (encI .u32) 1 H hd_DownFirst DownFirst fp_DownFirst) (h_Down : Sq enc_u32_u64_u32_u32 4 H hd_Down Down fp_Down) (hr : z_hier_Graph Node UpFirst Up DownFirst Down = some r) :
  ACalls Tryd.prog 16 #[.agg #[hd_Node, hd_UpFirst, hd_Up, hd_DownFirst, hd_Down]] H fun v H' => ∃ (s3 : Value) (f4 : Fp) (v7 : Value) (f8 : Fp), v = .tuple #[.agg #[.int .i64 r.1, s3], v7] ∧ FrS [] H H' ∧ Ow enc_i64_i64_i64 3 H' s3 r.2.1 f4 ∧ Ev 27 71 H' v7 r.2.2 f8 ∧ Inn [] H f4 ∧ Inn [] H f8 ∧ Dj f4 f8 := by
 refine acalls_of_body mixed Tryd.func16 rfl (Nat.le_of_ble_eq_true rfl) ?_
 unfold z_hier_Graph at hr
 refine w_seqk fun K12 k12 => ?_
 refine w_reg (by kernel_rfl) ?_
 refine s_rwl wf [hd_Node, hd_UpFirst, hd_Up, hd_DownFirst, hd_Down] (one_cons (h_Node.one1) (one_cons (h_UpFirst.one1) (one_cons (h_Up.one1) (one_cons (h_DownFirst.one1) (one_cons (h_Down.one1) (one_nil)))))) (by kernel_rfl) fun b13 H14 e15 hb16 r17 => ?_
 refine s_rwk e15.wf [.int .i64 0, .slice none 0 0] (by kernel_rfl) fun b19 H20 e21 hb22 r23 => ?_
 refine s_qk (.nilIface) (by kernel_rfl) ?_
 refine s_nil ?_
 refine k12 _ _ ?_
 refine w_seqk fun K25 k25 => ?_
 refine w_reg (by kernel_rfl) ?_
 have u26 := (r17.ext e21)
 refine s_ql (.agg #[hd_Node, hd_UpFirst, hd_Up, hd_DownFirst, hd_Down]) (x := aLoad Tryd.prog 31 (.pointer (some ⟨b13, 0, none⟩)) H20) (by kernel_rfl) (u26.ld (by kernel_rfl)) ?_
 have u27 := ((h_Node.ext e15).ext e21)
 have u28 := ((h_UpFirst.ext e15).ext e21)
 have u29 := ((h_Up.ext e15).ext e21)
 have u30 := ((h_DownFirst.ext e15).ext e21)
 have u31 := ((h_Down.ext e15).ext e21)
 obtain ⟨y32, hy33, r34⟩ := bind_some hr
 refine s_ck 18 #[.agg #[hd_Node, hd_UpFirst, hd_Up, hd_DownFirst, hd_Down]] (by kernel_rfl) (c_hier_ends e21.wf u27 u28 u29 u30 u31 hy33) ?_
 rintro _ H39 ⟨s35, f36, v37, f38, rfl, e40, m41, m42, i43, i44, d45⟩
 obtain ⟨a48, n49, c50, rfl⟩ := m41.form
 refine s_qk (.tuple #[.slice a48 n49 c50, v37]) (by kernel_rfl) ?_
 refine s_qk (.slice a48 n49 c50) (by kernel_rfl) ?_
 refine s_qk (v37) (by kernel_rfl) ?_
 refine s_qk (.slice a48 n49 c50) (by kernel_rfl) ?_
 refine s_qk (v37) (by kernel_rfl) ?_
 refine s_nil ?_
 refine k25 _ _ ?_
 refine w_seqk fun K51 k51 => ?_
 refine w_seqk fun K52 k52 => ?_
 refine w_reg (by kernel_rfl) ?_
 refine s_qk (v37) (by kernel_rfl) ?_
 rcases (m42).cases with ⟨h53, rfl⟩ | ⟨h53, t54, x55, rfl⟩
 ·have r56 := ite_t h53 r34
  refine s_qk (.bool false) (by kernel_rfl) ?_
  refine s_nil ?_
  refine k52 _ _ ?_
  refine w_cond false (by kernel_rfl) rfl (fun h => by cases h) (fun _ => ?_)
  refine w_skip ?_
  refine k51 _ _ ?_
  refine w_seqk fun K57 k57 => ?_
  refine w_reg (by kernel_rfl) ?_
  refine s_qk (.pointer (some ⟨b13, 0, none⟩)) (by kernel_rfl) ?_
  have u58 := (u26.frS e40 Dj.nil_l)
  refine s_ql (hd_Node) (x := aLoad Tryd.prog 28 (.pointer (some ⟨b13, 0, none⟩)) H39) (by kernel_rfl) (u58.ld (by kernel_rfl)) ?_
  have u59 := (u27.fr e40 Dj.nil_l)
  refine s_ql (.int .i64 (Node.length : Int)) (x := aLen Tryd.prog 28 hd_Node H39) (by kernel_rfl) (u59.lenb (by kernel_rfl)) ?_
  refine s_qk (.agg #[.int .i64 (Node.length : Int), .slice none 0 0]) (by kernel_rfl) ?_
  refine s_rwk e40.wf [.int .i64 0, .slice none 0 0] (by kernel_rfl) fun b60 H61 e62 hb63 r64 => ?_
  obtain ⟨H66, q67, e68, r69⟩ := Row.store (P := Tryd.prog) (t := 55) (p := 0) e62.wf r64 (.agg #[.int .i64 (Node.length : Int), .slice none 0 0]) [.int .i64 (Node.length : Int), .slice none 0 0] (by kernel_rfl) (by kernel_rfl) (one_cons (rfl) (one_cons (rfl) (one_nil))) (Nat.le_of_ble_eq_true (by kernel_rfl)) [.int .i64 (Node.length : Int), .slice none 0 0] (by kernel_rfl)
  refine s_ek (undef) (by kernel_rfl) (map_ok q67) ?_
  refine s_nil ?_
  refine k57 _ _ ?_
  refine w_seqk fun K70 k70 => ?_
  refine w_seqk fun K71 k71 => ?_
  refine w_reg (by kernel_rfl) ?_
  refine s_qk (.slice a48 n49 c50) (by kernel_rfl) ?_
  have u72 := ((m41.ext e62).fr e68 (hb63.djn m41.lt))
  refine s_ql (.int .i64 (y32.1.length : Int)) (x := aLen Tryd.prog 63 (.slice a48 n49 c50) H66) (by kernel_rfl) (u72.sq.lenb (by kernel_rfl)) ?_
  refine s_qk (.int .i64 0) (by kernel_rfl) ?_
  refine s_nil ?_
  refine k71 _ _ ?_
  obtain ⟨o73, hx74, r75⟩ := bind_some r56
  refine w_mid (fun α H76 => ∃ (s80 : Value) (f81 : Fp), Has α [(2, .pointer (some ⟨b19, 0, none⟩)), (6, .pointer (some ⟨b60, 0, none⟩))] ∧ FrS [b60] H66 H76 ∧ Ow enc_i64_i64_i64 3 H76 s80 o73 f81 ∧ Row H76 b60 [.int .i64 (Node.length : Int), s80] ∧ Inn [] H66 f81) (fun K85 k85 => ?_) (fun α H76 hM => ?_)
  ·refine w_block ?_
   obtain ⟨n87, hn88⟩ := loopO_iff.1 hx74
   refine w_loopn (fun n α H89 => ∃ (i0 : Int), ∃ (g1 : List (Int × Int × Int)), ∃ (s93 : Value), ∃ (f94 : Fp), iterO (fun zz_ => z_hier_Graph_l0 Node y32 zz_.1 zz_.2) n (i0, g1) = some o73 ∧ Has α [(1, .pointer (some ⟨b13, 0, none⟩)), (2, .pointer (some ⟨b19, 0, none⟩)), (6, .pointer (some ⟨b60, 0, none⟩)), (22, .slice a48 n49 c50), (23, .int .i64 (y32.1.length : Int)), (24, .int .i64 i0)] ∧ FrS [b60] H66 H89 ∧ Ow enc_i64_i64_i64 3 H89 s93 g1 f94 ∧ Row H89 b60 [.int .i64 (Node.length : Int), s93] ∧ Inn [] H66 f94) n87 ⟨0, [], (.slice none 0 0), [], hn88, ⟨by kernel_rfl, by kernel_rfl, by kernel_rfl, by kernel_rfl, by kernel_rfl, by kernel_rfl, trivial⟩, (FrS.refl (W := [b60]) e68.wf), (Ow.nil (by decide)), r69, Inn.nil⟩ ?_
   rintro n87 α H89 ⟨i0, g1, s93, f94, hi99, hh98, e90, m92, m96, i97⟩ K104 k104
   obtain ⟨n100, z101, rfl, hz102, hn103⟩ := iter_succ hi99
   obtain ⟨β, rfl⟩ := has_ex hh98
   clear hh98
   replace hz102 : z_hier_Graph_l0 Node y32 i0 g1 = some z101 := hz102
   unfold z_hier_Graph_l0 at hz102
   obtain ⟨a105, n106, c107, rfl⟩ := m92.form
   refine w_seqk fun K108 k108 => ?_
   refine w_reg (by kernel_rfl) ?_
   refine s_qk (.bool (decide (i0 < (y32.1.length : Int)))) (by kernel_rfl) ?_
   refine s_nil ?_
   refine k108 _ _ ?_
   refine w_seqk fun K109 k109 => ?_
   refine w_condp (i0 < (y32.1.length : Int)) (by kernel_rfl) rfl (fun h110 => ?_) (fun h110 => ?_)
   ·have r111 := ite_t h110 hz102
    refine w_skip ?_
    refine k109 _ _ ?_
    refine w_seqk fun K112 k112 => ?_
    refine w_block ?_
    refine w_seqk fun K113 k113 => ?_
    refine w_reg (by kernel_rfl) ?_
    obtain ⟨g114, r115⟩ := G_some r111
    have u116 := (u72.fr e90 (hb63.djn m41.lt))
    refine s_ql (elp (.slice a48 n49 c50) 7 i0.toNat 0) (x := aIndexAddr Tryd.prog 63 (.slice a48 n49 c50) (.int .i64 i0)) (by kernel_rfl) (u116.sq.idxb (by kernel_rfl) g114 h110) ?_
    refine s_ql (.agg #[.int .u32 ((gt y32.1 i0).1), .int .u64 ((gt y32.1 i0).2.1), .int .u32 ((gt y32.1 i0).2.2.1), .int .u32 ((gt y32.1 i0).2.2.2.1), .int .i64 ((gt y32.1 i0).2.2.2.2.1), .int .i64 ((gt y32.1 i0).2.2.2.2.2.1), .int .i64 ((gt y32.1 i0).2.2.2.2.2.2)]) (x := aLoad Tryd.prog 67 (elp (.slice a48 n49 c50) 7 i0.toNat 0) H89) (by kernel_rfl) (u116.sq.ld g114 h110 (by kernel_rfl)) ?_
    refine s_rwk e90.wf [.int .u32 0, .int .u64 0, .int .u32 0, .int .u32 0, .int .i64 0, .int .i64 0, .int .i64 0] (by kernel_rfl) fun b117 H118 e119 hb120 r121 => ?_
    obtain ⟨H123, q124, e125, r126⟩ := Row.store (P := Tryd.prog) (t := 67) (p := 0) e119.wf r121 (.agg #[.int .u32 ((gt y32.1 i0).1), .int .u64 ((gt y32.1 i0).2.1), .int .u32 ((gt y32.1 i0).2.2.1), .int .u32 ((gt y32.1 i0).2.2.2.1), .int .i64 ((gt y32.1 i0).2.2.2.2.1), .int .i64 ((gt y32.1 i0).2.2.2.2.2.1), .int .i64 ((gt y32.1 i0).2.2.2.2.2.2)]) [.int .u32 ((gt y32.1 i0).1), .int .u64 ((gt y32.1 i0).2.1), .int .u32 ((gt y32.1 i0).2.2.1), .int .u32 ((gt y32.1 i0).2.2.2.1), .int .i64 ((gt y32.1 i0).2.2.2.2.1), .int .i64 ((gt y32.1 i0).2.2.2.2.2.1), .int .i64 ((gt y32.1 i0).2.2.2.2.2.2)] (by kernel_rfl) (by kernel_rfl) (one_cons (rfl) (one_cons (rfl) (one_cons (rfl) (one_cons (rfl) (one_cons (rfl) (one_cons (rfl) (one_cons (rfl) (one_nil)))))))) (Nat.le_of_ble_eq_true (by kernel_rfl)) [.int .u32 ((gt y32.1 i0).1), .int .u64 ((gt y32.1 i0).2.1), .int .u32 ((gt y32.1 i0).2.2.1), .int .u32 ((gt y32.1 i0).2.2.2.1), .int .i64 ((gt y32.1 i0).2.2.2.2.1), .int .i64 ((gt y32.1 i0).2.2.2.2.2.1), .int .i64 ((gt y32.1 i0).2.2.2.2.2.2)] (by kernel_rfl)
    refine s_ek (undef) (by kernel_rfl) (map_ok q124) ?_
    refine s_nil ?_
    refine k113 _ _ ?_
    refine w_seqk fun K127 k127 => ?_
    refine w_reg (by kernel_rfl) ?_
    refine s_qk (.pointer (some ⟨b117, 0, none⟩)) (by kernel_rfl) ?_
    refine s_ql (.agg #[.int .u32 ((gt y32.1 i0).1), .int .u64 ((gt y32.1 i0).2.1), .int .u32 ((gt y32.1 i0).2.2.1), .int .u32 ((gt y32.1 i0).2.2.2.1)]) (x := aLoad Tryd.prog 36 (.pointer (some ⟨b117, 0, none⟩)) H123) (by kernel_rfl) (r126.ld (by kernel_rfl)) ?_
    obtain ⟨y128, hy129, r130⟩ := bind_some r115
    refine s_ck 27 #[.agg #[.int .u32 ((gt y32.1 i0).1), .int .u64 ((gt y32.1 i0).2.1), .int .u32 ((gt y32.1 i0).2.2.1), .int .u32 ((gt y32.1 i0).2.2.2.1)]] (by kernel_rfl) (c_hier_plain e125.wf hy129) ?_
    rintro _ H131 ⟨rfl, e132⟩
    refine s_nil ?_
    refine k127 _ _ ?_
    refine w_cond (y128) (by kernel_rfl) rfl (fun h133 => ?_) (fun h133 => ?_)
    ·have r134 := ite_t h133 r130
     refine w_draw [0, 1, 2, 3, 4, 5, 6, 7, 8, 9, 10, 11, 12, 13, 14, 15, 16, 17, 18, 19, 20, 21, 22, 23, 24] (by kernel_rfl) ?_
     refine d_qk (.pointer (some ⟨b60, 1, none⟩)) (by kernel_rfl) ?_
     have u135 := (((m96.ext e119).frS e125 (hb120.djn (r64.ltF.le (ntr e68.next e90.next)))).frS e132 Dj.nil_l)
     refine d_ql (.slice a105 n106 c107) (x := aLoad Tryd.prog 53 (.pointer (some ⟨b60, 1, none⟩)) H131) (by kernel_rfl) (u135.ld (by kernel_rfl)) ?_
     refine d_qk (.pointer (some ⟨b13, 0, none⟩)) (by kernel_rfl) ?_
     have u136 := ((((((u58.ext e62).frS e68 (hb63.djn (r17.ltF.le (ntr e21.next e40.next)))).frS e90 (hb63.djn (r17.ltF.le (ntr e21.next e40.next)))).ext e119).frS e125 (hb120.djn (r17.ltF.le (ntr (ntr (ntr (ntr e21.next e40.next) e62.next) e68.next) e90.next)))).frS e132 Dj.nil_l)
     refine d_ql (hd_Node) (x := aLoad Tryd.prog 28 (.pointer (some ⟨b13, 0, none⟩)) H131) (by kernel_rfl) (u136.ld (by kernel_rfl)) ?_
     refine d_qk (.pointer (some ⟨b117, 4, none⟩)) (by kernel_rfl) ?_
     have u137 := (r126.frS e132 Dj.nil_l)
     refine d_ql (.int .i64 ((gt y32.1 i0).2.2.2.2.1)) (x := aLoad Tryd.prog 3 (.pointer (some ⟨b117, 4, none⟩)) H131) (by kernel_rfl) (u137.ld (by kernel_rfl)) ?_
     obtain ⟨g138, r139⟩ := G_some r134
     have u140 := ((((((u59.ext e62).fr e68 (hb63.djn (h_Node.lt.le (ntr (ntr e15.next e21.next) e40.next)))).fr e90 (hb63.djn (h_Node.lt.le (ntr (ntr e15.next e21.next) e40.next)))).ext e119).fr e125 (hb120.djn (h_Node.lt.le (ntr (ntr (ntr (ntr (ntr e15.next e21.next) e40.next) e62.next) e68.next) e90.next)))).fr e132 Dj.nil_l)
     refine d_ql (elp hd_Node 1 ((gt y32.1 i0).2.2.2.2.1).toNat 0) (x := aIndexAddr Tryd.prog 28 hd_Node (.int .i64 ((gt y32.1 i0).2.2.2.2.1))) (by kernel_rfl) (u140.idxb (by kernel_rfl) g138.1 g138.2) ?_
     refine d_ql (.int .u32 (gt Node ((gt y32.1 i0).2.2.2.2.1))) (x := aLoad Tryd.prog 34 (elp hd_Node 1 ((gt y32.1 i0).2.2.2.2.1).toNat 0) H131) (by kernel_rfl) (u140.ld g138.1 g138.2 (by kernel_rfl)) ?_
     obtain ⟨g141, r142⟩ := G_some r139
     refine d_w ((gt Node ((gt y32.1 i0).2.2.2.2.1))) (k := .i64) (x := (gt Node ((gt y32.1 i0).2.2.2.2.1))) (by kernel_rfl) (wrap64 g141) ?_
     refine d_qk (.pointer (some ⟨b13, 0, none⟩)) (by kernel_rfl) ?_
     refine d_ql (hd_Node) (x := aLoad Tryd.prog 28 (.pointer (some ⟨b13, 0, none⟩)) H131) (by kernel_rfl) (u136.ld (by kernel_rfl)) ?_
     refine d_qk (.pointer (some ⟨b117, 5, none⟩)) (by kernel_rfl) ?_
     refine d_ql (.int .i64 ((gt y32.1 i0).2.2.2.2.2.1)) (x := aLoad Tryd.prog 3 (.pointer (some ⟨b117, 5, none⟩)) H131) (by kernel_rfl) (u137.ld (by kernel_rfl)) ?_
     obtain ⟨g143, r144⟩ := G_some r142
     refine d_ql (elp hd_Node 1 ((gt y32.1 i0).2.2.2.2.2.1).toNat 0) (x := aIndexAddr Tryd.prog 28 hd_Node (.int .i64 ((gt y32.1 i0).2.2.2.2.2.1))) (by kernel_rfl) (u140.idxb (by kernel_rfl) g143.1 g143.2) ?_
     refine d_ql (.int .u32 (gt Node ((gt y32.1 i0).2.2.2.2.2.1))) (x := aLoad Tryd.prog 34 (elp hd_Node 1 ((gt y32.1 i0).2.2.2.2.2.1).toNat 0) H131) (by kernel_rfl) (u140.ld g143.1 g143.2 (by kernel_rfl)) ?_
     obtain ⟨g145, r146⟩ := G_some r144
     refine d_w ((gt Node ((gt y32.1 i0).2.2.2.2.2.1))) (k := .i64) (x := (gt Node ((gt y32.1 i0).2.2.2.2.2.1))) (by kernel_rfl) (wrap64 g145) ?_
     refine d_qk (.pointer (some ⟨b117, 0, none⟩)) (by kernel_rfl) ?_
     refine d_qk (.pointer (some ⟨b117, 1, none⟩)) (by kernel_rfl) ?_
     refine d_ql (.int .u64 ((gt y32.1 i0).2.1)) (x := aLoad Tryd.prog 33 (.pointer (some ⟨b117, 1, none⟩)) H131) (by kernel_rfl) (u137.ld (by kernel_rfl)) ?_
     obtain ⟨g147, r148⟩ := G_some r146
     refine d_w ((gt y32.1 i0).2.1) (k := .i64) (x := (gt y32.1 i0).2.1) (by kernel_rfl) (wrap64 g147) ?_
     refine d_qk (.agg #[.int .i64 (gt Node ((gt y32.1 i0).2.2.2.2.1)), .int .i64 (gt Node ((gt y32.1 i0).2.2.2.2.2.1)), .int .i64 ((gt y32.1 i0).2.1)]) (by kernel_rfl) ?_
     refine d_owk (enc := enc_i64_i64_i64) (sz := 3) e132.wf [((gt Node ((gt y32.1 i0).2.2.2.2.1)), (gt Node ((gt y32.1 i0).2.2.2.2.2.1)), (gt y32.1 i0).2.1)] 1 (by decide) (fun _ _ => rfl) (fun _ _ => rfl) rfl (by kernel_rfl) fun s149 f150 H151 e152 hf153 hm154 => ?_
     obtain ⟨a155, n156, c157, rfl⟩ := hm154.form
     have u159 := ((((m92.ext e119).fr e125 (hb120.djn m92.lt)).fr e132 Dj.nil_l).ext e152)
     obtain ⟨g160, r161⟩ := G_some r148
     obtain ⟨s162, H163, f164, q168, e165, hm166, hf167⟩ := Ow.append (P := Tryd.prog) 24 e152.wf u159 hm154.sq (fun _ _ => rfl) (at_ := #[53, 53]) rfl rfl (by kernel_rfl) (by kernel_rfl) (by decide) (by have := g160; first | omega | (simp only [List.length_cons, List.length_nil] at this ⊢; omega) | (simp at this ⊢; omega))
     obtain ⟨a169, n170, c171, rfl⟩ := hm166.form
     refine d_ek (.slice a169 n170 c171) (by kernel_rfl) (q168) (st_nil) ?_
     refine d_qk (.pointer (some ⟨b60, 1, none⟩)) (by kernel_rfl) ?_
     have u177 := ((u135.ext e152).frS e165 (i97.djn (r64.ltF.le e68.next)))
     obtain ⟨H173, q174, e175, r176⟩ := Row.store (P := Tryd.prog) (t := 53) (p := 1) e165.wf u177 (.slice a169 n170 c171) [.slice a169 n170 c171] (by kernel_rfl) (by kernel_rfl) (one_cons (hm166.one1) (one_nil)) (Nat.le_of_ble_eq_true (by kernel_rfl)) [.int .i64 (Node.length : Int), .slice a169 n170 c171] (by kernel_rfl)
     refine d_ek (undef) (by kernel_rfl) (map_ok q174) (st_nil) ?_
     refine d_nil ?_
     refine k112 _ _ ?_
     refine w_reg (by kernel_rfl) ?_
     obtain ⟨g178, r179⟩ := G_some r161
     refine s_w ((i0 + 1)) (k := .i64) (x := (i0 + 1)) (by kernel_rfl) (wrap64 (by have := g178; omega)) ?_
     refine s_qk (.int .i64 (i0 + 1)) (by kernel_rfl) ?_
     refine s_nil ?_
     have u180 := (hm166.fr e175 (Dj.symm (hf167.dj (i97.djn (r64.ltF.le e68.next)) (r64.ltF.le (ntr (ntr (ntr (ntr (ntr e68.next e90.next) e119.next) e125.next) e132.next) e152.next)))))
     obtain rfl := Option.some.inj r179
     exact k104 n100 _ _ (Nat.lt_succ_self _) ⟨(i0 + 1), (g1 ++ [((gt Node ((gt y32.1 i0).2.2.2.2.1)), (gt Node ((gt y32.1 i0).2.2.2.2.2.1)), (gt y32.1 i0).2.1)]), (.slice a169 n170 c171), f164, hn103, ⟨by kernel_rfl, by kernel_rfl, by kernel_rfl, by kernel_rfl, by kernel_rfl, by kernel_rfl, trivial⟩, (FrS.step e68.wf (FrS.step e68.wf ((FrS.step e68.wf (FrS.step e68.wf ((FrS.step e68.wf (FrS.refl (W := [b60]) e68.wf) e90 Inn.refl').extR e119) e125 (hb120.fresh e90.next)) e132 Inn.nil).extR e152) e165 (i97.fresh (Nat.le_refl _))) e175 Inn.refl'), u180, r176, (Inn.trans (i97.fresh (Nat.le_refl _)) (ntr (ntr (ntr (ntr e90.next e119.next) e125.next) e132.next) e152.next) hf167)⟩
    ·have r181 := ite_bf h133 r130
     refine w_skip ?_
     refine k112 _ _ ?_
     refine w_reg (by kernel_rfl) ?_
     obtain ⟨g182, r183⟩ := G_some r181
     refine s_w ((i0 + 1)) (k := .i64) (x := (i0 + 1)) (by kernel_rfl) (wrap64 (by have := g182; omega)) ?_
     refine s_qk (.int .i64 (i0 + 1)) (by kernel_rfl) ?_
     refine s_nil ?_
     have u184 := (((m92.ext e119).fr e125 (hb120.djn m92.lt)).fr e132 Dj.nil_l)
     have u185 := (((m96.ext e119).frS e125 (hb120.djn (r64.ltF.le (ntr e68.next e90.next)))).frS e132 Dj.nil_l)
     obtain rfl := Option.some.inj r183
     exact k104 n100 _ _ (Nat.lt_succ_self _) ⟨(i0 + 1), g1, (.slice a105 n106 c107), f94, hn103, ⟨by kernel_rfl, by kernel_rfl, by kernel_rfl, by kernel_rfl, by kernel_rfl, by kernel_rfl, trivial⟩, (FrS.step e68.wf (FrS.step e68.wf ((FrS.step e68.wf (FrS.refl (W := [b60]) e68.wf) e90 Inn.refl').extR e119) e125 (hb120.fresh e90.next)) e132 Inn.nil), u184, u185, (i97.fresh (Nat.le_refl _))⟩
   ·have r186 := ite_f h110 hz102
    refine w_exit (th_exit (th_exit (bl_eq ?_)))
    obtain rfl := Option.some.inj r186
    obtain rfl := it_inr hn103
    exact k85 _ _ ⟨(.slice a105 n106 c107), f94, ⟨by kernel_rfl, by kernel_rfl, trivial⟩, (FrS.step e68.wf (FrS.refl (W := [b60]) e68.wf) e90 Inn.refl'), m92, m96, (i97.fresh (Nat.le_refl _))⟩
  ·obtain ⟨s80, f81, hh86, e77, m79, m83, i84⟩ := hM
   obtain ⟨β, rfl⟩ := has_ex hh86
   clear hh86
   obtain ⟨a187, n188, c189, rfl⟩ := m79.form
   refine k70 _ _ ?_
   refine w_seqk fun K190 k190 => ?_
   refine w_reg (by kernel_rfl) ?_
   refine s_qk (.pointer (some ⟨b60, 1, none⟩)) (by kernel_rfl) ?_
   refine s_ql (.slice a187 n188 c189) (x := aLoad Tryd.prog 53 (.pointer (some ⟨b60, 1, none⟩)) H76) (by kernel_rfl) (m83.ld (by kernel_rfl)) ?_
   obtain ⟨g191, r192⟩ := G_some r75
   obtain ⟨y193, hy194, r195⟩ := bind_some r192
   refine s_ck 28 #[.slice a187 n188 c189, .func (.func 29) #[] #[]] (by kernel_rfl) (a_sortO (enc := enc_i64_i64_i64) (fun _ => rfl) (by intro x v hv; simp only [enc_i64_i64_i64, List.mem_cons, List.not_mem_nil, or_false] at hv; rcases hv with rfl | rfl | rfl <;> rfl) (by intro x v hv; simp only [enc_i64_i64_i64, List.mem_cons, List.not_mem_nil, or_false] at hv; rcases hv with rfl | rfl | rfl <;> rfl) (c := (fun (a_ b_ : Int × Int × Int) => z_hier_Graph_1 a_.1 a_.2.1 a_.2.2 b_.1 b_.2.1 b_.2.2)) (Go.Proofs.enters_of Tryd.func29 (by kernel_rfl) rfl) (fun x y r hr => (c_hier_Graph_1 aNil_wf hr).mono fun v H' h => h.1) e77.wf m79 g191 hy194) ?_
   rintro _ H196 ⟨rfl, e197, hm198⟩
   refine s_nil ?_
   refine k190 _ _ ?_
   refine w_seqk fun K199 k199 => ?_
   refine w_reg (by kernel_rfl) ?_
   have u200 := (m83.frS e197 (i84.djn (r64.ltF.le e68.next)))
   refine s_ql (.agg #[.int .i64 (Node.length : Int), .slice a187 n188 c189]) (x := aLoad Tryd.prog 55 (.pointer (some ⟨b60, 0, none⟩)) H196) (by kernel_rfl) (u200.ld (by kernel_rfl)) ?_
   have u205 := (((((r23.frS e40 Dj.nil_l).ext e62).frS e68 (hb63.djn (r23.ltF.le e40.next))).frS e77 (hb63.djn (r23.ltF.le e40.next))).frS e197 (i84.djn (r23.ltF.le (ntr (ntr e40.next e62.next) e68.next))))
   obtain ⟨H201, q202, e203, r204⟩ := Row.store (P := Tryd.prog) (t := 55) (p := 0) e197.wf u205 (.agg #[.int .i64 (Node.length : Int), .slice a187 n188 c189]) [.int .i64 (Node.length : Int), .slice a187 n188 c189] (by kernel_rfl) (by kernel_rfl) (one_cons (rfl) (one_cons (hm198.one1) (one_nil))) (Nat.le_of_ble_eq_true (by kernel_rfl)) [.int .i64 (Node.length : Int), .slice a187 n188 c189] (by kernel_rfl)
   refine s_ek (undef) (by kernel_rfl) (map_ok q202) ?_
   refine s_qk (.nilIface) (by kernel_rfl) ?_
   refine s_nil ?_
   refine k199 _ _ ?_
   refine w_ret ?_
   refine b_ret (fn := Tryd.f16) (vs := [.agg #[.int .i64 (Node.length : Int), .slice a187 n188 c189], .nilIface]) (aRes_cell (Eq.trans (b := aLoad Tryd.prog 55 (.pointer (some ⟨b19, 0, none⟩)) H201) (by kernel_rfl) (r204.ld (by kernel_rfl))) (aRes_tmp (by kernel_rfl) (rfl))) ?_
   have u206 := (hm198.fr e203 (Dj.symm (i84.djn (r23.ltF.le (ntr (ntr e40.next e62.next) e68.next)))))
   obtain rfl := Option.some.inj r195
   exact ⟨(.slice a187 n188 c189), f81, (.nilIface), [], rfl, (FrS.step wf (FrS.step wf (FrS.step wf (FrS.step wf ((FrS.step wf (((FrS.refl (W := []) wf).extR e15).extR e21) e40 Inn.nil).extR e62) e68 (hb63.fresh (ntr (ntr e15.next e21.next) e40.next))) e77 (hb63.fresh (ntr (ntr e15.next e21.next) e40.next))) e197 (i84.fresh (ntr (ntr (ntr (ntr e15.next e21.next) e40.next) e62.next) e68.next))) e203 (hb22.fresh e15.next)), u206, Ev.nil, (i84.fresh (ntr (ntr (ntr (ntr e15.next e21.next) e40.next) e62.next) e68.next)), Inn.nil, Dj.nil_r⟩
 ·have r207 := ite_f h53 r34
  refine s_ql (.bool true) (x := aBin Tryd.prog .neq 41 (.tmp 14) (.const .nilIface) (.iface t54 x55) .nilIface) (by kernel_rfl) (aBin_nnil (by kernel_rfl)) ?_
  refine s_nil ?_
  refine k52 _ _ ?_
  refine w_cond true (by kernel_rfl) rfl (fun _ => ?_) (fun h => by cases h)
  refine w_seqk fun K208 k208 => ?_
  refine w_reg (by kernel_rfl) ?_
  refine s_qk (.agg #[.int .i64 0, .slice none 0 0]) (by kernel_rfl) ?_
  refine s_qk (.iface t54 x55) (by kernel_rfl) ?_
  have u213 := (r23.frS e40 Dj.nil_l)
  obtain ⟨H209, q210, e211, r212⟩ := Row.store (P := Tryd.prog) (t := 55) (p := 0) e40.wf u213 (.agg #[.int .i64 0, .slice none 0 0]) [.int .i64 0, .slice none 0 0] (by kernel_rfl) (by kernel_rfl) (one_cons (rfl) (one_cons (rfl) (one_nil))) (Nat.le_of_ble_eq_true (by kernel_rfl)) [.int .i64 0, .slice none 0 0] (by kernel_rfl)
  refine s_ek (undef) (by kernel_rfl) (map_ok q210) ?_
  refine s_qk (.iface t54 x55) (by kernel_rfl) ?_
  refine s_nil ?_
  refine k208 _ _ ?_
  refine w_ret (th_ret ?_)
  refine b_ret (fn := Tryd.f16) (vs := [.agg #[.int .i64 0, .slice none 0 0], .iface t54 x55]) (aRes_cell (Eq.trans (b := aLoad Tryd.prog 55 (.pointer (some ⟨b19, 0, none⟩)) H209) (by kernel_rfl) (r212.ld (by kernel_rfl))) (aRes_tmp (by kernel_rfl) (rfl))) ?_
  have u214 := (m42.fr e211 (Dj.symm (i44.djn r23.ltF)))
  obtain rfl := Option.some.inj r207
  exact ⟨(.slice none 0 0), [], (.iface t54 x55), f38, rfl, (FrS.step wf (FrS.step wf (((FrS.refl (W := []) wf).extR e15).extR e21) e40 Inn.nil) e211 (hb22.fresh e15.next)), (Ow.nil (by decide)), u214, Inn.nil, (i44.fresh (ntr e15.next e21.next)), Dj.nil_l⟩

theorem c_hier_Ends {H : AH} {hd_Node : Value} {fp_Node : Fp} {hd_UpFirst : Value} {fp_UpFirst : Fp} {hd_Up : Value} {fp_Up : Fp} {hd_DownFirst : Value} {fp_DownFirst : Fp} {hd_Down : Value} {fp_Down : Fp} {Node : List (Int)} {UpFirst : List (Int)} {Up : List (Int × Int × Int × Int)} {DownFirst : List (Int)} {Down : List (Int × Int × Int × Int)} {i : Int} {r : Int × Int × Er}
  (wf : WF H) (h_Node : Sq (encI .u32) 1 H hd_Node Node fp_Node) (h_UpFirst : Sq (encI .u32) 1 H hd_UpFirst UpFirst fp_UpFirst) (h_Up : Sq enc_u32_u64_u32_u32 4 H hd_Up Up fp_Up) (h_DownFirst : Sq (encI .u32) 1 H hd_DownFirst DownFirst fp_DownFirst) (h_Down : Sq enc_u32_u64_u32_u32 4 H hd_Down Down fp_Down) (hr : z_hier_Ends Node UpFirst Up DownFirst Down i = some r) :
  ACalls Tryd.prog 10 #[.agg #[hd_Node, hd_UpFirst, hd_Up, hd_DownFirst, hd_Down], .int .i64 i] H fun v H' => ∃ (v3 : Value) (f4 : Fp), v = .tuple #[.int .i64 r.1, .int .i64 r.2.1, v3] ∧ FrS [] H H' ∧ Ev 27 71 H' v3 r.2.2 f4 ∧ Inn [] H f4 := by
 refine acalls_of_body mixed Tryd.func10 rfl (Nat.le_of_ble_eq_true rfl) ?_
 unfold z_hier_Ends at hr
 refine w_seqk fun K6 k6 => ?_
 refine w_reg (by kernel_rfl) ?_
 refine s_rwl wf [hd_Node, hd_UpFirst, hd_Up, hd_DownFirst, hd_Down] (one_cons (h_Node.one1) (one_cons (h_UpFirst.one1) (one_cons (h_Up.one1) (one_cons (h_DownFirst.one1) (one_cons (h_Down.one1) (one_nil)))))) (by kernel_rfl) fun b7 H8 e9 hb10 r11 => ?_
 refine s_qk (.int .i64 0) (by kernel_rfl) ?_
 refine s_qk (.int .i64 0) (by kernel_rfl) ?_
 refine s_qk (.nilIface) (by kernel_rfl) ?_
 refine s_nil ?_
 refine k6 _ _ ?_
 refine w_seqk fun K13 k13 => ?_
 refine w_reg (by kernel_rfl) ?_
 refine s_ql (.agg #[hd_Node, hd_UpFirst, hd_Up, hd_DownFirst, hd_Down]) (x := aLoad Tryd.prog 31 (.pointer (some ⟨b7, 0, none⟩)) H8) (by kernel_rfl) (r11.ld (by kernel_rfl)) ?_
 have u14 := (h_Node.ext e9)
 have u15 := (h_UpFirst.ext e9)
 have u16 := (h_Up.ext e9)
 have u17 := (h_DownFirst.ext e9)
 have u18 := (h_Down.ext e9)
 obtain ⟨y19, hy20, r21⟩ := bind_some hr
 refine s_ck 18 #[.agg #[hd_Node, hd_UpFirst, hd_Up, hd_DownFirst, hd_Down]] (by kernel_rfl) (c_hier_ends e9.wf u14 u15 u16 u17 u18 hy20) ?_
 rintro _ H26 ⟨s22, f23, v24, f25, rfl, e27, m28, m29, i30, i31, d32⟩
 obtain ⟨a35, n36, c37, rfl⟩ := m28.form
 refine s_qk (.tuple #[.slice a35 n36 c37, v24]) (by kernel_rfl) ?_
 refine s_qk (.slice a35 n36 c37) (by kernel_rfl) ?_
 refine s_qk (v24) (by kernel_rfl) ?_
 refine s_qk (.slice a35 n36 c37) (by kernel_rfl) ?_
 refine s_qk (v24) (by kernel_rfl) ?_
 refine s_nil ?_
 refine k13 _ _ ?_
 refine w_seqk fun K38 k38 => ?_
 refine w_seqk fun K39 k39 => ?_
 refine w_reg (by kernel_rfl) ?_
 refine s_qk (v24) (by kernel_rfl) ?_
 rcases (m29).cases with ⟨h40, rfl⟩ | ⟨h40, t41, x42, rfl⟩
 ·have r43 := ite_t h40 r21
  refine s_qk (.bool false) (by kernel_rfl) ?_
  refine s_nil ?_
  refine k39 _ _ ?_
  refine w_cond false (by kernel_rfl) rfl (fun h => by cases h) (fun _ => ?_)
  refine w_skip ?_
  refine k38 _ _ ?_
  refine w_seqk fun K44 k44 => ?_
  refine w_seqk fun K45 k45 => ?_
  obtain ⟨o46, hx47, r48⟩ := bind_some r43
  refine w_mid (fun α H49 => Has α [(1, .int .i64 i), (7, .slice a35 n36 c37), (24, .bool o46)] ∧ H26 = H49) (fun K51 k51 => ?_) (fun α H49 hM => ?_)
  ·refine w_reg (by kernel_rfl) ?_
   refine s_qk (.int .i64 i) (by kernel_rfl) ?_
   refine s_b (i < 0) (by kernel_rfl) (fun h53 => ?_) (fun h53 => ?_)
   ·have r54 := ite_t h53 hx47
    refine s_qk (.bool true) (by kernel_rfl) ?_
    refine s_no (by kernel_rfl) ?_
    refine s_no (by kernel_rfl) ?_
    refine s_no (by kernel_rfl) ?_
    refine s_no (by kernel_rfl) ?_
    refine s_qk (.bool true) (by kernel_rfl) ?_
    refine s_nil ?_
    obtain rfl := Option.some.inj r54
    exact k51 _ _ ⟨⟨by kernel_rfl, by kernel_rfl, by kernel_rfl, trivial⟩, rfl⟩
   ·have r55 := ite_f h53 hx47
    refine s_qk (.bool false) (by kernel_rfl) ?_
    refine s_qk (.int .i64 i) (by kernel_rfl) ?_
    refine s_qk (.slice a35 n36 c37) (by kernel_rfl) ?_
    refine s_ql (.int .i64 (y19.1.length : Int)) (x := aLen Tryd.prog 63 (.slice a35 n36 c37) H26) (by kernel_rfl) (m28.sq.lenb (by kernel_rfl)) ?_
    refine s_qk (.bool (decide (i ≥ (y19.1.length : Int)))) (by kernel_rfl) ?_
    refine s_qk (.bool (decide (i ≥ (y19.1.length : Int)))) (by kernel_rfl) ?_
    refine s_nil ?_
    obtain rfl := Option.some.inj r55
    exact k51 _ _ ⟨⟨by kernel_rfl, by kernel_rfl, by kernel_rfl, trivial⟩, rfl⟩
  ·obtain ⟨hh52, rfl⟩ := hM
   obtain ⟨β, rfl⟩ := has_ex hh52
   clear hh52
   refine k45 _ _ ?_
   refine w_cond (o46) (by kernel_rfl) rfl (fun h56 => ?_) (fun h56 => ?_)
   ·have r57 := ite_t h56 r48
    refine w_seqk fun K58 k58 => ?_
    refine w_reg (by kernel_rfl) ?_
    refine s_qk (.iface 27 (.int .i64 1)) (by kernel_rfl) ?_
    refine s_qk (.int .i64 0) (by kernel_rfl) ?_
    refine s_qk (.int .i64 0) (by kernel_rfl) ?_
    refine s_qk (.iface 27 (.int .i64 1)) (by kernel_rfl) ?_
    refine s_nil ?_
    refine k58 _ _ ?_
    refine w_ret (th_ret ?_)
    refine b_ret (fn := Tryd.f10) (vs := [.int .i64 0, .int .i64 0, .iface 27 (.int .i64 1)]) (aRes_tmp (by kernel_rfl) (aRes_tmp (by kernel_rfl) (aRes_tmp (by kernel_rfl) (rfl)))) ?_
    obtain rfl := Option.some.inj r57
    exact ⟨(.iface 27 (.int .i64 1)), [], rfl, (FrS.step wf ((FrS.refl (W := []) wf).extR e9) e27 Inn.nil), Ev.no, Inn.nil⟩
   ·have r59 := ite_bf h56 r48
    refine w_skip ?_
    refine k44 _ _ ?_
    refine w_seqk fun K60 k60 => ?_
    refine w_draw [0, 1, 2, 3, 4, 5, 6, 7, 8, 9, 10, 11, 12] (by kernel_rfl) ?_
    refine d_qk (.slice a35 n36 c37) (by kernel_rfl) ?_
    refine d_qk (.int .i64 i) (by kernel_rfl) ?_
    obtain ⟨g61, r62⟩ := G_some r59
    refine d_ql (elp (.slice a35 n36 c37) 7 i.toNat 0) (x := aIndexAddr Tryd.prog 63 (.slice a35 n36 c37) (.int .i64 i)) (by kernel_rfl) (m28.sq.idxb (by kernel_rfl) g61.1 g61.2) ?_
    refine d_ql (elp (.slice a35 n36 c37) 7 i.toNat 4) (x := aFieldAddr Tryd.prog 67 (elp (.slice a35 n36 c37) 7 i.toNat 0) 1) (by kernel_rfl) (Sq.fldq (d := 4) m28.sq g61.1 g61.2 (by kernel_rfl)) ?_
    refine d_ql (.int .i64 ((gt y19.1 i).2.2.2.2.1)) (x := aLoad Tryd.prog 3 (elp (.slice a35 n36 c37) 7 i.toNat 4) H26) (by kernel_rfl) (m28.sq.ld g61.1 g61.2 (by kernel_rfl)) ?_
    refine d_qk (.slice a35 n36 c37) (by kernel_rfl) ?_
    refine d_qk (.int .i64 i) (by kernel_rfl) ?_
    refine d_ql (elp (.slice a35 n36 c37) 7 i.toNat 0) (x := aIndexAddr Tryd.prog 63 (.slice a35 n36 c37) (.int .i64 i)) (by kernel_rfl) (m28.sq.idxb (by kernel_rfl) g61.1 g61.2) ?_
    refine d_ql (elp (.slice a35 n36 c37) 7 i.toNat 5) (x := aFieldAddr Tryd.prog 67 (elp (.slice a35 n36 c37) 7 i.toNat 0) 2) (by kernel_rfl) (Sq.fldq (d := 5) m28.sq g61.1 g61.2 (by kernel_rfl)) ?_
    refine d_ql (.int .i64 ((gt y19.1 i).2.2.2.2.2.1)) (x := aLoad Tryd.prog 3 (elp (.slice a35 n36 c37) 7 i.toNat 5) H26) (by kernel_rfl) (m28.sq.ld g61.1 g61.2 (by kernel_rfl)) ?_
    refine d_qk (.int .i64 ((gt y19.1 i).2.2.2.2.1)) (by kernel_rfl) ?_
    refine d_qk (.int .i64 ((gt y19.1 i).2.2.2.2.2.1)) (by kernel_rfl) ?_
    refine d_qk (.nilIface) (by kernel_rfl) ?_
    refine d_nil ?_
    refine k60 _ _ ?_
    refine w_ret ?_
    refine b_ret (fn := Tryd.f10) (vs := [.int .i64 ((gt y19.1 i).2.2.2.2.1), .int .i64 ((gt y19.1 i).2.2.2.2.2.1), .nilIface]) (aRes_tmp (by kernel_rfl) (aRes_tmp (by kernel_rfl) (aRes_tmp (by kernel_rfl) (rfl)))) ?_
    obtain rfl := Option.some.inj r62
    exact ⟨(.nilIface), [], rfl, (FrS.step wf ((FrS.refl (W := []) wf).extR e9) e27 Inn.nil), Ev.nil, Inn.nil⟩
 ·have r63 := ite_f h40 r21
  refine s_ql (.bool true) (x := aBin Tryd.prog .neq 41 (.tmp 14) (.const .nilIface) (.iface t41 x42) .nilIface) (by kernel_rfl) (aBin_nnil (by kernel_rfl)) ?_
  refine s_nil ?_
  refine k39 _ _ ?_
  refine w_cond true (by kernel_rfl) rfl (fun _ => ?_) (fun h => by cases h)
  refine w_seqk fun K64 k64 => ?_
  refine w_reg (by kernel_rfl) ?_
  refine s_qk (.iface t41 x42) (by kernel_rfl) ?_
  refine s_qk (.int .i64 0) (by kernel_rfl) ?_
  refine s_qk (.int .i64 0) (by kernel_rfl) ?_
  refine s_qk (.iface t41 x42) (by kernel_rfl) ?_
  refine s_nil ?_
  refine k64 _ _ ?_
  refine w_ret (th_ret ?_)
  refine b_ret (fn := Tryd.f10) (vs := [.int .i64 0, .int .i64 0, .iface t41 x42]) (aRes_tmp (by kernel_rfl) (aRes_tmp (by kernel_rfl) (aRes_tmp (by kernel_rfl) (rfl)))) ?_
  obtain rfl := Option.some.inj r63
  exact ⟨(.iface t41 x42), f25, rfl, (FrS.step wf ((FrS.refl (W := []) wf).extR e9) e27 Inn.nil), m29, (i31.fresh e9.next)⟩

theorem c_hier_Check {H : AH} {hd_Node : Value} {fp_Node : Fp} {hd_UpFirst : Value} {fp_UpFirst : Fp} {hd_Up : Value} {fp_Up : Fp} {hd_DownFirst : Value} {fp_DownFirst : Fp} {hd_Down : Value} {fp_Down : Fp} {Node : List (Int)} {UpFirst : List (Int)} {Up : List (Int × Int × Int × Int)} {DownFirst : List (Int)} {Down : List (Int × Int × Int × Int)} {r : Er}
  (wf : WF H) (h_Node : Sq (encI .u32) 1 H hd_Node Node fp_Node) (h_UpFirst : Sq (encI .u32) 1 H hd_UpFirst UpFirst fp_UpFirst) (h_Up : Sq enc_u32_u64_u32_u32 4 H hd_Up Up fp_Up) (h_DownFirst : Sq (encI .u32) 1 H hd_DownFirst DownFirst fp_DownFirst) (h_Down : Sq enc_u32_u64_u32_u32 4 H hd_Down Down fp_Down) (hr : z_hier_Check Node UpFirst Up DownFirst Down = some r) :
  ACalls Tryd.prog 9 #[.agg #[hd_Node, hd_UpFirst, hd_Up, hd_DownFirst, hd_Down]] H fun v H' => ∃ (v3 : Value) (f4 : Fp), v = v3 ∧ FrS [] H H' ∧ Ev 27 71 H' v3 r f4 ∧ Inn [] H f4 := by
 refine acalls_of_body mixed Tryd.func9 rfl (Nat.le_of_ble_eq_true rfl) ?_
 unfold z_hier_Check at hr
 refine w_seqk fun K6 k6 => ?_
 refine w_reg (by kernel_rfl) ?_
 refine s_rwl wf [hd_Node, hd_UpFirst, hd_Up, hd_DownFirst, hd_Down] (one_cons (h_Node.one1) (one_cons (h_UpFirst.one1) (one_cons (h_Up.one1) (one_cons (h_DownFirst.one1) (one_cons (h_Down.one1) (one_nil)))))) (by kernel_rfl) fun b7 H8 e9 hb10 r11 => ?_
 refine s_qk (.nilIface) (by kernel_rfl) ?_
 refine s_nil ?_
 refine k6 _ _ ?_
 refine w_seqk fun K13 k13 => ?_
 refine w_reg (by kernel_rfl) ?_
 refine s_ql (.agg #[hd_Node, hd_UpFirst, hd_Up, hd_DownFirst, hd_Down]) (x := aLoad Tryd.prog 31 (.pointer (some ⟨b7, 0, none⟩)) H8) (by kernel_rfl) (r11.ld (by kernel_rfl)) ?_
 have u14 := (h_Node.ext e9)
 have u15 := (h_UpFirst.ext e9)
 have u16 := (h_Up.ext e9)
 have u17 := (h_DownFirst.ext e9)
 have u18 := (h_Down.ext e9)
 obtain ⟨y19, hy20, r21⟩ := bind_some hr
 refine s_ck 18 #[.agg #[hd_Node, hd_UpFirst, hd_Up, hd_DownFirst, hd_Down]] (by kernel_rfl) (c_hier_ends e9.wf u14 u15 u16 u17 u18 hy20) ?_
 rintro _ H26 ⟨s22, f23, v24, f25, rfl, e27, m28, m29, i30, i31, d32⟩
 obtain ⟨a35, n36, c37, rfl⟩ := m28.form
 refine s_qk (.tuple #[.slice a35 n36 c37, v24]) (by kernel_rfl) ?_
 refine s_qk (.slice a35 n36 c37) (by kernel_rfl) ?_
 refine s_qk (v24) (by kernel_rfl) ?_
 refine s_qk (.slice a35 n36 c37) (by kernel_rfl) ?_
 refine s_qk (v24) (by kernel_rfl) ?_
 refine s_nil ?_
 refine k13 _ _ ?_
 refine w_seqk fun K38 k38 => ?_
 refine w_reg (by kernel_rfl) ?_
 refine s_qk (v24) (by kernel_rfl) ?_
 refine s_qk (v24) (by kernel_rfl) ?_
 refine s_nil ?_
 refine k38 _ _ ?_
 refine w_ret ?_
 refine b_ret (fn := Tryd.f9) (vs := [v24]) (aRes_tmp (by kernel_rfl) (rfl)) ?_
 obtain rfl := Option.some.inj r21
 exact ⟨(v24), f25, rfl, (FrS.step wf ((FrS.refl (W := []) wf).extR e9) e27 Inn.nil), m29, (i31.fresh e9.next)⟩

theorem c_viaductref03_SameArcs {H : AH} {hd_a : Value} {fp_a : Fp} {hd_b : Value} {fp_b : Fp} {a : List (Int × Int × Int)} {b : List (Int × Int × Int)} {r : Bool}
  (wf : WF H) (h_a : Sq enc_i64_i64_i64 3 H hd_a a fp_a) (h_b : Sq enc_i64_i64_i64 3 H hd_b b fp_b) (hr : z_viaductref03_SameArcs a b = some r) :
  ACalls Tryd.prog 30 #[hd_a, hd_b] H fun v H' => v = .bool r ∧ H = H' := by
 refine acalls_of_body mixed Tryd.func30 rfl (Nat.le_of_ble_eq_true rfl) ?_
 unfold z_viaductref03_SameArcs at hr
 refine w_seqk fun K1 k1 => ?_
 refine w_reg (by kernel_rfl) ?_
 refine s_qk (.bool false) (by kernel_rfl) ?_
 refine s_nil ?_
 refine k1 _ _ ?_
 refine w_seqk fun K2 k2 => ?_
 refine w_seqk fun K3 k3 => ?_
 refine w_reg (by kernel_rfl) ?_
 refine s_qk (hd_a) (by kernel_rfl) ?_
 refine s_ql (.int .i64 (a.length : Int)) (x := aLen Tryd.prog 53 hd_a H) (by kernel_rfl) (h_a.lenb (by kernel_rfl)) ?_
 refine s_qk (hd_b) (by kernel_rfl) ?_
 refine s_ql (.int .i64 (b.length : Int)) (x := aLen Tryd.prog 53 hd_b H) (by kernel_rfl) (h_b.lenb (by kernel_rfl)) ?_
 refine s_qk (.bool (!decide ((a.length : Int) = (b.length : Int)))) (by kernel_rfl) ?_
 refine s_nil ?_
 refine k3 _ _ ?_
 refine w_condn ((a.length : Int) = (b.length : Int)) (by kernel_rfl) rfl (fun h4 => ?_) (fun h4 => ?_)
 ·have r5 := ite_f h4 hr
  refine w_seqk fun K6 k6 => ?_
  refine w_reg (by kernel_rfl) ?_
  refine s_qk (.bool false) (by kernel_rfl) ?_
  refine s_nil ?_
  refine k6 _ _ ?_
  refine w_ret (th_ret ?_)
  refine b_ret (fn := Tryd.f30) (vs := [.bool false]) (aRes_tmp (by kernel_rfl) (rfl)) ?_
  obtain rfl := Option.some.inj r5
  exact ⟨rfl, rfl⟩
 ·have r7 := ite_t h4 hr
  refine w_skip ?_
  refine k2 _ _ ?_
  refine w_seqk fun K8 k8 => ?_
  refine w_seqk fun K9 k9 => ?_
  refine w_reg (by kernel_rfl) ?_
  refine s_qk (hd_a) (by kernel_rfl) ?_
  refine s_ql (.int .i64 (a.length : Int)) (x := aLen Tryd.prog 53 hd_a H) (by kernel_rfl) (h_a.lenb (by kernel_rfl)) ?_
  refine s_qk (.int .i64 0) (by kernel_rfl) ?_
  refine s_nil ?_
  refine k9 _ _ ?_
  obtain ⟨z13, hx11, r12⟩ := bind_some r7
  refine w_mid (fun α H14 => ∃ o10, z13 = Sum.inr o10 ∧ Has α [] ∧ H = H14) (fun K16 k16 => ?_) (fun α H14 hM => ?_)
  ·refine w_block ?_
   obtain ⟨n18, hn19⟩ := loopO_iff.1 hx11
   refine w_loopn (fun n α H20 => ∃ (i0 : Int), iterO (fun zz_ => z_viaductref03_SameArcs_l0 a b zz_) n i0 = some z13 ∧ Has α [(0, hd_a), (1, hd_b), (12, .int .i64 (a.length : Int)), (13, .int .i64 i0)] ∧ H = H20) n18 ⟨0, hn19, ⟨by kernel_rfl, by kernel_rfl, by kernel_rfl, by kernel_rfl, trivial⟩, rfl⟩ ?_
   rintro n18 α H20 ⟨i0, hi23, hh22, rfl⟩ K28 k28
   obtain ⟨n24, z25, rfl, hz26, hn27⟩ := iter_succ hi23
   obtain ⟨β, rfl⟩ := has_ex hh22
   clear hh22
   replace hz26 : z_viaductref03_SameArcs_l0 a b i0 = some z25 := hz26
   unfold z_viaductref03_SameArcs_l0 at hz26
   refine w_seqk fun K29 k29 => ?_
   refine w_reg (by kernel_rfl) ?_
   refine s_qk (.bool (decide (i0 < (a.length : Int)))) (by kernel_rfl) ?_
   refine s_nil ?_
   refine k29 _ _ ?_
   refine w_seqk fun K30 k30 => ?_
   refine w_condp (i0 < (a.length : Int)) (by kernel_rfl) rfl (fun h31 => ?_) (fun h31 => ?_)
   ·have r32 := ite_t h31 hz26
    refine w_skip ?_
    refine k30 _ _ ?_
    refine w_seqk fun K33 k33 => ?_
    refine w_block ?_
    refine w_seqk fun K34 k34 => ?_
    refine w_reg (by kernel_rfl) ?_
    refine s_qk (.int .i64 i0) (by kernel_rfl) ?_
    refine s_qk (.int .i64 i0) (by kernel_rfl) ?_
    refine s_nil ?_
    refine k34 _ _ ?_
    refine w_seqk fun K35 k35 => ?_
    refine w_draw [0, 1, 2, 3, 4, 5, 6, 7, 8] (by kernel_rfl) ?_
    refine d_qk (hd_a) (by kernel_rfl) ?_
    refine d_qk (.int .i64 i0) (by kernel_rfl) ?_
    obtain ⟨g36, r37⟩ := G_some r32
    refine d_ql (elp hd_a 3 i0.toNat 0) (x := aIndexAddr Tryd.prog 53 hd_a (.int .i64 i0)) (by kernel_rfl) (h_a.idxb (by kernel_rfl) g36 h31) ?_
    refine d_ql (.agg #[.int .i64 ((gt a i0).1), .int .i64 ((gt a i0).2.1), .int .i64 ((gt a i0).2.2)]) (x := aLoad Tryd.prog 60 (elp hd_a 3 i0.toNat 0) H) (by kernel_rfl) (h_a.ld g36 h31 (by kernel_rfl)) ?_
    refine d_qk (hd_b) (by kernel_rfl) ?_
    refine d_qk (.int .i64 i0) (by kernel_rfl) ?_
    obtain ⟨g38, r39⟩ := G_some r37
    refine d_ql (elp hd_b 3 i0.toNat 0) (x := aIndexAddr Tryd.prog 53 hd_b (.int .i64 i0)) (by kernel_rfl) (h_b.idxb (by kernel_rfl) g36 g38) ?_
    refine d_ql (.agg #[.int .i64 ((gt b i0).1), .int .i64 ((gt b i0).2.1), .int .i64 ((gt b i0).2.2)]) (x := aLoad Tryd.prog 60 (elp hd_b 3 i0.toNat 0) H) (by kernel_rfl) (h_b.ld g36 g38 (by kernel_rfl)) ?_
    refine d_ql (.bool (!decide (((gt a i0).1) = ((gt b i0).1) ∧ ((gt a i0).2.1) = ((gt b i0).2.1) ∧ ((gt a i0).2.2) = ((gt b i0).2.2)))) (x := aBin Tryd.prog .neq 60 (.tmp 19) (.tmp 23) (.agg #[.int .i64 ((gt a i0).1), .int .i64 ((gt a i0).2.1), .int .i64 ((gt a i0).2.2)]) (.agg #[.int .i64 ((gt b i0).1), .int .i64 ((gt b i0).2.1), .int .i64 ((gt b i0).2.2)])) (by kernel_rfl) (aBin_neq60 _ _ ((gt a i0).1) ((gt a i0).2.1) ((gt a i0).2.2) ((gt b i0).1) ((gt b i0).2.1) ((gt b i0).2.2)) ?_
    refine d_nil ?_
    refine k35 _ _ ?_
    refine w_condn (((gt a i0).1) = ((gt b i0).1) ∧ ((gt a i0).2.1) = ((gt b i0).2.1) ∧ ((gt a i0).2.2) = ((gt b i0).2.2)) (by kernel_rfl) rfl (fun h40 => ?_) (fun h40 => ?_)
    ·have r41 := ite_f h40 r39
     refine w_seqk fun K42 k42 => ?_
     refine w_reg (by kernel_rfl) ?_
     refine s_qk (.bool false) (by kernel_rfl) ?_
     refine s_nil ?_
     refine k42 _ _ ?_
     refine w_ret (bl_ret (th_ret (th_ret (bl_ret (th_ret (th_ret ?_))))))
     obtain ⟨v43, hv44, hz45⟩ := map_some r41
     subst hz45
     obtain rfl := it_inr hn27
     have hq46 := elim_inl r12
     rw [hq46] at hv44
     refine b_ret (fn := Tryd.f30) (vs := [.bool false]) (aRes_tmp (by kernel_rfl) (rfl)) ?_
     obtain rfl := Option.some.inj hv44
     exact ⟨rfl, rfl⟩
    ·have r47 := ite_t h40 r39
     refine w_skip ?_
     refine k33 _ _ ?_
     refine w_reg (by kernel_rfl) ?_
     obtain ⟨g48, r49⟩ := G_some r47
     refine s_w ((i0 + 1)) (k := .i64) (x := (i0 + 1)) (by kernel_rfl) (wrap64 (by have := g48; omega)) ?_
     refine s_qk (.int .i64 (i0 + 1)) (by kernel_rfl) ?_
     refine s_nil ?_
     obtain rfl := Option.some.inj r49
     exact k28 n24 _ _ (Nat.lt_succ_self _) ⟨(i0 + 1), hn27, ⟨by kernel_rfl, by kernel_rfl, by kernel_rfl, by kernel_rfl, trivial⟩, rfl⟩
   ·have r50 := ite_f h31 hz26
    refine w_exit (th_exit (th_exit (bl_eq ?_)))
    obtain rfl := Option.some.inj r50
    obtain rfl := it_inr hn27
    exact k16 _ _ ⟨_, rfl, trivial, rfl⟩
  ·obtain ⟨o10, rfl, hh17, rfl⟩ := hM
   have r51 := elim_inr r12
   obtain ⟨β, rfl⟩ := has_ex hh17
   clear hh17
   refine k8 _ _ ?_
   refine w_seqk fun K52 k52 => ?_
   refine w_reg (by kernel_rfl) ?_
   refine s_qk (.bool true) (by kernel_rfl) ?_
   refine s_nil ?_
   refine k52 _ _ ?_
   refine w_ret ?_
   refine b_ret (fn := Tryd.f30) (vs := [.bool true]) (aRes_tmp (by kernel_rfl) (rfl)) ?_
   obtain rfl := Option.some.inj r51
   exact ⟨rfl, rfl⟩

theorem c_viaductref03_Same {H : AH} {hd_Arcs : Value} {fp_Arcs : Fp} {hd_Arcs_ : Value} {fp_Arcs_ : Fp} {N_ : Int} {Arcs : List (Int × Int × Int)} {N_2 : Int} {Arcs_ : List (Int × Int × Int)} {r : Bool}
  (wf : WF H) (h_Arcs : Sq enc_i64_i64_i64 3 H hd_Arcs Arcs fp_Arcs) (h_Arcs_ : Sq enc_i64_i64_i64 3 H hd_Arcs_ Arcs_ fp_Arcs_) (hr : z_viaductref03_Same N_ Arcs N_2 Arcs_ = some r) :
  ACalls Tryd.prog 17 #[.agg #[.int .i64 N_, hd_Arcs], .agg #[.int .i64 N_2, hd_Arcs_]] H fun v H' => v = .bool r ∧ FrS [] H H' := by
 refine acalls_of_body mixed Tryd.func17 rfl (Nat.le_of_ble_eq_true rfl) ?_
 unfold z_viaductref03_Same at hr
 refine w_seqk fun K1 k1 => ?_
 refine w_reg (by kernel_rfl) ?_
 refine s_rwl wf [.int .i64 N_, hd_Arcs] (one_cons (rfl) (one_cons (h_Arcs.one1) (one_nil))) (by kernel_rfl) fun b2 H3 e4 hb5 r6 => ?_
 have u13 := (h_Arcs_.ext e4)
 refine s_rwl e4.wf [.int .i64 N_2, hd_Arcs_] (one_cons (rfl) (one_cons (u13.one1) (one_nil))) (by kernel_rfl) fun b8 H9 e10 hb11 r12 => ?_
 refine s_qk (.bool false) (by kernel_rfl) ?_
 refine s_nil ?_
 refine k1 _ _ ?_
 refine w_seqk fun K15 k15 => ?_
 refine w_reg (by kernel_rfl) ?_
 refine s_qk (.pointer (some ⟨b2, 0, none⟩)) (by kernel_rfl) ?_
 have u16 := (r6.ext e10)
 refine s_ql (.int .i64 N_) (x := aLoad Tryd.prog 3 (.pointer (some ⟨b2, 0, none⟩)) H9) (by kernel_rfl) (u16.ld (by kernel_rfl)) ?_
 refine s_qk (.pointer (some ⟨b8, 0, none⟩)) (by kernel_rfl) ?_
 refine s_ql (.int .i64 N_2) (x := aLoad Tryd.prog 3 (.pointer (some ⟨b8, 0, none⟩)) H9) (by kernel_rfl) (r12.ld (by kernel_rfl)) ?_
 refine s_b (N_ = N_2) (by kernel_rfl) (fun h17 => ?_) (fun h17 => ?_)
 ·have r18 := ite_t h17 hr
  refine s_qk (.bool true) (by kernel_rfl) ?_
  refine s_qk (.pointer (some ⟨b2, 1, none⟩)) (by kernel_rfl) ?_
  refine s_ql (hd_Arcs) (x := aLoad Tryd.prog 53 (.pointer (some ⟨b2, 1, none⟩)) H9) (by kernel_rfl) (u16.ld (by kernel_rfl)) ?_
  refine s_qk (.pointer (some ⟨b8, 1, none⟩)) (by kernel_rfl) ?_
  refine s_ql (hd_Arcs_) (x := aLoad Tryd.prog 53 (.pointer (some ⟨b8, 1, none⟩)) H9) (by kernel_rfl) (r12.ld (by kernel_rfl)) ?_
  have u19 := ((h_Arcs.ext e4).ext e10)
  have u20 := (u13.ext e10)
  obtain ⟨y21, hy22, r23⟩ := bind_some r18
  refine s_ck 30 #[hd_Arcs, hd_Arcs_] (by kernel_rfl) (c_viaductref03_SameArcs e10.wf u19 u20 hy22) ?_
  rintro _ _ ⟨rfl, rfl⟩
  refine s_qk (.bool y21) (by kernel_rfl) ?_
  refine s_qk (.bool y21) (by kernel_rfl) ?_
  refine s_nil ?_
  refine k15 _ _ ?_
  refine w_ret ?_
  refine b_ret (fn := Tryd.f17) (vs := [.bool y21]) (aRes_tmp (by kernel_rfl) (rfl)) ?_
  obtain rfl := Option.some.inj r23
  exact ⟨rfl, (((FrS.refl (W := []) wf).extR e4).extR e10)⟩
 ·have r26 := ite_f h17 hr
  refine s_qk (.bool false) (by kernel_rfl) ?_
  refine s_no (by kernel_rfl) ?_
  refine s_no (by kernel_rfl) ?_
  refine s_no (by kernel_rfl) ?_
  refine s_no (by kernel_rfl) ?_
  refine s_no (by kernel_rfl) ?_
  refine s_qk (.bool false) (by kernel_rfl) ?_
  refine s_qk (.bool false) (by kernel_rfl) ?_
  refine s_nil ?_
  refine k15 _ _ ?_
  refine w_ret ?_
  refine b_ret (fn := Tryd.f17) (vs := [.bool false]) (aRes_tmp (by kernel_rfl) (rfl)) ?_
  obtain rfl := Option.some.inj r26
  exact ⟨rfl, (((FrS.refl (W := []) wf).extR e4).extR e10)⟩

theorem c_viaductlaw10_awake {H : AH} {r : Bool}
  (wf : WF H) (hr : z_viaductlaw10_awake = some r) :
  ACalls Tryd.prog 4 #[] H fun v H' => v = .bool r ∧ FrS [] H H' := by
 refine acalls_of_body mixed Tryd.func4 rfl (Nat.le_of_ble_eq_true rfl) ?_
 unfold z_viaductlaw10_awake at hr
 refine w_seqk fun K1 k1 => ?_
 refine w_reg (by kernel_rfl) ?_
 refine s_qk (.bool false) (by kernel_rfl) ?_
 refine s_nil ?_
 refine k1 _ _ ?_
 refine w_seqk fun K2 k2 => ?_
 refine w_reg (by kernel_rfl) ?_
 obtain ⟨y3, hy4, r5⟩ := bind_some hr
 refine s_ck 6 #[] (by kernel_rfl) (c_viaductref10_Three wf hy4) ?_
 rintro _ H16 ⟨s6, f7, s8, f9, s10, f11, s12, f13, s14, f15, rfl, e17, m18, m19, m20, m21, m22, i23, i24, i25, i26, i27, d28, d29, d30, d31, d32, d33, d34, d35, d36, d37⟩
 obtain ⟨a43, n44, c45, rfl⟩ := m18.form
 obtain ⟨a46, n47, c48, rfl⟩ := m19.form
 obtain ⟨a49, n50, c51, rfl⟩ := m20.form
 obtain ⟨a52, n53, c54, rfl⟩ := m21.form
 obtain ⟨a55, n56, c57, rfl⟩ := m22.form
 obtain ⟨y58, hy59, r60⟩ := bind_some r5
 refine s_ck 16 #[.agg #[.slice a43 n44 c45, .slice a46 n47 c48, .slice a49 n50 c51, .slice a52 n53 c54, .slice a55 n56 c57]] (by kernel_rfl) (c_hier_Graph e17.wf m18.sq m19.sq m20.sq m21.sq m22.sq hy59) ?_
 rintro _ H65 ⟨s61, f62, v63, f64, rfl, e66, m67, m68, i69, i70, d71⟩
 obtain ⟨a74, n75, c76, rfl⟩ := m67.form
 refine s_qk (.tuple #[.agg #[.int .i64 y58.1, .slice a74 n75 c76], v63]) (by kernel_rfl) ?_
 refine s_qk (.agg #[.int .i64 y58.1, .slice a74 n75 c76]) (by kernel_rfl) ?_
 refine s_qk (v63) (by kernel_rfl) ?_
 refine s_rwk e66.wf [.int .i64 0, .slice none 0 0] (by kernel_rfl) fun b77 H78 e79 hb80 r81 => ?_
 have u87 := (m67.ext e79)
 obtain ⟨H83, q84, e85, r86⟩ := Row.store (P := Tryd.prog) (t := 55) (p := 0) e79.wf r81 (.agg #[.int .i64 y58.1, .slice a74 n75 c76]) [.int .i64 y58.1, .slice a74 n75 c76] (by kernel_rfl) (by kernel_rfl) (one_cons (rfl) (one_cons (u87.one1) (one_nil))) (Nat.le_of_ble_eq_true (by kernel_rfl)) [.int .i64 y58.1, .slice a74 n75 c76] (by kernel_rfl)
 refine s_ek (undef) (by kernel_rfl) (map_ok q84) ?_
 refine s_qk (v63) (by kernel_rfl) ?_
 refine s_nil ?_
 refine k2 _ _ ?_
 refine w_seqk fun K88 k88 => ?_
 refine w_reg (by kernel_rfl) ?_
 obtain ⟨y89, hy90, r91⟩ := bind_some r60
 refine s_ck 6 #[] (by kernel_rfl) (c_viaductref10_Three e85.wf hy90) ?_
 rintro _ H102 ⟨s92, f93, s94, f95, s96, f97, s98, f99, s100, f101, rfl, e103, m104, m105, m106, m107, m108, i109, i110, i111, i112, i113, d114, d115, d116, d117, d118, d119, d120, d121, d122, d123⟩
 obtain ⟨a129, n130, c131, rfl⟩ := m104.form
 obtain ⟨a132, n133, c134, rfl⟩ := m105.form
 obtain ⟨a135, n136, c137, rfl⟩ := m106.form
 obtain ⟨a138, n139, c140, rfl⟩ := m107.form
 obtain ⟨a141, n142, c143, rfl⟩ := m108.form
 obtain ⟨y144, hy145, r146⟩ := bind_some r91
 refine s_ck 10 #[.agg #[.slice a129 n130 c131, .slice a132 n133 c134, .slice a135 n136 c137, .slice a138 n139 c140, .slice a141 n142 c143], .int .i64 2] (by kernel_rfl) (c_hier_Ends e103.wf m104.sq m105.sq m106.sq m107.sq m108.sq hy145) ?_
 rintro _ H149 ⟨v147, f148, rfl, e150, m151, i152⟩
 refine s_qk (.tuple #[.int .i64 y144.1, .int .i64 y144.2.1, v147]) (by kernel_rfl) ?_
 refine s_qk (.int .i64 y144.1) (by kernel_rfl) ?_
 refine s_qk (.int .i64 y144.2.1) (by kernel_rfl) ?_
 refine s_qk (v147) (by kernel_rfl) ?_
 refine s_qk (.int .i64 y144.1) (by kernel_rfl) ?_
 refine s_qk (.int .i64 y144.2.1) (by kernel_rfl) ?_
 refine s_qk (v147) (by kernel_rfl) ?_
 refine s_nil ?_
 refine k88 _ _ ?_
 refine w_seqk fun K154 k154 => ?_
 refine w_reg (by kernel_rfl) ?_
 refine s_qk (v63) (by kernel_rfl) ?_
 have u158 := ((((m68.ext e79).fr e85 (hb80.djn m68.lt)).fr e103 Dj.nil_l).fr e150 Dj.nil_l)
 rcases (u158).cases with ⟨h155, rfl⟩ | ⟨h155, t156, x157, rfl⟩
 ·have r159 := ite_t h155 r146
  refine s_qk (.bool true) (by kernel_rfl) ?_
  refine s_qk (.bool true) (by kernel_rfl) ?_
  refine s_qk (v147) (by kernel_rfl) ?_
  rcases (m151).cases with ⟨h160, rfl⟩ | ⟨h160, t161, x162, rfl⟩
  ·have r163 := ite_t h160 r159
   refine s_qk (.bool true) (by kernel_rfl) ?_
   refine s_qk (.bool true) (by kernel_rfl) ?_
   refine s_qk (.bool true) (by kernel_rfl) ?_
   refine s_qk (.int .i64 y144.1) (by kernel_rfl) ?_
   refine s_b (y144.1 = 1) (by kernel_rfl) (fun h164 => ?_) (fun h164 => ?_)
   ·have r165 := ite_t h164 r163
    refine s_qk (.bool true) (by kernel_rfl) ?_
    refine s_qk (.bool true) (by kernel_rfl) ?_
    refine s_qk (.int .i64 y144.2.1) (by kernel_rfl) ?_
    refine s_b (y144.2.1 = 0) (by kernel_rfl) (fun h166 => ?_) (fun h166 => ?_)
    ·have r167 := ite_t h166 r165
     refine s_qk (.bool true) (by kernel_rfl) ?_
     refine s_qk (.bool true) (by kernel_rfl) ?_
     obtain ⟨y168, hy169, r170⟩ := bind_some r167
     refine s_ck 6 #[] (by kernel_rfl) (c_viaductref10_Three e150.wf hy169) ?_
     rintro _ H181 ⟨s171, f172, s173, f174, s175, f176, s177, f178, s179, f180, rfl, e182, m183, m184, m185, m186, m187, i188, i189, i190, i191, i192, d193, d194, d195, d196, d197, d198, d199, d200, d201, d202⟩
     obtain ⟨a208, n209, c210, rfl⟩ := m183.form
     obtain ⟨a211, n212, c213, rfl⟩ := m184.form
     obtain ⟨a214, n215, c216, rfl⟩ := m185.form
     obtain ⟨a217, n218, c219, rfl⟩ := m186.form
     obtain ⟨a220, n221, c222, rfl⟩ := m187.form
     obtain ⟨y223, hy224, r225⟩ := bind_some r170
     refine s_ck 9 #[.agg #[.slice a208 n209 c210, .slice a211 n212 c213, .slice a214 n215 c216, .slice a217 n218 c219, .slice a220 n221 c222]] (by kernel_rfl) (c_hier_Check e182.wf m183.sq m184.sq m185.sq m186.sq m187.sq hy224) ?_
     rintro v226 H228 ⟨_, f227, rfl, e229, m230, i231⟩
     rcases (m230).cases with ⟨h233, rfl⟩ | ⟨h233, t234, x235, rfl⟩
     ·have r236 := ite_t h233 r225
      refine s_qk (.bool true) (by kernel_rfl) ?_
      refine s_qk (.bool true) (by kernel_rfl) ?_
      refine s_qk (.bool true) (by kernel_rfl) ?_
      have u237 := ((((r86.frS e103 Dj.nil_l).frS e150 Dj.nil_l).frS e182 Dj.nil_l).frS e229 Dj.nil_l)
      refine s_ql (.agg #[.int .i64 y58.1, .slice a74 n75 c76]) (x := aLoad Tryd.prog 55 (.pointer (some ⟨b77, 0, none⟩)) H228) (by kernel_rfl) (u237.ld (by kernel_rfl)) ?_
      refine s_qk (.agg #[.int .i64 0, .int .i64 1, .int .i64 4]) (by kernel_rfl) ?_
      refine s_qk (.agg #[.int .i64 1, .int .i64 2, .int .i64 1]) (by kernel_rfl) ?_
      refine s_owk (enc := enc_i64_i64_i64) (sz := 3) e229.wf [(0, 1, 4), (1, 2, 1)] 2 (by decide) (fun _ _ => rfl) (fun _ _ => rfl) rfl (by kernel_rfl) fun s238 f239 H240 e241 hf242 hm243 => ?_
      obtain ⟨a244, n245, c246, rfl⟩ := hm243.form
      refine s_qk (.agg #[.int .i64 3, .slice a244 n245 c246]) (by kernel_rfl) ?_
      have u248 := ((((((u87.fr e85 (hb80.djn m67.lt)).fr e103 Dj.nil_l).fr e150 Dj.nil_l).fr e182 Dj.nil_l).fr e229 Dj.nil_l).ext e241)
      obtain ⟨y249, hy250, r251⟩ := bind_some r236
      refine s_ck 17 #[.agg #[.int .i64 y58.1, .slice a74 n75 c76], .agg #[.int .i64 3, .slice a244 n245 c246]] (by kernel_rfl) (c_viaductref03_Same e241.wf u248.sq hm243.sq hy250) ?_
      rintro _ H252 ⟨rfl, e253⟩
      refine s_qk (.bool y249) (by kernel_rfl) ?_
      refine s_qk (.bool y249) (by kernel_rfl) ?_
      refine s_nil ?_
      refine k154 _ _ ?_
      refine w_ret ?_
      refine b_ret (fn := Tryd.f4) (vs := [.bool y249]) (aRes_tmp (by kernel_rfl) (rfl)) ?_
      obtain rfl := Option.some.inj r251
      exact ⟨rfl, (FrS.step wf ((FrS.step wf (FrS.step wf (FrS.step wf (FrS.step wf (FrS.step wf ((FrS.step wf (FrS.step wf (FrS.refl (W := []) wf) e17 Inn.nil) e66 Inn.nil).extR e79) e85 (hb80.fresh (ntr e17.next e66.next))) e103 Inn.nil) e150 Inn.nil) e182 Inn.nil) e229 Inn.nil).extR e241) e253 Inn.nil)⟩
     ·have r254 := ite_f h233 r225
      refine s_ql (.bool false) (x := aBin Tryd.prog .eql 41 (.tmp 33) (.const .nilIface) (.iface t234 x235) .nilIface) (by kernel_rfl) (aBin_nil (by kernel_rfl)) ?_
      refine s_qk (.bool false) (by kernel_rfl) ?_
      refine s_qk (.bool false) (by kernel_rfl) ?_
      refine s_no (by kernel_rfl) ?_
      refine s_no (by kernel_rfl) ?_
      refine s_no (by kernel_rfl) ?_
      refine s_no (by kernel_rfl) ?_
      refine s_no (by kernel_rfl) ?_
      refine s_no (by kernel_rfl) ?_
      refine s_qk (.bool false) (by kernel_rfl) ?_
      refine s_qk (.bool false) (by kernel_rfl) ?_
      refine s_nil ?_
      refine k154 _ _ ?_
      refine w_ret ?_
      refine b_ret (fn := Tryd.f4) (vs := [.bool false]) (aRes_tmp (by kernel_rfl) (rfl)) ?_
      obtain rfl := Option.some.inj r254
      exact ⟨rfl, (FrS.step wf (FrS.step wf (FrS.step wf (FrS.step wf (FrS.step wf ((FrS.step wf (FrS.step wf (FrS.refl (W := []) wf) e17 Inn.nil) e66 Inn.nil).extR e79) e85 (hb80.fresh (ntr e17.next e66.next))) e103 Inn.nil) e150 Inn.nil) e182 Inn.nil) e229 Inn.nil)⟩
    ·have r255 := ite_f h166 r165
     refine s_qk (.bool false) (by kernel_rfl) ?_
     refine s_qk (.bool false) (by kernel_rfl) ?_
     refine s_no (by kernel_rfl) ?_
     refine s_no (by kernel_rfl) ?_
     refine s_no (by kernel_rfl) ?_
     refine s_qk (.bool false) (by kernel_rfl) ?_
     refine s_qk (.bool false) (by kernel_rfl) ?_
     refine s_no (by kernel_rfl) ?_
     refine s_no (by kernel_rfl) ?_
     refine s_no (by kernel_rfl) ?_
     refine s_no (by kernel_rfl) ?_
     refine s_no (by kernel_rfl) ?_
     refine s_no (by kernel_rfl) ?_
     refine s_qk (.bool false) (by kernel_rfl) ?_
     refine s_qk (.bool false) (by kernel_rfl) ?_
     refine s_nil ?_
     refine k154 _ _ ?_
     refine w_ret ?_
     refine b_ret (fn := Tryd.f4) (vs := [.bool false]) (aRes_tmp (by kernel_rfl) (rfl)) ?_
     obtain rfl := Option.some.inj r255
     exact ⟨rfl, (FrS.step wf (FrS.step wf (FrS.step wf ((FrS.step wf (FrS.step wf (FrS.refl (W := []) wf) e17 Inn.nil) e66 Inn.nil).extR e79) e85 (hb80.fresh (ntr e17.next e66.next))) e103 Inn.nil) e150 Inn.nil)⟩
   ·have r256 := ite_f h164 r163
    refine s_qk (.bool false) (by kernel_rfl) ?_
    refine s_qk (.bool false) (by kernel_rfl) ?_
    refine s_no (by kernel_rfl) ?_
    refine s_no (by kernel_rfl) ?_
    refine s_qk (.bool false) (by kernel_rfl) ?_
    refine s_qk (.bool false) (by kernel_rfl) ?_
    refine s_no (by kernel_rfl) ?_
    refine s_no (by kernel_rfl) ?_
    refine s_no (by kernel_rfl) ?_
    refine s_qk (.bool false) (by kernel_rfl) ?_
    refine s_qk (.bool false) (by kernel_rfl) ?_
    refine s_no (by kernel_rfl) ?_
    refine s_no (by kernel_rfl) ?_
    refine s_no (by kernel_rfl) ?_
    refine s_no (by kernel_rfl) ?_
    refine s_no (by kernel_rfl) ?_
    refine s_no (by kernel_rfl) ?_
    refine s_qk (.bool false) (by kernel_rfl) ?_
    refine s_qk (.bool false) (by kernel_rfl) ?_
    refine s_nil ?_
    refine k154 _ _ ?_
    refine w_ret ?_
    refine b_ret (fn := Tryd.f4) (vs := [.bool false]) (aRes_tmp (by kernel_rfl) (rfl)) ?_
    obtain rfl := Option.some.inj r256
    exact ⟨rfl, (FrS.step wf (FrS.step wf (FrS.step wf ((FrS.step wf (FrS.step wf (FrS.refl (W := []) wf) e17 Inn.nil) e66 Inn.nil).extR e79) e85 (hb80.fresh (ntr e17.next e66.next))) e103 Inn.nil) e150 Inn.nil)⟩
  ·have r257 := ite_f h160 r159
   refine s_ql (.bool false) (x := aBin Tryd.prog .eql 41 (.tmp 20) (.const .nilIface) (.iface t161 x162) .nilIface) (by kernel_rfl) (aBin_nil (by kernel_rfl)) ?_
   refine s_qk (.bool false) (by kernel_rfl) ?_
   refine s_qk (.bool false) (by kernel_rfl) ?_
   refine s_no (by kernel_rfl) ?_
   refine s_no (by kernel_rfl) ?_
   refine s_qk (.bool false) (by kernel_rfl) ?_
   refine s_qk (.bool false) (by kernel_rfl) ?_
   refine s_no (by kernel_rfl) ?_
   refine s_no (by kernel_rfl) ?_
   refine s_qk (.bool false) (by kernel_rfl) ?_
   refine s_qk (.bool false) (by kernel_rfl) ?_
   refine s_no (by kernel_rfl) ?_
   refine s_no (by kernel_rfl) ?_
   refine s_no (by kernel_rfl) ?_
   refine s_qk (.bool false) (by kernel_rfl) ?_
   refine s_qk (.bool false) (by kernel_rfl) ?_
   refine s_no (by kernel_rfl) ?_
   refine s_no (by kernel_rfl) ?_
   refine s_no (by kernel_rfl) ?_
   refine s_no (by kernel_rfl) ?_
   refine s_no (by kernel_rfl) ?_
   refine s_no (by kernel_rfl) ?_
   refine s_qk (.bool false) (by kernel_rfl) ?_
   refine s_qk (.bool false) (by kernel_rfl) ?_
   refine s_nil ?_
   refine k154 _ _ ?_
   refine w_ret ?_
   refine b_ret (fn := Tryd.f4) (vs := [.bool false]) (aRes_tmp (by kernel_rfl) (rfl)) ?_
   obtain rfl := Option.some.inj r257
   exact ⟨rfl, (FrS.step wf (FrS.step wf (FrS.step wf ((FrS.step wf (FrS.step wf (FrS.refl (W := []) wf) e17 Inn.nil) e66 Inn.nil).extR e79) e85 (hb80.fresh (ntr e17.next e66.next))) e103 Inn.nil) e150 Inn.nil)⟩
 ·have r258 := ite_f h155 r146
  refine s_ql (.bool false) (x := aBin Tryd.prog .eql 41 (.tmp 17) (.const .nilIface) (.iface t156 x157) .nilIface) (by kernel_rfl) (aBin_nil (by kernel_rfl)) ?_
  refine s_qk (.bool false) (by kernel_rfl) ?_
  refine s_no (by kernel_rfl) ?_
  refine s_no (by kernel_rfl) ?_
  refine s_qk (.bool false) (by kernel_rfl) ?_
  refine s_qk (.bool false) (by kernel_rfl) ?_
  refine s_no (by kernel_rfl) ?_
  refine s_no (by kernel_rfl) ?_
  refine s_qk (.bool false) (by kernel_rfl) ?_
  refine s_qk (.bool false) (by kernel_rfl) ?_
  refine s_no (by kernel_rfl) ?_
  refine s_no (by kernel_rfl) ?_
  refine s_qk (.bool false) (by kernel_rfl) ?_
  refine s_qk (.bool false) (by kernel_rfl) ?_
  refine s_no (by kernel_rfl) ?_
  refine s_no (by kernel_rfl) ?_
  refine s_no (by kernel_rfl) ?_
  refine s_qk (.bool false) (by kernel_rfl) ?_
  refine s_qk (.bool false) (by kernel_rfl) ?_
  refine s_no (by kernel_rfl) ?_
  refine s_no (by kernel_rfl) ?_
  refine s_no (by kernel_rfl) ?_
  refine s_no (by kernel_rfl) ?_
  refine s_no (by kernel_rfl) ?_
  refine s_no (by kernel_rfl) ?_
  refine s_qk (.bool false) (by kernel_rfl) ?_
  refine s_qk (.bool false) (by kernel_rfl) ?_
  refine s_nil ?_
  refine k154 _ _ ?_
  refine w_ret ?_
  refine b_ret (fn := Tryd.f4) (vs := [.bool false]) (aRes_tmp (by kernel_rfl) (rfl)) ?_
  obtain rfl := Option.some.inj r258
  exact ⟨rfl, (FrS.step wf (FrS.step wf (FrS.step wf ((FrS.step wf (FrS.step wf (FrS.refl (W := []) wf) e17 Inn.nil) e66 Inn.nil).extR e79) e85 (hb80.fresh (ntr e17.next e66.next))) e103 Inn.nil) e150 Inn.nil)⟩

theorem c_viaductref01_E {H : AH} {n_ : Int} {r : Int}
  (wf : WF H) (hr : z_viaductref01_E n_ = some r) :
  ACalls Tryd.prog 5 #[.int .i64 n_] H fun v H' => v = .agg #[.int .i64 r, .slice none 0 0] ∧ FrS [] H H' := by
 refine acalls_of_body mixed Tryd.func5 rfl (Nat.le_of_ble_eq_true rfl) ?_
 unfold z_viaductref01_E at hr
 refine w_seqk fun K1 k1 => ?_
 refine w_reg (by kernel_rfl) ?_
 refine s_rwk wf [.int .i64 0, .slice none 0 0] (by kernel_rfl) fun b2 H3 e4 hb5 r6 => ?_
 refine s_nil ?_
 refine k1 _ _ ?_
 refine w_seqk fun K8 k8 => ?_
 refine w_reg (by kernel_rfl) ?_
 refine s_qk (.int .i64 n_) (by kernel_rfl) ?_
 refine s_qk (.agg #[.int .i64 n_, .slice none 0 0]) (by kernel_rfl) ?_
 obtain ⟨H9, q10, e11, r12⟩ := Row.store (P := Tryd.prog) (t := 25) (p := 0) e4.wf r6 (.agg #[.int .i64 n_, .slice none 0 0]) [.int .i64 n_, .slice none 0 0] (by kernel_rfl) (by kernel_rfl) (one_cons (rfl) (one_cons (rfl) (one_nil))) (Nat.le_of_ble_eq_true (by kernel_rfl)) [.int .i64 n_, .slice none 0 0] (by kernel_rfl)
 refine s_ek (undef) (by kernel_rfl) (map_ok q10) ?_
 refine s_nil ?_
 refine k8 _ _ ?_
 refine w_ret ?_
 refine b_ret (fn := Tryd.f5) (vs := [.agg #[.int .i64 n_, .slice none 0 0]]) (aRes_cell (Eq.trans (b := aLoad Tryd.prog 25 (.pointer (some ⟨b2, 0, none⟩)) H9) (by kernel_rfl) (r12.ld (by kernel_rfl))) (rfl)) ?_
 obtain rfl := Option.some.inj hr
 exact ⟨rfl, (FrS.step wf ((FrS.refl (W := []) wf).extR e4) e11 (hb5.fresh (Nat.le_refl _)))⟩

theorem c_viaductref01_At {H : AH} {hd_Places : Value} {fp_Places : Fp} {kind : Int} {at_ : Int} {Code : Int} {Places : List (Int × Int)} {r : Int × List (Int × Int)}
  (wf : WF H) (h_Places : Sq enc_i64_i64 2 H hd_Places Places fp_Places) (hr : z_viaductref01_At kind at_ Code Places = some r) :
  ACalls Tryd.prog 8 #[.int .i64 kind, .int .i64 at_, .agg #[.int .i64 Code, hd_Places]] H fun v H' => ∃ (s3 : Value) (f4 : Fp), v = .agg #[.int .i64 r.1, s3] ∧ FrS [] H H' ∧ Ow enc_i64_i64 2 H' s3 r.2 f4 ∧ Inn [] H f4 := by
 refine acalls_of_body mixed Tryd.func8 rfl (Nat.le_of_ble_eq_true rfl) ?_
 unfold z_viaductref01_At at hr
 refine w_seqk fun K6 k6 => ?_
 refine w_reg (by kernel_rfl) ?_
 refine s_rwl wf [.int .i64 Code, hd_Places] (one_cons (rfl) (one_cons (h_Places.one1) (one_nil))) (by kernel_rfl) fun b7 H8 e9 hb10 r11 => ?_
 refine s_rwk e9.wf [.int .i64 0, .slice none 0 0] (by kernel_rfl) fun b13 H14 e15 hb16 r17 => ?_
 refine s_nil ?_
 refine k6 _ _ ?_
 refine w_seqk fun K19 k19 => ?_
 refine w_reg (by kernel_rfl) ?_
 refine s_qk (.int .i64 kind) (by kernel_rfl) ?_
 refine s_qk (.int .i64 at_) (by kernel_rfl) ?_
 refine s_qk (.agg #[.int .i64 kind, .int .i64 at_]) (by kernel_rfl) ?_
 refine s_owk (enc := enc_i64_i64) (sz := 2) e15.wf [(kind, at_)] 1 (by decide) (fun _ _ => rfl) (fun _ _ => rfl) rfl (by kernel_rfl) fun s20 f21 H22 e23 hf24 hm25 => ?_
 obtain ⟨a26, n27, c28, rfl⟩ := hm25.form
 refine s_qk (.slice a26 n27 c28) (by kernel_rfl) ?_
 refine s_nil ?_
 refine k19 _ _ ?_
 refine w_seqk fun K30 k30 => ?_
 refine w_reg (by kernel_rfl) ?_
 refine s_qk (.slice a26 n27 c28) (by kernel_rfl) ?_
 refine s_qk (.pointer (some ⟨b7, 1, none⟩)) (by kernel_rfl) ?_
 have u31 := ((r11.ext e15).ext e23)
 refine s_ql (hd_Places) (x := aLoad Tryd.prog 23 (.pointer (some ⟨b7, 1, none⟩)) H22) (by kernel_rfl) (u31.ld (by kernel_rfl)) ?_
 obtain ⟨g32, r33⟩ := G_some hr
 have u41 := (((h_Places.ext e9).ext e15).ext e23)
 obtain ⟨s34, H35, f36, q40, e37, hm38, hf39⟩ := Ow.append (P := Tryd.prog) 16 e23.wf hm25 u41 (fun _ _ => rfl) (at_ := #[23, 23]) rfl rfl (by kernel_rfl) (by kernel_rfl) (by decide) (by have := g32; first | omega | (simp only [List.length_cons, List.length_nil] at this ⊢; omega) | (simp at this ⊢; omega))
 obtain ⟨a42, n43, c44, rfl⟩ := hm38.form
 refine s_ek (.slice a42 n43 c44) (by kernel_rfl) (q40) ?_
 refine s_qk (.slice a42 n43 c44) (by kernel_rfl) ?_
 refine s_nil ?_
 refine k30 _ _ ?_
 refine w_seqk fun K46 k46 => ?_
 refine w_reg (by kernel_rfl) ?_
 refine s_qk (.pointer (some ⟨b7, 0, none⟩)) (by kernel_rfl) ?_
 have u47 := (u31.frS e37 (hf24.djn (r11.ltF.le e15.next)))
 refine s_ql (.int .i64 Code) (x := aLoad Tryd.prog 3 (.pointer (some ⟨b7, 0, none⟩)) H35) (by kernel_rfl) (u47.ld (by kernel_rfl)) ?_
 refine s_qk (.slice a42 n43 c44) (by kernel_rfl) ?_
 refine s_qk (.agg #[.int .i64 Code, .slice a42 n43 c44]) (by kernel_rfl) ?_
 have u52 := ((r17.ext e23).frS e37 (hf24.djn r17.ltF))
 obtain ⟨H48, q49, e50, r51⟩ := Row.store (P := Tryd.prog) (t := 25) (p := 0) e37.wf u52 (.agg #[.int .i64 Code, .slice a42 n43 c44]) [.int .i64 Code, .slice a42 n43 c44] (by kernel_rfl) (by kernel_rfl) (one_cons (rfl) (one_cons (hm38.one1) (one_nil))) (Nat.le_of_ble_eq_true (by kernel_rfl)) [.int .i64 Code, .slice a42 n43 c44] (by kernel_rfl)
 refine s_ek (undef) (by kernel_rfl) (map_ok q49) ?_
 refine s_nil ?_
 refine k46 _ _ ?_
 refine w_ret ?_
 refine b_ret (fn := Tryd.f8) (vs := [.agg #[.int .i64 Code, .slice a42 n43 c44]]) (aRes_cell (Eq.trans (b := aLoad Tryd.prog 25 (.pointer (some ⟨b13, 0, none⟩)) H48) (by kernel_rfl) (r51.ld (by kernel_rfl))) (rfl)) ?_
 have u53 := (hm38.fr e50 (Dj.symm (hf39.dj (hf24.djn r17.ltF) (r17.ltF.le e23.next))))
 obtain rfl := Option.some.inj r33
 exact ⟨(.slice a42 n43 c44), f36, rfl, (FrS.step wf (FrS.step wf ((((FrS.refl (W := []) wf).extR e9).extR e15).extR e23) e37 (hf24.fresh (ntr e9.next e15.next))) e50 (hb16.fresh e9.next)), u53, (Inn.trans (hf24.fresh (ntr e9.next e15.next)) (ntr (ntr e9.next e15.next) e23.next) hf39)⟩

theorem c_viaductref01_Err_Bad {H : AH} {hd_Places : Value} {fp_Places : Fp} {Code : Int} {Places : List (Int × Int)} {r : Bool}
  (wf : WF H) (h_Places : Sq enc_i64_i64 2 H hd_Places Places fp_Places) (hr : z_viaductref01_Err_Bad Code Places = some r) :
  ACalls Tryd.prog 22 #[.agg #[.int .i64 Code, hd_Places]] H fun v H' => v = .bool r ∧ FrS [] H H' := by
 refine acalls_of_body mixed Tryd.func22 rfl (Nat.le_of_ble_eq_true rfl) ?_
 unfold z_viaductref01_Err_Bad at hr
 refine w_seqk fun K1 k1 => ?_
 refine w_reg (by kernel_rfl) ?_
 refine s_rwl wf [.int .i64 Code, hd_Places] (one_cons (rfl) (one_cons (h_Places.one1) (one_nil))) (by kernel_rfl) fun b2 H3 e4 hb5 r6 => ?_
 refine s_qk (.bool false) (by kernel_rfl) ?_
 refine s_nil ?_
 refine k1 _ _ ?_
 refine w_seqk fun K8 k8 => ?_
 refine w_reg (by kernel_rfl) ?_
 refine s_qk (.pointer (some ⟨b2, 0, none⟩)) (by kernel_rfl) ?_
 refine s_ql (.int .i64 Code) (x := aLoad Tryd.prog 3 (.pointer (some ⟨b2, 0, none⟩)) H3) (by kernel_rfl) (r6.ld (by kernel_rfl)) ?_
 refine s_bn (Code = 0) (by kernel_rfl) (fun h9 => ?_) (fun h9 => ?_)
 ·have r10 := ite_t h9 hr
  refine s_qk (.bool false) (by kernel_rfl) ?_
  refine s_qk (.pointer (some ⟨b2, 1, none⟩)) (by kernel_rfl) ?_
  refine s_ql (hd_Places) (x := aLoad Tryd.prog 23 (.pointer (some ⟨b2, 1, none⟩)) H3) (by kernel_rfl) (r6.ld (by kernel_rfl)) ?_
  have u11 := (h_Places.ext e4)
  refine s_ql (.int .i64 (Places.length : Int)) (x := aLen Tryd.prog 23 hd_Places H3) (by kernel_rfl) (u11.lenb (by kernel_rfl)) ?_
  refine s_qk (.bool (decide ((Places.length : Int) > 0))) (by kernel_rfl) ?_
  refine s_qk (.bool (decide ((Places.length : Int) > 0))) (by kernel_rfl) ?_
  refine s_qk (.bool (decide ((Places.length : Int) > 0))) (by kernel_rfl) ?_
  refine s_nil ?_
  refine k8 _ _ ?_
  refine w_ret ?_
  refine b_ret (fn := Tryd.f22) (vs := [.bool (decide ((Places.length : Int) > 0))]) (aRes_tmp (by kernel_rfl) (rfl)) ?_
  obtain rfl := Option.some.inj r10
  exact ⟨rfl, ((FrS.refl (W := []) wf).extR e4)⟩
 ·have r12 := ite_f h9 hr
  refine s_qk (.bool true) (by kernel_rfl) ?_
  refine s_no (by kernel_rfl) ?_
  refine s_no (by kernel_rfl) ?_
  refine s_no (by kernel_rfl) ?_
  refine s_no (by kernel_rfl) ?_
  refine s_qk (.bool true) (by kernel_rfl) ?_
  refine s_qk (.bool true) (by kernel_rfl) ?_
  refine s_nil ?_
  refine k8 _ _ ?_
  refine w_ret ?_
  refine b_ret (fn := Tryd.f22) (vs := [.bool true]) (aRes_tmp (by kernel_rfl) (rfl)) ?_
  obtain rfl := Option.some.inj r12
  exact ⟨rfl, ((FrS.refl (W := []) wf).extR e4)⟩

theorem c_viaductseen_Same {H : AH} {ev_err : Value} {fp_err : Fp} {hd_Places : Value} {fp_Places : Fp} {err : Er} {Code : Int} {Places : List (Int × Int)} {r : Bool}
  (wf : WF H) (h_err : Ev 27 71 H ev_err err fp_err) (h_Places : Sq enc_i64_i64 2 H hd_Places Places fp_Places) (hr : z_viaductseen_Same err Code Places = some r) :
  ACalls Tryd.prog 13 #[ev_err, .agg #[.int .i64 Code, hd_Places]] H fun v H' => v = .bool r ∧ FrS [] H H' := by
 refine acalls_of_body mixed Tryd.func13 rfl (Nat.le_of_ble_eq_true rfl) ?_
 unfold z_viaductseen_Same at hr
 refine w_seqk fun K1 k1 => ?_
 refine w_reg (by kernel_rfl) ?_
 refine s_rwl wf [.int .i64 Code, hd_Places] (one_cons (rfl) (one_cons (h_Places.one1) (one_nil))) (by kernel_rfl) fun b2 H3 e4 hb5 r6 => ?_
 refine s_qk (.bool false) (by kernel_rfl) ?_
 refine s_nil ?_
 refine k1 _ _ ?_
 refine w_seqk fun K8 k8 => ?_
 refine w_seqk fun K9 k9 => ?_
 refine w_reg (by kernel_rfl) ?_
 refine s_ql (.agg #[.int .i64 Code, hd_Places]) (x := aLoad Tryd.prog 25 (.pointer (some ⟨b2, 0, none⟩)) H3) (by kernel_rfl) (r6.ld (by kernel_rfl)) ?_
 have u10 := (h_Places.ext e4)
 obtain ⟨y11, hy12, r13⟩ := bind_some hr
 refine s_ck 22 #[.agg #[.int .i64 Code, hd_Places]] (by kernel_rfl) (c_viaductref01_Err_Bad e4.wf u10 hy12) ?_
 rintro _ H14 ⟨rfl, e15⟩
 refine s_qk (.bool (!y11)) (by kernel_rfl) ?_
 refine s_nil ?_
 refine k9 _ _ ?_
 refine w_cond ((!y11)) (by kernel_rfl) rfl (fun h16 => ?_) (fun h16 => ?_)
 ·have r17 := ite_t h16 r13
  refine w_seqk fun K18 k18 => ?_
  refine w_reg (by kernel_rfl) ?_
  refine s_qk (ev_err) (by kernel_rfl) ?_
  have u22 := ((h_err.ext e4).fr e15 Dj.nil_l)
  rcases (u22).cases with ⟨h19, rfl⟩ | ⟨h19, t20, x21, rfl⟩
  ·have r23 := ite_t h19 r17
   refine s_qk (.bool true) (by kernel_rfl) ?_
   refine s_qk (.bool true) (by kernel_rfl) ?_
   refine s_nil ?_
   refine k18 _ _ ?_
   refine w_ret (th_ret ?_)
   refine b_ret (fn := Tryd.f13) (vs := [.bool true]) (aRes_tmp (by kernel_rfl) (rfl)) ?_
   obtain rfl := Option.some.inj r23
   exact ⟨rfl, (FrS.step wf ((FrS.refl (W := []) wf).extR e4) e15 Inn.nil)⟩
  ·have r24 := ite_f h19 r17
   refine s_ql (.bool false) (x := aBin Tryd.prog .eql 41 (.tmp 15) (.const .nilIface) (.iface t20 x21) .nilIface) (by kernel_rfl) (aBin_nil (by kernel_rfl)) ?_
   refine s_qk (.bool false) (by kernel_rfl) ?_
   refine s_nil ?_
   refine k18 _ _ ?_
   refine w_ret (th_ret ?_)
   refine b_ret (fn := Tryd.f13) (vs := [.bool false]) (aRes_tmp (by kernel_rfl) (rfl)) ?_
   obtain rfl := Option.some.inj r24
   exact ⟨rfl, (FrS.step wf ((FrS.refl (W := []) wf).extR e4) e15 Inn.nil)⟩
 ·have r25 := ite_bf h16 r13
  refine w_skip ?_
  refine k8 _ _ ?_
  refine w_seqk fun K26 k26 => ?_
  refine w_seqk fun K27 k27 => ?_
  refine w_reg (by kernel_rfl) ?_
  refine s_qk (ev_err) (by kernel_rfl) ?_
  have u31 := ((h_err.ext e4).fr e15 Dj.nil_l)
  rcases (u31).cases with ⟨h28, rfl⟩ | ⟨h28, t29, x30, rfl⟩
  ·have r32 := ite_t h28 r25
   refine s_qk (.bool true) (by kernel_rfl) ?_
   refine s_nil ?_
   refine k27 _ _ ?_
   refine w_cond true (by kernel_rfl) rfl (fun _ => ?_) (fun h => by cases h)
   refine w_seqk fun K33 k33 => ?_
   refine w_reg (by kernel_rfl) ?_
   refine s_qk (.bool false) (by kernel_rfl) ?_
   refine s_nil ?_
   refine k33 _ _ ?_
   refine w_ret (th_ret ?_)
   refine b_ret (fn := Tryd.f13) (vs := [.bool false]) (aRes_tmp (by kernel_rfl) (rfl)) ?_
   obtain rfl := Option.some.inj r32
   exact ⟨rfl, (FrS.step wf ((FrS.refl (W := []) wf).extR e4) e15 Inn.nil)⟩
  ·have r34 := ite_f h28 r25
   refine s_ql (.bool false) (x := aBin Tryd.prog .eql 41 (.tmp 17) (.const .nilIface) (.iface t29 x30) .nilIface) (by kernel_rfl) (aBin_nil (by kernel_rfl)) ?_
   refine s_nil ?_
   refine k27 _ _ ?_
   refine w_cond false (by kernel_rfl) rfl (fun h => by cases h) (fun _ => ?_)
   refine w_skip ?_
   refine k26 _ _ ?_
   refine w_seqk fun K35 k35 => ?_
   refine w_reg (by kernel_rfl) ?_
   refine s_qk (.iface t29 x30) (by kernel_rfl) ?_
   refine s_qk (.iface t29 x30) (by kernel_rfl) ?_
   refine s_nil ?_
   refine k35 _ _ ?_
   refine w_seqk fun K36 k36 => ?_
   refine w_seqk fun K37 k37 => ?_
   refine w_reg (by kernel_rfl) ?_
   refine s_qk (.pointer (some ⟨b2, 1, none⟩)) (by kernel_rfl) ?_
   have u38 := (r6.frS e15 Dj.nil_l)
   refine s_ql (hd_Places) (x := aLoad Tryd.prog 23 (.pointer (some ⟨b2, 1, none⟩)) H14) (by kernel_rfl) (u38.ld (by kernel_rfl)) ?_
   have u39 := (u10.fr e15 Dj.nil_l)
   refine s_ql (.int .i64 (Places.length : Int)) (x := aLen Tryd.prog 23 hd_Places H14) (by kernel_rfl) (u39.lenb (by kernel_rfl)) ?_
   refine s_qk (.int .i64 0) (by kernel_rfl) ?_
   refine s_nil ?_
   refine k37 _ _ ?_
   obtain ⟨z43, hx41, r42⟩ := bind_some r34
   refine w_mid (fun α H44 => ∃ o40, z43 = Sum.inr o40 ∧ ∃ (v48 : Value), Has α [(0, .iface t29 x30), (3, .pointer (some ⟨b2, 0, none⟩)), (5, v48)] ∧ FrS [] H14 H44 ∧ Ev 27 71 H44 v48 o40 fp_err) (fun K49 k49 => ?_) (fun α H44 hM => ?_)
   ·refine w_block ?_
    obtain ⟨n51, hn52⟩ := loopO_iff.1 hx41
    refine w_loopn (fun n α H53 => ∃ (i0 : Int), ∃ (e1 : Er), ∃ (v57 : Value), iterO (fun zz_ => z_viaductseen_Same_l0 Places zz_.1 zz_.2) n (i0, e1) = some z43 ∧ Has α [(0, .iface t29 x30), (3, .pointer (some ⟨b2, 0, none⟩)), (5, v57), (21, hd_Places), (22, .int .i64 (Places.length : Int)), (23, .int .i64 i0)] ∧ FrS [] H14 H53 ∧ Ev 27 71 H53 v57 e1 fp_err) n51 ⟨0, err, (.iface t29 x30), hn52, ⟨by kernel_rfl, by kernel_rfl, by kernel_rfl, by kernel_rfl, by kernel_rfl, by kernel_rfl, trivial⟩, (FrS.refl (W := []) e15.wf), u31⟩ ?_
    rintro n51 α H53 ⟨i0, e1, v57, hi59, hh58, e54, m56⟩ K64 k64
    obtain ⟨n60, z61, rfl, hz62, hn63⟩ := iter_succ hi59
    obtain ⟨β, rfl⟩ := has_ex hh58
    clear hh58
    replace hz62 : z_viaductseen_Same_l0 Places i0 e1 = some z61 := hz62
    unfold z_viaductseen_Same_l0 at hz62
    refine w_seqk fun K65 k65 => ?_
    refine w_reg (by kernel_rfl) ?_
    refine s_qk (.bool (decide (i0 < (Places.length : Int)))) (by kernel_rfl) ?_
    refine s_nil ?_
    refine k65 _ _ ?_
    refine w_seqk fun K66 k66 => ?_
    refine w_condp (i0 < (Places.length : Int)) (by kernel_rfl) rfl (fun h67 => ?_) (fun h67 => ?_)
    ·have r68 := ite_t h67 hz62
     refine w_skip ?_
     refine k66 _ _ ?_
     refine w_seqk fun K69 k69 => ?_
     refine w_block ?_
     refine w_seqk fun K70 k70 => ?_
     refine w_reg (by kernel_rfl) ?_
     obtain ⟨g71, r72⟩ := G_some r68
     have u73 := (u39.fr e54 Dj.nil_l)
     refine s_ql (elp hd_Places 2 i0.toNat 0) (x := aIndexAddr Tryd.prog 23 hd_Places (.int .i64 i0)) (by kernel_rfl) (u73.idxb (by kernel_rfl) g71 h67) ?_
     refine s_ql (.agg #[.int .i64 ((gt Places i0).1), .int .i64 ((gt Places i0).2)]) (x := aLoad Tryd.prog 62 (elp hd_Places 2 i0.toNat 0) H53) (by kernel_rfl) (u73.ld g71 h67 (by kernel_rfl)) ?_
     refine s_rwk e54.wf [.int .i64 0, .int .i64 0] (by kernel_rfl) fun b74 H75 e76 hb77 r78 => ?_
     obtain ⟨H80, q81, e82, r83⟩ := Row.store (P := Tryd.prog) (t := 62) (p := 0) e76.wf r78 (.agg #[.int .i64 ((gt Places i0).1), .int .i64 ((gt Places i0).2)]) [.int .i64 ((gt Places i0).1), .int .i64 ((gt Places i0).2)] (by kernel_rfl) (by kernel_rfl) (one_cons (rfl) (one_cons (rfl) (one_nil))) (Nat.le_of_ble_eq_true (by kernel_rfl)) [.int .i64 ((gt Places i0).1), .int .i64 ((gt Places i0).2)] (by kernel_rfl)
     refine s_ek (undef) (by kernel_rfl) (map_ok q81) ?_
     refine s_nil ?_
     refine k70 _ _ ?_
     refine w_seqk fun K84 k84 => ?_
     refine w_reg (by kernel_rfl) ?_
     refine s_rwk e82.wf [.pointer none] (by kernel_rfl) fun b85 H86 e87 hb88 r89 => ?_
     refine s_nil ?_
     refine k84 _ _ ?_
     refine w_seqk fun K91 k91 => ?_
     refine w_seqk fun K92 k92 => ?_
     refine w_draw [0, 1, 2, 3, 4, 5, 6, 7, 8, 9, 10, 11, 12, 13, 14, 15] (by kernel_rfl) ?_
     refine d_qk (v57) (by kernel_rfl) ?_
     refine d_qk (.iface 73 (.pointer (some ⟨b85, 0, none⟩))) (by kernel_rfl) ?_
     by_cases h93 : Er.isAt e1 = true
     ·have r94 := ite_t h93 r72
      have u103 := (((m56.ext e76).fr e82 (hb77.djn (h_err.lt.le (ntr (ntr e4.next e15.next) e54.next)))).ext e87)
      refine d_ck 23 #[v57, .iface 73 (.pointer (some ⟨b85, 0, none⟩))] (by kernel_rfl) (a_asF_at e87.wf r89 (hb88.djn (h_err.lt.le (ntr (ntr (ntr (ntr e4.next e15.next) e54.next) e76.next) e82.next))) u103 h93) ?_
      rintro _ H95 ⟨rfl, e96, b98, u99, -, i100, r97, r101, v102⟩
      refine ⟨st_nil, ?_⟩
      refine d_qk (.bool false) (by kernel_rfl) ?_
      refine d_qk (.bool false) (by kernel_rfl) ?_
      refine d_ql (.pointer (some ⟨b98, 0, none⟩)) (x := aLoad Tryd.prog 71 (.pointer (some ⟨b85, 0, none⟩)) H95) (by kernel_rfl) (r97.ld (by kernel_rfl)) ?_
      refine d_qk (.bool false) (by kernel_rfl) ?_
      refine d_qk (.bool false) (by kernel_rfl) ?_
      refine d_qk (.bool false) (by kernel_rfl) ?_
      refine d_ql (.pointer (some ⟨b98, 0, none⟩)) (x := aLoad Tryd.prog 71 (.pointer (some ⟨b85, 0, none⟩)) H95) (by kernel_rfl) (r97.ld (by kernel_rfl)) ?_
      refine d_qk (.pointer (some ⟨b98, 0, none⟩)) (by kernel_rfl) ?_
      refine d_qk (.pointer (some ⟨b98, 0, none⟩)) (by kernel_rfl) ?_
      refine d_ql (.agg #[.int .i64 (Er.fk e1), .int .i64 (Er.fi e1)]) (x := aLoad Tryd.prog 62 (.pointer (some ⟨b98, 0, none⟩)) H95) (by kernel_rfl) (r101.ld (by kernel_rfl)) ?_
      have u106 := ((r83.ext e87).frS e96 (hb88.djn (r78.ltF.le e82.next)))
      refine d_ql (.agg #[.int .i64 ((gt Places i0).1), .int .i64 ((gt Places i0).2)]) (x := aLoad Tryd.prog 62 (.pointer (some ⟨b74, 0, none⟩)) H95) (by kernel_rfl) (u106.ld (by kernel_rfl)) ?_
      refine d_ql (.bool (!decide ((Er.fk e1) = ((gt Places i0).1) ∧ (Er.fi e1) = ((gt Places i0).2)))) (x := aBin Tryd.prog .neq 62 (.tmp 39) (.tmp 40) (.agg #[.int .i64 (Er.fk e1), .int .i64 (Er.fi e1)]) (.agg #[.int .i64 ((gt Places i0).1), .int .i64 ((gt Places i0).2)])) (by kernel_rfl) (aBin_neq62 _ _ (Er.fk e1) (Er.fi e1) ((gt Places i0).1) ((gt Places i0).2)) ?_
      refine d_qk (.bool (!decide ((Er.fk e1) = ((gt Places i0).1) ∧ (Er.fi e1) = ((gt Places i0).2)))) (by kernel_rfl) ?_
      refine d_nil ?_
      refine k92 _ _ ?_
      refine w_condn ((Er.fk e1) = ((gt Places i0).1) ∧ (Er.fi e1) = ((gt Places i0).2)) (by kernel_rfl) rfl (fun h107 => ?_) (fun h107 => ?_)
      ·have r108 := ite_f h107 r94
       refine w_seqk fun K109 k109 => ?_
       refine w_reg (by kernel_rfl) ?_
       refine s_qk (.bool false) (by kernel_rfl) ?_
       refine s_nil ?_
       refine k109 _ _ ?_
       refine w_ret (th_ret (bl_ret (th_ret (th_ret (bl_ret (th_ret (th_ret ?_)))))))
       obtain ⟨v110, hv111, hz112⟩ := map_some r108
       subst hz112
       obtain rfl := it_inr hn63
       have hq113 := elim_inl r42
       rw [hq113] at hv111
       refine b_ret (fn := Tryd.f13) (vs := [.bool false]) (aRes_tmp (by kernel_rfl) (rfl)) ?_
       obtain rfl := Option.some.inj hv111
       exact ⟨rfl, (FrS.step wf ((FrS.step wf ((FrS.step wf (FrS.step wf ((FrS.refl (W := []) wf).extR e4) e15 Inn.nil) e54 Inn.nil).extR e76) e82 (hb77.fresh (ntr (ntr e4.next e15.next) e54.next))).extR e87) e96 (hb88.fresh (ntr (ntr (ntr (ntr e4.next e15.next) e54.next) e76.next) e82.next)))⟩
      ·have r114 := ite_t h107 r94
       refine w_skip ?_
       refine k91 _ _ ?_
       refine w_reg (by kernel_rfl) ?_
       refine s_ql (.pointer (some ⟨b98, 0, none⟩)) (x := aLoad Tryd.prog 71 (.pointer (some ⟨b85, 0, none⟩)) H95) (by kernel_rfl) (r97.ld (by kernel_rfl)) ?_
       refine s_qk (.pointer (some ⟨b98, 0, none⟩)) (by kernel_rfl) ?_
       refine s_qk (.pointer (some ⟨b98, 2, none⟩)) (by kernel_rfl) ?_
       refine s_ql (u99) (x := aLoad Tryd.prog 41 (.pointer (some ⟨b98, 2, none⟩)) H95) (by kernel_rfl) (r101.ld (by kernel_rfl)) ?_
       refine s_qk (u99) (by kernel_rfl) ?_
       refine s_nil ?_
       refine k69 _ _ ?_
       refine w_reg (by kernel_rfl) ?_
       obtain ⟨g115, r116⟩ := G_some r114
       refine s_w ((i0 + 1)) (k := .i64) (x := (i0 + 1)) (by kernel_rfl) (wrap64 (by have := g115; omega)) ?_
       refine s_qk (.int .i64 (i0 + 1)) (by kernel_rfl) ?_
       refine s_nil ?_
       obtain rfl := Option.some.inj r116
       exact k64 n60 _ _ (Nat.lt_succ_self _) ⟨(i0 + 1), (Er.fe e1), (u99), hn63, ⟨by kernel_rfl, by kernel_rfl, by kernel_rfl, by kernel_rfl, by kernel_rfl, by kernel_rfl, trivial⟩, (FrS.step e15.wf ((FrS.step e15.wf ((FrS.step e15.wf (FrS.refl (W := []) e15.wf) e54 Inn.nil).extR e76) e82 (hb77.fresh e54.next)).extR e87) e96 (hb88.fresh (ntr (ntr e54.next e76.next) e82.next))), v102⟩
     ·have r117 := ite_f h93 r72
      have u118 := (((m56.ext e76).fr e82 (hb77.djn (h_err.lt.le (ntr (ntr e4.next e15.next) e54.next)))).ext e87)
      refine d_ck 23 #[v57, .iface 73 (.pointer (some ⟨b85, 0, none⟩))] (by kernel_rfl) (a_asF_no r89 u118 h93) ?_
      rintro _ _ ⟨rfl, rfl⟩
      refine ⟨st_nil, ?_⟩
      refine d_qk (.bool true) (by kernel_rfl) ?_
      refine d_qk (.bool true) (by kernel_rfl) ?_
      refine d_idle (by kernel_rfl) ?_
      refine d_idle (by kernel_rfl) ?_
      refine d_qk (.bool true) (by kernel_rfl) ?_
      refine d_qk (.bool true) (by kernel_rfl) ?_
      refine d_idle (by kernel_rfl) ?_
      refine d_idle (by kernel_rfl) ?_
      refine d_idle (by kernel_rfl) ?_
      refine d_idle (by kernel_rfl) ?_
      refine d_idle (by kernel_rfl) ?_
      refine d_idle (by kernel_rfl) ?_
      refine d_qk (.bool true) (by kernel_rfl) ?_
      refine d_nil ?_
      refine k92 _ _ ?_
      refine w_cond true (by kernel_rfl) rfl (fun _ => ?_) (fun h => by cases h)
      refine w_seqk fun K119 k119 => ?_
      refine w_reg (by kernel_rfl) ?_
      refine s_qk (.bool false) (by kernel_rfl) ?_
      refine s_nil ?_
      refine k119 _ _ ?_
      refine w_ret (th_ret (bl_ret (th_ret (th_ret (bl_ret (th_ret (th_ret ?_)))))))
      obtain ⟨v120, hv121, hz122⟩ := map_some r117
      subst hz122
      obtain rfl := it_inr hn63
      have hq123 := elim_inl r42
      rw [hq123] at hv121
      refine b_ret (fn := Tryd.f13) (vs := [.bool false]) (aRes_tmp (by kernel_rfl) (rfl)) ?_
      obtain rfl := Option.some.inj hv121
      exact ⟨rfl, ((FrS.step wf ((FrS.step wf (FrS.step wf ((FrS.refl (W := []) wf).extR e4) e15 Inn.nil) e54 Inn.nil).extR e76) e82 (hb77.fresh (ntr (ntr e4.next e15.next) e54.next))).extR e87)⟩
    ·have r124 := ite_f h67 hz62
     refine w_exit (th_exit (th_exit (bl_eq ?_)))
     obtain rfl := Option.some.inj r124
     obtain rfl := it_inr hn63
     exact k49 _ _ ⟨_, rfl, (v57), ⟨by kernel_rfl, by kernel_rfl, by kernel_rfl, trivial⟩, (FrS.step e15.wf (FrS.refl (W := []) e15.wf) e54 Inn.nil), m56⟩
   ·obtain ⟨o40, rfl, v48, hh50, e45, m47⟩ := hM
    have r125 := elim_inr r42
    obtain ⟨β, rfl⟩ := has_ex hh50
    clear hh50
    refine k36 _ _ ?_
    refine w_seqk fun K126 k126 => ?_
    refine w_reg (by kernel_rfl) ?_
    refine s_rwk e45.wf [.pointer none] (by kernel_rfl) fun b127 H128 e129 hb130 r131 => ?_
    refine s_nil ?_
    refine k126 _ _ ?_
    refine w_seqk fun K133 k133 => ?_
    refine w_seqk fun K134 k134 => ?_
    refine w_reg (by kernel_rfl) ?_
    refine s_qk (v48) (by kernel_rfl) ?_
    refine s_qk (.iface 73 (.pointer (some ⟨b127, 0, none⟩))) (by kernel_rfl) ?_
    by_cases h135 : Er.isAt o40 = true
    ·have r136 := ite_t h135 r125
     have u145 := (m47.ext e129)
     refine s_ck 23 #[v48, .iface 73 (.pointer (some ⟨b127, 0, none⟩))] (by kernel_rfl) (a_asF_at e129.wf r131 (hb130.djn (h_err.lt.le (ntr (ntr e4.next e15.next) e45.next))) u145 h135) ?_
     rintro _ H137 ⟨rfl, e138, b140, u141, -, i142, r139, r143, v144⟩
     refine s_nil ?_
     refine k134 _ _ ?_
     refine w_cond true (by kernel_rfl) rfl (fun _ => ?_) (fun h => by cases h)
     refine w_seqk fun K148 k148 => ?_
     refine w_reg (by kernel_rfl) ?_
     refine s_qk (.bool false) (by kernel_rfl) ?_
     refine s_nil ?_
     refine k148 _ _ ?_
     refine w_ret (th_ret ?_)
     refine b_ret (fn := Tryd.f13) (vs := [.bool false]) (aRes_tmp (by kernel_rfl) (rfl)) ?_
     obtain rfl := Option.some.inj r136
     exact ⟨rfl, (FrS.step wf ((FrS.step wf (FrS.step wf ((FrS.refl (W := []) wf).extR e4) e15 Inn.nil) e45 Inn.nil).extR e129) e138 (hb130.fresh (ntr (ntr e4.next e15.next) e45.next)))⟩
    ·have r149 := ite_f h135 r125
     have u150 := (m47.ext e129)
     refine s_ck 23 #[v48, .iface 73 (.pointer (some ⟨b127, 0, none⟩))] (by kernel_rfl) (a_asF_no r131 u150 h135) ?_
     rintro _ _ ⟨rfl, rfl⟩
     refine s_nil ?_
     refine k134 _ _ ?_
     refine w_cond false (by kernel_rfl) rfl (fun h => by cases h) (fun _ => ?_)
     refine w_skip ?_
     refine k133 _ _ ?_
     refine w_seqk fun K151 k151 => ?_
     refine w_reg (by kernel_rfl) ?_
     refine s_rwk e129.wf [.int .i64 0] (by kernel_rfl) fun b152 H153 e154 hb155 r156 => ?_
     refine s_nil ?_
     refine k151 _ _ ?_
     refine w_seqk fun K158 k158 => ?_
     refine w_seqk fun K159 k159 => ?_
     obtain ⟨o160, hx161, r162⟩ := bind_some r149
     refine w_mid (fun α H163 => Has α [(0, .iface t29 x30), (3, .pointer (some ⟨b2, 0, none⟩)), (60, .bool o160)] ∧ FrS [b152] H153 H163) (fun K165 k165 => ?_) (fun α H163 hM => ?_)
     ·refine w_reg (by kernel_rfl) ?_
      refine s_qk (.iface t29 x30) (by kernel_rfl) ?_
      refine s_qk (.iface 76 (.pointer (some ⟨b152, 0, none⟩))) (by kernel_rfl) ?_
      by_cases h167 : (Er.num err).isSome = true
      ·have r168 := ite_t h167 hx161
       have u172 := (((u31.fr e45 Dj.nil_l).ext e129).ext e154)
       refine s_ck 23 #[.iface t29 x30, .iface 76 (.pointer (some ⟨b152, 0, none⟩))] (by kernel_rfl) (a_asN_y e154.wf r156 u172 h28 h167) ?_
       rintro _ H169 ⟨rfl, e170, r171⟩
       refine s_qk (.bool false) (by kernel_rfl) ?_
       refine s_qk (.bool false) (by kernel_rfl) ?_
       refine s_ql (.int .i64 ((Er.num err).getD 0)) (x := aLoad Tryd.prog 27 (.pointer (some ⟨b152, 0, none⟩)) H169) (by kernel_rfl) (r171.ld (by kernel_rfl)) ?_
       refine s_qk (.pointer (some ⟨b2, 0, none⟩)) (by kernel_rfl) ?_
       have u173 := ((((u38.frS e45 Dj.nil_l).ext e129).ext e154).frS e170 (hb155.djn (r6.ltF.le (ntr (ntr e15.next e45.next) e129.next))))
       refine s_ql (.int .i64 Code) (x := aLoad Tryd.prog 3 (.pointer (some ⟨b2, 0, none⟩)) H169) (by kernel_rfl) (u173.ld (by kernel_rfl)) ?_
       refine s_qk (.bool (!decide (((Er.num err).getD 0) = Code))) (by kernel_rfl) ?_
       refine s_qk (.bool (!decide (((Er.num err).getD 0) = Code))) (by kernel_rfl) ?_
       refine s_nil ?_
       obtain rfl := Option.some.inj r168
       exact k165 _ _ ⟨⟨by kernel_rfl, by kernel_rfl, by kernel_rfl, trivial⟩, (FrS.step e154.wf (FrS.refl (W := [b152]) e154.wf) e170 Inn.refl')⟩
      ·have r174 := ite_f h167 hx161
       have u178 := (((u31.fr e45 Dj.nil_l).ext e129).ext e154)
       refine s_ck 23 #[.iface t29 x30, .iface 76 (.pointer (some ⟨b152, 0, none⟩))] (by kernel_rfl) (a_asN_n e154.wf r156 u178 h28 h167) ?_
       rintro _ H175 ⟨rfl, e176, r177⟩
       refine s_qk (.bool true) (by kernel_rfl) ?_
       refine s_qk (.bool true) (by kernel_rfl) ?_
       refine s_no (by kernel_rfl) ?_
       refine s_no (by kernel_rfl) ?_
       refine s_no (by kernel_rfl) ?_
       refine s_no (by kernel_rfl) ?_
       refine s_qk (.bool true) (by kernel_rfl) ?_
       refine s_nil ?_
       obtain rfl := Option.some.inj r174
       exact k165 _ _ ⟨⟨by kernel_rfl, by kernel_rfl, by kernel_rfl, trivial⟩, (FrS.step e154.wf (FrS.refl (W := [b152]) e154.wf) e176 Inn.refl')⟩
     ·obtain ⟨hh166, e164⟩ := hM
      obtain ⟨β, rfl⟩ := has_ex hh166
      clear hh166
      refine k159 _ _ ?_
      refine w_cond (o160) (by kernel_rfl) rfl (fun h179 => ?_) (fun h179 => ?_)
      ·have r180 := ite_t h179 r162
       refine w_seqk fun K181 k181 => ?_
       refine w_reg (by kernel_rfl) ?_
       refine s_qk (.bool false) (by kernel_rfl) ?_
       refine s_nil ?_
       refine k181 _ _ ?_
       refine w_ret (th_ret ?_)
       refine b_ret (fn := Tryd.f13) (vs := [.bool false]) (aRes_tmp (by kernel_rfl) (rfl)) ?_
       obtain rfl := Option.some.inj r180
       exact ⟨rfl, (FrS.step wf (((FrS.step wf (FrS.step wf ((FrS.refl (W := []) wf).extR e4) e15 Inn.nil) e45 Inn.nil).extR e129).extR e154) e164 (hb155.fresh (ntr (ntr (ntr e4.next e15.next) e45.next) e129.next)))⟩
      ·have r182 := ite_bf h179 r162
       refine w_skip ?_
       refine k158 _ _ ?_
       refine w_seqk fun K183 k183 => ?_
       refine w_seqk fun K184 k184 => ?_
       refine w_reg (by kernel_rfl) ?_
       refine s_qk (.int .i64 1) (by kernel_rfl) ?_
       refine s_nil ?_
       refine k184 _ _ ?_
       obtain ⟨z188, hx186, r187⟩ := bind_some r182
       refine w_mid (fun α H189 => ∃ o185, z188 = Sum.inr o185 ∧ Has α [] ∧ H163 = H189) (fun K191 k191 => ?_) (fun α H189 hM => ?_)
       ·refine w_block ?_
        obtain ⟨n193, hn194⟩ := loopO_iff.1 hx186
        refine w_loopn (fun n α H195 => ∃ (i2 : Int), iterO (fun zz_ => z_viaductseen_Same_l1 err Code zz_) n i2 = some z188 ∧ Has α [(0, .iface t29 x30), (3, .pointer (some ⟨b2, 0, none⟩)), (11, .int .i64 i2)] ∧ H163 = H195) n193 ⟨1, hn194, ⟨by kernel_rfl, by kernel_rfl, by kernel_rfl, trivial⟩, rfl⟩ ?_
        rintro n193 α H195 ⟨i2, hi198, hh197, rfl⟩ K203 k203
        obtain ⟨n199, z200, rfl, hz201, hn202⟩ := iter_succ hi198
        obtain ⟨β, rfl⟩ := has_ex hh197
        clear hh197
        replace hz201 : z_viaductseen_Same_l1 err Code i2 = some z200 := hz201
        unfold z_viaductseen_Same_l1 at hz201
        refine w_seqk fun K204 k204 => ?_
        refine w_seqk fun K205 k205 => ?_
        refine w_reg (by kernel_rfl) ?_
        refine s_qk (.int .i64 i2) (by kernel_rfl) ?_
        refine s_qk (.bool (decide (i2 ≤ 20))) (by kernel_rfl) ?_
        refine s_nil ?_
        refine k205 _ _ ?_
        refine w_condp (i2 ≤ 20) (by kernel_rfl) rfl (fun h206 => ?_) (fun h206 => ?_)
        ·have r207 := ite_t h206 hz201
         refine w_skip ?_
         refine k204 _ _ ?_
         refine w_seqk fun K208 k208 => ?_
         refine w_block ?_
         refine w_seqk fun K209 k209 => ?_
         refine w_draw [0, 1, 2, 4, 5, 6, 7, 3, 8] (by kernel_rfl) ?_
         refine d_qk (.iface t29 x30) (by kernel_rfl) ?_
         refine d_qk (.int .i64 i2) (by kernel_rfl) ?_
         refine d_qk (.iface 27 (.int .i64 i2)) (by kernel_rfl) ?_
         refine d_qk (.int .i64 i2) (by kernel_rfl) ?_
         refine d_qk (.pointer (some ⟨b2, 0, none⟩)) (by kernel_rfl) ?_
         have u210 := ((((u38.frS e45 Dj.nil_l).ext e129).ext e154).frS e164 (hb155.djn (r6.ltF.le (ntr (ntr e15.next e45.next) e129.next))))
         refine d_fl (.int .i64 Code) (x := aLoad Tryd.prog 3 (.pointer (some ⟨b2, 0, none⟩)) H163) (by kernel_rfl) (u210.ld (by kernel_rfl)) ?_
         refine d_qk (.bool (decide (i2 = Code))) (by kernel_rfl) ?_
         have u211 := ((((u31.fr e45 Dj.nil_l).ext e129).ext e154).fr e164 (hb155.djn (h_err.lt.le (ntr (ntr (ntr e4.next e15.next) e45.next) e129.next))))
         refine d_ck 24 #[.iface t29 x30, .iface 27 (.int .i64 i2)] (by kernel_rfl) (a_isN u211 h28) ?_
         rintro _ _ ⟨rfl, rfl⟩
         refine ⟨st_ql (y := aLoad Tryd.prog 3 (.pointer (some ⟨b2, 0, none⟩)) H163) (by kernel_rfl) (u210.ld (by kernel_rfl)) (st_nil), ?_⟩
         refine d_qk (.bool (!decide ((decide (Er.num err = some i2)) = (decide (i2 = Code))))) (by kernel_rfl) ?_
         refine d_nil ?_
         refine k209 _ _ ?_
         refine w_condn ((decide (Er.num err = some i2)) = (decide (i2 = Code))) (by kernel_rfl) rfl (fun h212 => ?_) (fun h212 => ?_)
         ·have r213 := ite_f h212 r207
          refine w_seqk fun K214 k214 => ?_
          refine w_reg (by kernel_rfl) ?_
          refine s_qk (.bool false) (by kernel_rfl) ?_
          refine s_nil ?_
          refine k214 _ _ ?_
          refine w_ret (bl_ret (th_ret (th_ret (bl_ret (th_ret (th_ret ?_))))))
          obtain ⟨v215, hv216, hz217⟩ := map_some r213
          subst hz217
          obtain rfl := it_inr hn202
          have hq218 := elim_inl r187
          rw [hq218] at hv216
          refine b_ret (fn := Tryd.f13) (vs := [.bool false]) (aRes_tmp (by kernel_rfl) (rfl)) ?_
          obtain rfl := Option.some.inj hv216
          exact ⟨rfl, (FrS.step wf (((FrS.step wf (FrS.step wf ((FrS.refl (W := []) wf).extR e4) e15 Inn.nil) e45 Inn.nil).extR e129).extR e154) e164 (hb155.fresh (ntr (ntr (ntr e4.next e15.next) e45.next) e129.next)))⟩
         ·have r219 := ite_t h212 r207
          refine w_skip ?_
          refine k208 _ _ ?_
          refine w_reg (by kernel_rfl) ?_
          refine s_qk (.int .i64 i2) (by kernel_rfl) ?_
          obtain ⟨g220, r221⟩ := G_some r219
          refine s_w ((i2 + 1)) (k := .i64) (x := (i2 + 1)) (by kernel_rfl) (wrap64 g220) ?_
          refine s_qk (.int .i64 (i2 + 1)) (by kernel_rfl) ?_
          refine s_nil ?_
          obtain rfl := Option.some.inj r221
          exact k203 n199 _ _ (Nat.lt_succ_self _) ⟨(i2 + 1), hn202, ⟨by kernel_rfl, by kernel_rfl, by kernel_rfl, trivial⟩, rfl⟩
        ·have r222 := ite_f h206 hz201
         refine w_exit (th_exit (th_exit (bl_eq ?_)))
         obtain rfl := Option.some.inj r222
         obtain rfl := it_inr hn202
         exact k191 _ _ ⟨_, rfl, trivial, rfl⟩
       ·obtain ⟨o185, rfl, hh192, rfl⟩ := hM
        have r223 := elim_inr r187
        obtain ⟨β, rfl⟩ := has_ex hh192
        clear hh192
        refine k183 _ _ ?_
        refine w_seqk fun K224 k224 => ?_
        refine w_reg (by kernel_rfl) ?_
        refine s_qk (.bool true) (by kernel_rfl) ?_
        refine s_nil ?_
        refine k224 _ _ ?_
        refine w_ret ?_
        refine b_ret (fn := Tryd.f13) (vs := [.bool true]) (aRes_tmp (by kernel_rfl) (rfl)) ?_
        obtain rfl := Option.some.inj r223
        exact ⟨rfl, (FrS.step wf (((FrS.step wf (FrS.step wf ((FrS.refl (W := []) wf).extR e4) e15 Inn.nil) e45 Inn.nil).extR e129).extR e154) e164 (hb155.fresh (ntr (ntr (ntr e4.next e15.next) e45.next) e129.next)))⟩


end Go.Vd
