/- The walks of the functions (printed by a program of ours). -/
import Derived.Test.YtmndpcokgbfgkaaGreatDoorPhc0
import Derived.Test.YtmndpcokgbfgkaaGreatDoorPhcDrG
import Derived.Test.YtmndpcokgbfgkaaGreatDoorPhcIHc
import Derived.Test.YtmndpcokgbfgkaaGreatDoorPhcVeN
import Derived.Test.YtmndpcokgbfgkaaGreatDoorPhcSoA
import Derived.Test.YtmndpcokgbfgkaaGreatDoorPhcVeT
set_option linter.unusedVariables false
set_option linter.unusedSimpArgs false
set_option linter.unusedSectionVars false
namespace Go.Vd
/-! Steps under short names: what is reckoned is reckoned by itself. -/
section
set_option linter.unusedSectionVars false
variable [Pins] {P : Program} {ops : Array Oper} {K : AAct → AH → Prop} {α : AAct} {H : AH} {o : Oper} {rest : List Oper} {tbl : List (List Nat)} {i : Nat} {rs : List Nat} {fl : List (Nat × AAct × Value)}
theorem q_ (v : Value) (k : wpSeq P ops K rest (α.put o.dst v) H) (h : stepQ P ops o α H = some v := by kernel_rfl) : wpSeq P ops K (o :: rest) α H := s_qk v h k
theorem l_' (v : Value) (x : Option Value) (h : x = some v) (k : wpSeq P ops K rest (α.put o.dst v) H) (h1 : stepQ P ops o α H = x := by kernel_rfl) : wpSeq P ops K (o :: rest) α H := s_ql v h1 h k
theorem e_' (v : Value) (k : wpOrd P ops tbl K rs fl (α.put (dstOf ops i) v) H) (h : stepD P ops tbl i rs α H = some v := by kernel_rfl) : wpOrd P ops tbl K (i :: rs) fl α H := d_qk v h k
theorem m_' (v : Value) (x : Option Value) (h : x = some v) (k : wpOrd P ops tbl K rs fl (α.put (dstOf ops i) v) H) (h1 : stepD P ops tbl i rs α H = x := by kernel_rfl) : wpOrd P ops tbl K (i :: rs) fl α H := d_ql v h1 h k
theorem has_of : ∀ {l : List (Nat × Value)}, (l.map fun p => α p.1) = l.map (·.2) → Has α l
  | [], _ => trivial
  | (_, _) :: _, h => ⟨(List.cons.inj h).1, has_of (List.cons.inj h).2⟩
theorem ha_ {l : List (Nat × Value)} (h : (l.map fun p => α p.1) = l.map (·.2) := by kernel_rfl) : Has α l := has_of h
theorem n_' (k : wpSeq P ops K rest (α.put o.dst undef) H) (hg : Region.wanted o (aYield ops α) = false := by kernel_rfl) : wpSeq P ops K (o :: rest) α H := s_no hg k
theorem j_' (k : wpOrd P ops tbl K rs fl (α.put (dstOf ops i) undef) H) (h : idle ops i α = true := by kernel_rfl) : wpOrd P ops tbl K (i :: rs) fl α H := d_idle h k
theorem g_' {N id : Nat} {l : List Oper} {Q : Exit → AAct → AH → Prop} (h : wpSeq P l.toArray (Q .normal) l α H) (hok : opsOk N l = true := by kernel_rfl) : aWp P N (.region id l.toArray false) Q α H := w_reg hok h
theorem w_' (x : Int) (hw : IntKind.i64.wrap x = x) (kk : wpSeq P ops K rest (α.put o.dst (.int .i64 x)) H) (h : stepQ P ops o α H = some (.int .i64 (IntKind.i64.wrap x)) := by kernel_rfl) : wpSeq P ops K (o :: rest) α H := s_w x h hw kk
end
abbrev i_ (n : Int) : Value := .int .i64 n
abbrev pt_ (b o : Nat) : Value := .pointer (some ⟨b, o, none⟩)
end Go.Vd

/-! (KHc0) -/

set_option maxRecDepth 100000
set_option maxHeartbeats 4000000
set_option linter.unusedVariables false
namespace Go.Vd
open Go.Proofs
attribute [local irreducible] wpSeq wpOrd aWp
set_option linter.unusedSimpArgs false
theorem e_pure {α : Type} (P : Program) (a : α) : pr P (pure a : Sem α) = some a := rfl
theorem e_prog {P : Program} : pr P (program : Sem Program) = some P := rfl
theorem e_und {P : Program} {t : TypeId} {d : TypeDesc} (h : P.underlying t = some d) : pr P (underlying t) = some d := by
  simp only [underlying, pr_bind]
  show ((pr P (program : Sem Program)).bind _) = _
  simp [show pr P (program : Sem Program) = some P from rfl, h]
  rfl
theorem e_int {P : Program} (d : Nat) (t : TypeId) (k : IntKind) (h : P.underlying t = some (.int k)) (a c : Int) : pr P (Op.equalIn (d+1) t (.int k a) (.int k c)) = some (a == c) := by
  simp only [Op.equalIn, pr_bind, e_und h]
  simp [e_pure]
theorem e_bool {P : Program} (d : Nat) (t : TypeId) (h : P.underlying t = some .bool) (a c : Bool) : pr P (Op.equalIn (d+1) t (.bool a) (.bool c)) = some (a == c) := by
  simp only [Op.equalIn, pr_bind, e_und h]
  simp [e_pure]
theorem e63_p0 (a0 : Int) (a1 : Int) (a2 : Int) : pr Tryz.prog (part 3 #[i_ a0, i_ a1, i_ a2] 0) = some (i_ a0) := by kernel_rfl
theorem e63_q0 (a c : Int) : pr Tryz.prog (Op.equalIn 9999 3 (i_ a) (i_ c)) = some (a == c) := e_int 9998 3 .i64 Go.Proofs.Tryz.underlying3 a c
theorem e63_p1 (a0 : Int) (a1 : Int) (a2 : Int) : pr Tryz.prog (part 3 #[i_ a0, i_ a1, i_ a2] 1) = some (i_ a1) := by kernel_rfl
theorem e63_q1 (a c : Int) : pr Tryz.prog (Op.equalIn 9999 3 (i_ a) (i_ c)) = some (a == c) := e_int 9998 3 .i64 Go.Proofs.Tryz.underlying3 a c
theorem e63_p2 (a0 : Int) (a1 : Int) (a2 : Int) : pr Tryz.prog (part 3 #[i_ a0, i_ a1, i_ a2] 2) = some (i_ a2) := by kernel_rfl
theorem e63_q2 (a c : Int) : pr Tryz.prog (Op.equalIn 9999 3 (i_ a) (i_ c)) = some (a == c) := e_int 9998 3 .i64 Go.Proofs.Tryz.underlying3 a c
theorem e63_stood : Tryz.prog.stoodInHeld 63 = false := by kernel_rfl
theorem e63_eq (a0 : Int) (a1 : Int) (a2 : Int) (c0 : Int) (c1 : Int) (c2 : Int) : pr Tryz.prog (Op.equalIn Op.maxDepth 63 (.agg #[i_ a0, i_ a1, i_ a2]) (.agg #[i_ c0, i_ c1, i_ c2])) = some (a0 == c0 && a1 == c1 && a2 == c2) := by
  rw [show Op.maxDepth = 9998 + 1 + 1 from rfl, Op.equalIn]
  rw [pr_bind, e_und Go.Proofs.Tryz.underlying63]
  simp only [Option.bind_some, pr_bind, e_prog, e63_stood, Bool.false_eq_true, if_false]
  simp [pr_bind, e63_p0, e63_p1, e63_p2, e63_q0, e63_q1, e63_q2]
  by_cases h0 : a0 = c0
  · subst h0
    by_cases h1 : a1 = c1
    · subst h1
      by_cases h2 : a2 = c2
      · subst h2
        simp [e_pure, pr_bind, e63_p0, e63_p1, e63_p2, e63_q0, e63_q1, e63_q2]
      · simp [e_pure, pr_bind, e63_p0, e63_p1, e63_p2, e63_q0, e63_q1, e63_q2, h2]
    · simp [e_pure, pr_bind, e63_p0, e63_p1, e63_p2, e63_q0, e63_q1, e63_q2, h1]
  · simp [e_pure, pr_bind, e63_p0, e63_p1, e63_p2, e63_q0, e63_q1, e63_q2, h0]
theorem e63_gneq (x y : Operand) (a0 : Int) (a1 : Int) (a2 : Int) (c0 : Int) (c1 : Int) (c2 : Int) : pr Tryz.prog (eqGuard .neq 63 x y (.agg #[i_ a0, i_ a1, i_ a2]) (.agg #[i_ c0, i_ c1, i_ c2])) = some () := by kernel_rfl
theorem aBin_neq63 (x y : Operand) (a0 : Int) (a1 : Int) (a2 : Int) (c0 : Int) (c1 : Int) (c2 : Int) : aBin Tryz.prog .neq 63 x y (.agg #[i_ a0, i_ a1, i_ a2]) (.agg #[i_ c0, i_ c1, i_ c2]) = some (.bool (!decide (a0 = c0 ∧ a1 = c1 ∧ a2 = c2))) := by
  unfold aBin
  rw [if_pos (show (plain (.agg #[i_ a0, i_ a1, i_ a2]) && plain (.agg #[i_ c0, i_ c1, i_ c2])) = true from rfl), pr_bind, e63_gneq]
  have : pr Tryz.prog (binOp .neq 63 (.agg #[i_ a0, i_ a1, i_ a2]) (.agg #[i_ c0, i_ c1, i_ c2])) = some (.bool (!decide (a0 = c0 ∧ a1 = c1 ∧ a2 = c2))) := by
    simp only [binOp, Op.equal, pr_bind, e63_eq]
    by_cases g0 : a0 = c0 <;> by_cases g1 : a1 = c1 <;> by_cases g2 : a2 = c2 <;> simp [e_pure, g0, g1, g2]
  simp only [Option.bind_some, this]
  rfl
theorem e63_geql (x y : Operand) (a0 : Int) (a1 : Int) (a2 : Int) (c0 : Int) (c1 : Int) (c2 : Int) : pr Tryz.prog (eqGuard .eql 63 x y (.agg #[i_ a0, i_ a1, i_ a2]) (.agg #[i_ c0, i_ c1, i_ c2])) = some () := by kernel_rfl
theorem aBin_eql63 (x y : Operand) (a0 : Int) (a1 : Int) (a2 : Int) (c0 : Int) (c1 : Int) (c2 : Int) : aBin Tryz.prog .eql 63 x y (.agg #[i_ a0, i_ a1, i_ a2]) (.agg #[i_ c0, i_ c1, i_ c2]) = some (.bool (decide (a0 = c0 ∧ a1 = c1 ∧ a2 = c2))) := by
  unfold aBin
  rw [if_pos (show (plain (.agg #[i_ a0, i_ a1, i_ a2]) && plain (.agg #[i_ c0, i_ c1, i_ c2])) = true from rfl), pr_bind, e63_geql]
  have : pr Tryz.prog (binOp .eql 63 (.agg #[i_ a0, i_ a1, i_ a2]) (.agg #[i_ c0, i_ c1, i_ c2])) = some (.bool (decide (a0 = c0 ∧ a1 = c1 ∧ a2 = c2))) := by
    simp only [binOp, Op.equal, pr_bind, e63_eq]
    by_cases g0 : a0 = c0 <;> by_cases g1 : a1 = c1 <;> by_cases g2 : a2 = c2 <;> simp [e_pure, g0, g1, g2]
  simp only [Option.bind_some, this]
  rfl
theorem e67_p0 (a0 : Int) (a1 : Int) : pr Tryz.prog (part 65 #[i_ a0, i_ a1] 0) = some (i_ a0) := by kernel_rfl
theorem e67_q0 (a c : Int) : pr Tryz.prog (Op.equalIn 9999 65 (i_ a) (i_ c)) = some (a == c) := e_int 9998 65 .i64 Go.Proofs.Tryz.underlying65 a c
theorem e67_p1 (a0 : Int) (a1 : Int) : pr Tryz.prog (part 3 #[i_ a0, i_ a1] 1) = some (i_ a1) := by kernel_rfl
theorem e67_q1 (a c : Int) : pr Tryz.prog (Op.equalIn 9999 3 (i_ a) (i_ c)) = some (a == c) := e_int 9998 3 .i64 Go.Proofs.Tryz.underlying3 a c
theorem e67_stood : Tryz.prog.stoodInHeld 67 = false := by kernel_rfl
theorem e67_eq (a0 : Int) (a1 : Int) (c0 : Int) (c1 : Int) : pr Tryz.prog (Op.equalIn Op.maxDepth 67 (.agg #[i_ a0, i_ a1]) (.agg #[i_ c0, i_ c1])) = some (a0 == c0 && a1 == c1) := by
  rw [show Op.maxDepth = 9998 + 1 + 1 from rfl, Op.equalIn]
  rw [pr_bind, e_und Go.Proofs.Tryz.underlying67]
  simp only [Option.bind_some, pr_bind, e_prog, e67_stood, Bool.false_eq_true, if_false]
  simp [pr_bind, e67_p0, e67_p1, e67_q0, e67_q1]
  by_cases h0 : a0 = c0
  · subst h0
    by_cases h1 : a1 = c1
    · subst h1
      simp [e_pure, pr_bind, e67_p0, e67_p1, e67_q0, e67_q1]
    · simp [e_pure, pr_bind, e67_p0, e67_p1, e67_q0, e67_q1, h1]
  · simp [e_pure, pr_bind, e67_p0, e67_p1, e67_q0, e67_q1, h0]
theorem e67_gneq (x y : Operand) (a0 : Int) (a1 : Int) (c0 : Int) (c1 : Int) : pr Tryz.prog (eqGuard .neq 67 x y (.agg #[i_ a0, i_ a1]) (.agg #[i_ c0, i_ c1])) = some () := by kernel_rfl
theorem aBin_neq67 (x y : Operand) (a0 : Int) (a1 : Int) (c0 : Int) (c1 : Int) : aBin Tryz.prog .neq 67 x y (.agg #[i_ a0, i_ a1]) (.agg #[i_ c0, i_ c1]) = some (.bool (!decide (a0 = c0 ∧ a1 = c1))) := by
  unfold aBin
  rw [if_pos (show (plain (.agg #[i_ a0, i_ a1]) && plain (.agg #[i_ c0, i_ c1])) = true from rfl), pr_bind, e67_gneq]
  have : pr Tryz.prog (binOp .neq 67 (.agg #[i_ a0, i_ a1]) (.agg #[i_ c0, i_ c1])) = some (.bool (!decide (a0 = c0 ∧ a1 = c1))) := by
    simp only [binOp, Op.equal, pr_bind, e67_eq]
    by_cases g0 : a0 = c0 <;> by_cases g1 : a1 = c1 <;> simp [e_pure, g0, g1]
  simp only [Option.bind_some, this]
  rfl
theorem e67_geql (x y : Operand) (a0 : Int) (a1 : Int) (c0 : Int) (c1 : Int) : pr Tryz.prog (eqGuard .eql 67 x y (.agg #[i_ a0, i_ a1]) (.agg #[i_ c0, i_ c1])) = some () := by kernel_rfl
theorem aBin_eql67 (x y : Operand) (a0 : Int) (a1 : Int) (c0 : Int) (c1 : Int) : aBin Tryz.prog .eql 67 x y (.agg #[i_ a0, i_ a1]) (.agg #[i_ c0, i_ c1]) = some (.bool (decide (a0 = c0 ∧ a1 = c1))) := by
  unfold aBin
  rw [if_pos (show (plain (.agg #[i_ a0, i_ a1]) && plain (.agg #[i_ c0, i_ c1])) = true from rfl), pr_bind, e67_geql]
  have : pr Tryz.prog (binOp .eql 67 (.agg #[i_ a0, i_ a1]) (.agg #[i_ c0, i_ c1])) = some (.bool (decide (a0 = c0 ∧ a1 = c1))) := by
    simp only [binOp, Op.equal, pr_bind, e67_eq]
    by_cases g0 : a0 = c0 <;> by_cases g1 : a1 = c1 <;> simp [e_pure, g0, g1]
  simp only [Option.bind_some, this]
  rfl
theorem e92_p0 (a0 : Int) (a1 : Int) (a2 : Int) (a3 : Int) : pr Tryz.prog (part 86 #[.int .u32 a0, .int .u64 a1, .int .u32 a2, .int .u32 a3] 0) = some (.int .u32 a0) := by kernel_rfl
theorem e92_q0 (a c : Int) : pr Tryz.prog (Op.equalIn 9999 86 (.int .u32 a) (.int .u32 c)) = some (a == c) := e_int 9998 86 .u32 Go.Proofs.Tryz.underlying86 a c
theorem e92_p1 (a0 : Int) (a1 : Int) (a2 : Int) (a3 : Int) : pr Tryz.prog (part 87 #[.int .u32 a0, .int .u64 a1, .int .u32 a2, .int .u32 a3] 1) = some (.int .u64 a1) := by kernel_rfl
theorem e92_q1 (a c : Int) : pr Tryz.prog (Op.equalIn 9999 87 (.int .u64 a) (.int .u64 c)) = some (a == c) := e_int 9998 87 .u64 Go.Proofs.Tryz.underlying87 a c
theorem e92_p2 (a0 : Int) (a1 : Int) (a2 : Int) (a3 : Int) : pr Tryz.prog (part 86 #[.int .u32 a0, .int .u64 a1, .int .u32 a2, .int .u32 a3] 2) = some (.int .u32 a2) := by kernel_rfl
theorem e92_q2 (a c : Int) : pr Tryz.prog (Op.equalIn 9999 86 (.int .u32 a) (.int .u32 c)) = some (a == c) := e_int 9998 86 .u32 Go.Proofs.Tryz.underlying86 a c
theorem e92_p3 (a0 : Int) (a1 : Int) (a2 : Int) (a3 : Int) : pr Tryz.prog (part 86 #[.int .u32 a0, .int .u64 a1, .int .u32 a2, .int .u32 a3] 3) = some (.int .u32 a3) := by kernel_rfl
theorem e92_q3 (a c : Int) : pr Tryz.prog (Op.equalIn 9999 86 (.int .u32 a) (.int .u32 c)) = some (a == c) := e_int 9998 86 .u32 Go.Proofs.Tryz.underlying86 a c
theorem e92_stood : Tryz.prog.stoodInHeld 92 = false := by kernel_rfl
theorem e92_eq (a0 : Int) (a1 : Int) (a2 : Int) (a3 : Int) (c0 : Int) (c1 : Int) (c2 : Int) (c3 : Int) : pr Tryz.prog (Op.equalIn Op.maxDepth 92 (.agg #[.int .u32 a0, .int .u64 a1, .int .u32 a2, .int .u32 a3]) (.agg #[.int .u32 c0, .int .u64 c1, .int .u32 c2, .int .u32 c3])) = some (a0 == c0 && a1 == c1 && a2 == c2 && a3 == c3) := by
  rw [show Op.maxDepth = 9998 + 1 + 1 from rfl, Op.equalIn]
  rw [pr_bind, e_und Go.Proofs.Tryz.underlying92]
  simp only [Option.bind_some, pr_bind, e_prog, e92_stood, Bool.false_eq_true, if_false]
  simp [pr_bind, e92_p0, e92_p1, e92_p2, e92_p3, e92_q0, e92_q1, e92_q2, e92_q3]
  by_cases h0 : a0 = c0
  · subst h0
    by_cases h1 : a1 = c1
    · subst h1
      by_cases h2 : a2 = c2
      · subst h2
        by_cases h3 : a3 = c3
        · subst h3
          simp [e_pure, pr_bind, e92_p0, e92_p1, e92_p2, e92_p3, e92_q0, e92_q1, e92_q2, e92_q3]
        · simp [e_pure, pr_bind, e92_p0, e92_p1, e92_p2, e92_p3, e92_q0, e92_q1, e92_q2, e92_q3, h3]
      · simp [e_pure, pr_bind, e92_p0, e92_p1, e92_p2, e92_p3, e92_q0, e92_q1, e92_q2, e92_q3, h2]
    · simp [e_pure, pr_bind, e92_p0, e92_p1, e92_p2, e92_p3, e92_q0, e92_q1, e92_q2, e92_q3, h1]
  · simp [e_pure, pr_bind, e92_p0, e92_p1, e92_p2, e92_p3, e92_q0, e92_q1, e92_q2, e92_q3, h0]
theorem e92_gneq (x y : Operand) (a0 : Int) (a1 : Int) (a2 : Int) (a3 : Int) (c0 : Int) (c1 : Int) (c2 : Int) (c3 : Int) : pr Tryz.prog (eqGuard .neq 92 x y (.agg #[.int .u32 a0, .int .u64 a1, .int .u32 a2, .int .u32 a3]) (.agg #[.int .u32 c0, .int .u64 c1, .int .u32 c2, .int .u32 c3])) = some () := by kernel_rfl
theorem aBin_neq92 (x y : Operand) (a0 : Int) (a1 : Int) (a2 : Int) (a3 : Int) (c0 : Int) (c1 : Int) (c2 : Int) (c3 : Int) : aBin Tryz.prog .neq 92 x y (.agg #[.int .u32 a0, .int .u64 a1, .int .u32 a2, .int .u32 a3]) (.agg #[.int .u32 c0, .int .u64 c1, .int .u32 c2, .int .u32 c3]) = some (.bool (!decide (a0 = c0 ∧ a1 = c1 ∧ a2 = c2 ∧ a3 = c3))) := by
  unfold aBin
  rw [if_pos (show (plain (.agg #[.int .u32 a0, .int .u64 a1, .int .u32 a2, .int .u32 a3]) && plain (.agg #[.int .u32 c0, .int .u64 c1, .int .u32 c2, .int .u32 c3])) = true from rfl), pr_bind, e92_gneq]
  have : pr Tryz.prog (binOp .neq 92 (.agg #[.int .u32 a0, .int .u64 a1, .int .u32 a2, .int .u32 a3]) (.agg #[.int .u32 c0, .int .u64 c1, .int .u32 c2, .int .u32 c3])) = some (.bool (!decide (a0 = c0 ∧ a1 = c1 ∧ a2 = c2 ∧ a3 = c3))) := by
    simp only [binOp, Op.equal, pr_bind, e92_eq]
    by_cases g0 : a0 = c0 <;> by_cases g1 : a1 = c1 <;> by_cases g2 : a2 = c2 <;> by_cases g3 : a3 = c3 <;> simp [e_pure, g0, g1, g2, g3]
  simp only [Option.bind_some, this]
  rfl
theorem e92_geql (x y : Operand) (a0 : Int) (a1 : Int) (a2 : Int) (a3 : Int) (c0 : Int) (c1 : Int) (c2 : Int) (c3 : Int) : pr Tryz.prog (eqGuard .eql 92 x y (.agg #[.int .u32 a0, .int .u64 a1, .int .u32 a2, .int .u32 a3]) (.agg #[.int .u32 c0, .int .u64 c1, .int .u32 c2, .int .u32 c3])) = some () := by kernel_rfl
theorem aBin_eql92 (x y : Operand) (a0 : Int) (a1 : Int) (a2 : Int) (a3 : Int) (c0 : Int) (c1 : Int) (c2 : Int) (c3 : Int) : aBin Tryz.prog .eql 92 x y (.agg #[.int .u32 a0, .int .u64 a1, .int .u32 a2, .int .u32 a3]) (.agg #[.int .u32 c0, .int .u64 c1, .int .u32 c2, .int .u32 c3]) = some (.bool (decide (a0 = c0 ∧ a1 = c1 ∧ a2 = c2 ∧ a3 = c3))) := by
  unfold aBin
  rw [if_pos (show (plain (.agg #[.int .u32 a0, .int .u64 a1, .int .u32 a2, .int .u32 a3]) && plain (.agg #[.int .u32 c0, .int .u64 c1, .int .u32 c2, .int .u32 c3])) = true from rfl), pr_bind, e92_geql]
  have : pr Tryz.prog (binOp .eql 92 (.agg #[.int .u32 a0, .int .u64 a1, .int .u32 a2, .int .u32 a3]) (.agg #[.int .u32 c0, .int .u64 c1, .int .u32 c2, .int .u32 c3])) = some (.bool (decide (a0 = c0 ∧ a1 = c1 ∧ a2 = c2 ∧ a3 = c3))) := by
    simp only [binOp, Op.equal, pr_bind, e92_eq]
    by_cases g0 : a0 = c0 <;> by_cases g1 : a1 = c1 <;> by_cases g2 : a2 = c2 <;> by_cases g3 : a3 = c3 <;> simp [e_pure, g0, g1, g2, g3]
  simp only [Option.bind_some, this]
  rfl
theorem c_viaductref10_Three {H : AH} {r : List (Int) × List (Int) × List (Int × Int × Int × Int) × List (Int) × List (Int × Int × Int × Int)}
    (wf : WF H) (hr : z_viaductref10_Three = some r) :
    ACalls Tryz.prog 21 #[] H fun v H' => ∃ (s3 : Value) (f4 : Fp) (s7 : Value) (f8 : Fp) (s11 : Value) (f12 : Fp) (s15 : Value) (f16 : Fp) (s19 : Value) (f20 : Fp), v = .agg #[s3, s7, s11, s15, s19] ∧ FrS [] H H' ∧ Ow (encI .u32) 1 H' s3 r.1 f4 ∧ Ow (encI .u32) 1 H' s7 r.2.1 f8 ∧ Ow enc_u32_u64_u32_u32 4 H' s11 r.2.2.1 f12 ∧ Ow (encI .u32) 1 H' s15 r.2.2.2.1 f16 ∧ Ow enc_u32_u64_u32_u32 4 H' s19 r.2.2.2.2 f20 ∧ Inn [] H f4 ∧ Inn [] H f8 ∧ Inn [] H f12 ∧ Inn [] H f16 ∧ Inn [] H f20 ∧ Dj f4 f8 ∧ Dj f4 f12 ∧ Dj f8 f12 ∧ Dj f4 f16 ∧ Dj f8 f16 ∧ Dj f12 f16 ∧ Dj f4 f20 ∧ Dj f8 f20 ∧ Dj f12 f20 ∧ Dj f16 f20 := by
 refine acalls_of_body mixed Tryz.func21 rfl (Nat.le_of_ble_eq_true rfl) ?_
 unfold z_viaductref10_Three at hr
 refine w_seqk fun _ k36 => g_' ?_
 refine s_rwk wf [.slice none 0 0, .slice none 0 0, .slice none 0 0, .slice none 0 0, .slice none 0 0] (by kernel_rfl) fun b37 H38 e39 hb40 r41 => ?_
 refine s_nil (k36 _ _ (w_seqk fun _ k43 => g_' ?_))
 refine s_owk (enc := (encI .u32)) (sz := 1) e39.wf [1, 0, 2] 3 (by decide) (fun _ _ => rfl) (fun _ _ => rfl) rfl (by kernel_rfl) fun s44 f45 H46 e47 hf48 hm49 => ?_
 obtain ⟨a50, n51, c52, rfl⟩ := hm49.form
 refine s_owk (enc := (encI .u32)) (sz := 1) e47.wf [0, 1, 2, 2] 4 (by decide) (fun _ _ => rfl) (fun _ _ => rfl) rfl (by kernel_rfl) fun s54 f55 H56 e57 hf58 hm59 => ?_
 obtain ⟨a60, n61, c62, rfl⟩ := hm59.form
 refine q_ (.agg #[.int .u32 2, .int .u64 1, .int .u32 4294967295, .int .u32 4294967295]) (q_ (.agg #[.int .u32 2, .int .u64 5, .int .u32 2, .int .u32 0]) ?_)
 refine s_owk (enc := enc_u32_u64_u32_u32) (sz := 4) e57.wf [(2, 1, 4294967295, 4294967295), (2, 5, 2, 0)] 2 (by decide) (fun _ _ => rfl) (fun _ _ => rfl) rfl (by kernel_rfl) fun s64 f65 H66 e67 hf68 hm69 => ?_
 obtain ⟨a70, n71, c72, rfl⟩ := hm69.form
 refine s_owk (enc := (encI .u32)) (sz := 1) e67.wf [0, 1, 1, 1] 4 (by decide) (fun _ _ => rfl) (fun _ _ => rfl) rfl (by kernel_rfl) fun s74 f75 H76 e77 hf78 hm79 => ?_
 obtain ⟨a80, n81, c82, rfl⟩ := hm79.form
 refine q_ (.agg #[.int .u32 1, .int .u64 4, .int .u32 4294967295, .int .u32 4294967295]) ?_
 refine s_owk (enc := enc_u32_u64_u32_u32) (sz := 4) e77.wf [(1, 4, 4294967295, 4294967295)] 1 (by decide) (fun _ _ => rfl) (fun _ _ => rfl) rfl (by kernel_rfl) fun s84 f85 H86 e87 hf88 hm89 => ?_
 obtain ⟨a90, n91, c92, rfl⟩ := hm89.form
 refine q_ (.agg #[.slice a50 n51 c52, .slice a60 n61 c62, .slice a70 n71 c72, .slice a80 n81 c82, .slice a90 n91 c92]) ?_
 have u98 := (((((r41.ext e47).ext e57).ext e67).ext e77).ext e87)
 have u99 := (hm79.ext e87)
 have u100 := ((hm69.ext e77).ext e87)
 have u101 := (((hm59.ext e67).ext e77).ext e87)
 have u102 := ((((hm49.ext e57).ext e67).ext e77).ext e87)
 obtain ⟨H94, q95, e96, r97⟩ := Row.store (P := Tryz.prog) (t := 25) (p := 0) e87.wf u98 (.agg #[.slice a50 n51 c52, .slice a60 n61 c62, .slice a70 n71 c72, .slice a80 n81 c82, .slice a90 n91 c92]) [.slice a50 n51 c52, .slice a60 n61 c62, .slice a70 n71 c72, .slice a80 n81 c82, .slice a90 n91 c92] (by kernel_rfl) (by kernel_rfl) (one_cons (u102.one1) (one_cons (u101.one1) (one_cons (u100.one1) (one_cons (u99.one1) (one_cons (hm89.one1) (one_nil)))))) (Nat.le_of_ble_eq_true (by kernel_rfl)) [.slice a50 n51 c52, .slice a60 n61 c62, .slice a70 n71 c72, .slice a80 n81 c82, .slice a90 n91 c92] (by kernel_rfl)
 refine s_ek (undef) (by kernel_rfl) (map_ok q95) ?_
 refine s_nil (k43 _ _ ?_)
 refine w_ret ?_
 refine b_ret (fn := Tryz.f21) (vs := [.agg #[.slice a50 n51 c52, .slice a60 n61 c62, .slice a70 n71 c72, .slice a80 n81 c82, .slice a90 n91 c92]]) (aRes_cell (Eq.trans (b := aLoad Tryz.prog 25 (pt_ b37 0) H94) (by kernel_rfl) (r97.ld (by kernel_rfl))) (rfl)) ?_
 have u103 := (u102.fr e96 (Dj.symm (hf48.djn r41.ltF)))
 have u104 := (u101.fr e96 (Dj.symm (hf58.djn (r41.ltF.le e47.next))))
 have u105 := (u100.fr e96 (Dj.symm (hf68.djn (r41.ltF.le (ntr e47.next e57.next)))))
 have u106 := (u99.fr e96 (Dj.symm (hf78.djn (r41.ltF.le (ntr (ntr e47.next e57.next) e67.next)))))
 have u107 := (hm89.fr e96 (Dj.symm (hf88.djn (r41.ltF.le (ntr (ntr (ntr e47.next e57.next) e67.next) e77.next)))))
 obtain rfl := Option.some.inj hr
 exact ⟨(.slice a50 n51 c52), f45, (.slice a60 n61 c62), f55, (.slice a70 n71 c72), f65, (.slice a80 n81 c82), f75, (.slice a90 n91 c92), f85, rfl, (FrS.step wf (((((((FrS.refl (W := []) wf).extR e39).extR e47).extR e57).extR e67).extR e77).extR e87) e96 (hb40.fresh (Nat.le_refl _))), u103, u104, u105, u106, u107, (hf48.fresh e39.next), (hf58.fresh (ntr e39.next e47.next)), (hf68.fresh (ntr (ntr e39.next e47.next) e57.next)), (hf78.fresh (ntr (ntr (ntr e39.next e47.next) e57.next) e67.next)), (hf88.fresh (ntr (ntr (ntr (ntr e39.next e47.next) e57.next) e67.next) e77.next)), (Dj.symm (hf58.djn hm49.lt)), (Dj.symm (hf68.djn (hm49.lt.le e57.next))), (Dj.symm (hf68.djn hm59.lt)), (Dj.symm (hf78.djn (hm49.lt.le (ntr e57.next e67.next)))), (Dj.symm (hf78.djn (hm59.lt.le e67.next))), (Dj.symm (hf78.djn hm69.lt)), (Dj.symm (hf88.djn (hm49.lt.le (ntr (ntr e57.next e67.next) e77.next)))), (Dj.symm (hf88.djn (hm59.lt.le (ntr e67.next e77.next)))), (Dj.symm (hf88.djn (hm69.lt.le e77.next))), (Dj.symm (hf88.djn hm79.lt))⟩
theorem c_fault_At {H : AH} {ev_err : Value} {fp_err : Fp} {kind : Int} {at_ : Int} {err : Er} {r : Er}
    (wf : WF H) (h_err : Ev 73 68 H ev_err err fp_err) (hr : z_fault_At kind at_ err = some r) :
    ACalls Tryz.prog 57 #[i_ kind, i_ at_, ev_err] H fun v H' => ∃ (v3 : Value) (f4 : Fp), v = v3 ∧ FrS [] H H' ∧ Ev 73 68 H' v3 r f4 ∧ Inn fp_err H f4 := by
 refine acalls_of_body mixed Tryz.func57 rfl (Nat.le_of_ble_eq_true rfl) ?_
 unfold z_fault_At at hr
 refine w_seqk fun _ k6 => g_' (q_ (.nilIface) (s_nil (k6 _ _ (w_seqk fun _ k7 => w_seqk fun _ k8 => g_' (q_ (ev_err) ?_)))))
 rcases (h_err).cases with ⟨h9, rfl⟩ | ⟨h9, t10, x11, rfl⟩
 ·have r12 := ite_t h9 hr
  refine q_ (.bool true) (s_nil (k8 _ _ ?_))
  refine w_cond true (by kernel_rfl) rfl (fun _ => ?_) (fun h => by cases h)
  refine w_seqk fun _ k13 => g_' (q_ (.nilIface) (s_nil (k13 _ _ ?_)))
  refine w_ret (th_ret ?_)
  refine b_ret (fn := Tryz.f57) (vs := [.nilIface]) (aRes_tmp (by kernel_rfl) (rfl)) ?_
  obtain rfl := Option.some.inj r12
  exact ⟨(.nilIface), [], rfl, (FrS.refl (W := []) wf), Ev.nil, Inn.nil⟩
 have r14 := ite_f h9 hr
 refine l_' (.bool false) (aBin Tryz.prog .eql 30 (.tmp 7) (.const .nilIface) (.iface t10 x11) .nilIface) (aBin_nil (by kernel_rfl)) ?_
 refine s_nil (k8 _ _ ?_)
 refine w_cond false (by kernel_rfl) rfl (fun h => by cases h) (fun _ => ?_)
 refine w_skip (k7 _ _ (w_seqk fun _ k15 => g_' (q_ (i_ kind) (q_ (i_ at_) (q_ (.agg #[i_ kind, i_ at_]) (q_ (.iface t10 x11) (q_ (.agg #[i_ kind, i_ at_, .iface t10 x11]) ?_)))))))
 refine s_rwl wf [i_ kind, i_ at_, .iface t10 x11] (one_cons (rfl) (one_cons (rfl) (one_cons (h_err.one1) (one_nil)))) (by kernel_rfl) fun b16 H17 e18 hb19 r20 => ?_
 have u22 := (h_err.ext e18)
 obtain ⟨fq23, he24, hi25⟩ := Ev.at r20 u22 hb19
 refine q_ (.iface 68 (pt_ b16 0)) (q_ (.iface 68 (pt_ b16 0)) (s_nil (k15 _ _ ?_)))
 refine w_ret ?_
 refine b_ret (fn := Tryz.f57) (vs := [.iface 68 (pt_ b16 0)]) (aRes_tmp (by kernel_rfl) (rfl)) ?_
 obtain rfl := Option.some.inj r14
 exact ⟨(.iface 68 (pt_ b16 0)), fq23, rfl, ((FrS.refl (W := []) wf).extR e18), he24, (Inn.trans Inn.refl' (Nat.le_refl _) hi25)⟩
theorem c_hier_firsts {H : AH} {hd_l : Value} {fp_l : Fp} {l : List (Int)} {links : Int} {r : Er}
    (wf : WF H) (h_l : Sq (encI .u32) 1 H hd_l l fp_l) (hr : z_hier_firsts l links = some r) :
    ACalls Tryz.prog 53 #[hd_l, i_ links] H fun v H' => ∃ (v3 : Value) (f4 : Fp), v = v3 ∧ FrS [] H H' ∧ Ev 73 68 H' v3 r f4 ∧ Inn [] H f4 := by
 refine acalls_of_body mixed Tryz.func53 rfl (Nat.le_of_ble_eq_true rfl) ?_
 unfold z_hier_firsts at hr
 refine w_seqk fun _ k6 => g_' (q_ (.nilIface) (s_nil (k6 _ _ (w_seqk fun _ k7 => w_seqk fun _ k8 => g_' (q_ (hd_l) ?_)))))
 obtain ⟨g9, r10⟩ := G_some hr
 refine l_' (elp hd_l 1 (0 : Int).toNat 0) (aIndexAddr Tryz.prog 22 hd_l (i_ 0)) (h_l.idxb (by kernel_rfl) (by decide) g9) ?_
 refine l_' (.int .u32 (gt l 0)) (aLoad Tryz.prog 86 (elp hd_l 1 (0 : Int).toNat 0) H) (h_l.ld (by decide) g9 (by kernel_rfl)) ?_
 refine q_ (.bool (!decide ((gt l 0) = 0))) (s_nil (k8 _ _ ?_))
 refine w_condn ((gt l 0) = 0) (by kernel_rfl) rfl (fun h11 => ?_) (fun h11 => ?_)
 ·have r12 := ite_f h11 r10
  refine w_seqk fun _ k13 => g_' (q_ (.iface 73 (i_ 14)) (q_ (.iface 73 (i_ 14)) (s_nil (k13 _ _ ?_))))
  refine w_ret (th_ret ?_)
  refine b_ret (fn := Tryz.f53) (vs := [.iface 73 (i_ 14)]) (aRes_tmp (by kernel_rfl) (rfl)) ?_
  obtain rfl := Option.some.inj r12
  exact ⟨(.iface 73 (i_ 14)), [], rfl, (FrS.refl (W := []) wf), Ev.no, Inn.nil⟩
 have r14 := ite_t h11 r10
 refine w_skip (k7 _ _ (w_seqk fun _ k15 => w_seqk fun _ k16 => g_' (q_ (hd_l) ?_)))
 refine l_' (i_ (l.length : Int)) (aLen Tryz.prog 22 hd_l H) (h_l.lenb (by kernel_rfl)) ?_
 obtain ⟨g17, r18⟩ := G_some r14
 refine w_' ((l.length : Int) - 1) (wrap64 g17) ?_
 refine q_ (i_ 0) (s_nil (k16 _ _ ?_))
 obtain ⟨z22, hx20, r21⟩ := bind_some r18
 refine w_mid (fun α H23 => ∃ o19, z22 = Sum.inr o19 ∧ Has α [(0, hd_l), (1, i_ links)] ∧ H = H23) (fun _ k25 => ?_) (fun α H23 hM => ?_)
 ·refine w_block ?_
  obtain ⟨n27, hn28⟩ := loopO_iff.1 hx20
  refine w_loopn (fun n α H29 => ∃ (i0 : Int), iterO (fun zz_ => z_hier_firsts_l0 l zz_) n i0 = some z22 ∧ Has α [(0, hd_l), (1, i_ links), (13, i_ ((l.length : Int) - 1)), (14, i_ i0)] ∧ H = H29) n27 ⟨0, hn28, ha_, rfl⟩ ?_
  rintro n27 α H29 ⟨i0, hi32, hh31, rfl⟩ K37 k37
  obtain ⟨n33, z34, rfl, hz35, hn36⟩ := iter_succ hi32
  obtain ⟨β, rfl⟩ := has_ex hh31
  clear hh31
  replace hz35 : z_hier_firsts_l0 l i0 = some z34 := hz35
  unfold z_hier_firsts_l0 at hz35
  refine w_seqk fun _ k38 => g_' (q_ (.bool (decide (i0 < ((l.length : Int) - 1)))) (s_nil (k38 _ _ (w_seqk fun _ k39 => ?_))))
  refine w_condp (i0 < ((l.length : Int) - 1)) (by kernel_rfl) rfl (fun h40 => ?_) (fun h40 => ?_)
  ·have r41 := ite_t h40 hz35
   refine w_skip (k39 _ _ (w_seqk fun _ k42 => w_block (w_seqk fun _ k43 => g_' (q_ (i_ i0) (q_ (i_ i0) (s_nil (k43 _ _ (w_seqk fun _ k44 => ?_))))))))
   refine w_draw [0, 1, 2, 3, 4, 5, 6, 7, 8, 9] (by kernel_rfl) ?_
   refine e_' (hd_l) (e_' (i_ i0) ?_)
   obtain ⟨g45, r46⟩ := G_some r41
   refine d_w ((i0 + 1)) (k := .i64) (x := (i0 + 1)) (by kernel_rfl) (wrap64 g45) ?_
   obtain ⟨g47, r48⟩ := G_some r46
   refine m_' (elp hd_l 1 (i0 + 1).toNat 0) (aIndexAddr Tryz.prog 22 hd_l (i_ (i0 + 1))) (h_l.idxb (by kernel_rfl) g47.1 g47.2) ?_
   refine m_' (.int .u32 (gt l (i0 + 1))) (aLoad Tryz.prog 86 (elp hd_l 1 (i0 + 1).toNat 0) H) (h_l.ld g47.1 g47.2 (by kernel_rfl)) ?_
   refine e_' (hd_l) (e_' (i_ i0) ?_)
   obtain ⟨g49, r50⟩ := G_some r48
   refine m_' (elp hd_l 1 i0.toNat 0) (aIndexAddr Tryz.prog 22 hd_l (i_ i0)) (h_l.idxb (by kernel_rfl) g49.1 g49.2) ?_
   refine m_' (.int .u32 (gt l i0)) (aLoad Tryz.prog 86 (elp hd_l 1 i0.toNat 0) H) (h_l.ld g49.1 g49.2 (by kernel_rfl)) ?_
   refine e_' (.bool (decide ((gt l (i0 + 1)) < (gt l i0)))) ?_
   refine d_nil ?_
   refine k44 _ _ ?_
   refine w_condp ((gt l (i0 + 1)) < (gt l i0)) (by kernel_rfl) rfl (fun h51 => ?_) (fun h51 => ?_)
   ·have r52 := ite_t h51 r50
    refine w_seqk fun _ k53 => g_' (q_ (i_ i0) (q_ (.iface 73 (i_ 14)) ?_))
    obtain ⟨y54, hy55, r56⟩ := bind_some r52
    refine s_ck 57 #[i_ 3, i_ i0, .iface 73 (i_ 14)] (by kernel_rfl) (c_fault_At wf (Ev.no (tf := 68)) hy55) ?_
    rintro v57 H59 ⟨_, f58, rfl, e60, m61, i62⟩
    refine q_ (v57) (s_nil (k53 _ _ ?_))
    refine w_ret (bl_ret (th_ret (th_ret (bl_ret (th_ret (th_ret ?_))))))
    obtain ⟨v64, hv65, hz66⟩ := map_some r56
    subst hz66
    obtain rfl := it_inr hn36
    have hq67 := elim_inl r21
    rw [hq67] at hv65
    refine b_ret (fn := Tryz.f53) (vs := [v57]) (aRes_tmp (by kernel_rfl) (rfl)) ?_
    obtain rfl := Option.some.inj hv65
    exact ⟨(v57), f58, rfl, (FrS.step wf (FrS.refl (W := []) wf) e60 Inn.nil), m61, (i62.fresh (Nat.le_refl _))⟩
   have r68 := ite_f h51 r50
   refine w_skip (k42 _ _ (g_' ?_))
   obtain ⟨g69, r70⟩ := G_some r68
   refine w_' (i0 + 1) (wrap64 (by have := g69; omega)) ?_
   refine q_ (i_ (i0 + 1)) (s_nil ?_)
   obtain rfl := Option.some.inj r70
   exact k37 n33 _ _ (Nat.lt_succ_self _) ⟨(i0 + 1), hn36, ha_, rfl⟩
  have r71 := ite_f h40 hz35
  refine w_exit (th_exit (th_exit (bl_eq ?_)))
  obtain rfl := Option.some.inj r71
  obtain rfl := it_inr hn36
  exact k25 _ _ ⟨_, rfl, ha_, rfl⟩
 obtain ⟨o19, rfl, hh26, rfl⟩ := hM
 have r72 := elim_inr r21
 obtain ⟨β, rfl⟩ := has_ex hh26
 clear hh26
 refine k15 _ _ (w_seqk fun _ k73 => w_seqk fun _ k74 => g_' (q_ (hd_l) (q_ (hd_l) ?_)))
 refine l_' (i_ (l.length : Int)) (aLen Tryz.prog 22 hd_l H) (h_l.lenb (by kernel_rfl)) ?_
 refine w_' ((l.length : Int) - 1) (wrap64 g17) ?_
 obtain ⟨g75, r76⟩ := G_some r72
 refine l_' (elp hd_l 1 ((l.length : Int) - 1).toNat 0) (aIndexAddr Tryz.prog 22 hd_l (i_ ((l.length : Int) - 1))) (h_l.idxb (by kernel_rfl) g75.1 g75.2) ?_
 refine l_' (.int .u32 (gt l ((l.length : Int) - 1))) (aLoad Tryz.prog 86 (elp hd_l 1 ((l.length : Int) - 1).toNat 0) H) (h_l.ld g75.1 g75.2 (by kernel_rfl)) ?_
 obtain ⟨g77, r78⟩ := G_some r76
 refine w_' (gt l ((l.length : Int) - 1)) (wrap64 g77) ?_
 refine q_ (i_ links) (q_ (.bool (!decide ((gt l ((l.length : Int) - 1)) = links))) (s_nil (k74 _ _ ?_)))
 refine w_condn ((gt l ((l.length : Int) - 1)) = links) (by kernel_rfl) rfl (fun h79 => ?_) (fun h79 => ?_)
 ·have r80 := ite_f h79 r78
  refine w_seqk fun _ k81 => g_' (q_ (.iface 73 (i_ 14)) (q_ (.iface 73 (i_ 14)) (s_nil (k81 _ _ ?_))))
  refine w_ret (th_ret ?_)
  refine b_ret (fn := Tryz.f53) (vs := [.iface 73 (i_ 14)]) (aRes_tmp (by kernel_rfl) (rfl)) ?_
  obtain rfl := Option.some.inj r80
  exact ⟨(.iface 73 (i_ 14)), [], rfl, (FrS.refl (W := []) wf), Ev.no, Inn.nil⟩
 have r82 := ite_t h79 r78
 refine w_skip (k73 _ _ (w_seqk fun _ k83 => g_' (q_ (.nilIface) (s_nil (k83 _ _ ?_)))))
 refine w_ret ?_
 refine b_ret (fn := Tryz.f53) (vs := [.nilIface]) (aRes_tmp (by kernel_rfl) (rfl)) ?_
 obtain rfl := Option.some.inj r82
 exact ⟨(.nilIface), [], rfl, (FrS.refl (W := []) wf), Ev.nil, Inn.nil⟩
theorem c_hier_order {H : AH} {hd_l : Value} {fp_l : Fp} {l : List (Int)} {r : Er}
    (wf : WF H) (h_l : Sq (encI .u32) 1 H hd_l l fp_l) (hr : z_hier_order l = some r) :
    ACalls Tryz.prog 54 #[hd_l] H fun v H' => ∃ (v3 : Value) (f4 : Fp), v = v3 ∧ FrS [] H H' ∧ Ev 73 68 H' v3 r f4 ∧ Inn [] H f4 := by
 refine acalls_of_body mixed Tryz.func54 rfl (Nat.le_of_ble_eq_true rfl) ?_
 unfold z_hier_order at hr
 refine w_seqk fun _ k6 => g_' (q_ (.nilIface) (s_nil (k6 _ _ (w_seqk fun _ k7 => g_' (q_ (hd_l) ?_)))))
 refine l_' (i_ (l.length : Int)) (aLen Tryz.prog 22 hd_l H) (h_l.lenb (by kernel_rfl)) ?_
 obtain ⟨g8, r9⟩ := G_some hr
 refine s_mks (t := 49) (m := 8) (l := (l.length : Int)) (c := (l.length : Int)) (enc := (encI .i64)) (sz := 1) wf (0 : Int) (by kernel_rfl) (by decide) g8.1 (Int.le_refl _) (by omega) (by have := g8; omega) (by kernel_rfl) fun s10 f11 H12 e13 hf14 hm15 => ?_
 obtain ⟨a16, n17, c18, rfl⟩ := hm15.form
 have hm15 : Ow (encI .i64) 1 H12 (.slice a16 n17 c18) (List.replicate l.length (0 : Int)) f11 := hm15
 refine q_ (.slice a16 n17 c18) (s_nil (k7 _ _ (w_seqk fun _ k20 => w_seqk fun _ k21 => g_' (q_ (hd_l) ?_))))
 have u22 := (h_l.ext e13)
 refine l_' (i_ (l.length : Int)) (aLen Tryz.prog 22 hd_l H12) (u22.lenb (by kernel_rfl)) ?_
 refine q_ (i_ 0) (s_nil (k21 _ _ ?_))
 obtain ⟨z26, hx24, r25⟩ := bind_some r9
 refine w_mid (fun α H27 => ∃ o23, z26 = Sum.inr o23 ∧ Has α [] ∧ FrS f11 H12 H27) (fun _ k29 => ?_) (fun α H27 hM => ?_)
 ·refine w_block ?_
  obtain ⟨n31, hn32⟩ := loopO_iff.1 hx24
  refine w_loopn (fun n α H33 => ∃ (i0 : Int), ∃ (seen1 : List (Int)), iterO (fun zz_ => z_hier_order_l0 l zz_.1 zz_.2) n (i0, seen1) = some z26 ∧ Has α [(0, hd_l), (3, .slice a16 n17 c18), (9, hd_l), (10, i_ (l.length : Int)), (11, i_ i0)] ∧ FrS f11 H12 H33 ∧ Ow (encI .i64) 1 H33 (.slice a16 n17 c18) seen1 f11) n31 ⟨0, (List.replicate l.length (0 : Int)), hn32, ha_, (FrS.refl (W := f11) e13.wf), hm15⟩ ?_
  rintro n31 α H33 ⟨i0, seen1, hi38, hh37, e34, m36⟩ K43 k43
  obtain ⟨n39, z40, rfl, hz41, hn42⟩ := iter_succ hi38
  obtain ⟨β, rfl⟩ := has_ex hh37
  clear hh37
  replace hz41 : z_hier_order_l0 l i0 seen1 = some z40 := hz41
  unfold z_hier_order_l0 at hz41
  refine w_seqk fun _ k44 => g_' (q_ (.bool (decide (i0 < (l.length : Int)))) (s_nil (k44 _ _ (w_seqk fun _ k45 => ?_))))
  refine w_condp (i0 < (l.length : Int)) (by kernel_rfl) rfl (fun h46 => ?_) (fun h46 => ?_)
  ·have r47 := ite_t h46 hz41
   refine w_skip (k45 _ _ (w_seqk fun _ k48 => w_block (w_seqk fun _ k49 => g_' (q_ (i_ i0) ?_))))
   obtain ⟨g50, r51⟩ := G_some r47
   have u52 := (u22.fr e34 (hf14.djn h_l.lt))
   refine l_' (elp hd_l 1 i0.toNat 0) (aIndexAddr Tryz.prog 22 hd_l (i_ i0)) (u52.idxb (by kernel_rfl) g50 h46) ?_
   refine l_' (.int .u32 (gt l i0)) (aLoad Tryz.prog 86 (elp hd_l 1 i0.toNat 0) H33) (u52.ld g50 h46 (by kernel_rfl)) ?_
   refine q_ (i_ i0) (q_ (.int .u32 (gt l i0)) (s_nil (k49 _ _ (w_seqk fun _ k53 => w_seqk fun _ k54 => ?_))))
   obtain ⟨o55, hx56, r57⟩ := bind_some r51
   refine w_mid (fun α H58 => Has α [(0, hd_l), (3, .slice a16 n17 c18), (4, i_ i0), (5, .int .u32 (gt l i0)), (9, hd_l), (10, i_ (l.length : Int)), (11, i_ i0), (27, .bool o55)] ∧ H33 = H58) (fun _ k60 => ?_) (fun α H58 hM => ?_)
   ·refine g_' (q_ (.int .u32 (gt l i0)) ?_)
    obtain ⟨g62, r63⟩ := G_some hx56
    refine w_' (gt l i0) (wrap64 g62) ?_
    refine q_ (hd_l) ?_
    refine l_' (i_ (l.length : Int)) (aLen Tryz.prog 22 hd_l H33) (u52.lenb (by kernel_rfl)) ?_
    refine s_b ((gt l i0) ≥ (l.length : Int)) (by kernel_rfl) (fun h64 => ?_) (fun h64 => ?_)
    ·have r65 := ite_t h64 r63
     refine q_ (.bool true) (n_' (n_' (n_' (n_' (n_' (q_ (.bool true) (s_nil ?_)))))))
     obtain rfl := Option.some.inj r65
     exact k60 _ _ ⟨ha_, rfl⟩
    have r66 := ite_f h64 r63
    refine q_ (.bool false) (q_ (.slice a16 n17 c18) (q_ (.int .u32 (gt l i0)) ?_))
    obtain ⟨g67, r68⟩ := G_some r66
    refine l_' (elp (.slice a16 n17 c18) 1 (gt l i0).toNat 0) (aIndexAddr Tryz.prog 49 (.slice a16 n17 c18) (.int .u32 (gt l i0))) (m36.sq.idxb (by kernel_rfl) g67.1 g67.2) ?_
    refine l_' (i_ (gt seen1 (gt l i0))) (aLoad Tryz.prog 3 (elp (.slice a16 n17 c18) 1 (gt l i0).toNat 0) H33) (m36.sq.ld g67.1 g67.2 (by kernel_rfl)) ?_
    refine q_ (.bool (decide ((gt seen1 (gt l i0)) > 0))) (q_ (.bool (decide ((gt seen1 (gt l i0)) > 0))) (s_nil ?_))
    obtain rfl := Option.some.inj r68
    exact k60 _ _ ⟨ha_, rfl⟩
   obtain ⟨hh61, rfl⟩ := hM
   obtain ⟨β, rfl⟩ := has_ex hh61
   clear hh61
   refine k54 _ _ ?_
   refine w_cond (o55) (by kernel_rfl) rfl (fun h69 => ?_) (fun h69 => ?_)
   ·have r70 := ite_t h69 r57
    refine w_seqk fun _ k71 => g_' (q_ (i_ i0) (q_ (.iface 73 (i_ 20)) ?_))
    obtain ⟨y72, hy73, r74⟩ := bind_some r70
    refine s_ck 57 #[i_ 3, i_ i0, .iface 73 (i_ 20)] (by kernel_rfl) (c_fault_At e34.wf (Ev.no (tf := 68)) hy73) ?_
    rintro v75 H77 ⟨_, f76, rfl, e78, m79, i80⟩
    refine q_ (v75) (s_nil (k71 _ _ ?_))
    refine w_ret (th_ret (bl_ret (th_ret (th_ret (bl_ret (th_ret (th_ret ?_)))))))
    obtain ⟨v82, hv83, hz84⟩ := map_some r74
    subst hz84
    obtain rfl := it_inr hn42
    have hq85 := elim_inl r25
    rw [hq85] at hv83
    refine b_ret (fn := Tryz.f54) (vs := [v75]) (aRes_tmp (by kernel_rfl) (rfl)) ?_
    obtain rfl := Option.some.inj hv83
    exact ⟨(v75), f76, rfl, (FrS.step wf (FrS.step wf ((FrS.refl (W := []) wf).extR e13) e34 (hf14.fresh (Nat.le_refl _))) e78 Inn.nil), m79, (i80.fresh (ntr e13.next e34.next))⟩
   have r86 := ite_bf h69 r57
   refine w_skip (k53 _ _ (g_' (q_ (.slice a16 n17 c18) (q_ (.int .u32 (gt l i0)) ?_))))
   obtain ⟨g87, r88⟩ := G_some r86
   refine l_' (elp (.slice a16 n17 c18) 1 (gt l i0).toNat 0) (aIndexAddr Tryz.prog 49 (.slice a16 n17 c18) (.int .u32 (gt l i0))) (m36.sq.idxb (by kernel_rfl) g87.1 g87.2) ?_
   obtain ⟨H89, q90, e91, hm92⟩ := Ow.store (P := Tryz.prog) (t := 3) (off := 0) e34.wf m36 g87.1 g87.2 (i_ 1) [i_ 1] (by kernel_rfl) (by kernel_rfl) rfl 1 (Nat.le_of_ble_eq_true rfl) (by kernel_rfl)
   refine s_ek (undef) (by kernel_rfl) (map_ok q90) ?_
   refine s_nil (k48 _ _ (g_' ?_))
   obtain ⟨g93, r94⟩ := G_some r88
   refine w_' (i0 + 1) (wrap64 (by have := g93; omega)) ?_
   refine q_ (i_ (i0 + 1)) (s_nil ?_)
   obtain rfl := Option.some.inj r94
   exact k43 n39 _ _ (Nat.lt_succ_self _) ⟨(i0 + 1), (seen1.set (gt l i0).toNat 1), hn42, ha_, (FrS.step e13.wf (FrS.step e13.wf (FrS.refl (W := f11) e13.wf) e34 Inn.refl') e91 Inn.refl'), hm92⟩
  have r95 := ite_f h46 hz41
  refine w_exit (th_exit (th_exit (bl_eq ?_)))
  obtain rfl := Option.some.inj r95
  obtain rfl := it_inr hn42
  exact k29 _ _ ⟨_, rfl, trivial, (FrS.step e13.wf (FrS.refl (W := f11) e13.wf) e34 Inn.refl')⟩
 obtain ⟨o23, rfl, hh30, e28⟩ := hM
 have r96 := elim_inr r25
 obtain ⟨β, rfl⟩ := has_ex hh30
 clear hh30
 refine k20 _ _ (w_seqk fun _ k97 => g_' (q_ (.nilIface) (s_nil (k97 _ _ ?_))))
 refine w_ret ?_
 refine b_ret (fn := Tryz.f54) (vs := [.nilIface]) (aRes_tmp (by kernel_rfl) (rfl)) ?_
 obtain rfl := Option.some.inj r96
 exact ⟨(.nilIface), [], rfl, (FrS.step wf ((FrS.refl (W := []) wf).extR e13) e28 (hf14.fresh (Nat.le_refl _))), Ev.nil, Inn.nil⟩
theorem c_hier_links {H : AH} {hd_Node : Value} {fp_Node : Fp} {hd_UpFirst : Value} {fp_UpFirst : Fp} {hd_Up : Value} {fp_Up : Fp} {hd_DownFirst : Value} {fp_DownFirst : Fp} {hd_Down : Value} {fp_Down : Fp} {Node : List (Int)} {UpFirst : List (Int)} {Up : List (Int × Int × Int × Int)} {DownFirst : List (Int)} {Down : List (Int × Int × Int × Int)} {r : Unit}
    (wf : WF H) (h_Node : Sq (encI .u32) 1 H hd_Node Node fp_Node) (h_UpFirst : Sq (encI .u32) 1 H hd_UpFirst UpFirst fp_UpFirst) (h_Up : Sq enc_u32_u64_u32_u32 4 H hd_Up Up fp_Up) (h_DownFirst : Sq (encI .u32) 1 H hd_DownFirst DownFirst fp_DownFirst) (h_Down : Sq enc_u32_u64_u32_u32 4 H hd_Down Down fp_Down) (hr : z_hier_links Node UpFirst Up DownFirst Down = some r) :
    ACalls Tryz.prog 55 #[.agg #[hd_Node, hd_UpFirst, hd_Up, hd_DownFirst, hd_Down]] H fun v H' => ∃ (b3 : Nat), v = .func (.func 68) #[] #[pt_ b3 0] ∧ FrS [] H H' ∧ Row H' b3 [hd_Node, hd_UpFirst, hd_Up, hd_DownFirst, hd_Down] ∧ Inn [] H [b3] := by
 refine acalls_of_body mixed Tryz.func55 rfl (Nat.le_of_ble_eq_true rfl) ?_
 unfold z_hier_links at hr
 refine w_seqk fun _ k5 => g_' ?_
 refine s_rwl wf [hd_Node, hd_UpFirst, hd_Up, hd_DownFirst, hd_Down] (one_cons (h_Node.one1) (one_cons (h_UpFirst.one1) (one_cons (h_Up.one1) (one_cons (h_DownFirst.one1) (one_cons (h_Down.one1) (one_nil)))))) (by kernel_rfl) fun b6 H7 e8 hb9 r10 => ?_
 refine q_ (.nilFunc) (s_nil (k5 _ _ (w_seqk fun _ k12 => g_' (q_ (.func (.func 68) #[] #[pt_ b6 0]) (q_ (.func (.func 68) #[] #[pt_ b6 0]) (s_nil (k12 _ _ ?_)))))))
 refine w_ret ?_
 refine b_ret (fn := Tryz.f55) (vs := [.func (.func 68) #[] #[pt_ b6 0]]) (aRes_tmp (by kernel_rfl) (rfl)) ?_
 obtain rfl := Option.some.inj hr
 exact ⟨b6, rfl, ((FrS.refl (W := []) wf).extR e8), r10, (hb9.fresh (Nat.le_refl _))⟩
theorem c_hier_links_1 [Pins] {H : AH} {l_ : Nat} {I_ : AH → List (Int × Int × Int × Int × Int × Int × Int × Int) → Fp → Prop} {fp_tr : Fp} {b_p : Nat} {hd_l : Value} {fp_l : Fp} {hd_l_2 : Value} {fp_l_2 : Fp} {hd_l_3 : Value} {fp_l_3 : Fp} {hd_l_4 : Value} {fp_l_4 : Fp} {hd_l_5 : Value} {fp_l_5 : Fp} {ok_ : List (Int × Int × Int × Int × Int × Int × Int × Int) → Bool} {tr : List (Int × Int × Int × Int × Int × Int × Int × Int)} {l : List (Int)} {l_2 : List (Int)} {l_3 : List (Int × Int × Int × Int)} {l_4 : List (Int)} {l_5 : List (Int × Int × Int × Int)} {r : List (Int × Int × Int × Int × Int × Int × Int × Int)}
    (wf : WF H) (hyl : Yld Tryz.prog l_ ok_ (fun x_ => #[i_ x_.1, .agg #[.int .u32 x_.2.1, .int .u64 x_.2.2.1, .int .u32 x_.2.2.2.1, .int .u32 x_.2.2.2.2.1, i_ x_.2.2.2.2.2.1, i_ x_.2.2.2.2.2.2.1, i_ x_.2.2.2.2.2.2.2]]) I_) (h_tr : Trc I_ H tr fp_tr) (h_l : Sq (encI .u32) 1 H hd_l l fp_l) (h_l_2 : Sq (encI .u32) 1 H hd_l_2 l_2 fp_l_2) (h_l_3 : Sq enc_u32_u64_u32_u32 4 H hd_l_3 l_3 fp_l_3) (h_l_4 : Sq (encI .u32) 1 H hd_l_4 l_4 fp_l_4) (h_l_5 : Sq enc_u32_u64_u32_u32 4 H hd_l_5 l_5 fp_l_5) (h_p : Row H b_p [hd_l, hd_l_2, hd_l_3, hd_l_4, hd_l_5]) (dj_fp_tr_fp_l_3 : Dj fp_tr fp_l_3) (dj_fp_tr_b_p : Dj fp_tr [b_p]) (dj_fp_tr_fp_l_2 : Dj fp_tr fp_l_2) (dj_fp_tr_fp_l : Dj fp_tr fp_l) (dj_fp_tr_fp_l_4 : Dj fp_tr fp_l_4) (dj_fp_tr_fp_l_5 : Dj fp_tr fp_l_5) (hr : z_hier_links_1 ok_ tr l l_2 l_3 l_4 l_5 = some r) :
    ACalls Tryz.prog 68 #[.func (.yield l_) #[] #[], pt_ b_p 0] H fun v H' => ∃ (f3 : Fp), v = .tuple #[] ∧ FrS fp_tr H H' ∧ Trc I_ H' r f3 ∧ Inn fp_tr H f3 := by
 refine acalls_of_body mixed Tryz.func68 rfl (Nat.le_of_ble_eq_true rfl) ?_
 unfold z_hier_links_1 at hr
 refine w_seqk fun _ k5 => g_' (q_ (i_ 0) (s_nil (k5 _ _ (w_seqk fun _ k6 => w_seqk fun _ k7 => g_' (q_ (pt_ b_p 0) ?_)))))
 refine l_' (hd_l) (aLoad Tryz.prog 22 (pt_ b_p 0) H) (h_p.ld (by kernel_rfl)) ?_
 refine l_' (i_ (l.length : Int)) (aLen Tryz.prog 22 hd_l H) (h_l.lenb (by kernel_rfl)) ?_
 refine q_ (i_ 0) (s_nil (k7 _ _ ?_))
 obtain ⟨o8, hx9, r10⟩ := bind_some hr
 refine w_mid (fun α H11 => ∃ (f15 : Fp), Has α [(0, .func (.yield l_) #[] #[]), (1, pt_ b_p 0), (3, i_ o8.2)] ∧ FrS fp_tr H H11 ∧ Trc I_ H11 o8.1 f15 ∧ Inn fp_tr H f15) (fun _ k17 => ?_) (fun α H11 hM => ?_)
 ·refine w_block ?_
  obtain ⟨n19, hn20⟩ := loopO_iff.1 hx9
  refine w_loopn (fun n α H21 => ∃ (yield3 : List (Int × Int × Int × Int × Int × Int × Int × Int)), ∃ (i4 : Int), ∃ (i5 : Int), ∃ (f25 : Fp), iterO (fun zz_ => z_hier_links_1_l1 ok_ l l_2 l_3 zz_.1 zz_.2.1 zz_.2.2) n (yield3, i4, i5) = some o8 ∧ Has α [(0, .func (.yield l_) #[] #[]), (1, pt_ b_p 0), (3, i_ i5), (12, i_ (l.length : Int)), (13, i_ i4)] ∧ FrS fp_tr H H21 ∧ Trc I_ H21 yield3 f25 ∧ Inn fp_tr H f25) n19 ⟨tr, 0, 0, fp_tr, hn20, ha_, (FrS.refl (W := fp_tr) wf), h_tr, Inn.refl'⟩ ?_
  rintro n19 α H21 ⟨yield3, i4, i5, f25, hi28, hh27, e22, m24, i26⟩ K33 k33
  obtain ⟨n29, z30, rfl, hz31, hn32⟩ := iter_succ hi28
  obtain ⟨β, rfl⟩ := has_ex hh27
  clear hh27
  replace hz31 : z_hier_links_1_l1 ok_ l l_2 l_3 yield3 i4 i5 = some z30 := hz31
  unfold z_hier_links_1_l1 at hz31
  refine w_seqk fun _ k34 => g_' (q_ (.bool (decide (i4 < (l.length : Int)))) (s_nil (k34 _ _ (w_seqk fun _ k35 => ?_))))
  refine w_condp (i4 < (l.length : Int)) (by kernel_rfl) rfl (fun h36 => ?_) (fun h36 => ?_)
  ·have r37 := ite_t h36 hz31
   refine w_skip (k35 _ _ (w_seqk fun _ k38 => w_block (w_seqk fun _ k39 => g_' (q_ (i_ i4) (q_ (i_ i4) (s_nil (k39 _ _ (w_seqk fun _ k40 => ?_))))))))
   refine w_draw [0, 1, 2, 3, 4, 5, 6, 7, 8, 9, 10, 11, 12, 13, 14, 15] (by kernel_rfl) ?_
   refine e_' (pt_ b_p 2) ?_
   have u41 := (h_p.frS e22 dj_fp_tr_b_p)
   refine m_' (hd_l_3) (aLoad Tryz.prog 23 (pt_ b_p 2) H21) (u41.ld (by kernel_rfl)) ?_
   refine e_' (pt_ b_p 1) ?_
   refine m_' (hd_l_2) (aLoad Tryz.prog 22 (pt_ b_p 1) H21) (u41.ld (by kernel_rfl)) ?_
   refine e_' (i_ i4) ?_
   obtain ⟨g42, r43⟩ := G_some r37
   have u44 := (h_l_2.fr e22 dj_fp_tr_fp_l_2)
   refine m_' (elp hd_l_2 1 i4.toNat 0) (aIndexAddr Tryz.prog 22 hd_l_2 (i_ i4)) (u44.idxb (by kernel_rfl) g42.1 g42.2) ?_
   refine m_' (.int .u32 (gt l_2 i4)) (aLoad Tryz.prog 86 (elp hd_l_2 1 i4.toNat 0) H21) (u44.ld g42.1 g42.2 (by kernel_rfl)) ?_
   refine e_' (pt_ b_p 1) ?_
   refine m_' (hd_l_2) (aLoad Tryz.prog 22 (pt_ b_p 1) H21) (u41.ld (by kernel_rfl)) ?_
   refine e_' (i_ i4) ?_
   obtain ⟨g45, r46⟩ := G_some r43
   refine d_w ((i4 + 1)) (k := .i64) (x := (i4 + 1)) (by kernel_rfl) (wrap64 (by have := g45; omega)) ?_
   obtain ⟨g47, r48⟩ := G_some r46
   refine m_' (elp hd_l_2 1 (i4 + 1).toNat 0) (aIndexAddr Tryz.prog 22 hd_l_2 (i_ (i4 + 1))) (u44.idxb (by kernel_rfl) g47.1 g47.2) ?_
   refine m_' (.int .u32 (gt l_2 (i4 + 1))) (aLoad Tryz.prog 86 (elp hd_l_2 1 (i4 + 1).toNat 0) H21) (u44.ld g47.1 g47.2 (by kernel_rfl)) ?_
   obtain ⟨g49, r50⟩ := G_some r48
   have u54 := (h_l_3.fr e22 dj_fp_tr_fp_l_3)
   obtain ⟨s51, q52, hs53⟩ := Sq.cut (P := Tryz.prog) u54 (t := 23) (by kernel_rfl) (lo := (some (.int .u32 (gt l_2 i4)))) (hi := (some (.int .u32 (gt l_2 (i4 + 1))))) (l := (gt l_2 i4).toNat) (r := (gt l_2 (i4 + 1)).toNat) (aBound_int _ (by have := g49; omega)) (aBound_int _ (by have := g49; omega)) (by have := g49; omega) (by have := g49; omega)
   obtain ⟨a55, n56, c57, rfl⟩ := hs53.form
   refine d_ql (.slice a55 n56 c57) (by kernel_rfl) q52 ?_
   refine m_' (i_ (((l_3.take (gt l_2 (i4 + 1)).toNat).drop (gt l_2 i4).toNat).length : Int)) (aLen Tryz.prog 23 (.slice a55 n56 c57) H21) (hs53.lenb (by kernel_rfl)) ?_
   refine e_' (i_ 0) ?_
   refine d_nil ?_
   refine k40 _ _ ?_
   obtain ⟨o59, hx60, r61⟩ := bind_some r50
   refine w_mid (fun α H62 => ∃ (f66 : Fp), Has α [(0, .func (.yield l_) #[] #[]), (1, pt_ b_p 0), (3, i_ o59.2), (12, i_ (l.length : Int)), (13, i_ i4)] ∧ FrS f25 H21 H62 ∧ Trc I_ H62 o59.1 f66 ∧ Inn f25 H21 f66) (fun _ k68 => ?_) (fun α H62 hM => ?_)
   ·refine w_block ?_
    obtain ⟨n70, hn71⟩ := loopO_iff.1 hx60
    refine w_loopn (fun n α H72 => ∃ (yield0 : List (Int × Int × Int × Int × Int × Int × Int × Int)), ∃ (i1 : Int), ∃ (i2 : Int), ∃ (f76 : Fp), iterO (fun zz_ => z_hier_links_1_l0 ok_ l_2 l_3 i4 zz_.1 zz_.2.1 zz_.2.2) n (yield0, i1, i2) = some o59 ∧ Has α [(0, .func (.yield l_) #[] #[]), (1, pt_ b_p 0), (3, i_ i1), (4, i_ i4), (12, i_ (l.length : Int)), (13, i_ i4), (29, .slice a55 n56 c57), (30, i_ (((l_3.take (gt l_2 (i4 + 1)).toNat).drop (gt l_2 i4).toNat).length : Int)), (31, i_ i2)] ∧ FrS f25 H21 H72 ∧ Trc I_ H72 yield0 f76 ∧ Inn f25 H21 f76) n70 ⟨yield3, i5, 0, f25, hn71, ha_, (FrS.refl (W := f25) e22.wf), m24, Inn.refl'⟩ ?_
    rintro n70 α H72 ⟨yield0, i1, i2, f76, hi79, hh78, e73, m75, i77⟩ K84 k84
    obtain ⟨n80, z81, rfl, hz82, hn83⟩ := iter_succ hi79
    obtain ⟨β, rfl⟩ := has_ex hh78
    clear hh78
    replace hz82 : z_hier_links_1_l0 ok_ l_2 l_3 i4 yield0 i1 i2 = some z81 := hz82
    unfold z_hier_links_1_l0 at hz82
    refine w_seqk fun _ k85 => g_' (q_ (.bool (decide (i2 < (((l_3.take (gt l_2 (i4 + 1)).toNat).drop (gt l_2 i4).toNat).length : Int)))) (s_nil (k85 _ _ (w_seqk fun _ k86 => ?_))))
    refine w_condp (i2 < (((l_3.take (gt l_2 (i4 + 1)).toNat).drop (gt l_2 i4).toNat).length : Int)) (by kernel_rfl) rfl (fun h87 => ?_) (fun h87 => ?_)
    ·have r88 := ite_t h87 hz82
     refine w_skip (k86 _ _ (w_seqk fun _ k89 => w_block (w_seqk fun _ k90 => g_' ?_)))
     obtain ⟨g91, r92⟩ := G_some r88
     have u93 := (hs53.fr e73 (i26.dj dj_fp_tr_fp_l_3 h_l_3.lt))
     refine l_' (elp (.slice a55 n56 c57) 4 i2.toNat 0) (aIndexAddr Tryz.prog 23 (.slice a55 n56 c57) (i_ i2)) (u93.idxb (by kernel_rfl) g91 h87) ?_
     refine l_' (.agg #[.int .u32 ((gt ((l_3.take (gt l_2 (i4 + 1)).toNat).drop (gt l_2 i4).toNat) i2).1), .int .u64 ((gt ((l_3.take (gt l_2 (i4 + 1)).toNat).drop (gt l_2 i4).toNat) i2).2.1), .int .u32 ((gt ((l_3.take (gt l_2 (i4 + 1)).toNat).drop (gt l_2 i4).toNat) i2).2.2.1), .int .u32 ((gt ((l_3.take (gt l_2 (i4 + 1)).toNat).drop (gt l_2 i4).toNat) i2).2.2.2)]) (aLoad Tryz.prog 92 (elp (.slice a55 n56 c57) 4 i2.toNat 0) H72) (u93.ld g91 h87 (by kernel_rfl)) ?_
     refine s_rwk e73.wf [.int .u32 0, .int .u64 0, .int .u32 0, .int .u32 0] (by kernel_rfl) fun b94 H95 e96 hb97 r98 => ?_
     obtain ⟨H100, q101, e102, r103⟩ := Row.store (P := Tryz.prog) (t := 92) (p := 0) e96.wf r98 (.agg #[.int .u32 ((gt ((l_3.take (gt l_2 (i4 + 1)).toNat).drop (gt l_2 i4).toNat) i2).1), .int .u64 ((gt ((l_3.take (gt l_2 (i4 + 1)).toNat).drop (gt l_2 i4).toNat) i2).2.1), .int .u32 ((gt ((l_3.take (gt l_2 (i4 + 1)).toNat).drop (gt l_2 i4).toNat) i2).2.2.1), .int .u32 ((gt ((l_3.take (gt l_2 (i4 + 1)).toNat).drop (gt l_2 i4).toNat) i2).2.2.2)]) [.int .u32 ((gt ((l_3.take (gt l_2 (i4 + 1)).toNat).drop (gt l_2 i4).toNat) i2).1), .int .u64 ((gt ((l_3.take (gt l_2 (i4 + 1)).toNat).drop (gt l_2 i4).toNat) i2).2.1), .int .u32 ((gt ((l_3.take (gt l_2 (i4 + 1)).toNat).drop (gt l_2 i4).toNat) i2).2.2.1), .int .u32 ((gt ((l_3.take (gt l_2 (i4 + 1)).toNat).drop (gt l_2 i4).toNat) i2).2.2.2)] (by kernel_rfl) (by kernel_rfl) (one_cons (rfl) (one_cons (rfl) (one_cons (rfl) (one_cons (rfl) (one_nil))))) (Nat.le_of_ble_eq_true (by kernel_rfl)) [.int .u32 ((gt ((l_3.take (gt l_2 (i4 + 1)).toNat).drop (gt l_2 i4).toNat) i2).1), .int .u64 ((gt ((l_3.take (gt l_2 (i4 + 1)).toNat).drop (gt l_2 i4).toNat) i2).2.1), .int .u32 ((gt ((l_3.take (gt l_2 (i4 + 1)).toNat).drop (gt l_2 i4).toNat) i2).2.2.1), .int .u32 ((gt ((l_3.take (gt l_2 (i4 + 1)).toNat).drop (gt l_2 i4).toNat) i2).2.2.2)] (by kernel_rfl)
     refine s_ek (undef) (by kernel_rfl) (map_ok q101) ?_
     refine s_nil (k90 _ _ (w_seqk fun _ k104 => w_seqk fun _ k105 => g_' (q_ (.func (.yield l_) #[] #[]) (q_ (i_ i1) ?_))))
     refine l_' (.agg #[.int .u32 ((gt ((l_3.take (gt l_2 (i4 + 1)).toNat).drop (gt l_2 i4).toNat) i2).1), .int .u64 ((gt ((l_3.take (gt l_2 (i4 + 1)).toNat).drop (gt l_2 i4).toNat) i2).2.1), .int .u32 ((gt ((l_3.take (gt l_2 (i4 + 1)).toNat).drop (gt l_2 i4).toNat) i2).2.2.1), .int .u32 ((gt ((l_3.take (gt l_2 (i4 + 1)).toNat).drop (gt l_2 i4).toNat) i2).2.2.2)]) (aLoad Tryz.prog 92 (pt_ b94 0) H100) (r103.ld (by kernel_rfl)) ?_
     refine q_ (i_ i4) (q_ (pt_ b94 0) ?_)
     refine l_' (.int .u32 ((gt ((l_3.take (gt l_2 (i4 + 1)).toNat).drop (gt l_2 i4).toNat) i2).1)) (aLoad Tryz.prog 86 (pt_ b94 0) H100) (r103.ld (by kernel_rfl)) ?_
     obtain ⟨g106, r107⟩ := G_some r92
     refine w_' (gt ((l_3.take (gt l_2 (i4 + 1)).toNat).drop (gt l_2 i4).toNat) i2).1 (wrap64 g106) ?_
     refine q_ (i_ i4) (q_ (.agg #[.int .u32 ((gt ((l_3.take (gt l_2 (i4 + 1)).toNat).drop (gt l_2 i4).toNat) i2).1), .int .u64 ((gt ((l_3.take (gt l_2 (i4 + 1)).toNat).drop (gt l_2 i4).toNat) i2).2.1), .int .u32 ((gt ((l_3.take (gt l_2 (i4 + 1)).toNat).drop (gt l_2 i4).toNat) i2).2.2.1), .int .u32 ((gt ((l_3.take (gt l_2 (i4 + 1)).toNat).drop (gt l_2 i4).toNat) i2).2.2.2), i_ i4, i_ ((gt ((l_3.take (gt l_2 (i4 + 1)).toNat).drop (gt l_2 i4).toNat) i2).1), i_ i4]) ?_)
     obtain ⟨g108, r109⟩ := G_some r107
     have u115 := ((m75.ext e96).fr e102 (hb97.djn m75.lt))
     refine s_y l_ #[i_ i1, .agg #[.int .u32 ((gt ((l_3.take (gt l_2 (i4 + 1)).toNat).drop (gt l_2 i4).toNat) i2).1), .int .u64 ((gt ((l_3.take (gt l_2 (i4 + 1)).toNat).drop (gt l_2 i4).toNat) i2).2.1), .int .u32 ((gt ((l_3.take (gt l_2 (i4 + 1)).toNat).drop (gt l_2 i4).toNat) i2).2.2.1), .int .u32 ((gt ((l_3.take (gt l_2 (i4 + 1)).toNat).drop (gt l_2 i4).toNat) i2).2.2.2), i_ i4, i_ ((gt ((l_3.take (gt l_2 (i4 + 1)).toNat).drop (gt l_2 i4).toNat) i2).1), i_ i4]] (by kernel_rfl) (by kernel_rfl) (hyl _ _ _ (i1, (gt ((l_3.take (gt l_2 (i4 + 1)).toNat).drop (gt l_2 i4).toNat) i2).1, (gt ((l_3.take (gt l_2 (i4 + 1)).toNat).drop (gt l_2 i4).toNat) i2).2.1, (gt ((l_3.take (gt l_2 (i4 + 1)).toNat).drop (gt l_2 i4).toNat) i2).2.2.1, (gt ((l_3.take (gt l_2 (i4 + 1)).toNat).drop (gt l_2 i4).toNat) i2).2.2.2, i4, (gt ((l_3.take (gt l_2 (i4 + 1)).toNat).drop (gt l_2 i4).toNat) i2).1, i4) e102.wf g108 u115.at) ?_
     rintro _ H110 ⟨rfl, f111, e112, hm113, hf114⟩
     refine q_ (.bool false) (s_nil (k105 _ _ ?_))
     refine w_cond false (by kernel_rfl) rfl (fun h => by cases h) (fun _ => ?_)
     refine w_skip (k104 _ _ (g_' (q_ (i_ i1) ?_)))
     obtain ⟨g116, r117⟩ := G_some r109
     refine w_' (i1 + 1) (wrap64 g116) ?_
     refine q_ (i_ (i1 + 1)) (s_nil (k89 _ _ (g_' ?_)))
     obtain ⟨g118, r119⟩ := G_some r117
     refine w_' (i2 + 1) (wrap64 (by have := g118; omega)) ?_
     refine q_ (i_ (i2 + 1)) (s_nil ?_)
     obtain rfl := Option.some.inj r119
     exact k84 n80 _ _ (Nat.lt_succ_self _) ⟨(yield0 ++ [(i1, (gt ((l_3.take (gt l_2 (i4 + 1)).toNat).drop (gt l_2 i4).toNat) i2).1, (gt ((l_3.take (gt l_2 (i4 + 1)).toNat).drop (gt l_2 i4).toNat) i2).2.1, (gt ((l_3.take (gt l_2 (i4 + 1)).toNat).drop (gt l_2 i4).toNat) i2).2.2.1, (gt ((l_3.take (gt l_2 (i4 + 1)).toNat).drop (gt l_2 i4).toNat) i2).2.2.2, i4, (gt ((l_3.take (gt l_2 (i4 + 1)).toNat).drop (gt l_2 i4).toNat) i2).1, i4)]), (i1 + 1), (i2 + 1), f111, hn83, ha_, (FrS.step e22.wf (FrS.step e22.wf ((FrS.step e22.wf (FrS.refl (W := f25) e22.wf) e73 Inn.refl').extR e96) e102 (hb97.fresh e73.next)) e112 (Inn.trans Inn.refl' (Nat.le_refl _) i77)), hm113, (Inn.trans (Inn.trans Inn.refl' (Nat.le_refl _) i77) (ntr (ntr e73.next e96.next) e102.next) hf114)⟩
    have r120 := ite_f h87 hz82
    refine w_exit (th_exit (th_exit (bl_eq ?_)))
    obtain rfl := Option.some.inj r120
    obtain rfl := it_inr hn83
    exact k68 _ _ ⟨f76, ha_, (FrS.step e22.wf (FrS.refl (W := f25) e22.wf) e73 Inn.refl'), m75, (Inn.trans Inn.refl' (Nat.le_refl _) i77)⟩
   obtain ⟨f66, hh69, e63, m65, i67⟩ := hM
   obtain ⟨β, rfl⟩ := has_ex hh69
   clear hh69
   refine k38 _ _ (g_' ?_)
   refine w_' (i4 + 1) (wrap64 (by have := g45; omega)) ?_
   refine q_ (i_ (i4 + 1)) (s_nil ?_)
   obtain rfl := Option.some.inj r61
   exact k33 n29 _ _ (Nat.lt_succ_self _) ⟨o59.1, (i4 + 1), o59.2, f66, hn32, ha_, (FrS.step wf (FrS.step wf (FrS.refl (W := fp_tr) wf) e22 Inn.refl') e63 (Inn.trans Inn.refl' (Nat.le_refl _) i26)), m65, (Inn.trans (Inn.trans Inn.refl' (Nat.le_refl _) i26) e22.next i67)⟩
  have r121 := ite_f h36 hz31
  refine w_exit (th_exit (th_exit (bl_eq ?_)))
  obtain rfl := Option.some.inj r121
  obtain rfl := it_inr hn32
  exact k17 _ _ ⟨f25, ha_, (FrS.step wf (FrS.refl (W := fp_tr) wf) e22 Inn.refl'), m24, (Inn.trans Inn.refl' (Nat.le_refl _) i26)⟩
 obtain ⟨f15, hh18, e12, m14, i16⟩ := hM
 obtain ⟨β, rfl⟩ := has_ex hh18
 clear hh18
 refine k6 _ _ (w_seqk fun _ k122 => g_' (q_ (pt_ b_p 0) ?_))
 have u123 := (h_p.frS e12 dj_fp_tr_b_p)
 refine l_' (hd_l) (aLoad Tryz.prog 22 (pt_ b_p 0) H11) (u123.ld (by kernel_rfl)) ?_
 have u124 := (h_l.fr e12 dj_fp_tr_fp_l)
 refine l_' (i_ (l.length : Int)) (aLen Tryz.prog 22 hd_l H11) (u124.lenb (by kernel_rfl)) ?_
 refine q_ (i_ 0) (s_nil (k122 _ _ ?_))
 obtain ⟨o125, hx126, r127⟩ := bind_some r10
 refine w_mid (fun α H128 => ∃ (f132 : Fp), Has α [] ∧ FrS f15 H11 H128 ∧ Trc I_ H128 o125 f132 ∧ Inn f15 H11 f132) (fun _ k134 => ?_) (fun α H128 hM => ?_)
 ·refine w_block ?_
  obtain ⟨n136, hn137⟩ := loopO_iff.1 hx126
  refine w_loopn (fun n α H138 => ∃ (yield9 : List (Int × Int × Int × Int × Int × Int × Int × Int)), ∃ (i10 : Int), ∃ (i11 : Int), ∃ (f142 : Fp), iterO (fun zz_ => z_hier_links_1_l3 ok_ l l_4 l_5 zz_.1 zz_.2.1 zz_.2.2) n (yield9, i10, i11) = some o125 ∧ Has α [(0, .func (.yield l_) #[] #[]), (1, pt_ b_p 0), (3, i_ i10), (52, i_ (l.length : Int)), (53, i_ i11)] ∧ FrS f15 H11 H138 ∧ Trc I_ H138 yield9 f142 ∧ Inn f15 H11 f142) n136 ⟨o8.1, o8.2, 0, f15, hn137, ha_, (FrS.refl (W := f15) e12.wf), m14, Inn.refl'⟩ ?_
  rintro n136 α H138 ⟨yield9, i10, i11, f142, hi145, hh144, e139, m141, i143⟩ K150 k150
  obtain ⟨n146, z147, rfl, hz148, hn149⟩ := iter_succ hi145
  obtain ⟨β, rfl⟩ := has_ex hh144
  clear hh144
  replace hz148 : z_hier_links_1_l3 ok_ l l_4 l_5 yield9 i10 i11 = some z147 := hz148
  unfold z_hier_links_1_l3 at hz148
  refine w_seqk fun _ k151 => g_' (q_ (.bool (decide (i11 < (l.length : Int)))) (s_nil (k151 _ _ (w_seqk fun _ k152 => ?_))))
  refine w_condp (i11 < (l.length : Int)) (by kernel_rfl) rfl (fun h153 => ?_) (fun h153 => ?_)
  ·have r154 := ite_t h153 hz148
   refine w_skip (k152 _ _ (w_seqk fun _ k155 => w_block (w_seqk fun _ k156 => g_' (q_ (i_ i11) (q_ (i_ i11) (s_nil (k156 _ _ (w_seqk fun _ k157 => ?_))))))))
   refine w_draw [0, 1, 2, 3, 4, 5, 6, 7, 8, 9, 10, 11, 12, 13, 14, 15] (by kernel_rfl) ?_
   refine e_' (pt_ b_p 4) ?_
   have u158 := (u123.frS e139 (i16.dj dj_fp_tr_b_p h_p.ltF))
   refine m_' (hd_l_5) (aLoad Tryz.prog 23 (pt_ b_p 4) H138) (u158.ld (by kernel_rfl)) ?_
   refine e_' (pt_ b_p 3) ?_
   refine m_' (hd_l_4) (aLoad Tryz.prog 22 (pt_ b_p 3) H138) (u158.ld (by kernel_rfl)) ?_
   refine e_' (i_ i11) ?_
   obtain ⟨g159, r160⟩ := G_some r154
   have u161 := ((h_l_4.fr e12 dj_fp_tr_fp_l_4).fr e139 (i16.dj dj_fp_tr_fp_l_4 h_l_4.lt))
   refine m_' (elp hd_l_4 1 i11.toNat 0) (aIndexAddr Tryz.prog 22 hd_l_4 (i_ i11)) (u161.idxb (by kernel_rfl) g159.1 g159.2) ?_
   refine m_' (.int .u32 (gt l_4 i11)) (aLoad Tryz.prog 86 (elp hd_l_4 1 i11.toNat 0) H138) (u161.ld g159.1 g159.2 (by kernel_rfl)) ?_
   refine e_' (pt_ b_p 3) ?_
   refine m_' (hd_l_4) (aLoad Tryz.prog 22 (pt_ b_p 3) H138) (u158.ld (by kernel_rfl)) ?_
   refine e_' (i_ i11) ?_
   obtain ⟨g162, r163⟩ := G_some r160
   refine d_w ((i11 + 1)) (k := .i64) (x := (i11 + 1)) (by kernel_rfl) (wrap64 (by have := g162; omega)) ?_
   obtain ⟨g164, r165⟩ := G_some r163
   refine m_' (elp hd_l_4 1 (i11 + 1).toNat 0) (aIndexAddr Tryz.prog 22 hd_l_4 (i_ (i11 + 1))) (u161.idxb (by kernel_rfl) g164.1 g164.2) ?_
   refine m_' (.int .u32 (gt l_4 (i11 + 1))) (aLoad Tryz.prog 86 (elp hd_l_4 1 (i11 + 1).toNat 0) H138) (u161.ld g164.1 g164.2 (by kernel_rfl)) ?_
   obtain ⟨g166, r167⟩ := G_some r165
   have u171 := ((h_l_5.fr e12 dj_fp_tr_fp_l_5).fr e139 (i16.dj dj_fp_tr_fp_l_5 h_l_5.lt))
   obtain ⟨s168, q169, hs170⟩ := Sq.cut (P := Tryz.prog) u171 (t := 23) (by kernel_rfl) (lo := (some (.int .u32 (gt l_4 i11)))) (hi := (some (.int .u32 (gt l_4 (i11 + 1))))) (l := (gt l_4 i11).toNat) (r := (gt l_4 (i11 + 1)).toNat) (aBound_int _ (by have := g166; omega)) (aBound_int _ (by have := g166; omega)) (by have := g166; omega) (by have := g166; omega)
   obtain ⟨a172, n173, c174, rfl⟩ := hs170.form
   refine d_ql (.slice a172 n173 c174) (by kernel_rfl) q169 ?_
   refine m_' (i_ (((l_5.take (gt l_4 (i11 + 1)).toNat).drop (gt l_4 i11).toNat).length : Int)) (aLen Tryz.prog 23 (.slice a172 n173 c174) H138) (hs170.lenb (by kernel_rfl)) ?_
   refine e_' (i_ 0) ?_
   refine d_nil ?_
   refine k157 _ _ ?_
   obtain ⟨o176, hx177, r178⟩ := bind_some r167
   refine w_mid (fun α H179 => ∃ (f183 : Fp), Has α [(0, .func (.yield l_) #[] #[]), (1, pt_ b_p 0), (3, i_ o176.2), (52, i_ (l.length : Int)), (53, i_ i11)] ∧ FrS f142 H138 H179 ∧ Trc I_ H179 o176.1 f183 ∧ Inn f142 H138 f183) (fun _ k185 => ?_) (fun α H179 hM => ?_)
   ·refine w_block ?_
    obtain ⟨n187, hn188⟩ := loopO_iff.1 hx177
    refine w_loopn (fun n α H189 => ∃ (yield6 : List (Int × Int × Int × Int × Int × Int × Int × Int)), ∃ (i7 : Int), ∃ (i8 : Int), ∃ (f193 : Fp), iterO (fun zz_ => z_hier_links_1_l2 ok_ l_4 l_5 i11 zz_.1 zz_.2.1 zz_.2.2) n (yield6, i7, i8) = some o176 ∧ Has α [(0, .func (.yield l_) #[] #[]), (1, pt_ b_p 0), (3, i_ i7), (7, i_ i11), (52, i_ (l.length : Int)), (53, i_ i11), (69, .slice a172 n173 c174), (70, i_ (((l_5.take (gt l_4 (i11 + 1)).toNat).drop (gt l_4 i11).toNat).length : Int)), (71, i_ i8)] ∧ FrS f142 H138 H189 ∧ Trc I_ H189 yield6 f193 ∧ Inn f142 H138 f193) n187 ⟨yield9, i10, 0, f142, hn188, ha_, (FrS.refl (W := f142) e139.wf), m141, Inn.refl'⟩ ?_
    rintro n187 α H189 ⟨yield6, i7, i8, f193, hi196, hh195, e190, m192, i194⟩ K201 k201
    obtain ⟨n197, z198, rfl, hz199, hn200⟩ := iter_succ hi196
    obtain ⟨β, rfl⟩ := has_ex hh195
    clear hh195
    replace hz199 : z_hier_links_1_l2 ok_ l_4 l_5 i11 yield6 i7 i8 = some z198 := hz199
    unfold z_hier_links_1_l2 at hz199
    refine w_seqk fun _ k202 => g_' (q_ (.bool (decide (i8 < (((l_5.take (gt l_4 (i11 + 1)).toNat).drop (gt l_4 i11).toNat).length : Int)))) (s_nil (k202 _ _ (w_seqk fun _ k203 => ?_))))
    refine w_condp (i8 < (((l_5.take (gt l_4 (i11 + 1)).toNat).drop (gt l_4 i11).toNat).length : Int)) (by kernel_rfl) rfl (fun h204 => ?_) (fun h204 => ?_)
    ·have r205 := ite_t h204 hz199
     refine w_skip (k203 _ _ (w_seqk fun _ k206 => w_block (w_seqk fun _ k207 => g_' ?_)))
     obtain ⟨g208, r209⟩ := G_some r205
     have u210 := (hs170.fr e190 (i143.dj (i16.dj dj_fp_tr_fp_l_5 h_l_5.lt) (h_l_5.lt.le e12.next)))
     refine l_' (elp (.slice a172 n173 c174) 4 i8.toNat 0) (aIndexAddr Tryz.prog 23 (.slice a172 n173 c174) (i_ i8)) (u210.idxb (by kernel_rfl) g208 h204) ?_
     refine l_' (.agg #[.int .u32 ((gt ((l_5.take (gt l_4 (i11 + 1)).toNat).drop (gt l_4 i11).toNat) i8).1), .int .u64 ((gt ((l_5.take (gt l_4 (i11 + 1)).toNat).drop (gt l_4 i11).toNat) i8).2.1), .int .u32 ((gt ((l_5.take (gt l_4 (i11 + 1)).toNat).drop (gt l_4 i11).toNat) i8).2.2.1), .int .u32 ((gt ((l_5.take (gt l_4 (i11 + 1)).toNat).drop (gt l_4 i11).toNat) i8).2.2.2)]) (aLoad Tryz.prog 92 (elp (.slice a172 n173 c174) 4 i8.toNat 0) H189) (u210.ld g208 h204 (by kernel_rfl)) ?_
     refine s_rwk e190.wf [.int .u32 0, .int .u64 0, .int .u32 0, .int .u32 0] (by kernel_rfl) fun b211 H212 e213 hb214 r215 => ?_
     obtain ⟨H217, q218, e219, r220⟩ := Row.store (P := Tryz.prog) (t := 92) (p := 0) e213.wf r215 (.agg #[.int .u32 ((gt ((l_5.take (gt l_4 (i11 + 1)).toNat).drop (gt l_4 i11).toNat) i8).1), .int .u64 ((gt ((l_5.take (gt l_4 (i11 + 1)).toNat).drop (gt l_4 i11).toNat) i8).2.1), .int .u32 ((gt ((l_5.take (gt l_4 (i11 + 1)).toNat).drop (gt l_4 i11).toNat) i8).2.2.1), .int .u32 ((gt ((l_5.take (gt l_4 (i11 + 1)).toNat).drop (gt l_4 i11).toNat) i8).2.2.2)]) [.int .u32 ((gt ((l_5.take (gt l_4 (i11 + 1)).toNat).drop (gt l_4 i11).toNat) i8).1), .int .u64 ((gt ((l_5.take (gt l_4 (i11 + 1)).toNat).drop (gt l_4 i11).toNat) i8).2.1), .int .u32 ((gt ((l_5.take (gt l_4 (i11 + 1)).toNat).drop (gt l_4 i11).toNat) i8).2.2.1), .int .u32 ((gt ((l_5.take (gt l_4 (i11 + 1)).toNat).drop (gt l_4 i11).toNat) i8).2.2.2)] (by kernel_rfl) (by kernel_rfl) (one_cons (rfl) (one_cons (rfl) (one_cons (rfl) (one_cons (rfl) (one_nil))))) (Nat.le_of_ble_eq_true (by kernel_rfl)) [.int .u32 ((gt ((l_5.take (gt l_4 (i11 + 1)).toNat).drop (gt l_4 i11).toNat) i8).1), .int .u64 ((gt ((l_5.take (gt l_4 (i11 + 1)).toNat).drop (gt l_4 i11).toNat) i8).2.1), .int .u32 ((gt ((l_5.take (gt l_4 (i11 + 1)).toNat).drop (gt l_4 i11).toNat) i8).2.2.1), .int .u32 ((gt ((l_5.take (gt l_4 (i11 + 1)).toNat).drop (gt l_4 i11).toNat) i8).2.2.2)] (by kernel_rfl)
     refine s_ek (undef) (by kernel_rfl) (map_ok q218) ?_
     refine s_nil (k207 _ _ (w_seqk fun _ k221 => w_seqk fun _ k222 => g_' (q_ (.func (.yield l_) #[] #[]) (q_ (i_ i7) ?_))))
     refine l_' (.agg #[.int .u32 ((gt ((l_5.take (gt l_4 (i11 + 1)).toNat).drop (gt l_4 i11).toNat) i8).1), .int .u64 ((gt ((l_5.take (gt l_4 (i11 + 1)).toNat).drop (gt l_4 i11).toNat) i8).2.1), .int .u32 ((gt ((l_5.take (gt l_4 (i11 + 1)).toNat).drop (gt l_4 i11).toNat) i8).2.2.1), .int .u32 ((gt ((l_5.take (gt l_4 (i11 + 1)).toNat).drop (gt l_4 i11).toNat) i8).2.2.2)]) (aLoad Tryz.prog 92 (pt_ b211 0) H217) (r220.ld (by kernel_rfl)) ?_
     refine q_ (pt_ b211 0) ?_
     refine l_' (.int .u32 ((gt ((l_5.take (gt l_4 (i11 + 1)).toNat).drop (gt l_4 i11).toNat) i8).1)) (aLoad Tryz.prog 86 (pt_ b211 0) H217) (r220.ld (by kernel_rfl)) ?_
     obtain ⟨g223, r224⟩ := G_some r209
     refine w_' (gt ((l_5.take (gt l_4 (i11 + 1)).toNat).drop (gt l_4 i11).toNat) i8).1 (wrap64 g223) ?_
     refine q_ (i_ i11) (q_ (i_ i11) (q_ (.agg #[.int .u32 ((gt ((l_5.take (gt l_4 (i11 + 1)).toNat).drop (gt l_4 i11).toNat) i8).1), .int .u64 ((gt ((l_5.take (gt l_4 (i11 + 1)).toNat).drop (gt l_4 i11).toNat) i8).2.1), .int .u32 ((gt ((l_5.take (gt l_4 (i11 + 1)).toNat).drop (gt l_4 i11).toNat) i8).2.2.1), .int .u32 ((gt ((l_5.take (gt l_4 (i11 + 1)).toNat).drop (gt l_4 i11).toNat) i8).2.2.2), i_ ((gt ((l_5.take (gt l_4 (i11 + 1)).toNat).drop (gt l_4 i11).toNat) i8).1), i_ i11, i_ i11]) ?_))
     obtain ⟨g225, r226⟩ := G_some r224
     have u232 := ((m192.ext e213).fr e219 (hb214.djn m192.lt))
     refine s_y l_ #[i_ i7, .agg #[.int .u32 ((gt ((l_5.take (gt l_4 (i11 + 1)).toNat).drop (gt l_4 i11).toNat) i8).1), .int .u64 ((gt ((l_5.take (gt l_4 (i11 + 1)).toNat).drop (gt l_4 i11).toNat) i8).2.1), .int .u32 ((gt ((l_5.take (gt l_4 (i11 + 1)).toNat).drop (gt l_4 i11).toNat) i8).2.2.1), .int .u32 ((gt ((l_5.take (gt l_4 (i11 + 1)).toNat).drop (gt l_4 i11).toNat) i8).2.2.2), i_ ((gt ((l_5.take (gt l_4 (i11 + 1)).toNat).drop (gt l_4 i11).toNat) i8).1), i_ i11, i_ i11]] (by kernel_rfl) (by kernel_rfl) (hyl _ _ _ (i7, (gt ((l_5.take (gt l_4 (i11 + 1)).toNat).drop (gt l_4 i11).toNat) i8).1, (gt ((l_5.take (gt l_4 (i11 + 1)).toNat).drop (gt l_4 i11).toNat) i8).2.1, (gt ((l_5.take (gt l_4 (i11 + 1)).toNat).drop (gt l_4 i11).toNat) i8).2.2.1, (gt ((l_5.take (gt l_4 (i11 + 1)).toNat).drop (gt l_4 i11).toNat) i8).2.2.2, (gt ((l_5.take (gt l_4 (i11 + 1)).toNat).drop (gt l_4 i11).toNat) i8).1, i11, i11) e219.wf g225 u232.at) ?_
     rintro _ H227 ⟨rfl, f228, e229, hm230, hf231⟩
     refine q_ (.bool false) (s_nil (k222 _ _ ?_))
     refine w_cond false (by kernel_rfl) rfl (fun h => by cases h) (fun _ => ?_)
     refine w_skip (k221 _ _ (g_' (q_ (i_ i7) ?_)))
     obtain ⟨g233, r234⟩ := G_some r226
     refine w_' (i7 + 1) (wrap64 g233) ?_
     refine q_ (i_ (i7 + 1)) (s_nil (k206 _ _ (g_' ?_)))
     obtain ⟨g235, r236⟩ := G_some r234
     refine w_' (i8 + 1) (wrap64 (by have := g235; omega)) ?_
     refine q_ (i_ (i8 + 1)) (s_nil ?_)
     obtain rfl := Option.some.inj r236
     exact k201 n197 _ _ (Nat.lt_succ_self _) ⟨(yield6 ++ [(i7, (gt ((l_5.take (gt l_4 (i11 + 1)).toNat).drop (gt l_4 i11).toNat) i8).1, (gt ((l_5.take (gt l_4 (i11 + 1)).toNat).drop (gt l_4 i11).toNat) i8).2.1, (gt ((l_5.take (gt l_4 (i11 + 1)).toNat).drop (gt l_4 i11).toNat) i8).2.2.1, (gt ((l_5.take (gt l_4 (i11 + 1)).toNat).drop (gt l_4 i11).toNat) i8).2.2.2, (gt ((l_5.take (gt l_4 (i11 + 1)).toNat).drop (gt l_4 i11).toNat) i8).1, i11, i11)]), (i7 + 1), (i8 + 1), f228, hn200, ha_, (FrS.step e139.wf (FrS.step e139.wf ((FrS.step e139.wf (FrS.refl (W := f142) e139.wf) e190 Inn.refl').extR e213) e219 (hb214.fresh e190.next)) e229 (Inn.trans Inn.refl' (Nat.le_refl _) i194)), hm230, (Inn.trans (Inn.trans Inn.refl' (Nat.le_refl _) i194) (ntr (ntr e190.next e213.next) e219.next) hf231)⟩
    have r237 := ite_f h204 hz199
    refine w_exit (th_exit (th_exit (bl_eq ?_)))
    obtain rfl := Option.some.inj r237
    obtain rfl := it_inr hn200
    exact k185 _ _ ⟨f193, ha_, (FrS.step e139.wf (FrS.refl (W := f142) e139.wf) e190 Inn.refl'), m192, (Inn.trans Inn.refl' (Nat.le_refl _) i194)⟩
   obtain ⟨f183, hh186, e180, m182, i184⟩ := hM
   obtain ⟨β, rfl⟩ := has_ex hh186
   clear hh186
   refine k155 _ _ (g_' ?_)
   refine w_' (i11 + 1) (wrap64 (by have := g162; omega)) ?_
   refine q_ (i_ (i11 + 1)) (s_nil ?_)
   obtain rfl := Option.some.inj r178
   exact k150 n146 _ _ (Nat.lt_succ_self _) ⟨o176.1, o176.2, (i11 + 1), f183, hn149, ha_, (FrS.step e12.wf (FrS.step e12.wf (FrS.refl (W := f15) e12.wf) e139 Inn.refl') e180 (Inn.trans Inn.refl' (Nat.le_refl _) i143)), m182, (Inn.trans (Inn.trans Inn.refl' (Nat.le_refl _) i143) e139.next i184)⟩
  have r238 := ite_f h153 hz148
  refine w_exit (th_exit (th_exit (bl_eq ?_)))
  obtain rfl := Option.some.inj r238
  obtain rfl := it_inr hn149
  exact k134 _ _ ⟨f142, trivial, (FrS.step e12.wf (FrS.refl (W := f15) e12.wf) e139 Inn.refl'), m141, (Inn.trans Inn.refl' (Nat.le_refl _) i143)⟩
 obtain ⟨f132, hh135, e129, m131, i133⟩ := hM
 obtain ⟨β, rfl⟩ := has_ex hh135
 clear hh135
 refine b_nrm (fn := Tryz.f68) (vs := []) (rfl) ?_
 obtain rfl := Option.some.inj r127
 exact ⟨f132, rfl, (FrS.step wf (FrS.step wf (FrS.refl (W := fp_tr) wf) e12 Inn.refl') e129 (Inn.trans Inn.refl' (Nat.le_refl _) i16)), m131, (Inn.trans (Inn.trans Inn.refl' (Nat.le_refl _) i16) e12.next i133)⟩
theorem c_hier_plain {H : AH} {To : Int} {Weight : Int} {Left : Int} {Right : Int} {r : Bool}
    (wf : WF H) (hr : z_hier_plain To Weight Left Right = some r) :
    ACalls Tryz.prog 36 #[.agg #[.int .u32 To, .int .u64 Weight, .int .u32 Left, .int .u32 Right]] H fun v H' => v = .bool r ∧ FrS [] H H' := by
 refine acalls_of_body mixed Tryz.func36 rfl (Nat.le_of_ble_eq_true rfl) ?_
 unfold z_hier_plain at hr
 refine w_seqk fun _ k1 => g_' ?_
 refine s_rwl wf [.int .u32 To, .int .u64 Weight, .int .u32 Left, .int .u32 Right] (one_cons (rfl) (one_cons (rfl) (one_cons (rfl) (one_cons (rfl) (one_nil))))) (by kernel_rfl) fun b2 H3 e4 hb5 r6 => ?_
 refine q_ (.bool false) (s_nil (k1 _ _ (w_seqk fun _ k8 => g_' (q_ (pt_ b2 2) ?_))))
 refine l_' (.int .u32 Left) (aLoad Tryz.prog 86 (pt_ b2 2) H3) (r6.ld (by kernel_rfl)) ?_
 refine s_b (Left = 4294967295) (by kernel_rfl) (fun h9 => ?_) (fun h9 => ?_)
 ·have r10 := ite_t h9 hr
  refine q_ (.bool true) (q_ (pt_ b2 3) ?_)
  refine l_' (.int .u32 Right) (aLoad Tryz.prog 86 (pt_ b2 3) H3) (r6.ld (by kernel_rfl)) ?_
  refine q_ (.bool (decide (Right = 4294967295))) (q_ (.bool (decide (Right = 4294967295))) (q_ (.bool (decide (Right = 4294967295))) (s_nil (k8 _ _ ?_))))
  refine w_ret ?_
  refine b_ret (fn := Tryz.f36) (vs := [.bool (decide (Right = 4294967295))]) (aRes_tmp (by kernel_rfl) (rfl)) ?_
  obtain rfl := Option.some.inj r10
  exact ⟨rfl, ((FrS.refl (W := []) wf).extR e4)⟩
 have r11 := ite_f h9 hr
 refine q_ (.bool false) (n_' (n_' (n_' (q_ (.bool false) (q_ (.bool false) (s_nil (k8 _ _ ?_)))))))
 refine w_ret ?_
 refine b_ret (fn := Tryz.f36) (vs := [.bool false]) (aRes_tmp (by kernel_rfl) (rfl)) ?_
 obtain rfl := Option.some.inj r11
 exact ⟨rfl, ((FrS.refl (W := []) wf).extR e4)⟩
end Go.Vd

/-! (KHc1) -/

set_option maxRecDepth 100000
set_option maxHeartbeats 4000000
set_option linter.unusedVariables false
namespace Go.Vd
open Go.Proofs
attribute [local irreducible] wpSeq wpOrd aWp
theorem c_hier_shape {H : AH} {hd_Node : Value} {fp_Node : Fp} {hd_UpFirst : Value} {fp_UpFirst : Fp} {hd_Up : Value} {fp_Up : Fp} {hd_DownFirst : Value} {fp_DownFirst : Fp} {hd_Down : Value} {fp_Down : Fp} {hd_all : Value} {fp_all : Fp} {Node : List (Int)} {UpFirst : List (Int)} {Up : List (Int × Int × Int × Int)} {DownFirst : List (Int)} {Down : List (Int × Int × Int × Int)} {all : List (Int × Int × Int × Int × Int × Int × Int)} {i : Int} {r : Bool}
    (wf : WF H) (h_Node : Sq (encI .u32) 1 H hd_Node Node fp_Node) (h_UpFirst : Sq (encI .u32) 1 H hd_UpFirst UpFirst fp_UpFirst) (h_Up : Sq enc_u32_u64_u32_u32 4 H hd_Up Up fp_Up) (h_DownFirst : Sq (encI .u32) 1 H hd_DownFirst DownFirst fp_DownFirst) (h_Down : Sq enc_u32_u64_u32_u32 4 H hd_Down Down fp_Down) (h_all : Sq enc_u32_u64_u32_u32_i64_i64_i64 7 H hd_all all fp_all) (hr : z_hier_shape Node UpFirst Up DownFirst Down all i = some r) :
    ACalls Tryz.prog 56 #[.agg #[hd_Node, hd_UpFirst, hd_Up, hd_DownFirst, hd_Down], hd_all, i_ i] H fun v H' => v = .bool r ∧ FrS [] H H' := by
 refine acalls_of_body mixed Tryz.func56 rfl (Nat.le_of_ble_eq_true rfl) ?_
 unfold z_hier_shape at hr
 refine w_seqk fun _ k1 => g_' ?_
 refine s_rwl wf [hd_Node, hd_UpFirst, hd_Up, hd_DownFirst, hd_Down] (one_cons (h_Node.one1) (one_cons (h_UpFirst.one1) (one_cons (h_Up.one1) (one_cons (h_DownFirst.one1) (one_cons (h_Down.one1) (one_nil)))))) (by kernel_rfl) fun b2 H3 e4 hb5 r6 => ?_
 refine q_ (.bool false) (s_nil (k1 _ _ (w_seqk fun _ k8 => g_' (q_ (hd_all) (q_ (i_ i) ?_)))))
 obtain ⟨g9, r10⟩ := G_some hr
 have u11 := (h_all.ext e4)
 refine l_' (elp hd_all 7 i.toNat 0) (aIndexAddr Tryz.prog 76 hd_all (i_ i)) (u11.idxb (by kernel_rfl) g9.1 g9.2) ?_
 refine l_' (.agg #[.int .u32 ((gt all i).1), .int .u64 ((gt all i).2.1), .int .u32 ((gt all i).2.2.1), .int .u32 ((gt all i).2.2.2.1), i_ ((gt all i).2.2.2.2.1), i_ ((gt all i).2.2.2.2.2.1), i_ ((gt all i).2.2.2.2.2.2)]) (aLoad Tryz.prog 94 (elp hd_all 7 i.toNat 0) H3) (u11.ld g9.1 g9.2 (by kernel_rfl)) ?_
 refine s_rwk e4.wf [.int .u32 0, .int .u64 0, .int .u32 0, .int .u32 0, i_ 0, i_ 0, i_ 0] (by kernel_rfl) fun b12 H13 e14 hb15 r16 => ?_
 obtain ⟨H18, q19, e20, r21⟩ := Row.store (P := Tryz.prog) (t := 94) (p := 0) e14.wf r16 (.agg #[.int .u32 ((gt all i).1), .int .u64 ((gt all i).2.1), .int .u32 ((gt all i).2.2.1), .int .u32 ((gt all i).2.2.2.1), i_ ((gt all i).2.2.2.2.1), i_ ((gt all i).2.2.2.2.2.1), i_ ((gt all i).2.2.2.2.2.2)]) [.int .u32 ((gt all i).1), .int .u64 ((gt all i).2.1), .int .u32 ((gt all i).2.2.1), .int .u32 ((gt all i).2.2.2.1), i_ ((gt all i).2.2.2.2.1), i_ ((gt all i).2.2.2.2.2.1), i_ ((gt all i).2.2.2.2.2.2)] (by kernel_rfl) (by kernel_rfl) (one_cons (rfl) (one_cons (rfl) (one_cons (rfl) (one_cons (rfl) (one_cons (rfl) (one_cons (rfl) (one_cons (rfl) (one_nil)))))))) (Nat.le_of_ble_eq_true (by kernel_rfl)) [.int .u32 ((gt all i).1), .int .u64 ((gt all i).2.1), .int .u32 ((gt all i).2.2.1), .int .u32 ((gt all i).2.2.2.1), i_ ((gt all i).2.2.2.2.1), i_ ((gt all i).2.2.2.2.2.1), i_ ((gt all i).2.2.2.2.2.2)] (by kernel_rfl)
 refine s_ek (undef) (by kernel_rfl) (map_ok q19) ?_
 refine s_nil (k8 _ _ (w_seqk fun _ k22 => w_block (w_seqk fun _ k23 => ?_)))
 obtain ⟨o24, hx25, r26⟩ := bind_some r10
 refine w_mid (fun α H27 => Has α [(1, hd_all), (2, i_ i), (3, pt_ b2 0), (7, pt_ b12 0), (16, .bool o24)] ∧ H18 = H27) (fun _ k29 => ?_) (fun α H27 hM => ?_)
 ·refine g_' (q_ (pt_ b12 0) (q_ (pt_ b12 0) ?_))
  refine l_' (.int .u32 ((gt all i).1)) (aLoad Tryz.prog 86 (pt_ b12 0) H18) (r21.ld (by kernel_rfl)) ?_
  obtain ⟨g31, r32⟩ := G_some hx25
  refine w_' (gt all i).1 (wrap64 g31) ?_
  refine q_ (pt_ b2 0) ?_
  have u33 := ((r6.ext e14).frS e20 (hb15.djn r6.ltF))
  refine l_' (hd_Node) (aLoad Tryz.prog 22 (pt_ b2 0) H18) (u33.ld (by kernel_rfl)) ?_
  have u34 := (((h_Node.ext e4).ext e14).fr e20 (hb15.djn (h_Node.lt.le e4.next)))
  refine l_' (i_ (Node.length : Int)) (aLen Tryz.prog 22 hd_Node H18) (u34.lenb (by kernel_rfl)) ?_
  refine s_b (((gt all i).1) ≥ (Node.length : Int)) (by kernel_rfl) (fun h35 => ?_) (fun h35 => ?_)
  ·have r36 := ite_t h35 r32
   refine q_ (.bool true) (n_' (n_' (n_' (n_' (n_' (n_' (n_' (q_ (.bool true) (q_ (.bool true) (s_nil ?_))))))))))
   obtain rfl := Option.some.inj r36
   exact k29 _ _ ⟨ha_, rfl⟩
  have r37 := ite_f h35 r32
  refine q_ (.bool false) (q_ (pt_ b12 0) (q_ (pt_ b12 0) ?_))
  refine l_' (.int .u32 ((gt all i).1)) (aLoad Tryz.prog 86 (pt_ b12 0) H18) (r21.ld (by kernel_rfl)) ?_
  refine w_' (gt all i).1 (wrap64 g31) ?_
  refine q_ (pt_ b12 6) ?_
  refine l_' (i_ ((gt all i).2.2.2.2.2.2)) (aLoad Tryz.prog 3 (pt_ b12 6) H18) (r21.ld (by kernel_rfl)) ?_
  refine q_ (.bool (decide (((gt all i).1) ≤ ((gt all i).2.2.2.2.2.2)))) (q_ (.bool (decide (((gt all i).1) ≤ ((gt all i).2.2.2.2.2.2)))) (q_ (.bool (decide (((gt all i).1) ≤ ((gt all i).2.2.2.2.2.2)))) (s_nil ?_)))
  obtain rfl := Option.some.inj r37
  exact k29 _ _ ⟨ha_, rfl⟩
 obtain ⟨hh30, rfl⟩ := hM
 obtain ⟨β, rfl⟩ := has_ex hh30
 clear hh30
 refine k23 _ _ ?_
 refine w_cond (o24) (by kernel_rfl) rfl (fun h38 => ?_) (fun h38 => ?_)
 ·have r39 := ite_t h38 r26
  refine w_seqk fun _ k40 => g_' (q_ (.bool false) (s_nil (k40 _ _ ?_)))
  refine w_ret (bl_ret (th_ret ?_))
  refine b_ret (fn := Tryz.f56) (vs := [.bool false]) (aRes_tmp (by kernel_rfl) (rfl)) ?_
  obtain rfl := Option.some.inj r39
  exact ⟨rfl, (FrS.step wf (((FrS.refl (W := []) wf).extR e4).extR e14) e20 (hb15.fresh e4.next))⟩
 have r41 := ite_bf h38 r26
 refine w_seqk fun _ k42 => ?_
 obtain ⟨o43, hx44, r45⟩ := bind_some r41
 refine w_mid (fun α H46 => Has α [(1, hd_all), (3, pt_ b2 0), (7, pt_ b12 0), (34, .bool o43)] ∧ H18 = H46) (fun _ k48 => ?_) (fun α H46 hM => ?_)
 ·refine w_draw [0, 1, 2, 3, 4, 5, 6, 7, 8, 9, 10, 11, 12, 13, 14, 15, 16, 17, 18, 19, 20, 21, 22, 23, 24, 25, 26, 27, 28, 29, 30, 31, 32, 33] (by kernel_rfl) ?_
  refine e_' (i_ i) ?_
  refine d_b (i > 0) (by kernel_rfl) (fun h50 => ?_) (fun h50 => ?_)
  ·have r51 := ite_t h50 hx44
   refine e_' (.bool true) (e_' (i_ i) (e_' (pt_ b2 2) ?_))
   have u52 := ((r6.ext e14).frS e20 (hb15.djn r6.ltF))
   refine m_' (hd_Up) (aLoad Tryz.prog 23 (pt_ b2 2) H18) (u52.ld (by kernel_rfl)) ?_
   have u53 := (((h_Up.ext e4).ext e14).fr e20 (hb15.djn (h_Up.lt.le e4.next)))
   refine m_' (i_ (Up.length : Int)) (aLen Tryz.prog 23 hd_Up H18) (u53.lenb (by kernel_rfl)) ?_
   refine d_bn (i = (Up.length : Int)) (by kernel_rfl) (fun h54 => ?_) (fun h54 => ?_)
   ·have r55 := ite_t h54 r51
    refine e_' (.bool false) (e_' (.bool false) (j_' (j_' (j_' (j_' (j_' (j_' (j_' (j_' (j_' (e_' (.bool false) (e_' (.bool false) (j_' (j_' (j_' (j_' (j_' (j_' (j_' (j_' (j_' (j_' (j_' (e_' (.bool false) (e_' (.bool false) ?_)))))))))))))))))))))))))
    refine d_nil ?_
    obtain rfl := Option.some.inj r55
    exact k48 _ _ ⟨ha_, rfl⟩
   have r56 := ite_f h54 r51
   refine e_' (.bool true) (e_' (.bool true) (e_' (hd_all) (e_' (i_ i) ?_)))
   obtain ⟨g57, r58⟩ := G_some r56
   refine d_w ((i - 1)) (k := .i64) (x := (i - 1)) (by kernel_rfl) (wrap64 g57) ?_
   obtain ⟨g59, r60⟩ := G_some r58
   have u61 := ((u11.ext e14).fr e20 (hb15.djn (h_all.lt.le e4.next)))
   refine m_' (elp hd_all 7 (i - 1).toNat 0) (aIndexAddr Tryz.prog 76 hd_all (i_ (i - 1))) (u61.idxb (by kernel_rfl) g59.1 g59.2) ?_
   refine m_' (elp hd_all 7 (i - 1).toNat 6) (aFieldAddr Tryz.prog 94 (elp hd_all 7 (i - 1).toNat 0) 3) (Sq.fldq (d := 6) u61 g59.1 g59.2 (by kernel_rfl)) ?_
   refine m_' (i_ ((gt all (i - 1)).2.2.2.2.2.2)) (aLoad Tryz.prog 3 (elp hd_all 7 (i - 1).toNat 6) H18) (u61.ld g59.1 g59.2 (by kernel_rfl)) ?_
   refine e_' (pt_ b12 6) ?_
   refine m_' (i_ ((gt all i).2.2.2.2.2.2)) (aLoad Tryz.prog 3 (pt_ b12 6) H18) (r21.ld (by kernel_rfl)) ?_
   refine d_b (((gt all (i - 1)).2.2.2.2.2.2) = ((gt all i).2.2.2.2.2.2)) (by kernel_rfl) (fun h62 => ?_) (fun h62 => ?_)
   ·have r63 := ite_t h62 r60
    refine e_' (.bool true) (e_' (.bool true) (e_' (hd_all) (e_' (i_ i) ?_)))
    obtain ⟨g64, r65⟩ := G_some r63
    refine d_w ((i - 1)) (k := .i64) (x := (i - 1)) (by kernel_rfl) (wrap64 (by have := g64; omega)) ?_
    refine m_' (elp hd_all 7 (i - 1).toNat 0) (aIndexAddr Tryz.prog 76 hd_all (i_ (i - 1))) (u61.idxb (by kernel_rfl) g59.1 g59.2) ?_
    refine m_' (elp hd_all 7 (i - 1).toNat 0) (aFieldAddr Tryz.prog 94 (elp hd_all 7 (i - 1).toNat 0) 0) (Sq.fldq (d := 0) u61 g59.1 g59.2 (by kernel_rfl)) ?_
    refine m_' (elp hd_all 7 (i - 1).toNat 0) (aFieldAddr Tryz.prog 92 (elp hd_all 7 (i - 1).toNat 0) 0) (Sq.fldq (d := 0) u61 g59.1 g59.2 (by kernel_rfl)) ?_
    refine m_' (.int .u32 ((gt all (i - 1)).1)) (aLoad Tryz.prog 86 (elp hd_all 7 (i - 1).toNat 0) H18) (u61.ld g59.1 g59.2 (by kernel_rfl)) ?_
    refine e_' (pt_ b12 0) (e_' (pt_ b12 0) ?_)
    refine m_' (.int .u32 ((gt all i).1)) (aLoad Tryz.prog 86 (pt_ b12 0) H18) (r21.ld (by kernel_rfl)) ?_
    refine e_' (.bool (decide (((gt all (i - 1)).1) ≥ ((gt all i).1)))) (e_' (.bool (decide (((gt all (i - 1)).1) ≥ ((gt all i).1)))) (e_' (.bool (decide (((gt all (i - 1)).1) ≥ ((gt all i).1)))) ?_))
    refine d_nil ?_
    obtain rfl := Option.some.inj r65
    exact k48 _ _ ⟨ha_, rfl⟩
   have r66 := ite_f h62 r60
   refine e_' (.bool false) (e_' (.bool false) (j_' (j_' (j_' (j_' (j_' (j_' (j_' (j_' (j_' (j_' (j_' (e_' (.bool false) (e_' (.bool false) ?_))))))))))))))
   refine d_nil ?_
   obtain rfl := Option.some.inj r66
   exact k48 _ _ ⟨ha_, rfl⟩
  have r67 := ite_f h50 hx44
  refine e_' (.bool false) (j_' (j_' (j_' (j_' (j_' (e_' (.bool false) (e_' (.bool false) (j_' (j_' (j_' (j_' (j_' (j_' (j_' (j_' (j_' (e_' (.bool false) (e_' (.bool false) (j_' (j_' (j_' (j_' (j_' (j_' (j_' (j_' (j_' (j_' (j_' (e_' (.bool false) (e_' (.bool false) ?_)))))))))))))))))))))))))))))))
  refine d_nil ?_
  obtain rfl := Option.some.inj r67
  exact k48 _ _ ⟨ha_, rfl⟩
 obtain ⟨hh49, rfl⟩ := hM
 obtain ⟨β, rfl⟩ := has_ex hh49
 clear hh49
 refine k42 _ _ ?_
 refine w_cond (o43) (by kernel_rfl) rfl (fun h68 => ?_) (fun h68 => ?_)
 ·have r69 := ite_t h68 r45
  refine w_seqk fun _ k70 => g_' (q_ (.bool false) (s_nil (k70 _ _ ?_)))
  refine w_ret (bl_ret (th_ret ?_))
  refine b_ret (fn := Tryz.f56) (vs := [.bool false]) (aRes_tmp (by kernel_rfl) (rfl)) ?_
  obtain rfl := Option.some.inj r69
  exact ⟨rfl, (FrS.step wf (((FrS.refl (W := []) wf).extR e4).extR e14) e20 (hb15.fresh e4.next))⟩
 have r71 := ite_bf h68 r45
 refine w_seqk fun _ k72 => g_' (q_ (pt_ b12 0) ?_)
 refine l_' (.agg #[.int .u32 ((gt all i).1), .int .u64 ((gt all i).2.1), .int .u32 ((gt all i).2.2.1), .int .u32 ((gt all i).2.2.2.1)]) (aLoad Tryz.prog 92 (pt_ b12 0) H18) (r21.ld (by kernel_rfl)) ?_
 obtain ⟨y73, hy74, r75⟩ := bind_some r71
 refine s_ck 36 #[.agg #[.int .u32 ((gt all i).1), .int .u64 ((gt all i).2.1), .int .u32 ((gt all i).2.2.1), .int .u32 ((gt all i).2.2.2.1)]] (by kernel_rfl) (c_hier_plain e20.wf hy74) ?_
 rintro _ H76 ⟨rfl, e77⟩
 refine q_ (.bool y73) (s_nil (k72 _ _ ?_))
 refine w_cond (y73) (by kernel_rfl) rfl (fun h78 => ?_) (fun h78 => ?_)
 ·have r79 := ite_t h78 r75
  refine w_seqk fun _ k80 => g_' (q_ (.bool true) (s_nil (k80 _ _ ?_)))
  refine w_ret (bl_ret (th_ret ?_))
  refine b_ret (fn := Tryz.f56) (vs := [.bool true]) (aRes_tmp (by kernel_rfl) (rfl)) ?_
  obtain rfl := Option.some.inj r79
  exact ⟨rfl, (FrS.step wf (FrS.step wf (((FrS.refl (W := []) wf).extR e4).extR e14) e20 (hb15.fresh e4.next)) e77 Inn.nil)⟩
 have r81 := ite_bf h78 r75
 refine w_skip (k22 _ _ (w_seqk fun _ k82 => ?_))
 refine w_draw [0, 1, 2, 3, 4, 5, 6, 7, 8, 9] (by kernel_rfl) ?_
 refine e_' (pt_ b12 0) (e_' (pt_ b12 2) ?_)
 have u83 := (r21.frS e77 Dj.nil_l)
 refine m_' (.int .u32 ((gt all i).2.2.1)) (aLoad Tryz.prog 86 (pt_ b12 2) H76) (u83.ld (by kernel_rfl)) ?_
 obtain ⟨g84, r85⟩ := G_some r81
 refine d_w ((gt all i).2.2.1) (k := .i64) (x := (gt all i).2.2.1) (by kernel_rfl) (wrap64 g84) ?_
 refine e_' (pt_ b12 0) (e_' (pt_ b12 3) ?_)
 refine m_' (.int .u32 ((gt all i).2.2.2.1)) (aLoad Tryz.prog 86 (pt_ b12 3) H76) (u83.ld (by kernel_rfl)) ?_
 obtain ⟨g86, r87⟩ := G_some r85
 refine d_w ((gt all i).2.2.2.1) (k := .i64) (x := (gt all i).2.2.2.1) (by kernel_rfl) (wrap64 g86) ?_
 refine e_' (i_ ((gt all i).2.2.1)) (e_' (i_ ((gt all i).2.2.2.1)) ?_)
 refine d_nil ?_
 refine k82 _ _ (w_seqk fun _ k88 => w_seqk fun _ k89 => ?_)
 obtain ⟨o90, hx91, r92⟩ := bind_some r87
 refine w_mid (fun α H93 => Has α [(1, hd_all), (7, pt_ b12 0), (8, i_ ((gt all i).2.2.1)), (9, i_ ((gt all i).2.2.2.1)), (97, .bool o90)] ∧ H76 = H93) (fun _ k95 => ?_) (fun α H93 hM => ?_)
 ·refine g_' (q_ (i_ ((gt all i).2.2.1)) (q_ (pt_ b2 2) ?_))
  have u97 := (((r6.ext e14).frS e20 (hb15.djn r6.ltF)).frS e77 Dj.nil_l)
  refine l_' (hd_Up) (aLoad Tryz.prog 23 (pt_ b2 2) H76) (u97.ld (by kernel_rfl)) ?_
  have u98 := ((((h_Up.ext e4).ext e14).fr e20 (hb15.djn (h_Up.lt.le e4.next))).fr e77 Dj.nil_l)
  refine l_' (i_ (Up.length : Int)) (aLen Tryz.prog 23 hd_Up H76) (u98.lenb (by kernel_rfl)) ?_
  refine s_b (((gt all i).2.2.1) < (Up.length : Int)) (by kernel_rfl) (fun h99 => ?_) (fun h99 => ?_)
  ·have r100 := ite_t h99 hx91
   refine q_ (.bool true) (n_' (n_' (n_' (n_' (q_ (.bool true) (q_ (.bool true) (n_' (n_' (n_' (n_' (n_' (q_ (.bool true) (s_nil ?_)))))))))))))
   obtain rfl := Option.some.inj r100
   exact k95 _ _ ⟨ha_, rfl⟩
  have r101 := ite_f h99 hx91
  refine q_ (.bool false) (q_ (i_ ((gt all i).2.2.1)) (q_ (hd_all) ?_))
  have u102 := (((u11.ext e14).fr e20 (hb15.djn (h_all.lt.le e4.next))).fr e77 Dj.nil_l)
  refine l_' (i_ (all.length : Int)) (aLen Tryz.prog 76 hd_all H76) (u102.lenb (by kernel_rfl)) ?_
  refine s_b (((gt all i).2.2.1) ≥ (all.length : Int)) (by kernel_rfl) (fun h103 => ?_) (fun h103 => ?_)
  ·have r104 := ite_t h103 r101
   refine q_ (.bool true) (q_ (.bool true) (n_' (n_' (n_' (n_' (n_' (q_ (.bool true) (s_nil ?_))))))))
   obtain rfl := Option.some.inj r104
   exact k95 _ _ ⟨ha_, rfl⟩
  have r105 := ite_f h103 r101
  refine q_ (.bool false) (q_ (.bool false) (q_ (i_ ((gt all i).2.2.2.1)) (q_ (pt_ b2 2) ?_)))
  refine l_' (hd_Up) (aLoad Tryz.prog 23 (pt_ b2 2) H76) (u97.ld (by kernel_rfl)) ?_
  refine l_' (i_ (Up.length : Int)) (aLen Tryz.prog 23 hd_Up H76) (u98.lenb (by kernel_rfl)) ?_
  refine q_ (.bool (decide (((gt all i).2.2.2.1) ≥ (Up.length : Int)))) (q_ (.bool (decide (((gt all i).2.2.2.1) ≥ (Up.length : Int)))) (s_nil ?_))
  obtain rfl := Option.some.inj r105
  exact k95 _ _ ⟨ha_, rfl⟩
 obtain ⟨hh96, rfl⟩ := hM
 obtain ⟨β, rfl⟩ := has_ex hh96
 clear hh96
 refine k89 _ _ ?_
 refine w_cond (o90) (by kernel_rfl) rfl (fun h106 => ?_) (fun h106 => ?_)
 ·have r107 := ite_t h106 r92
  refine w_seqk fun _ k108 => g_' (q_ (.bool false) (s_nil (k108 _ _ ?_)))
  refine w_ret (th_ret ?_)
  refine b_ret (fn := Tryz.f56) (vs := [.bool false]) (aRes_tmp (by kernel_rfl) (rfl)) ?_
  obtain rfl := Option.some.inj r107
  exact ⟨rfl, (FrS.step wf (FrS.step wf (((FrS.refl (W := []) wf).extR e4).extR e14) e20 (hb15.fresh e4.next)) e77 Inn.nil)⟩
 have r109 := ite_bf h106 r92
 refine w_skip (k88 _ _ (w_seqk fun _ k110 => ?_))
 refine w_draw [0, 1, 2, 3, 4, 5, 6, 7, 8, 9, 10, 11] (by kernel_rfl) ?_
 refine e_' (hd_all) (e_' (i_ ((gt all i).2.2.1)) ?_)
 obtain ⟨g111, r112⟩ := G_some r109
 have u113 := (((u11.ext e14).fr e20 (hb15.djn (h_all.lt.le e4.next))).fr e77 Dj.nil_l)
 refine m_' (elp hd_all 7 ((gt all i).2.2.1).toNat 0) (aIndexAddr Tryz.prog 76 hd_all (i_ ((gt all i).2.2.1))) (u113.idxb (by kernel_rfl) g111.1 g111.2) ?_
 refine m_' (.agg #[.int .u32 ((gt all ((gt all i).2.2.1)).1), .int .u64 ((gt all ((gt all i).2.2.1)).2.1), .int .u32 ((gt all ((gt all i).2.2.1)).2.2.1), .int .u32 ((gt all ((gt all i).2.2.1)).2.2.2.1), i_ ((gt all ((gt all i).2.2.1)).2.2.2.2.1), i_ ((gt all ((gt all i).2.2.1)).2.2.2.2.2.1), i_ ((gt all ((gt all i).2.2.1)).2.2.2.2.2.2)]) (aLoad Tryz.prog 94 (elp hd_all 7 ((gt all i).2.2.1).toNat 0) H76) (u113.ld g111.1 g111.2 (by kernel_rfl)) ?_
 refine e_' (hd_all) (e_' (i_ ((gt all i).2.2.2.1)) ?_)
 obtain ⟨g114, r115⟩ := G_some r112
 refine m_' (elp hd_all 7 ((gt all i).2.2.2.1).toNat 0) (aIndexAddr Tryz.prog 76 hd_all (i_ ((gt all i).2.2.2.1))) (u113.idxb (by kernel_rfl) g114.1 g114.2) ?_
 refine d_fl (.agg #[.int .u32 ((gt all ((gt all i).2.2.2.1)).1), .int .u64 ((gt all ((gt all i).2.2.2.1)).2.1), .int .u32 ((gt all ((gt all i).2.2.2.1)).2.2.1), .int .u32 ((gt all ((gt all i).2.2.2.1)).2.2.2.1), i_ ((gt all ((gt all i).2.2.2.1)).2.2.2.2.1), i_ ((gt all ((gt all i).2.2.2.1)).2.2.2.2.2.1), i_ ((gt all ((gt all i).2.2.2.1)).2.2.2.2.2.2)]) (x := aLoad Tryz.prog 94 (elp hd_all 7 ((gt all i).2.2.2.1).toNat 0) H76) (by kernel_rfl) (u113.ld g114.1 g114.2 (by kernel_rfl)) ?_
 refine d_rwk e77.wf [.int .u32 0, .int .u64 0, .int .u32 0, .int .u32 0, i_ 0, i_ 0, i_ 0] (by kernel_rfl) fun b116 H117 e118 hb119 r120 => ?_
 refine d_rwk e118.wf [.int .u32 0, .int .u64 0, .int .u32 0, .int .u32 0, i_ 0, i_ 0, i_ 0] (by kernel_rfl) fun b122 H123 e124 hb125 r126 => ?_
 have u132 := (r120.ext e124)
 obtain ⟨H128, q129, e130, r131⟩ := Row.store (P := Tryz.prog) (t := 94) (p := 0) e124.wf u132 (.agg #[.int .u32 ((gt all ((gt all i).2.2.1)).1), .int .u64 ((gt all ((gt all i).2.2.1)).2.1), .int .u32 ((gt all ((gt all i).2.2.1)).2.2.1), .int .u32 ((gt all ((gt all i).2.2.1)).2.2.2.1), i_ ((gt all ((gt all i).2.2.1)).2.2.2.2.1), i_ ((gt all ((gt all i).2.2.1)).2.2.2.2.2.1), i_ ((gt all ((gt all i).2.2.1)).2.2.2.2.2.2)]) [.int .u32 ((gt all ((gt all i).2.2.1)).1), .int .u64 ((gt all ((gt all i).2.2.1)).2.1), .int .u32 ((gt all ((gt all i).2.2.1)).2.2.1), .int .u32 ((gt all ((gt all i).2.2.1)).2.2.2.1), i_ ((gt all ((gt all i).2.2.1)).2.2.2.2.1), i_ ((gt all ((gt all i).2.2.1)).2.2.2.2.2.1), i_ ((gt all ((gt all i).2.2.1)).2.2.2.2.2.2)] (by kernel_rfl) (by kernel_rfl) (one_cons (rfl) (one_cons (rfl) (one_cons (rfl) (one_cons (rfl) (one_cons (rfl) (one_cons (rfl) (one_cons (rfl) (one_nil)))))))) (Nat.le_of_ble_eq_true (by kernel_rfl)) [.int .u32 ((gt all ((gt all i).2.2.1)).1), .int .u64 ((gt all ((gt all i).2.2.1)).2.1), .int .u32 ((gt all ((gt all i).2.2.1)).2.2.1), .int .u32 ((gt all ((gt all i).2.2.1)).2.2.2.1), i_ ((gt all ((gt all i).2.2.1)).2.2.2.2.1), i_ ((gt all ((gt all i).2.2.1)).2.2.2.2.2.1), i_ ((gt all ((gt all i).2.2.1)).2.2.2.2.2.2)] (by kernel_rfl)
 have u133 := (((u113.ext e118).ext e124).fr e130 (hb119.djn (h_all.lt.le (ntr (ntr (ntr e4.next e14.next) e20.next) e77.next))))
 refine d_ek (undef) (by kernel_rfl) (map_ok q129) (st_ql (y := aLoad Tryz.prog 94 (elp hd_all 7 ((gt all i).2.2.2.1).toNat 0) H128) (by kernel_rfl) (u133.ld g114.1 g114.2 (by kernel_rfl)) (st_nil)) ?_
 have u138 := (r126.frS e130 (Dj.symm (hb125.djn r120.ltF)))
 obtain ⟨H134, q135, e136, r137⟩ := Row.store (P := Tryz.prog) (t := 94) (p := 0) e130.wf u138 (.agg #[.int .u32 ((gt all ((gt all i).2.2.2.1)).1), .int .u64 ((gt all ((gt all i).2.2.2.1)).2.1), .int .u32 ((gt all ((gt all i).2.2.2.1)).2.2.1), .int .u32 ((gt all ((gt all i).2.2.2.1)).2.2.2.1), i_ ((gt all ((gt all i).2.2.2.1)).2.2.2.2.1), i_ ((gt all ((gt all i).2.2.2.1)).2.2.2.2.2.1), i_ ((gt all ((gt all i).2.2.2.1)).2.2.2.2.2.2)]) [.int .u32 ((gt all ((gt all i).2.2.2.1)).1), .int .u64 ((gt all ((gt all i).2.2.2.1)).2.1), .int .u32 ((gt all ((gt all i).2.2.2.1)).2.2.1), .int .u32 ((gt all ((gt all i).2.2.2.1)).2.2.2.1), i_ ((gt all ((gt all i).2.2.2.1)).2.2.2.2.1), i_ ((gt all ((gt all i).2.2.2.1)).2.2.2.2.2.1), i_ ((gt all ((gt all i).2.2.2.1)).2.2.2.2.2.2)] (by kernel_rfl) (by kernel_rfl) (one_cons (rfl) (one_cons (rfl) (one_cons (rfl) (one_cons (rfl) (one_cons (rfl) (one_cons (rfl) (one_cons (rfl) (one_nil)))))))) (Nat.le_of_ble_eq_true (by kernel_rfl)) [.int .u32 ((gt all ((gt all i).2.2.2.1)).1), .int .u64 ((gt all ((gt all i).2.2.2.1)).2.1), .int .u32 ((gt all ((gt all i).2.2.2.1)).2.2.1), .int .u32 ((gt all ((gt all i).2.2.2.1)).2.2.2.1), i_ ((gt all ((gt all i).2.2.2.1)).2.2.2.2.1), i_ ((gt all ((gt all i).2.2.2.1)).2.2.2.2.2.1), i_ ((gt all ((gt all i).2.2.2.1)).2.2.2.2.2.2)] (by kernel_rfl)
 refine d_ek (undef) (by kernel_rfl) (map_ok q135) (st_anc (by kernel_rfl) (st_nil)) ?_
 refine d_nil ?_
 refine k110 _ _ (w_seqk fun _ k139 => g_' (q_ (pt_ b116 4) ?_))
 have u140 := (r131.frS e136 (hb125.djn r120.ltF))
 refine l_' (i_ ((gt all ((gt all i).2.2.1)).2.2.2.2.1)) (aLoad Tryz.prog 3 (pt_ b116 4) H134) (u140.ld (by kernel_rfl)) ?_
 refine q_ (pt_ b12 4) ?_
 have u141 := ((((u83.ext e118).ext e124).frS e130 (hb119.djn (r16.ltF.le (ntr e20.next e77.next)))).frS e136 (hb125.djn (r16.ltF.le (ntr (ntr e20.next e77.next) e118.next))))
 refine l_' (i_ ((gt all i).2.2.2.2.1)) (aLoad Tryz.prog 3 (pt_ b12 4) H134) (u141.ld (by kernel_rfl)) ?_
 refine s_b (((gt all ((gt all i).2.2.1)).2.2.2.2.1) = ((gt all i).2.2.2.2.1)) (by kernel_rfl) (fun h142 => ?_) (fun h142 => ?_)
 ·have r143 := ite_t h142 r115
  refine q_ (.bool true) (q_ (pt_ b122 5) ?_)
  refine l_' (i_ ((gt all ((gt all i).2.2.2.1)).2.2.2.2.2.1)) (aLoad Tryz.prog 3 (pt_ b122 5) H134) (r137.ld (by kernel_rfl)) ?_
  refine q_ (pt_ b12 5) ?_
  refine l_' (i_ ((gt all i).2.2.2.2.2.1)) (aLoad Tryz.prog 3 (pt_ b12 5) H134) (u141.ld (by kernel_rfl)) ?_
  refine s_b (((gt all ((gt all i).2.2.2.1)).2.2.2.2.2.1) = ((gt all i).2.2.2.2.2.1)) (by kernel_rfl) (fun h144 => ?_) (fun h144 => ?_)
  ·have r145 := ite_t h144 r143
   refine q_ (.bool true) (q_ (.bool true) (q_ (pt_ b116 6) ?_))
   refine l_' (i_ ((gt all ((gt all i).2.2.1)).2.2.2.2.2.2)) (aLoad Tryz.prog 3 (pt_ b116 6) H134) (u140.ld (by kernel_rfl)) ?_
   refine q_ (pt_ b122 6) ?_
   refine l_' (i_ ((gt all ((gt all i).2.2.2.1)).2.2.2.2.2.2)) (aLoad Tryz.prog 3 (pt_ b122 6) H134) (r137.ld (by kernel_rfl)) ?_
   refine q_ (.bool (decide (((gt all ((gt all i).2.2.1)).2.2.2.2.2.2) = ((gt all ((gt all i).2.2.2.1)).2.2.2.2.2.2)))) (q_ (.bool (decide (((gt all ((gt all i).2.2.1)).2.2.2.2.2.2) = ((gt all ((gt all i).2.2.2.1)).2.2.2.2.2.2)))) (q_ (.bool (decide (((gt all ((gt all i).2.2.1)).2.2.2.2.2.2) = ((gt all ((gt all i).2.2.2.1)).2.2.2.2.2.2)))) (s_nil (k139 _ _ ?_))))
   refine w_ret ?_
   refine b_ret (fn := Tryz.f56) (vs := [.bool (decide (((gt all ((gt all i).2.2.1)).2.2.2.2.2.2) = ((gt all ((gt all i).2.2.2.1)).2.2.2.2.2.2)))]) (aRes_tmp (by kernel_rfl) (rfl)) ?_
   obtain rfl := Option.some.inj r145
   exact ⟨rfl, (FrS.step wf (FrS.step wf (((FrS.step wf (FrS.step wf (((FrS.refl (W := []) wf).extR e4).extR e14) e20 (hb15.fresh e4.next)) e77 Inn.nil).extR e118).extR e124) e130 (hb119.fresh (ntr (ntr (ntr e4.next e14.next) e20.next) e77.next))) e136 (hb125.fresh (ntr (ntr (ntr (ntr e4.next e14.next) e20.next) e77.next) e118.next)))⟩
  have r146 := ite_f h144 r143
  refine q_ (.bool false) (q_ (.bool false) (n_' (n_' (n_' (n_' (n_' (q_ (.bool false) (q_ (.bool false) (s_nil (k139 _ _ ?_))))))))))
  refine w_ret ?_
  refine b_ret (fn := Tryz.f56) (vs := [.bool false]) (aRes_tmp (by kernel_rfl) (rfl)) ?_
  obtain rfl := Option.some.inj r146
  exact ⟨rfl, (FrS.step wf (FrS.step wf (((FrS.step wf (FrS.step wf (((FrS.refl (W := []) wf).extR e4).extR e14) e20 (hb15.fresh e4.next)) e77 Inn.nil).extR e118).extR e124) e130 (hb119.fresh (ntr (ntr (ntr e4.next e14.next) e20.next) e77.next))) e136 (hb125.fresh (ntr (ntr (ntr (ntr e4.next e14.next) e20.next) e77.next) e118.next)))⟩
 have r147 := ite_f h142 r115
 refine q_ (.bool false) (n_' (n_' (n_' (n_' (n_' (q_ (.bool false) (q_ (.bool false) (n_' (n_' (n_' (n_' (n_' (q_ (.bool false) (q_ (.bool false) (s_nil (k139 _ _ ?_))))))))))))))))
 refine w_ret ?_
 refine b_ret (fn := Tryz.f56) (vs := [.bool false]) (aRes_tmp (by kernel_rfl) (rfl)) ?_
 obtain rfl := Option.some.inj r147
 exact ⟨rfl, (FrS.step wf (FrS.step wf (((FrS.step wf (FrS.step wf (((FrS.refl (W := []) wf).extR e4).extR e14) e20 (hb15.fresh e4.next)) e77 Inn.nil).extR e118).extR e124) e130 (hb119.fresh (ntr (ntr (ntr e4.next e14.next) e20.next) e77.next))) e136 (hb125.fresh (ntr (ntr (ntr (ntr e4.next e14.next) e20.next) e77.next) e118.next)))⟩
theorem c_hier_weight {H : AH} {hd_all : Value} {fp_all : Fp} {all : List (Int × Int × Int × Int × Int × Int × Int)} {i : Int} {r : Bool}
    (wf : WF H) (h_all : Sq enc_u32_u64_u32_u32_i64_i64_i64 7 H hd_all all fp_all) (hr : z_hier_weight all i = some r) :
    ACalls Tryz.prog 58 #[hd_all, i_ i] H fun v H' => v = .bool r ∧ FrS [] H H' := by
 refine acalls_of_body mixed Tryz.func58 rfl (Nat.le_of_ble_eq_true rfl) ?_
 unfold z_hier_weight at hr
 refine w_seqk fun _ k1 => g_' (q_ (.bool false) (s_nil (k1 _ _ (w_seqk fun _ k2 => g_' (q_ (hd_all) (q_ (i_ i) ?_))))))
 obtain ⟨g3, r4⟩ := G_some hr
 refine l_' (elp hd_all 7 i.toNat 0) (aIndexAddr Tryz.prog 76 hd_all (i_ i)) (h_all.idxb (by kernel_rfl) g3.1 g3.2) ?_
 refine l_' (elp hd_all 7 i.toNat 0) (aFieldAddr Tryz.prog 94 (elp hd_all 7 i.toNat 0) 0) (Sq.fldq (d := 0) h_all g3.1 g3.2 (by kernel_rfl)) ?_
 refine l_' (.agg #[.int .u32 ((gt all i).1), .int .u64 ((gt all i).2.1), .int .u32 ((gt all i).2.2.1), .int .u32 ((gt all i).2.2.2.1)]) (aLoad Tryz.prog 92 (elp hd_all 7 i.toNat 0) H) (h_all.ld g3.1 g3.2 (by kernel_rfl)) ?_
 refine s_rwk wf [.int .u32 0, .int .u64 0, .int .u32 0, .int .u32 0] (by kernel_rfl) fun b5 H6 e7 hb8 r9 => ?_
 obtain ⟨H11, q12, e13, r14⟩ := Row.store (P := Tryz.prog) (t := 92) (p := 0) e7.wf r9 (.agg #[.int .u32 ((gt all i).1), .int .u64 ((gt all i).2.1), .int .u32 ((gt all i).2.2.1), .int .u32 ((gt all i).2.2.2.1)]) [.int .u32 ((gt all i).1), .int .u64 ((gt all i).2.1), .int .u32 ((gt all i).2.2.1), .int .u32 ((gt all i).2.2.2.1)] (by kernel_rfl) (by kernel_rfl) (one_cons (rfl) (one_cons (rfl) (one_cons (rfl) (one_cons (rfl) (one_nil))))) (Nat.le_of_ble_eq_true (by kernel_rfl)) [.int .u32 ((gt all i).1), .int .u64 ((gt all i).2.1), .int .u32 ((gt all i).2.2.1), .int .u32 ((gt all i).2.2.2.1)] (by kernel_rfl)
 refine s_ek (undef) (by kernel_rfl) (map_ok q12) ?_
 refine s_nil (k2 _ _ (w_seqk fun _ k15 => w_seqk fun _ k16 => g_' ?_))
 refine l_' (.agg #[.int .u32 ((gt all i).1), .int .u64 ((gt all i).2.1), .int .u32 ((gt all i).2.2.1), .int .u32 ((gt all i).2.2.2.1)]) (aLoad Tryz.prog 92 (pt_ b5 0) H11) (r14.ld (by kernel_rfl)) ?_
 obtain ⟨y17, hy18, r19⟩ := bind_some r4
 refine s_ck 36 #[.agg #[.int .u32 ((gt all i).1), .int .u64 ((gt all i).2.1), .int .u32 ((gt all i).2.2.1), .int .u32 ((gt all i).2.2.2.1)]] (by kernel_rfl) (c_hier_plain e13.wf hy18) ?_
 rintro _ H20 ⟨rfl, e21⟩
 refine s_nil (k16 _ _ ?_)
 refine w_cond (y17) (by kernel_rfl) rfl (fun h22 => ?_) (fun h22 => ?_)
 ·have r23 := ite_t h22 r19
  refine w_seqk fun _ k24 => g_' (q_ (pt_ b5 1) ?_)
  have u25 := (r14.frS e21 Dj.nil_l)
  refine l_' (.int .u64 ((gt all i).2.1)) (aLoad Tryz.prog 87 (pt_ b5 1) H20) (u25.ld (by kernel_rfl)) ?_
  refine q_ (.bool (decide (((gt all i).2.1) ≤ 2147483647))) (q_ (.bool (decide (((gt all i).2.1) ≤ 2147483647))) (s_nil (k24 _ _ ?_)))
  refine w_ret (th_ret ?_)
  refine b_ret (fn := Tryz.f58) (vs := [.bool (decide (((gt all i).2.1) ≤ 2147483647))]) (aRes_tmp (by kernel_rfl) (rfl)) ?_
  obtain rfl := Option.some.inj r23
  exact ⟨rfl, (FrS.step wf (FrS.step wf ((FrS.refl (W := []) wf).extR e7) e13 (hb8.fresh (Nat.le_refl _))) e21 Inn.nil)⟩
 have r26 := ite_bf h22 r19
 refine w_skip (k15 _ _ (w_seqk fun _ k27 => ?_))
 refine w_draw [0, 1, 2, 3, 4, 5, 6, 7, 8, 9, 10, 11, 12, 13, 14, 15] (by kernel_rfl) ?_
 refine e_' (hd_all) (e_' (pt_ b5 2) ?_)
 have u28 := (r14.frS e21 Dj.nil_l)
 refine m_' (.int .u32 ((gt all i).2.2.1)) (aLoad Tryz.prog 86 (pt_ b5 2) H20) (u28.ld (by kernel_rfl)) ?_
 obtain ⟨g29, r30⟩ := G_some r26
 have u31 := (((h_all.ext e7).fr e13 (hb8.djn h_all.lt)).fr e21 Dj.nil_l)
 refine m_' (elp hd_all 7 ((gt all i).2.2.1).toNat 0) (aIndexAddr Tryz.prog 76 hd_all (.int .u32 ((gt all i).2.2.1))) (u31.idxb (by kernel_rfl) g29.1 g29.2) ?_
 refine m_' (elp hd_all 7 ((gt all i).2.2.1).toNat 0) (aFieldAddr Tryz.prog 94 (elp hd_all 7 ((gt all i).2.2.1).toNat 0) 0) (Sq.fldq (d := 0) u31 g29.1 g29.2 (by kernel_rfl)) ?_
 refine m_' (elp hd_all 7 ((gt all i).2.2.1).toNat 1) (aFieldAddr Tryz.prog 92 (elp hd_all 7 ((gt all i).2.2.1).toNat 0) 1) (Sq.fldq (d := 1) u31 g29.1 g29.2 (by kernel_rfl)) ?_
 refine m_' (.int .u64 ((gt all ((gt all i).2.2.1)).2.1)) (aLoad Tryz.prog 87 (elp hd_all 7 ((gt all i).2.2.1).toNat 1) H20) (u31.ld g29.1 g29.2 (by kernel_rfl)) ?_
 refine e_' (hd_all) (e_' (pt_ b5 3) ?_)
 refine m_' (.int .u32 ((gt all i).2.2.2.1)) (aLoad Tryz.prog 86 (pt_ b5 3) H20) (u28.ld (by kernel_rfl)) ?_
 obtain ⟨g32, r33⟩ := G_some r30
 refine m_' (elp hd_all 7 ((gt all i).2.2.2.1).toNat 0) (aIndexAddr Tryz.prog 76 hd_all (.int .u32 ((gt all i).2.2.2.1))) (u31.idxb (by kernel_rfl) g32.1 g32.2) ?_
 refine m_' (elp hd_all 7 ((gt all i).2.2.2.1).toNat 0) (aFieldAddr Tryz.prog 94 (elp hd_all 7 ((gt all i).2.2.2.1).toNat 0) 0) (Sq.fldq (d := 0) u31 g32.1 g32.2 (by kernel_rfl)) ?_
 refine m_' (elp hd_all 7 ((gt all i).2.2.2.1).toNat 1) (aFieldAddr Tryz.prog 92 (elp hd_all 7 ((gt all i).2.2.2.1).toNat 0) 1) (Sq.fldq (d := 1) u31 g32.1 g32.2 (by kernel_rfl)) ?_
 refine m_' (.int .u64 ((gt all ((gt all i).2.2.2.1)).2.1)) (aLoad Tryz.prog 87 (elp hd_all 7 ((gt all i).2.2.2.1).toNat 1) H20) (u31.ld g32.1 g32.2 (by kernel_rfl)) ?_
 refine e_' (.int .u64 ((gt all ((gt all i).2.2.1)).2.1)) (e_' (.int .u64 ((gt all ((gt all i).2.2.2.1)).2.1)) ?_)
 refine d_nil ?_
 refine k27 _ _ (w_seqk fun _ k34 => g_' (q_ (pt_ b5 1) ?_))
 refine l_' (.int .u64 ((gt all i).2.1)) (aLoad Tryz.prog 87 (pt_ b5 1) H20) (u28.ld (by kernel_rfl)) ?_
 refine s_b (((gt all i).2.1) ≤ 140737488355328) (by kernel_rfl) (fun h35 => ?_) (fun h35 => ?_)
 ·have r36 := ite_t h35 r33
  refine q_ (.bool true) (q_ (.int .u64 ((gt all ((gt all i).2.2.1)).2.1)) ?_)
  refine s_b (((gt all ((gt all i).2.2.1)).2.1) ≤ 140737488355328) (by kernel_rfl) (fun h37 => ?_) (fun h37 => ?_)
  ·have r38 := ite_t h37 r36
   refine q_ (.bool true) (q_ (.bool true) (q_ (.int .u64 ((gt all ((gt all i).2.2.2.1)).2.1)) ?_))
   refine s_b (((gt all ((gt all i).2.2.2.1)).2.1) ≤ 140737488355328) (by kernel_rfl) (fun h39 => ?_) (fun h39 => ?_)
   ·have r40 := ite_t h39 r38
    refine q_ (.bool true) (q_ (.bool true) (q_ (.int .u64 ((gt all ((gt all i).2.2.1)).2.1)) (q_ (.int .u64 ((gt all ((gt all i).2.2.2.1)).2.1)) ?_)))
    obtain ⟨g41, r42⟩ := G_some r40
    refine s_w ((((gt all ((gt all i).2.2.1)).2.1) + ((gt all ((gt all i).2.2.2.1)).2.1))) (k := .u64) (x := (((gt all ((gt all i).2.2.1)).2.1) + ((gt all ((gt all i).2.2.2.1)).2.1))) (by kernel_rfl) (wrapu64 g41) ?_
    refine q_ (pt_ b5 1) ?_
    refine l_' (.int .u64 ((gt all i).2.1)) (aLoad Tryz.prog 87 (pt_ b5 1) H20) (u28.ld (by kernel_rfl)) ?_
    refine q_ (.bool (decide ((((gt all ((gt all i).2.2.1)).2.1) + ((gt all ((gt all i).2.2.2.1)).2.1)) = ((gt all i).2.1)))) (q_ (.bool (decide ((((gt all ((gt all i).2.2.1)).2.1) + ((gt all ((gt all i).2.2.2.1)).2.1)) = ((gt all i).2.1)))) (q_ (.bool (decide ((((gt all ((gt all i).2.2.1)).2.1) + ((gt all ((gt all i).2.2.2.1)).2.1)) = ((gt all i).2.1)))) (s_nil (k34 _ _ ?_))))
    refine w_ret ?_
    refine b_ret (fn := Tryz.f58) (vs := [.bool (decide ((((gt all ((gt all i).2.2.1)).2.1) + ((gt all ((gt all i).2.2.2.1)).2.1)) = ((gt all i).2.1)))]) (aRes_tmp (by kernel_rfl) (rfl)) ?_
    obtain rfl := Option.some.inj r42
    exact ⟨rfl, (FrS.step wf (FrS.step wf ((FrS.refl (W := []) wf).extR e7) e13 (hb8.fresh (Nat.le_refl _))) e21 Inn.nil)⟩
   have r43 := ite_f h39 r38
   refine q_ (.bool false) (q_ (.bool false) (n_' (n_' (n_' (n_' (n_' (n_' (q_ (.bool false) (q_ (.bool false) (s_nil (k34 _ _ ?_)))))))))))
   refine w_ret ?_
   refine b_ret (fn := Tryz.f58) (vs := [.bool false]) (aRes_tmp (by kernel_rfl) (rfl)) ?_
   obtain rfl := Option.some.inj r43
   exact ⟨rfl, (FrS.step wf (FrS.step wf ((FrS.refl (W := []) wf).extR e7) e13 (hb8.fresh (Nat.le_refl _))) e21 Inn.nil)⟩
  have r44 := ite_f h37 r36
  refine q_ (.bool false) (q_ (.bool false) (n_' (n_' (q_ (.bool false) (q_ (.bool false) (n_' (n_' (n_' (n_' (n_' (n_' (q_ (.bool false) (q_ (.bool false) (s_nil (k34 _ _ ?_)))))))))))))))
  refine w_ret ?_
  refine b_ret (fn := Tryz.f58) (vs := [.bool false]) (aRes_tmp (by kernel_rfl) (rfl)) ?_
  obtain rfl := Option.some.inj r44
  exact ⟨rfl, (FrS.step wf (FrS.step wf ((FrS.refl (W := []) wf).extR e7) e13 (hb8.fresh (Nat.le_refl _))) e21 Inn.nil)⟩
 have r45 := ite_f h35 r33
 refine q_ (.bool false) (n_' (n_' (q_ (.bool false) (q_ (.bool false) (n_' (n_' (q_ (.bool false) (q_ (.bool false) (n_' (n_' (n_' (n_' (n_' (n_' (q_ (.bool false) (q_ (.bool false) (s_nil (k34 _ _ ?_))))))))))))))))))
 refine w_ret ?_
 refine b_ret (fn := Tryz.f58) (vs := [.bool false]) (aRes_tmp (by kernel_rfl) (rfl)) ?_
 obtain rfl := Option.some.inj r45
 exact ⟨rfl, (FrS.step wf (FrS.step wf ((FrS.refl (W := []) wf).extR e7) e13 (hb8.fresh (Nat.le_refl _))) e21 Inn.nil)⟩
theorem c_hier_ends {H : AH} {hd_Node : Value} {fp_Node : Fp} {hd_UpFirst : Value} {fp_UpFirst : Fp} {hd_Up : Value} {fp_Up : Fp} {hd_DownFirst : Value} {fp_DownFirst : Fp} {hd_Down : Value} {fp_Down : Fp} {Node : List (Int)} {UpFirst : List (Int)} {Up : List (Int × Int × Int × Int)} {DownFirst : List (Int)} {Down : List (Int × Int × Int × Int)} {r : List (Int × Int × Int × Int × Int × Int × Int) × Er}
    (wf : WF H) (h_Node : Sq (encI .u32) 1 H hd_Node Node fp_Node) (h_UpFirst : Sq (encI .u32) 1 H hd_UpFirst UpFirst fp_UpFirst) (h_Up : Sq enc_u32_u64_u32_u32 4 H hd_Up Up fp_Up) (h_DownFirst : Sq (encI .u32) 1 H hd_DownFirst DownFirst fp_DownFirst) (h_Down : Sq enc_u32_u64_u32_u32 4 H hd_Down Down fp_Down) (hr : z_hier_ends Node UpFirst Up DownFirst Down = some r) :
    ACalls Tryz.prog 26 #[.agg #[hd_Node, hd_UpFirst, hd_Up, hd_DownFirst, hd_Down]] H fun v H' => ∃ (s3 : Value) (f4 : Fp) (v7 : Value) (f8 : Fp), v = .tuple #[s3, v7] ∧ FrS [] H H' ∧ Ow enc_u32_u64_u32_u32_i64_i64_i64 7 H' s3 r.1 f4 ∧ Ev 73 68 H' v7 r.2 f8 ∧ Inn [] H f4 ∧ Inn [] H f8 ∧ Dj f4 f8 := by
 refine acalls_of_body mixed Tryz.func26 rfl (Nat.le_of_ble_eq_true rfl) ?_
 unfold z_hier_ends at hr
 refine w_seqk fun _ k12 => g_' ?_
 refine s_rwl wf [hd_Node, hd_UpFirst, hd_Up, hd_DownFirst, hd_Down] (one_cons (h_Node.one1) (one_cons (h_UpFirst.one1) (one_cons (h_Up.one1) (one_cons (h_DownFirst.one1) (one_cons (h_Down.one1) (one_nil)))))) (by kernel_rfl) fun b13 H14 e15 hb16 r17 => ?_
 refine q_ (.slice none 0 0) (q_ (.nilIface) (s_nil (k12 _ _ (w_seqk fun _ k19 => g_' (q_ (pt_ b13 0) ?_)))))
 refine l_' (hd_Node) (aLoad Tryz.prog 22 (pt_ b13 0) H14) (r17.ld (by kernel_rfl)) ?_
 have u20 := (h_Node.ext e15)
 refine l_' (i_ (Node.length : Int)) (aLen Tryz.prog 22 hd_Node H14) (u20.lenb (by kernel_rfl)) ?_
 refine q_ (i_ (Node.length : Int)) (s_nil (k19 _ _ (w_seqk fun _ k21 => w_block (w_seqk fun _ k22 => ?_))))
 obtain ⟨o23, hx24, r25⟩ := bind_some hr
 refine w_mid (fun α H26 => Has α [(1, pt_ b13 0), (4, i_ (Node.length : Int)), (15, .bool o23)] ∧ H14 = H26) (fun _ k28 => ?_) (fun α H26 hM => ?_)
 ·refine g_' (q_ (i_ (Node.length : Int)) ?_)
  refine s_b ((Node.length : Int) > 65536) (by kernel_rfl) (fun h30 => ?_) (fun h30 => ?_)
  ·have r31 := ite_t h30 hx24
   refine q_ (.bool true) (n_' (n_' (n_' (n_' (n_' (n_' (n_' (n_' (q_ (.bool true) (q_ (.bool true) (s_nil ?_)))))))))))
   obtain rfl := Option.some.inj r31
   exact k28 _ _ ⟨ha_, rfl⟩
  have r32 := ite_f h30 hx24
  refine q_ (.bool false) (q_ (pt_ b13 2) ?_)
  refine l_' (hd_Up) (aLoad Tryz.prog 23 (pt_ b13 2) H14) (r17.ld (by kernel_rfl)) ?_
  have u33 := (h_Up.ext e15)
  refine l_' (i_ (Up.length : Int)) (aLen Tryz.prog 23 hd_Up H14) (u33.lenb (by kernel_rfl)) ?_
  refine q_ (pt_ b13 4) ?_
  refine l_' (hd_Down) (aLoad Tryz.prog 23 (pt_ b13 4) H14) (r17.ld (by kernel_rfl)) ?_
  have u34 := (h_Down.ext e15)
  refine l_' (i_ (Down.length : Int)) (aLen Tryz.prog 23 hd_Down H14) (u34.lenb (by kernel_rfl)) ?_
  obtain ⟨g35, r36⟩ := G_some r32
  refine w_' ((Up.length : Int) + (Down.length : Int)) (wrap64 g35) ?_
  refine q_ (.bool (decide (((Up.length : Int) + (Down.length : Int)) > 1048576))) (q_ (.bool (decide (((Up.length : Int) + (Down.length : Int)) > 1048576))) (q_ (.bool (decide (((Up.length : Int) + (Down.length : Int)) > 1048576))) (s_nil ?_)))
  obtain rfl := Option.some.inj r36
  exact k28 _ _ ⟨ha_, rfl⟩
 obtain ⟨hh29, rfl⟩ := hM
 obtain ⟨β, rfl⟩ := has_ex hh29
 clear hh29
 refine k22 _ _ ?_
 refine w_cond (o23) (by kernel_rfl) rfl (fun h37 => ?_) (fun h37 => ?_)
 ·have r38 := ite_t h37 r25
  refine w_seqk fun _ k39 => g_' (q_ (.iface 73 (i_ 9)) (q_ (.slice none 0 0) (q_ (.iface 73 (i_ 9)) (s_nil (k39 _ _ ?_)))))
  refine w_ret (bl_ret (th_ret ?_))
  refine b_ret (fn := Tryz.f26) (vs := [.slice none 0 0, .iface 73 (i_ 9)]) (aRes_tmp (by kernel_rfl) (aRes_tmp (by kernel_rfl) (rfl))) ?_
  obtain rfl := Option.some.inj r38
  exact ⟨(.slice none 0 0), [], (.iface 73 (i_ 9)), [], rfl, ((FrS.refl (W := []) wf).extR e15), (Ow.nil (by decide)), Ev.no, Inn.nil, Inn.nil, Dj.nil_l⟩
 have r40 := ite_bf h37 r25
 refine w_seqk fun _ k41 => ?_
 obtain ⟨o42, hx43, r44⟩ := bind_some r40
 refine w_mid (fun α H45 => Has α [(1, pt_ b13 0), (29, .bool o42)] ∧ H14 = H45) (fun _ k47 => ?_) (fun α H45 hM => ?_)
 ·refine g_' (q_ (pt_ b13 1) ?_)
  refine l_' (hd_UpFirst) (aLoad Tryz.prog 22 (pt_ b13 1) H14) (r17.ld (by kernel_rfl)) ?_
  have u49 := (h_UpFirst.ext e15)
  refine l_' (i_ (UpFirst.length : Int)) (aLen Tryz.prog 22 hd_UpFirst H14) (u49.lenb (by kernel_rfl)) ?_
  refine q_ (i_ (Node.length : Int)) ?_
  obtain ⟨g50, r51⟩ := G_some hx43
  refine w_' ((Node.length : Int) + 1) (wrap64 (by have := g50; omega)) ?_
  refine s_bn ((UpFirst.length : Int) = ((Node.length : Int) + 1)) (by kernel_rfl) (fun h52 => ?_) (fun h52 => ?_)
  ·have r53 := ite_t h52 r51
   refine q_ (.bool false) (q_ (pt_ b13 3) ?_)
   refine l_' (hd_DownFirst) (aLoad Tryz.prog 22 (pt_ b13 3) H14) (r17.ld (by kernel_rfl)) ?_
   have u54 := (h_DownFirst.ext e15)
   refine l_' (i_ (DownFirst.length : Int)) (aLen Tryz.prog 22 hd_DownFirst H14) (u54.lenb (by kernel_rfl)) ?_
   refine q_ (i_ (Node.length : Int)) ?_
   refine w_' ((Node.length : Int) + 1) (wrap64 (by have := g50; omega)) ?_
   refine q_ (.bool (!decide ((DownFirst.length : Int) = ((Node.length : Int) + 1)))) (q_ (.bool (!decide ((DownFirst.length : Int) = ((Node.length : Int) + 1)))) (q_ (.bool (!decide ((DownFirst.length : Int) = ((Node.length : Int) + 1)))) (s_nil ?_)))
   obtain rfl := Option.some.inj r53
   exact k47 _ _ ⟨ha_, rfl⟩
  have r55 := ite_f h52 r51
  refine q_ (.bool true) (n_' (n_' (n_' (n_' (n_' (n_' (q_ (.bool true) (q_ (.bool true) (s_nil ?_)))))))))
  obtain rfl := Option.some.inj r55
  exact k47 _ _ ⟨ha_, rfl⟩
 obtain ⟨hh48, rfl⟩ := hM
 obtain ⟨β, rfl⟩ := has_ex hh48
 clear hh48
 refine k41 _ _ ?_
 refine w_cond (o42) (by kernel_rfl) rfl (fun h56 => ?_) (fun h56 => ?_)
 ·have r57 := ite_t h56 r44
  refine w_seqk fun _ k58 => g_' (q_ (.iface 73 (i_ 14)) (q_ (.slice none 0 0) (q_ (.iface 73 (i_ 14)) (s_nil (k58 _ _ ?_)))))
  refine w_ret (bl_ret (th_ret ?_))
  refine b_ret (fn := Tryz.f26) (vs := [.slice none 0 0, .iface 73 (i_ 14)]) (aRes_tmp (by kernel_rfl) (aRes_tmp (by kernel_rfl) (rfl))) ?_
  obtain rfl := Option.some.inj r57
  exact ⟨(.slice none 0 0), [], (.iface 73 (i_ 14)), [], rfl, ((FrS.refl (W := []) wf).extR e15), (Ow.nil (by decide)), Ev.no, Inn.nil, Inn.nil, Dj.nil_l⟩
 have r59 := ite_bf h56 r44
 refine w_skip (k21 _ _ (w_seqk fun _ k60 => w_seqk fun _ k61 => g_' (q_ (pt_ b13 1) ?_)))
 refine l_' (hd_UpFirst) (aLoad Tryz.prog 22 (pt_ b13 1) H14) (r17.ld (by kernel_rfl)) ?_
 refine q_ (pt_ b13 2) ?_
 refine l_' (hd_Up) (aLoad Tryz.prog 23 (pt_ b13 2) H14) (r17.ld (by kernel_rfl)) ?_
 have u62 := (h_Up.ext e15)
 refine l_' (i_ (Up.length : Int)) (aLen Tryz.prog 23 hd_Up H14) (u62.lenb (by kernel_rfl)) ?_
 have u63 := (h_UpFirst.ext e15)
 obtain ⟨y64, hy65, r66⟩ := bind_some r59
 refine s_ck 53 #[hd_UpFirst, i_ (Up.length : Int)] (by kernel_rfl) (c_hier_firsts e15.wf u63 hy65) ?_
 rintro v67 H69 ⟨_, f68, rfl, e70, m71, i72⟩
 refine q_ (v67) (s_nil (k61 _ _ (w_seqk fun _ k74 => g_' (q_ (v67) ?_))))
 rcases (m71).cases with ⟨h75, rfl⟩ | ⟨h75, t76, x77, rfl⟩
 ·have r78 := ite_t h75 r66
  refine q_ (.bool false) (s_nil (k74 _ _ ?_))
  refine w_cond false (by kernel_rfl) rfl (fun h => by cases h) (fun _ => ?_)
  refine w_skip (k60 _ _ (w_seqk fun _ k79 => w_seqk fun _ k80 => g_' (q_ (pt_ b13 3) ?_)))
  have u81 := (r17.frS e70 Dj.nil_l)
  refine l_' (hd_DownFirst) (aLoad Tryz.prog 22 (pt_ b13 3) H69) (u81.ld (by kernel_rfl)) ?_
  refine q_ (pt_ b13 4) ?_
  refine l_' (hd_Down) (aLoad Tryz.prog 23 (pt_ b13 4) H69) (u81.ld (by kernel_rfl)) ?_
  have u82 := ((h_Down.ext e15).fr e70 Dj.nil_l)
  refine l_' (i_ (Down.length : Int)) (aLen Tryz.prog 23 hd_Down H69) (u82.lenb (by kernel_rfl)) ?_
  have u83 := ((h_DownFirst.ext e15).fr e70 Dj.nil_l)
  obtain ⟨y84, hy85, r86⟩ := bind_some r78
  refine s_ck 53 #[hd_DownFirst, i_ (Down.length : Int)] (by kernel_rfl) (c_hier_firsts e70.wf u83 hy85) ?_
  rintro v87 H89 ⟨_, f88, rfl, e90, m91, i92⟩
  refine q_ (v87) (s_nil (k80 _ _ (w_seqk fun _ k94 => g_' (q_ (v87) ?_))))
  rcases (m91).cases with ⟨h95, rfl⟩ | ⟨h95, t96, x97, rfl⟩
  ·have r98 := ite_t h95 r86
   refine q_ (.bool false) (s_nil (k94 _ _ ?_))
   refine w_cond false (by kernel_rfl) rfl (fun h => by cases h) (fun _ => ?_)
   refine w_skip (k79 _ _ (w_seqk fun _ k99 => w_seqk fun _ k100 => g_' (q_ (pt_ b13 0) ?_)))
   have u101 := (u81.frS e90 Dj.nil_l)
   refine l_' (hd_Node) (aLoad Tryz.prog 22 (pt_ b13 0) H89) (u101.ld (by kernel_rfl)) ?_
   have u102 := ((u20.fr e70 Dj.nil_l).fr e90 Dj.nil_l)
   obtain ⟨y103, hy104, r105⟩ := bind_some r98
   refine s_ck 54 #[hd_Node] (by kernel_rfl) (c_hier_order e90.wf u102 hy104) ?_
   rintro v106 H108 ⟨_, f107, rfl, e109, m110, i111⟩
   refine q_ (v106) (s_nil (k100 _ _ (w_seqk fun _ k113 => g_' (q_ (v106) ?_))))
   rcases (m110).cases with ⟨h114, rfl⟩ | ⟨h114, t115, x116, rfl⟩
   ·have r117 := ite_t h114 r105
    refine q_ (.bool false) (s_nil (k113 _ _ ?_))
    refine w_cond false (by kernel_rfl) rfl (fun h => by cases h) (fun _ => ?_)
    refine w_skip (k99 _ _ (w_seqk fun _ k118 => g_' ?_))
    refine s_rwk e109.wf [.slice none 0 0] (by kernel_rfl) fun b119 H120 e121 hb122 r123 => ?_
    refine s_nil (k118 _ _ (w_seqk fun _ k125 => w_seqk fun _ k126 => g_' ?_))
    have u127 := ((u101.frS e109 Dj.nil_l).ext e121)
    refine l_' (.agg #[hd_Node, hd_UpFirst, hd_Up, hd_DownFirst, hd_Down]) (aLoad Tryz.prog 25 (pt_ b13 0) H120) (u127.ld (by kernel_rfl)) ?_
    have u128 := ((u102.fr e109 Dj.nil_l).ext e121)
    have u129 := ((((u63.fr e70 Dj.nil_l).fr e90 Dj.nil_l).fr e109 Dj.nil_l).ext e121)
    have u130 := ((((u62.fr e70 Dj.nil_l).fr e90 Dj.nil_l).fr e109 Dj.nil_l).ext e121)
    have u131 := (((u83.fr e90 Dj.nil_l).fr e109 Dj.nil_l).ext e121)
    have u132 := (((u82.fr e90 Dj.nil_l).fr e109 Dj.nil_l).ext e121)
    obtain ⟨y133, hy134, r135⟩ := bind_some r117
    refine s_ck 55 #[.agg #[hd_Node, hd_UpFirst, hd_Up, hd_DownFirst, hd_Down]] (by kernel_rfl) (c_hier_links e121.wf u128 u129 u130 u131 u132 hy134) ?_
    rintro _ H137 ⟨b136, rfl, e138, m139, i140⟩
    refine s_nil (k126 _ _ (w_block ?_))
    obtain ⟨y142, hy143, r144⟩ := bind_some r135
    obtain ⟨o145, ho146, r147⟩ := bind_some r144
    refine w_mid (fun α H148 => ∃ (s152 : Value) (f153 : Fp), Has α [(1, pt_ b13 0), (8, pt_ b119 0)] ∧ FrS [b119] H137 H148 ∧ Ow enc_u32_u64_u32_u32_i64_i64_i64 7 H148 s152 o145 f153 ∧ Row H148 b119 [s152] ∧ Inn [] H137 f153) (fun _ k157 => ?_) (fun α H148 hM => ?_)
    ·refine w_range 68 #[pt_ b136 0] (by kernel_rfl) (by kernel_rfl) (by kernel_rfl) (by kernel_rfl) ?_
     intro p1_ l_ hY_
     have hyl169 : Yld Tryz.prog l_ (fun tr_ => (foldO (fun x_ zz_ => z_hier_ends_l0 x_ zz_) [] tr_).isSome) (fun x_ => #[i_ x_.1, .agg #[.int .u32 x_.2.1, .int .u64 x_.2.2.1, .int .u32 x_.2.2.2.1, .int .u32 x_.2.2.2.2.1, i_ x_.2.2.2.2.2.1, i_ x_.2.2.2.2.2.2.1, i_ x_.2.2.2.2.2.2.2]]) (fun (H_ : AH) (xs_ : List (Int × Int × Int × Int × Int × Int × Int × Int)) (fp_ : Fp) => ∃ (all0 : List (Int × Int × Int × Int × Int × Int × Int)), ∃ (s162 : Value), ∃ (f163 : Fp), foldO (fun x_ zz_ => z_hier_ends_l0 x_ zz_) [] xs_ = some all0 ∧ fp_ = (f163 ++ [b119]) ∧ Ow enc_u32_u64_u32_u32_i64_i64_i64 7 H_ s162 all0 f163 ∧ Row H_ b119 [s162] ∧ Dj f163 [b119]) := by
      rintro H159 xs_ fp_ x_ wf hok_ ⟨all0, s162, f163, hf_, rfl, m161, m165, d167⟩
      obtain ⟨z_, hz0_⟩ := Option.isSome_iff_exists.1 hok_
      have hz := hz0_
      rw [foldO_snoc hf_] at hz
      replace hz : z_hier_ends_l0 x_ all0 = some z_ := hz
      unfold z_hier_ends_l0 at hz
      refine hY_ #[i_ x_.1, .agg #[.int .u32 x_.2.1, .int .u64 x_.2.2.1, .int .u32 x_.2.2.2.1, .int .u32 x_.2.2.2.2.1, i_ x_.2.2.2.2.2.1, i_ x_.2.2.2.2.2.2.1, i_ x_.2.2.2.2.2.2.2]] H159 _ rfl (fun p2_ => ?_)
      obtain ⟨a170, n171, c172, rfl⟩ := m161.form
      refine r_reg (by kernel_rfl) ?_
      refine s_rwk wf [.int .u32 0, .int .u64 0, .int .u32 0, .int .u32 0, i_ 0, i_ 0, i_ 0] (by kernel_rfl) fun b173 H174 e175 hb176 r177 => ?_
      obtain ⟨H179, q180, e181, r182⟩ := Row.store (P := Tryz.prog) (t := 94) (p := 0) e175.wf r177 (.agg #[.int .u32 x_.2.1, .int .u64 x_.2.2.1, .int .u32 x_.2.2.2.1, .int .u32 x_.2.2.2.2.1, i_ x_.2.2.2.2.2.1, i_ x_.2.2.2.2.2.2.1, i_ x_.2.2.2.2.2.2.2]) [.int .u32 x_.2.1, .int .u64 x_.2.2.1, .int .u32 x_.2.2.2.1, .int .u32 x_.2.2.2.2.1, i_ x_.2.2.2.2.2.1, i_ x_.2.2.2.2.2.2.1, i_ x_.2.2.2.2.2.2.2] (by kernel_rfl) (by kernel_rfl) (one_cons (rfl) (one_cons (rfl) (one_cons (rfl) (one_cons (rfl) (one_cons (rfl) (one_cons (rfl) (one_cons (rfl) (one_nil)))))))) (Nat.le_of_ble_eq_true (by kernel_rfl)) [.int .u32 x_.2.1, .int .u64 x_.2.2.1, .int .u32 x_.2.2.2.1, .int .u32 x_.2.2.2.2.1, i_ x_.2.2.2.2.2.1, i_ x_.2.2.2.2.2.2.1, i_ x_.2.2.2.2.2.2.2] (by kernel_rfl)
      refine s_ek (undef) (by kernel_rfl) (map_ok q180) ?_
      refine s_nil ?_
      refine r_block ?_
      refine r_reg (by kernel_rfl) ?_
      have u183 := ((m165.ext e175).frS e181 (hb176.djn m165.ltF))
      refine l_' (.slice a170 n171 c172) (aLoad Tryz.prog 76 (pt_ b119 0) H179) (u183.ld (by kernel_rfl)) ?_
      refine l_' (.agg #[.int .u32 x_.2.1, .int .u64 x_.2.2.1, .int .u32 x_.2.2.2.1, .int .u32 x_.2.2.2.2.1, i_ x_.2.2.2.2.2.1, i_ x_.2.2.2.2.2.2.1, i_ x_.2.2.2.2.2.2.2]) (aLoad Tryz.prog 94 (pt_ b173 0) H179) (r182.ld (by kernel_rfl)) ?_
      refine s_owk (enc := enc_u32_u64_u32_u32_i64_i64_i64) (sz := 7) e181.wf [(x_.2.1, x_.2.2.1, x_.2.2.2.1, x_.2.2.2.2.1, x_.2.2.2.2.2.1, x_.2.2.2.2.2.2.1, x_.2.2.2.2.2.2.2)] 1 (by decide) (fun _ _ => rfl) (fun _ _ => rfl) rfl (by kernel_rfl) fun s184 f185 H186 e187 hf188 hm189 => ?_
      obtain ⟨a190, n191, c192, rfl⟩ := hm189.form
      have u194 := (((m161.ext e175).fr e181 (hb176.djn m161.lt)).ext e187)
      obtain ⟨g195, r196⟩ := G_some hz
      obtain ⟨s197, H198, f199, q203, e200, hm201, hf202⟩ := Ow.append (P := Tryz.prog) 48 e187.wf u194 hm189.sq (fun _ _ => rfl) (at_ := #[76, 76]) rfl rfl (by kernel_rfl) (by kernel_rfl) (by decide) (by have := g195; first | omega | (simp only [List.length_cons, List.length_nil] at this ⊢; omega) | (simp at this ⊢; omega))
      obtain ⟨a204, n205, c206, rfl⟩ := hm201.form
      refine s_ek (.slice a204 n205 c206) (by kernel_rfl) (q203) ?_
      have u212 := ((u183.ext e187).frS e200 d167)
      obtain ⟨H208, q209, e210, r211⟩ := Row.store (P := Tryz.prog) (t := 76) (p := 0) e200.wf u212 (.slice a204 n205 c206) [.slice a204 n205 c206] (by kernel_rfl) (by kernel_rfl) (one_cons (hm201.one1) (one_nil)) (Nat.le_of_ble_eq_true (by kernel_rfl)) [.slice a204 n205 c206] (by kernel_rfl)
      refine s_ek (undef) (by kernel_rfl) (map_ok q209) ?_
      refine s_nil ?_
      obtain rfl := Option.some.inj r196
      have u213 := (hm201.fr e210 (Dj.symm (hf202.dj d167 (m165.ltF.le (ntr (ntr e175.next e181.next) e187.next)))))
      exact ⟨rfl, (f199 ++ [b119]), (FrS.step wf (FrS.step wf ((FrS.step wf ((FrS.refl (W := (f163 ++ [b119])) wf).extR e175) e181 (hb176.fresh (Nat.le_refl _))).extR e187) e200 Inn.left) e210 (Inn.right Inn.refl')), ⟨(Lt.app (hm201.lt.le e210.next) (m165.ltF.le (ntr (ntr (ntr (ntr e175.next e181.next) e187.next) e200.next) e210.next))), e210.wf, fun W_ H_2 k_ d_ => ⟨(all0 ++ [(x_.2.1, x_.2.2.1, x_.2.2.2.1, x_.2.2.2.2.1, x_.2.2.2.2.2.1, x_.2.2.2.2.2.2.1, x_.2.2.2.2.2.2.2)]), (.slice a204 n205 c206), f199, hz0_, rfl, (u213.fr k_ (Dj.appL d_)), (r211.frS k_ (Dj.appR d_)), (hf202.dj d167 (m165.ltF.le (ntr (ntr e175.next e181.next) e187.next)))⟩⟩, (Inn.app (Inn.trans Inn.left (ntr (ntr e175.next e181.next) e187.next) hf202) (Inn.right Inn.refl'))⟩
     have u214 := (r123.frS e138 Dj.nil_l)
     have u215 := (u128.fr e138 Dj.nil_l)
     have u216 := (u129.fr e138 Dj.nil_l)
     have u217 := (u130.fr e138 Dj.nil_l)
     have u218 := (u131.fr e138 Dj.nil_l)
     have u219 := (u132.fr e138 Dj.nil_l)
     refine (c_hier_links_1 e138.wf hyl169 ⟨(Lt.app Lt.nil (r123.ltF.le e138.next)), e138.wf, fun W_ H_2 k_ d_ => ⟨[], (.slice none 0 0), [], rfl, rfl, (Ow.nil (by decide)), (u214.frS k_ (Dj.appR d_)), Dj.nil_l⟩⟩ u215 u216 u217 u218 u219 m139 (Dj.app Dj.nil_l (hb122.djn (h_Up.lt.le (ntr (ntr (ntr e15.next e70.next) e90.next) e109.next)))) (Dj.app Dj.nil_l (Dj.symm (i140.djn r123.ltF))) (Dj.app Dj.nil_l (hb122.djn (h_UpFirst.lt.le (ntr (ntr (ntr e15.next e70.next) e90.next) e109.next)))) (Dj.app Dj.nil_l (hb122.djn (h_Node.lt.le (ntr (ntr (ntr e15.next e70.next) e90.next) e109.next)))) (Dj.app Dj.nil_l (hb122.djn (h_DownFirst.lt.le (ntr (ntr (ntr e15.next e70.next) e90.next) e109.next)))) (Dj.app Dj.nil_l (hb122.djn (h_Down.lt.le (ntr (ntr (ntr e15.next e70.next) e90.next) e109.next)))) hy143).mono ?_
     rintro _ H220 ⟨_, rfl, e221, m222, i223⟩
     obtain ⟨q224, s225, f226, hf230, rfl, m227, m228, d229⟩ := m222.at
     rw [hf230] at ho146; cases ho146
     exact k157 _ _ ⟨s225, f226, ha_, e221.mono (fun t_ ht_ => by simpa using ht_), m227, m228, Inn.off (fun t_ ht_ => i223 t_ (List.mem_append_left _ ht_)) (Dj.app Dj.nil_l (Dj.symm d229))⟩
    obtain ⟨s152, f153, hh158, e149, m151, m155, i156⟩ := hM
    obtain ⟨β, rfl⟩ := has_ex hh158
    clear hh158
    obtain ⟨a231, n232, c233, rfl⟩ := m151.form
    refine k125 _ _ (w_seqk fun _ k234 => w_seqk fun _ k235 => g_' ?_)
    refine l_' (.slice a231 n232 c233) (aLoad Tryz.prog 76 (pt_ b119 0) H148) (m155.ld (by kernel_rfl)) ?_
    refine l_' (i_ (o145.length : Int)) (aLen Tryz.prog 76 (.slice a231 n232 c233) H148) (m151.sq.lenb (by kernel_rfl)) ?_
    refine q_ (i_ 0) (s_nil (k235 _ _ ?_))
    obtain ⟨z239, hx237, r238⟩ := bind_some r147
    refine w_mid (fun α H240 => ∃ o236, z239 = Sum.inr o236 ∧ Has α [(8, pt_ b119 0)] ∧ FrS [] H148 H240) (fun _ k242 => ?_) (fun α H240 hM => ?_)
    ·refine w_block ?_
     obtain ⟨n244, hn245⟩ := loopO_iff.1 hx237
     refine w_loopn (fun n α H246 => ∃ (i1 : Int), iterO (fun zz_ => z_hier_ends_l1 Node UpFirst Up DownFirst Down o145 zz_) n i1 = some z239 ∧ Has α [(1, pt_ b13 0), (8, pt_ b119 0), (78, i_ (o145.length : Int)), (79, i_ i1)] ∧ FrS [] H148 H246) n244 ⟨0, hn245, ha_, (FrS.refl (W := []) e149.wf)⟩ ?_
     rintro n244 α H246 ⟨i1, hi249, hh248, e247⟩ K254 k254
     obtain ⟨n250, z251, rfl, hz252, hn253⟩ := iter_succ hi249
     obtain ⟨β, rfl⟩ := has_ex hh248
     clear hh248
     replace hz252 : z_hier_ends_l1 Node UpFirst Up DownFirst Down o145 i1 = some z251 := hz252
     unfold z_hier_ends_l1 at hz252
     refine w_seqk fun _ k255 => g_' (q_ (.bool (decide (i1 < (o145.length : Int)))) (s_nil (k255 _ _ (w_seqk fun _ k256 => ?_))))
     refine w_condp (i1 < (o145.length : Int)) (by kernel_rfl) rfl (fun h257 => ?_) (fun h257 => ?_)
     ·have r258 := ite_t h257 hz252
      refine w_skip (k256 _ _ (w_seqk fun _ k259 => w_block (w_seqk fun _ k260 => g_' (q_ (i_ i1) (q_ (i_ i1) (s_nil (k260 _ _ (w_block (w_seqk fun _ k261 => g_' ?_)))))))))
      have u262 := (((u127.frS e138 Dj.nil_l).frS e149 (hb122.djn (r17.ltF.le (ntr (ntr e70.next e90.next) e109.next)))).frS e247 Dj.nil_l)
      refine l_' (.agg #[hd_Node, hd_UpFirst, hd_Up, hd_DownFirst, hd_Down]) (aLoad Tryz.prog 25 (pt_ b13 0) H246) (u262.ld (by kernel_rfl)) ?_
      have u263 := (m155.frS e247 Dj.nil_l)
      refine l_' (.slice a231 n232 c233) (aLoad Tryz.prog 76 (pt_ b119 0) H246) (u263.ld (by kernel_rfl)) ?_
      refine q_ (i_ i1) ?_
      have u264 := (((u128.fr e138 Dj.nil_l).fr e149 (hb122.djn (h_Node.lt.le (ntr (ntr (ntr e15.next e70.next) e90.next) e109.next)))).fr e247 Dj.nil_l)
      have u265 := (((u129.fr e138 Dj.nil_l).fr e149 (hb122.djn (h_UpFirst.lt.le (ntr (ntr (ntr e15.next e70.next) e90.next) e109.next)))).fr e247 Dj.nil_l)
      have u266 := (((u130.fr e138 Dj.nil_l).fr e149 (hb122.djn (h_Up.lt.le (ntr (ntr (ntr e15.next e70.next) e90.next) e109.next)))).fr e247 Dj.nil_l)
      have u267 := (((u131.fr e138 Dj.nil_l).fr e149 (hb122.djn (h_DownFirst.lt.le (ntr (ntr (ntr e15.next e70.next) e90.next) e109.next)))).fr e247 Dj.nil_l)
      have u268 := (((u132.fr e138 Dj.nil_l).fr e149 (hb122.djn (h_Down.lt.le (ntr (ntr (ntr e15.next e70.next) e90.next) e109.next)))).fr e247 Dj.nil_l)
      have u269 := (m151.fr e247 Dj.nil_l)
      obtain ⟨y270, hy271, r272⟩ := bind_some r258
      refine s_ck 56 #[.agg #[hd_Node, hd_UpFirst, hd_Up, hd_DownFirst, hd_Down], .slice a231 n232 c233, i_ i1] (by kernel_rfl) (c_hier_shape e247.wf u264 u265 u266 u267 u268 u269.sq hy271) ?_
      rintro _ H273 ⟨rfl, e274⟩
      refine q_ (.bool (!y270)) (q_ (.bool (!y270)) (s_nil (k261 _ _ ?_)))
      refine w_cond ((!y270)) (by kernel_rfl) rfl (fun h275 => ?_) (fun h275 => ?_)
      ·have r276 := ite_t h275 r272
       refine w_seqk fun _ k277 => g_' (q_ (i_ i1) (q_ (.iface 73 (i_ 14)) ?_))
       obtain ⟨y278, hy279, r280⟩ := bind_some r276
       refine s_ck 57 #[i_ 4, i_ i1, .iface 73 (i_ 14)] (by kernel_rfl) (c_fault_At e274.wf (Ev.no (tf := 68)) hy279) ?_
       rintro v281 H283 ⟨_, f282, rfl, e284, m285, i286⟩
       refine q_ (.slice none 0 0) (q_ (v281) (s_nil (k277 _ _ ?_)))
       refine w_ret (bl_ret (bl_ret (th_ret (th_ret (bl_ret (th_ret (th_ret ?_)))))))
       obtain ⟨v288, hv289, hz290⟩ := map_some r280
       subst hz290
       obtain rfl := it_inr hn253
       have hq291 := elim_inl r238
       rw [hq291] at hv289
       refine b_ret (fn := Tryz.f26) (vs := [.slice none 0 0, v281]) (aRes_tmp (by kernel_rfl) (aRes_tmp (by kernel_rfl) (rfl))) ?_
       obtain rfl := Option.some.inj hv289
       exact ⟨(.slice none 0 0), [], (v281), f282, rfl, (FrS.step wf (FrS.step wf (FrS.step wf (FrS.step wf (FrS.step wf ((FrS.step wf (FrS.step wf (FrS.step wf ((FrS.refl (W := []) wf).extR e15) e70 Inn.nil) e90 Inn.nil) e109 Inn.nil).extR e121) e138 Inn.nil) e149 (hb122.fresh (ntr (ntr (ntr e15.next e70.next) e90.next) e109.next))) e247 Inn.nil) e274 Inn.nil) e284 Inn.nil), (Ow.nil (by decide)), m285, Inn.nil, (i286.fresh (ntr (ntr (ntr (ntr (ntr (ntr (ntr (ntr e15.next e70.next) e90.next) e109.next) e121.next) e138.next) e149.next) e247.next) e274.next)), Dj.nil_l⟩
      have r292 := ite_bf h275 r272
      refine w_seqk fun _ k293 => g_' ?_
      have u294 := (u263.frS e274 Dj.nil_l)
      refine l_' (.slice a231 n232 c233) (aLoad Tryz.prog 76 (pt_ b119 0) H273) (u294.ld (by kernel_rfl)) ?_
      refine q_ (i_ i1) ?_
      have u295 := (u269.fr e274 Dj.nil_l)
      obtain ⟨y296, hy297, r298⟩ := bind_some r292
      refine s_ck 58 #[.slice a231 n232 c233, i_ i1] (by kernel_rfl) (c_hier_weight e274.wf u295.sq hy297) ?_
      rintro _ H299 ⟨rfl, e300⟩
      refine q_ (.bool (!y296)) (q_ (.bool (!y296)) (s_nil (k293 _ _ ?_)))
      refine w_cond ((!y296)) (by kernel_rfl) rfl (fun h301 => ?_) (fun h301 => ?_)
      ·have r302 := ite_t h301 r298
       refine w_seqk fun _ k303 => g_' (q_ (i_ i1) (q_ (.iface 73 (i_ 8)) ?_))
       obtain ⟨y304, hy305, r306⟩ := bind_some r302
       refine s_ck 57 #[i_ 4, i_ i1, .iface 73 (i_ 8)] (by kernel_rfl) (c_fault_At e300.wf (Ev.no (tf := 68)) hy305) ?_
       rintro v307 H309 ⟨_, f308, rfl, e310, m311, i312⟩
       refine q_ (.slice none 0 0) (q_ (v307) (s_nil (k303 _ _ ?_)))
       refine w_ret (bl_ret (bl_ret (th_ret (th_ret (bl_ret (th_ret (th_ret ?_)))))))
       obtain ⟨v314, hv315, hz316⟩ := map_some r306
       subst hz316
       obtain rfl := it_inr hn253
       have hq317 := elim_inl r238
       rw [hq317] at hv315
       refine b_ret (fn := Tryz.f26) (vs := [.slice none 0 0, v307]) (aRes_tmp (by kernel_rfl) (aRes_tmp (by kernel_rfl) (rfl))) ?_
       obtain rfl := Option.some.inj hv315
       exact ⟨(.slice none 0 0), [], (v307), f308, rfl, (FrS.step wf (FrS.step wf (FrS.step wf (FrS.step wf (FrS.step wf (FrS.step wf ((FrS.step wf (FrS.step wf (FrS.step wf ((FrS.refl (W := []) wf).extR e15) e70 Inn.nil) e90 Inn.nil) e109 Inn.nil).extR e121) e138 Inn.nil) e149 (hb122.fresh (ntr (ntr (ntr e15.next e70.next) e90.next) e109.next))) e247 Inn.nil) e274 Inn.nil) e300 Inn.nil) e310 Inn.nil), (Ow.nil (by decide)), m311, Inn.nil, (i312.fresh (ntr (ntr (ntr (ntr (ntr (ntr (ntr (ntr (ntr e15.next e70.next) e90.next) e109.next) e121.next) e138.next) e149.next) e247.next) e274.next) e300.next)), Dj.nil_l⟩
      have r318 := ite_bf h301 r298
      refine w_skip (k259 _ _ (g_' ?_))
      obtain ⟨g319, r320⟩ := G_some r318
      refine w_' (i1 + 1) (wrap64 g319) ?_
      refine q_ (i_ (i1 + 1)) (s_nil ?_)
      obtain rfl := Option.some.inj r320
      exact k254 n250 _ _ (Nat.lt_succ_self _) ⟨(i1 + 1), hn253, ha_, (FrS.step e149.wf (FrS.step e149.wf (FrS.step e149.wf (FrS.refl (W := []) e149.wf) e247 Inn.nil) e274 Inn.nil) e300 Inn.nil)⟩
     have r321 := ite_f h257 hz252
     refine w_exit (th_exit (th_exit (bl_eq ?_)))
     obtain rfl := Option.some.inj r321
     obtain rfl := it_inr hn253
     exact k242 _ _ ⟨_, rfl, ha_, (FrS.step e149.wf (FrS.refl (W := []) e149.wf) e247 Inn.nil)⟩
    obtain ⟨o236, rfl, hh243, e241⟩ := hM
    have r322 := elim_inr r238
    obtain ⟨β, rfl⟩ := has_ex hh243
    clear hh243
    refine k234 _ _ (w_seqk fun _ k323 => g_' ?_)
    have u324 := (m155.frS e241 Dj.nil_l)
    refine l_' (.slice a231 n232 c233) (aLoad Tryz.prog 76 (pt_ b119 0) H240) (u324.ld (by kernel_rfl)) ?_
    refine q_ (.slice a231 n232 c233) (q_ (.nilIface) (s_nil (k323 _ _ ?_)))
    refine w_ret ?_
    refine b_ret (fn := Tryz.f26) (vs := [.slice a231 n232 c233, .nilIface]) (aRes_tmp (by kernel_rfl) (aRes_tmp (by kernel_rfl) (rfl))) ?_
    have u325 := (m151.fr e241 Dj.nil_l)
    obtain rfl := Option.some.inj r322
    exact ⟨(.slice a231 n232 c233), f153, (.nilIface), [], rfl, (FrS.step wf (FrS.step wf (FrS.step wf ((FrS.step wf (FrS.step wf (FrS.step wf ((FrS.refl (W := []) wf).extR e15) e70 Inn.nil) e90 Inn.nil) e109 Inn.nil).extR e121) e138 Inn.nil) e149 (hb122.fresh (ntr (ntr (ntr e15.next e70.next) e90.next) e109.next))) e241 Inn.nil), u325, Ev.nil, (i156.fresh (ntr (ntr (ntr (ntr (ntr e15.next e70.next) e90.next) e109.next) e121.next) e138.next)), Inn.nil, Dj.nil_r⟩
   have r326 := ite_f h114 r105
   refine l_' (.bool true) (aBin Tryz.prog .neq 30 (.tmp 66) (.const .nilIface) (.iface t115 x116) .nilIface) (aBin_nnil (by kernel_rfl)) ?_
   refine s_nil (k113 _ _ ?_)
   refine w_cond true (by kernel_rfl) rfl (fun _ => ?_) (fun h => by cases h)
   refine w_seqk fun _ k327 => g_' (q_ (.iface t115 x116) (q_ (.slice none 0 0) (q_ (.iface t115 x116) (s_nil (k327 _ _ ?_)))))
   refine w_ret (th_ret ?_)
   refine b_ret (fn := Tryz.f26) (vs := [.slice none 0 0, .iface t115 x116]) (aRes_tmp (by kernel_rfl) (aRes_tmp (by kernel_rfl) (rfl))) ?_
   obtain rfl := Option.some.inj r326
   exact ⟨(.slice none 0 0), [], (.iface t115 x116), f107, rfl, (FrS.step wf (FrS.step wf (FrS.step wf ((FrS.refl (W := []) wf).extR e15) e70 Inn.nil) e90 Inn.nil) e109 Inn.nil), (Ow.nil (by decide)), m110, Inn.nil, (i111.fresh (ntr (ntr e15.next e70.next) e90.next)), Dj.nil_l⟩
  have r328 := ite_f h95 r86
  refine l_' (.bool true) (aBin Tryz.prog .neq 30 (.tmp 60) (.const .nilIface) (.iface t96 x97) .nilIface) (aBin_nnil (by kernel_rfl)) ?_
  refine s_nil (k94 _ _ ?_)
  refine w_cond true (by kernel_rfl) rfl (fun _ => ?_) (fun h => by cases h)
  refine w_seqk fun _ k329 => g_' (q_ (.iface t96 x97) (q_ (.slice none 0 0) (q_ (.iface t96 x97) (s_nil (k329 _ _ ?_)))))
  refine w_ret (th_ret ?_)
  refine b_ret (fn := Tryz.f26) (vs := [.slice none 0 0, .iface t96 x97]) (aRes_tmp (by kernel_rfl) (aRes_tmp (by kernel_rfl) (rfl))) ?_
  obtain rfl := Option.some.inj r328
  exact ⟨(.slice none 0 0), [], (.iface t96 x97), f88, rfl, (FrS.step wf (FrS.step wf ((FrS.refl (W := []) wf).extR e15) e70 Inn.nil) e90 Inn.nil), (Ow.nil (by decide)), m91, Inn.nil, (i92.fresh (ntr e15.next e70.next)), Dj.nil_l⟩
 have r330 := ite_f h75 r66
 refine l_' (.bool true) (aBin Tryz.prog .neq 30 (.tmp 51) (.const .nilIface) (.iface t76 x77) .nilIface) (aBin_nnil (by kernel_rfl)) ?_
 refine s_nil (k74 _ _ ?_)
 refine w_cond true (by kernel_rfl) rfl (fun _ => ?_) (fun h => by cases h)
 refine w_seqk fun _ k331 => g_' (q_ (.iface t76 x77) (q_ (.slice none 0 0) (q_ (.iface t76 x77) (s_nil (k331 _ _ ?_)))))
 refine w_ret (th_ret ?_)
 refine b_ret (fn := Tryz.f26) (vs := [.slice none 0 0, .iface t76 x77]) (aRes_tmp (by kernel_rfl) (aRes_tmp (by kernel_rfl) (rfl))) ?_
 obtain rfl := Option.some.inj r330
 exact ⟨(.slice none 0 0), [], (.iface t76 x77), f68, rfl, (FrS.step wf ((FrS.refl (W := []) wf).extR e15) e70 Inn.nil), (Ow.nil (by decide)), m71, Inn.nil, (i72.fresh e15.next), Dj.nil_l⟩
theorem c_hier_Graph_1 {H : AH} {From : Int} {To : Int} {Weight : Int} {From_ : Int} {To_ : Int} {Weight_ : Int} {r : Int}
    (wf : WF H) (hr : z_hier_Graph_1 From To Weight From_ To_ Weight_ = some r) :
    ACalls Tryz.prog 38 #[.agg #[i_ From, i_ To, i_ Weight], .agg #[i_ From_, i_ To_, i_ Weight_]] H fun v H' => v = i_ r ∧ FrS [] H H' := by
 refine acalls_of_body mixed Tryz.func38 rfl (Nat.le_of_ble_eq_true rfl) ?_
 unfold z_hier_Graph_1 at hr
 refine w_seqk fun _ k1 => g_' ?_
 refine s_rwl wf [i_ From, i_ To, i_ Weight] (one_cons (rfl) (one_cons (rfl) (one_cons (rfl) (one_nil)))) (by kernel_rfl) fun b2 H3 e4 hb5 r6 => ?_
 refine s_rwl e4.wf [i_ From_, i_ To_, i_ Weight_] (one_cons (rfl) (one_cons (rfl) (one_cons (rfl) (one_nil)))) (by kernel_rfl) fun b8 H9 e10 hb11 r12 => ?_
 refine q_ (i_ 0) (s_nil (k1 _ _ (w_seqk fun _ k14 => w_seqk fun _ k15 => g_' (q_ (pt_ b2 0) ?_))))
 have u16 := (r6.ext e10)
 refine l_' (i_ From) (aLoad Tryz.prog 3 (pt_ b2 0) H9) (u16.ld (by kernel_rfl)) ?_
 refine q_ (pt_ b8 0) ?_
 refine l_' (i_ From_) (aLoad Tryz.prog 3 (pt_ b8 0) H9) (r12.ld (by kernel_rfl)) ?_
 refine q_ (.bool (!decide (From = From_))) (s_nil (k15 _ _ ?_))
 refine w_condn (From = From_) (by kernel_rfl) rfl (fun h17 => ?_) (fun h17 => ?_)
 ·have r18 := ite_f h17 hr
  refine w_seqk fun _ k19 => g_' (q_ (pt_ b2 0) ?_)
  refine l_' (i_ From) (aLoad Tryz.prog 3 (pt_ b2 0) H9) (u16.ld (by kernel_rfl)) ?_
  refine q_ (pt_ b8 0) ?_
  refine l_' (i_ From_) (aLoad Tryz.prog 3 (pt_ b8 0) H9) (r12.ld (by kernel_rfl)) ?_
  obtain ⟨g20, r21⟩ := G_some r18
  refine w_' (From - From_) (wrap64 g20) ?_
  refine q_ (i_ (From - From_)) (s_nil (k19 _ _ ?_))
  refine w_ret (th_ret ?_)
  refine b_ret (fn := Tryz.f38) (vs := [i_ (From - From_)]) (aRes_tmp (by kernel_rfl) (rfl)) ?_
  obtain rfl := Option.some.inj r21
  exact ⟨rfl, (((FrS.refl (W := []) wf).extR e4).extR e10)⟩
 have r22 := ite_t h17 hr
 refine w_skip (k14 _ _ (w_seqk fun _ k23 => g_' (q_ (pt_ b2 1) ?_)))
 refine l_' (i_ To) (aLoad Tryz.prog 3 (pt_ b2 1) H9) (u16.ld (by kernel_rfl)) ?_
 refine q_ (pt_ b8 1) ?_
 refine l_' (i_ To_) (aLoad Tryz.prog 3 (pt_ b8 1) H9) (r12.ld (by kernel_rfl)) ?_
 obtain ⟨g24, r25⟩ := G_some r22
 refine w_' (To - To_) (wrap64 g24) ?_
 refine q_ (i_ (To - To_)) (s_nil (k23 _ _ ?_))
 refine w_ret ?_
 refine b_ret (fn := Tryz.f38) (vs := [i_ (To - To_)]) (aRes_tmp (by kernel_rfl) (rfl)) ?_
 obtain rfl := Option.some.inj r25
 exact ⟨rfl, (((FrS.refl (W := []) wf).extR e4).extR e10)⟩
end Go.Vd

/-! (KHc2) -/

set_option maxRecDepth 100000
set_option maxHeartbeats 4000000
set_option linter.unusedVariables false
namespace Go.Vd
open Go.Proofs
attribute [local irreducible] wpSeq wpOrd aWp
theorem c_hier_Graph {H : AH} {hd_Node : Value} {fp_Node : Fp} {hd_UpFirst : Value} {fp_UpFirst : Fp} {hd_Up : Value} {fp_Up : Fp} {hd_DownFirst : Value} {fp_DownFirst : Fp} {hd_Down : Value} {fp_Down : Fp} {Node : List (Int)} {UpFirst : List (Int)} {Up : List (Int × Int × Int × Int)} {DownFirst : List (Int)} {Down : List (Int × Int × Int × Int)} {r : Int × List (Int × Int × Int) × Er}
    (wf : WF H) (h_Node : Sq (encI .u32) 1 H hd_Node Node fp_Node) (h_UpFirst : Sq (encI .u32) 1 H hd_UpFirst UpFirst fp_UpFirst) (h_Up : Sq enc_u32_u64_u32_u32 4 H hd_Up Up fp_Up) (h_DownFirst : Sq (encI .u32) 1 H hd_DownFirst DownFirst fp_DownFirst) (h_Down : Sq enc_u32_u64_u32_u32 4 H hd_Down Down fp_Down) (hr : z_hier_Graph Node UpFirst Up DownFirst Down = some r) :
    ACalls Tryz.prog 12 #[.agg #[hd_Node, hd_UpFirst, hd_Up, hd_DownFirst, hd_Down]] H fun v H' => ∃ (s3 : Value) (f4 : Fp) (v7 : Value) (f8 : Fp), v = .tuple #[.agg #[i_ r.1, s3], v7] ∧ FrS [] H H' ∧ Ow enc_i64_i64_i64 3 H' s3 r.2.1 f4 ∧ Ev 73 68 H' v7 r.2.2 f8 ∧ Inn [] H f4 ∧ Inn [] H f8 ∧ Dj f4 f8 := by
 refine acalls_of_body mixed Tryz.func12 rfl (Nat.le_of_ble_eq_true rfl) ?_
 unfold z_hier_Graph at hr
 refine w_seqk fun _ k12 => g_' ?_
 refine s_rwl wf [hd_Node, hd_UpFirst, hd_Up, hd_DownFirst, hd_Down] (one_cons (h_Node.one1) (one_cons (h_UpFirst.one1) (one_cons (h_Up.one1) (one_cons (h_DownFirst.one1) (one_cons (h_Down.one1) (one_nil)))))) (by kernel_rfl) fun b13 H14 e15 hb16 r17 => ?_
 refine s_rwk e15.wf [i_ 0, .slice none 0 0] (by kernel_rfl) fun b19 H20 e21 hb22 r23 => ?_
 refine q_ (.nilIface) (s_nil (k12 _ _ (w_seqk fun _ k25 => g_' ?_)))
 have u26 := (r17.ext e21)
 refine l_' (.agg #[hd_Node, hd_UpFirst, hd_Up, hd_DownFirst, hd_Down]) (aLoad Tryz.prog 25 (pt_ b13 0) H20) (u26.ld (by kernel_rfl)) ?_
 have u27 := ((h_Node.ext e15).ext e21)
 have u28 := ((h_UpFirst.ext e15).ext e21)
 have u29 := ((h_Up.ext e15).ext e21)
 have u30 := ((h_DownFirst.ext e15).ext e21)
 have u31 := ((h_Down.ext e15).ext e21)
 obtain ⟨y32, hy33, r34⟩ := bind_some hr
 refine s_ck 26 #[.agg #[hd_Node, hd_UpFirst, hd_Up, hd_DownFirst, hd_Down]] (by kernel_rfl) (c_hier_ends e21.wf u27 u28 u29 u30 u31 hy33) ?_
 rintro _ H39 ⟨s35, f36, v37, f38, rfl, e40, m41, m42, i43, i44, d45⟩
 obtain ⟨a48, n49, c50, rfl⟩ := m41.form
 refine q_ (.tuple #[.slice a48 n49 c50, v37]) (q_ (.slice a48 n49 c50) (q_ (v37) (q_ (.slice a48 n49 c50) (q_ (v37) (s_nil (k25 _ _ (w_seqk fun _ k51 => w_seqk fun _ k52 => g_' (q_ (v37) ?_))))))))
 rcases (m42).cases with ⟨h53, rfl⟩ | ⟨h53, t54, x55, rfl⟩
 ·have r56 := ite_t h53 r34
  refine q_ (.bool false) (s_nil (k52 _ _ ?_))
  refine w_cond false (by kernel_rfl) rfl (fun h => by cases h) (fun _ => ?_)
  refine w_skip (k51 _ _ (w_seqk fun _ k57 => g_' (q_ (pt_ b13 0) ?_)))
  have u58 := (u26.frS e40 Dj.nil_l)
  refine l_' (hd_Node) (aLoad Tryz.prog 22 (pt_ b13 0) H39) (u58.ld (by kernel_rfl)) ?_
  have u59 := (u27.fr e40 Dj.nil_l)
  refine l_' (i_ (Node.length : Int)) (aLen Tryz.prog 22 hd_Node H39) (u59.lenb (by kernel_rfl)) ?_
  refine q_ (.agg #[i_ (Node.length : Int), .slice none 0 0]) ?_
  refine s_rwk e40.wf [i_ 0, .slice none 0 0] (by kernel_rfl) fun b60 H61 e62 hb63 r64 => ?_
  obtain ⟨H66, q67, e68, r69⟩ := Row.store (P := Tryz.prog) (t := 43) (p := 0) e62.wf r64 (.agg #[i_ (Node.length : Int), .slice none 0 0]) [i_ (Node.length : Int), .slice none 0 0] (by kernel_rfl) (by kernel_rfl) (one_cons (rfl) (one_cons (rfl) (one_nil))) (Nat.le_of_ble_eq_true (by kernel_rfl)) [i_ (Node.length : Int), .slice none 0 0] (by kernel_rfl)
  refine s_ek (undef) (by kernel_rfl) (map_ok q67) ?_
  refine s_nil (k57 _ _ (w_seqk fun _ k70 => w_seqk fun _ k71 => g_' (q_ (.slice a48 n49 c50) ?_)))
  have u72 := ((m41.ext e62).fr e68 (hb63.djn m41.lt))
  refine l_' (i_ (y32.1.length : Int)) (aLen Tryz.prog 76 (.slice a48 n49 c50) H66) (u72.sq.lenb (by kernel_rfl)) ?_
  refine q_ (i_ 0) (s_nil (k71 _ _ ?_))
  obtain ⟨o73, hx74, r75⟩ := bind_some r56
  refine w_mid (fun α H76 => ∃ (s80 : Value) (f81 : Fp), Has α [(2, pt_ b19 0), (6, pt_ b60 0)] ∧ FrS [b60] H66 H76 ∧ Ow enc_i64_i64_i64 3 H76 s80 o73 f81 ∧ Row H76 b60 [i_ (Node.length : Int), s80] ∧ Inn [] H66 f81) (fun _ k85 => ?_) (fun α H76 hM => ?_)
  ·refine w_block ?_
   obtain ⟨n87, hn88⟩ := loopO_iff.1 hx74
   refine w_loopn (fun n α H89 => ∃ (i0 : Int), ∃ (g1 : List (Int × Int × Int)), ∃ (s93 : Value), ∃ (f94 : Fp), iterO (fun zz_ => z_hier_Graph_l0 Node y32 zz_.1 zz_.2) n (i0, g1) = some o73 ∧ Has α [(1, pt_ b13 0), (2, pt_ b19 0), (6, pt_ b60 0), (22, .slice a48 n49 c50), (23, i_ (y32.1.length : Int)), (24, i_ i0)] ∧ FrS [b60] H66 H89 ∧ Ow enc_i64_i64_i64 3 H89 s93 g1 f94 ∧ Row H89 b60 [i_ (Node.length : Int), s93] ∧ Inn [] H66 f94) n87 ⟨0, [], (.slice none 0 0), [], hn88, ha_, (FrS.refl (W := [b60]) e68.wf), (Ow.nil (by decide)), r69, Inn.nil⟩ ?_
   rintro n87 α H89 ⟨i0, g1, s93, f94, hi99, hh98, e90, m92, m96, i97⟩ K104 k104
   obtain ⟨n100, z101, rfl, hz102, hn103⟩ := iter_succ hi99
   obtain ⟨β, rfl⟩ := has_ex hh98
   clear hh98
   replace hz102 : z_hier_Graph_l0 Node y32 i0 g1 = some z101 := hz102
   unfold z_hier_Graph_l0 at hz102
   obtain ⟨a105, n106, c107, rfl⟩ := m92.form
   refine w_seqk fun _ k108 => g_' (q_ (.bool (decide (i0 < (y32.1.length : Int)))) (s_nil (k108 _ _ (w_seqk fun _ k109 => ?_))))
   refine w_condp (i0 < (y32.1.length : Int)) (by kernel_rfl) rfl (fun h110 => ?_) (fun h110 => ?_)
   ·have r111 := ite_t h110 hz102
    refine w_skip (k109 _ _ (w_seqk fun _ k112 => w_block (w_seqk fun _ k113 => g_' ?_)))
    obtain ⟨g114, r115⟩ := G_some r111
    have u116 := (u72.fr e90 (hb63.djn m41.lt))
    refine l_' (elp (.slice a48 n49 c50) 7 i0.toNat 0) (aIndexAddr Tryz.prog 76 (.slice a48 n49 c50) (i_ i0)) (u116.sq.idxb (by kernel_rfl) g114 h110) ?_
    refine l_' (.agg #[.int .u32 ((gt y32.1 i0).1), .int .u64 ((gt y32.1 i0).2.1), .int .u32 ((gt y32.1 i0).2.2.1), .int .u32 ((gt y32.1 i0).2.2.2.1), i_ ((gt y32.1 i0).2.2.2.2.1), i_ ((gt y32.1 i0).2.2.2.2.2.1), i_ ((gt y32.1 i0).2.2.2.2.2.2)]) (aLoad Tryz.prog 94 (elp (.slice a48 n49 c50) 7 i0.toNat 0) H89) (u116.sq.ld g114 h110 (by kernel_rfl)) ?_
    refine s_rwk e90.wf [.int .u32 0, .int .u64 0, .int .u32 0, .int .u32 0, i_ 0, i_ 0, i_ 0] (by kernel_rfl) fun b117 H118 e119 hb120 r121 => ?_
    obtain ⟨H123, q124, e125, r126⟩ := Row.store (P := Tryz.prog) (t := 94) (p := 0) e119.wf r121 (.agg #[.int .u32 ((gt y32.1 i0).1), .int .u64 ((gt y32.1 i0).2.1), .int .u32 ((gt y32.1 i0).2.2.1), .int .u32 ((gt y32.1 i0).2.2.2.1), i_ ((gt y32.1 i0).2.2.2.2.1), i_ ((gt y32.1 i0).2.2.2.2.2.1), i_ ((gt y32.1 i0).2.2.2.2.2.2)]) [.int .u32 ((gt y32.1 i0).1), .int .u64 ((gt y32.1 i0).2.1), .int .u32 ((gt y32.1 i0).2.2.1), .int .u32 ((gt y32.1 i0).2.2.2.1), i_ ((gt y32.1 i0).2.2.2.2.1), i_ ((gt y32.1 i0).2.2.2.2.2.1), i_ ((gt y32.1 i0).2.2.2.2.2.2)] (by kernel_rfl) (by kernel_rfl) (one_cons (rfl) (one_cons (rfl) (one_cons (rfl) (one_cons (rfl) (one_cons (rfl) (one_cons (rfl) (one_cons (rfl) (one_nil)))))))) (Nat.le_of_ble_eq_true (by kernel_rfl)) [.int .u32 ((gt y32.1 i0).1), .int .u64 ((gt y32.1 i0).2.1), .int .u32 ((gt y32.1 i0).2.2.1), .int .u32 ((gt y32.1 i0).2.2.2.1), i_ ((gt y32.1 i0).2.2.2.2.1), i_ ((gt y32.1 i0).2.2.2.2.2.1), i_ ((gt y32.1 i0).2.2.2.2.2.2)] (by kernel_rfl)
    refine s_ek (undef) (by kernel_rfl) (map_ok q124) ?_
    refine s_nil (k113 _ _ (w_seqk fun _ k127 => g_' (q_ (pt_ b117 0) ?_)))
    refine l_' (.agg #[.int .u32 ((gt y32.1 i0).1), .int .u64 ((gt y32.1 i0).2.1), .int .u32 ((gt y32.1 i0).2.2.1), .int .u32 ((gt y32.1 i0).2.2.2.1)]) (aLoad Tryz.prog 92 (pt_ b117 0) H123) (r126.ld (by kernel_rfl)) ?_
    obtain ⟨y128, hy129, r130⟩ := bind_some r115
    refine s_ck 36 #[.agg #[.int .u32 ((gt y32.1 i0).1), .int .u64 ((gt y32.1 i0).2.1), .int .u32 ((gt y32.1 i0).2.2.1), .int .u32 ((gt y32.1 i0).2.2.2.1)]] (by kernel_rfl) (c_hier_plain e125.wf hy129) ?_
    rintro _ H131 ⟨rfl, e132⟩
    refine s_nil (k127 _ _ ?_)
    refine w_cond (y128) (by kernel_rfl) rfl (fun h133 => ?_) (fun h133 => ?_)
    ·have r134 := ite_t h133 r130
     refine w_draw [0, 1, 2, 3, 4, 5, 6, 7, 8, 9, 10, 11, 12, 13, 14, 15, 16, 17, 18, 19, 20, 21, 22, 23, 24] (by kernel_rfl) ?_
     refine e_' (pt_ b60 1) ?_
     have u135 := (((m96.ext e119).frS e125 (hb120.djn (r64.ltF.le (ntr e68.next e90.next)))).frS e132 Dj.nil_l)
     refine m_' (.slice a105 n106 c107) (aLoad Tryz.prog 41 (pt_ b60 1) H131) (u135.ld (by kernel_rfl)) ?_
     refine e_' (pt_ b13 0) ?_
     have u136 := ((((((u58.ext e62).frS e68 (hb63.djn (r17.ltF.le (ntr e21.next e40.next)))).frS e90 (hb63.djn (r17.ltF.le (ntr e21.next e40.next)))).ext e119).frS e125 (hb120.djn (r17.ltF.le (ntr (ntr (ntr (ntr e21.next e40.next) e62.next) e68.next) e90.next)))).frS e132 Dj.nil_l)
     refine m_' (hd_Node) (aLoad Tryz.prog 22 (pt_ b13 0) H131) (u136.ld (by kernel_rfl)) ?_
     refine e_' (pt_ b117 4) ?_
     have u137 := (r126.frS e132 Dj.nil_l)
     refine m_' (i_ ((gt y32.1 i0).2.2.2.2.1)) (aLoad Tryz.prog 3 (pt_ b117 4) H131) (u137.ld (by kernel_rfl)) ?_
     obtain ⟨g138, r139⟩ := G_some r134
     have u140 := ((((((u59.ext e62).fr e68 (hb63.djn (h_Node.lt.le (ntr (ntr e15.next e21.next) e40.next)))).fr e90 (hb63.djn (h_Node.lt.le (ntr (ntr e15.next e21.next) e40.next)))).ext e119).fr e125 (hb120.djn (h_Node.lt.le (ntr (ntr (ntr (ntr (ntr e15.next e21.next) e40.next) e62.next) e68.next) e90.next)))).fr e132 Dj.nil_l)
     refine m_' (elp hd_Node 1 ((gt y32.1 i0).2.2.2.2.1).toNat 0) (aIndexAddr Tryz.prog 22 hd_Node (i_ ((gt y32.1 i0).2.2.2.2.1))) (u140.idxb (by kernel_rfl) g138.1 g138.2) ?_
     refine m_' (.int .u32 (gt Node ((gt y32.1 i0).2.2.2.2.1))) (aLoad Tryz.prog 86 (elp hd_Node 1 ((gt y32.1 i0).2.2.2.2.1).toNat 0) H131) (u140.ld g138.1 g138.2 (by kernel_rfl)) ?_
     obtain ⟨g141, r142⟩ := G_some r139
     refine d_w ((gt Node ((gt y32.1 i0).2.2.2.2.1))) (k := .i64) (x := (gt Node ((gt y32.1 i0).2.2.2.2.1))) (by kernel_rfl) (wrap64 g141) ?_
     refine e_' (pt_ b13 0) ?_
     refine m_' (hd_Node) (aLoad Tryz.prog 22 (pt_ b13 0) H131) (u136.ld (by kernel_rfl)) ?_
     refine e_' (pt_ b117 5) ?_
     refine m_' (i_ ((gt y32.1 i0).2.2.2.2.2.1)) (aLoad Tryz.prog 3 (pt_ b117 5) H131) (u137.ld (by kernel_rfl)) ?_
     obtain ⟨g143, r144⟩ := G_some r142
     refine m_' (elp hd_Node 1 ((gt y32.1 i0).2.2.2.2.2.1).toNat 0) (aIndexAddr Tryz.prog 22 hd_Node (i_ ((gt y32.1 i0).2.2.2.2.2.1))) (u140.idxb (by kernel_rfl) g143.1 g143.2) ?_
     refine m_' (.int .u32 (gt Node ((gt y32.1 i0).2.2.2.2.2.1))) (aLoad Tryz.prog 86 (elp hd_Node 1 ((gt y32.1 i0).2.2.2.2.2.1).toNat 0) H131) (u140.ld g143.1 g143.2 (by kernel_rfl)) ?_
     obtain ⟨g145, r146⟩ := G_some r144
     refine d_w ((gt Node ((gt y32.1 i0).2.2.2.2.2.1))) (k := .i64) (x := (gt Node ((gt y32.1 i0).2.2.2.2.2.1))) (by kernel_rfl) (wrap64 g145) ?_
     refine e_' (pt_ b117 0) (e_' (pt_ b117 1) ?_)
     refine m_' (.int .u64 ((gt y32.1 i0).2.1)) (aLoad Tryz.prog 87 (pt_ b117 1) H131) (u137.ld (by kernel_rfl)) ?_
     obtain ⟨g147, r148⟩ := G_some r146
     refine d_w ((gt y32.1 i0).2.1) (k := .i64) (x := (gt y32.1 i0).2.1) (by kernel_rfl) (wrap64 g147) ?_
     refine e_' (.agg #[i_ (gt Node ((gt y32.1 i0).2.2.2.2.1)), i_ (gt Node ((gt y32.1 i0).2.2.2.2.2.1)), i_ ((gt y32.1 i0).2.1)]) ?_
     refine d_owk (enc := enc_i64_i64_i64) (sz := 3) e132.wf [((gt Node ((gt y32.1 i0).2.2.2.2.1)), (gt Node ((gt y32.1 i0).2.2.2.2.2.1)), (gt y32.1 i0).2.1)] 1 (by decide) (fun _ _ => rfl) (fun _ _ => rfl) rfl (by kernel_rfl) fun s149 f150 H151 e152 hf153 hm154 => ?_
     obtain ⟨a155, n156, c157, rfl⟩ := hm154.form
     have u159 := ((((m92.ext e119).fr e125 (hb120.djn m92.lt)).fr e132 Dj.nil_l).ext e152)
     obtain ⟨g160, r161⟩ := G_some r148
     obtain ⟨s162, H163, f164, q168, e165, hm166, hf167⟩ := Ow.append (P := Tryz.prog) 24 e152.wf u159 hm154.sq (fun _ _ => rfl) (at_ := #[41, 41]) rfl rfl (by kernel_rfl) (by kernel_rfl) (by decide) (by have := g160; first | omega | (simp only [List.length_cons, List.length_nil] at this ⊢; omega) | (simp at this ⊢; omega))
     obtain ⟨a169, n170, c171, rfl⟩ := hm166.form
     refine d_ek (.slice a169 n170 c171) (by kernel_rfl) (q168) (st_nil) ?_
     refine e_' (pt_ b60 1) ?_
     have u177 := ((u135.ext e152).frS e165 (i97.djn (r64.ltF.le e68.next)))
     obtain ⟨H173, q174, e175, r176⟩ := Row.store (P := Tryz.prog) (t := 41) (p := 1) e165.wf u177 (.slice a169 n170 c171) [.slice a169 n170 c171] (by kernel_rfl) (by kernel_rfl) (one_cons (hm166.one1) (one_nil)) (Nat.le_of_ble_eq_true (by kernel_rfl)) [i_ (Node.length : Int), .slice a169 n170 c171] (by kernel_rfl)
     refine d_ek (undef) (by kernel_rfl) (map_ok q174) (st_nil) ?_
     refine d_nil ?_
     refine k112 _ _ (g_' ?_)
     obtain ⟨g178, r179⟩ := G_some r161
     refine w_' (i0 + 1) (wrap64 (by have := g178; omega)) ?_
     refine q_ (i_ (i0 + 1)) (s_nil ?_)
     have u180 := (hm166.fr e175 (Dj.symm (hf167.dj (i97.djn (r64.ltF.le e68.next)) (r64.ltF.le (ntr (ntr (ntr (ntr (ntr e68.next e90.next) e119.next) e125.next) e132.next) e152.next)))))
     obtain rfl := Option.some.inj r179
     exact k104 n100 _ _ (Nat.lt_succ_self _) ⟨(i0 + 1), (g1 ++ [((gt Node ((gt y32.1 i0).2.2.2.2.1)), (gt Node ((gt y32.1 i0).2.2.2.2.2.1)), (gt y32.1 i0).2.1)]), (.slice a169 n170 c171), f164, hn103, ha_, (FrS.step e68.wf (FrS.step e68.wf ((FrS.step e68.wf (FrS.step e68.wf ((FrS.step e68.wf (FrS.refl (W := [b60]) e68.wf) e90 Inn.refl').extR e119) e125 (hb120.fresh e90.next)) e132 Inn.nil).extR e152) e165 (i97.fresh (Nat.le_refl _))) e175 Inn.refl'), u180, r176, (Inn.trans (i97.fresh (Nat.le_refl _)) (ntr (ntr (ntr (ntr e90.next e119.next) e125.next) e132.next) e152.next) hf167)⟩
    have r181 := ite_bf h133 r130
    refine w_skip (k112 _ _ (g_' ?_))
    obtain ⟨g182, r183⟩ := G_some r181
    refine w_' (i0 + 1) (wrap64 (by have := g182; omega)) ?_
    refine q_ (i_ (i0 + 1)) (s_nil ?_)
    have u184 := (((m92.ext e119).fr e125 (hb120.djn m92.lt)).fr e132 Dj.nil_l)
    have u185 := (((m96.ext e119).frS e125 (hb120.djn (r64.ltF.le (ntr e68.next e90.next)))).frS e132 Dj.nil_l)
    obtain rfl := Option.some.inj r183
    exact k104 n100 _ _ (Nat.lt_succ_self _) ⟨(i0 + 1), g1, (.slice a105 n106 c107), f94, hn103, ha_, (FrS.step e68.wf (FrS.step e68.wf ((FrS.step e68.wf (FrS.refl (W := [b60]) e68.wf) e90 Inn.refl').extR e119) e125 (hb120.fresh e90.next)) e132 Inn.nil), u184, u185, (i97.fresh (Nat.le_refl _))⟩
   have r186 := ite_f h110 hz102
   refine w_exit (th_exit (th_exit (bl_eq ?_)))
   obtain rfl := Option.some.inj r186
   obtain rfl := it_inr hn103
   exact k85 _ _ ⟨(.slice a105 n106 c107), f94, ha_, (FrS.step e68.wf (FrS.refl (W := [b60]) e68.wf) e90 Inn.refl'), m92, m96, (i97.fresh (Nat.le_refl _))⟩
  obtain ⟨s80, f81, hh86, e77, m79, m83, i84⟩ := hM
  obtain ⟨β, rfl⟩ := has_ex hh86
  clear hh86
  obtain ⟨a187, n188, c189, rfl⟩ := m79.form
  refine k70 _ _ (w_seqk fun _ k190 => g_' (q_ (pt_ b60 1) ?_))
  refine l_' (.slice a187 n188 c189) (aLoad Tryz.prog 41 (pt_ b60 1) H76) (m83.ld (by kernel_rfl)) ?_
  obtain ⟨g191, r192⟩ := G_some r75
  obtain ⟨y193, hy194, r195⟩ := bind_some r192
  refine s_ck 37 #[.slice a187 n188 c189, .func (.func 38) #[] #[]] (by kernel_rfl) (a_sortO (enc := enc_i64_i64_i64) (fun _ => rfl) (by intro x v hv; simp only [enc_i64_i64_i64, List.mem_cons, List.not_mem_nil, or_false] at hv; rcases hv with rfl | rfl | rfl <;> rfl) (by intro x v hv; simp only [enc_i64_i64_i64, List.mem_cons, List.not_mem_nil, or_false] at hv; rcases hv with rfl | rfl | rfl <;> rfl) (c := (fun (a_ b_ : Int × Int × Int) => z_hier_Graph_1 a_.1 a_.2.1 a_.2.2 b_.1 b_.2.1 b_.2.2)) (Go.Proofs.enters_of Tryz.func38 (by kernel_rfl) rfl) (fun x y r hr => (c_hier_Graph_1 aNil_wf hr).mono fun v H' h => h.1) e77.wf m79 g191 hy194) ?_
  rintro _ H196 ⟨rfl, e197, hm198⟩
  refine s_nil (k190 _ _ (w_seqk fun _ k199 => g_' ?_))
  have u200 := (m83.frS e197 (i84.djn (r64.ltF.le e68.next)))
  refine l_' (.agg #[i_ (Node.length : Int), .slice a187 n188 c189]) (aLoad Tryz.prog 43 (pt_ b60 0) H196) (u200.ld (by kernel_rfl)) ?_
  have u205 := (((((r23.frS e40 Dj.nil_l).ext e62).frS e68 (hb63.djn (r23.ltF.le e40.next))).frS e77 (hb63.djn (r23.ltF.le e40.next))).frS e197 (i84.djn (r23.ltF.le (ntr (ntr e40.next e62.next) e68.next))))
  obtain ⟨H201, q202, e203, r204⟩ := Row.store (P := Tryz.prog) (t := 43) (p := 0) e197.wf u205 (.agg #[i_ (Node.length : Int), .slice a187 n188 c189]) [i_ (Node.length : Int), .slice a187 n188 c189] (by kernel_rfl) (by kernel_rfl) (one_cons (rfl) (one_cons (hm198.one1) (one_nil))) (Nat.le_of_ble_eq_true (by kernel_rfl)) [i_ (Node.length : Int), .slice a187 n188 c189] (by kernel_rfl)
  refine s_ek (undef) (by kernel_rfl) (map_ok q202) ?_
  refine q_ (.nilIface) (s_nil (k199 _ _ ?_))
  refine w_ret ?_
  refine b_ret (fn := Tryz.f12) (vs := [.agg #[i_ (Node.length : Int), .slice a187 n188 c189], .nilIface]) (aRes_cell (Eq.trans (b := aLoad Tryz.prog 43 (pt_ b19 0) H201) (by kernel_rfl) (r204.ld (by kernel_rfl))) (aRes_tmp (by kernel_rfl) (rfl))) ?_
  have u206 := (hm198.fr e203 (Dj.symm (i84.djn (r23.ltF.le (ntr (ntr e40.next e62.next) e68.next)))))
  obtain rfl := Option.some.inj r195
  exact ⟨(.slice a187 n188 c189), f81, (.nilIface), [], rfl, (FrS.step wf (FrS.step wf (FrS.step wf (FrS.step wf ((FrS.step wf (((FrS.refl (W := []) wf).extR e15).extR e21) e40 Inn.nil).extR e62) e68 (hb63.fresh (ntr (ntr e15.next e21.next) e40.next))) e77 (hb63.fresh (ntr (ntr e15.next e21.next) e40.next))) e197 (i84.fresh (ntr (ntr (ntr (ntr e15.next e21.next) e40.next) e62.next) e68.next))) e203 (hb22.fresh e15.next)), u206, Ev.nil, (i84.fresh (ntr (ntr (ntr (ntr e15.next e21.next) e40.next) e62.next) e68.next)), Inn.nil, Dj.nil_r⟩
 have r207 := ite_f h53 r34
 refine l_' (.bool true) (aBin Tryz.prog .neq 30 (.tmp 14) (.const .nilIface) (.iface t54 x55) .nilIface) (aBin_nnil (by kernel_rfl)) ?_
 refine s_nil (k52 _ _ ?_)
 refine w_cond true (by kernel_rfl) rfl (fun _ => ?_) (fun h => by cases h)
 refine w_seqk fun _ k208 => g_' (q_ (.agg #[i_ 0, .slice none 0 0]) (q_ (.iface t54 x55) ?_))
 have u213 := (r23.frS e40 Dj.nil_l)
 obtain ⟨H209, q210, e211, r212⟩ := Row.store (P := Tryz.prog) (t := 43) (p := 0) e40.wf u213 (.agg #[i_ 0, .slice none 0 0]) [i_ 0, .slice none 0 0] (by kernel_rfl) (by kernel_rfl) (one_cons (rfl) (one_cons (rfl) (one_nil))) (Nat.le_of_ble_eq_true (by kernel_rfl)) [i_ 0, .slice none 0 0] (by kernel_rfl)
 refine s_ek (undef) (by kernel_rfl) (map_ok q210) ?_
 refine q_ (.iface t54 x55) (s_nil (k208 _ _ ?_))
 refine w_ret (th_ret ?_)
 refine b_ret (fn := Tryz.f12) (vs := [.agg #[i_ 0, .slice none 0 0], .iface t54 x55]) (aRes_cell (Eq.trans (b := aLoad Tryz.prog 43 (pt_ b19 0) H209) (by kernel_rfl) (r212.ld (by kernel_rfl))) (aRes_tmp (by kernel_rfl) (rfl))) ?_
 have u214 := (m42.fr e211 (Dj.symm (i44.djn r23.ltF)))
 obtain rfl := Option.some.inj r207
 exact ⟨(.slice none 0 0), [], (.iface t54 x55), f38, rfl, (FrS.step wf (FrS.step wf (((FrS.refl (W := []) wf).extR e15).extR e21) e40 Inn.nil) e211 (hb22.fresh e15.next)), (Ow.nil (by decide)), u214, Inn.nil, (i44.fresh (ntr e15.next e21.next)), Dj.nil_l⟩
theorem c_hier_Ends {H : AH} {hd_Node : Value} {fp_Node : Fp} {hd_UpFirst : Value} {fp_UpFirst : Fp} {hd_Up : Value} {fp_Up : Fp} {hd_DownFirst : Value} {fp_DownFirst : Fp} {hd_Down : Value} {fp_Down : Fp} {Node : List (Int)} {UpFirst : List (Int)} {Up : List (Int × Int × Int × Int)} {DownFirst : List (Int)} {Down : List (Int × Int × Int × Int)} {i : Int} {r : Int × Int × Er}
    (wf : WF H) (h_Node : Sq (encI .u32) 1 H hd_Node Node fp_Node) (h_UpFirst : Sq (encI .u32) 1 H hd_UpFirst UpFirst fp_UpFirst) (h_Up : Sq enc_u32_u64_u32_u32 4 H hd_Up Up fp_Up) (h_DownFirst : Sq (encI .u32) 1 H hd_DownFirst DownFirst fp_DownFirst) (h_Down : Sq enc_u32_u64_u32_u32 4 H hd_Down Down fp_Down) (hr : z_hier_Ends Node UpFirst Up DownFirst Down i = some r) :
    ACalls Tryz.prog 10 #[.agg #[hd_Node, hd_UpFirst, hd_Up, hd_DownFirst, hd_Down], i_ i] H fun v H' => ∃ (v3 : Value) (f4 : Fp), v = .tuple #[i_ r.1, i_ r.2.1, v3] ∧ FrS [] H H' ∧ Ev 73 68 H' v3 r.2.2 f4 ∧ Inn [] H f4 := by
 refine acalls_of_body mixed Tryz.func10 rfl (Nat.le_of_ble_eq_true rfl) ?_
 unfold z_hier_Ends at hr
 refine w_seqk fun _ k6 => g_' ?_
 refine s_rwl wf [hd_Node, hd_UpFirst, hd_Up, hd_DownFirst, hd_Down] (one_cons (h_Node.one1) (one_cons (h_UpFirst.one1) (one_cons (h_Up.one1) (one_cons (h_DownFirst.one1) (one_cons (h_Down.one1) (one_nil)))))) (by kernel_rfl) fun b7 H8 e9 hb10 r11 => ?_
 refine q_ (i_ 0) (q_ (i_ 0) (q_ (.nilIface) (s_nil (k6 _ _ (w_seqk fun _ k13 => g_' ?_)))))
 refine l_' (.agg #[hd_Node, hd_UpFirst, hd_Up, hd_DownFirst, hd_Down]) (aLoad Tryz.prog 25 (pt_ b7 0) H8) (r11.ld (by kernel_rfl)) ?_
 have u14 := (h_Node.ext e9)
 have u15 := (h_UpFirst.ext e9)
 have u16 := (h_Up.ext e9)
 have u17 := (h_DownFirst.ext e9)
 have u18 := (h_Down.ext e9)
 obtain ⟨y19, hy20, r21⟩ := bind_some hr
 refine s_ck 26 #[.agg #[hd_Node, hd_UpFirst, hd_Up, hd_DownFirst, hd_Down]] (by kernel_rfl) (c_hier_ends e9.wf u14 u15 u16 u17 u18 hy20) ?_
 rintro _ H26 ⟨s22, f23, v24, f25, rfl, e27, m28, m29, i30, i31, d32⟩
 obtain ⟨a35, n36, c37, rfl⟩ := m28.form
 refine q_ (.tuple #[.slice a35 n36 c37, v24]) (q_ (.slice a35 n36 c37) (q_ (v24) (q_ (.slice a35 n36 c37) (q_ (v24) (s_nil (k13 _ _ (w_seqk fun _ k38 => w_seqk fun _ k39 => g_' (q_ (v24) ?_))))))))
 rcases (m29).cases with ⟨h40, rfl⟩ | ⟨h40, t41, x42, rfl⟩
 ·have r43 := ite_t h40 r21
  refine q_ (.bool false) (s_nil (k39 _ _ ?_))
  refine w_cond false (by kernel_rfl) rfl (fun h => by cases h) (fun _ => ?_)
  refine w_skip (k38 _ _ (w_seqk fun _ k44 => w_seqk fun _ k45 => ?_))
  obtain ⟨o46, hx47, r48⟩ := bind_some r43
  refine w_mid (fun α H49 => Has α [(1, i_ i), (7, .slice a35 n36 c37), (24, .bool o46)] ∧ H26 = H49) (fun _ k51 => ?_) (fun α H49 hM => ?_)
  ·refine g_' (q_ (i_ i) ?_)
   refine s_b (i < 0) (by kernel_rfl) (fun h53 => ?_) (fun h53 => ?_)
   ·have r54 := ite_t h53 hx47
    refine q_ (.bool true) (n_' (n_' (n_' (n_' (q_ (.bool true) (s_nil ?_))))))
    obtain rfl := Option.some.inj r54
    exact k51 _ _ ⟨ha_, rfl⟩
   have r55 := ite_f h53 hx47
   refine q_ (.bool false) (q_ (i_ i) (q_ (.slice a35 n36 c37) ?_))
   refine l_' (i_ (y19.1.length : Int)) (aLen Tryz.prog 76 (.slice a35 n36 c37) H26) (m28.sq.lenb (by kernel_rfl)) ?_
   refine q_ (.bool (decide (i ≥ (y19.1.length : Int)))) (q_ (.bool (decide (i ≥ (y19.1.length : Int)))) (s_nil ?_))
   obtain rfl := Option.some.inj r55
   exact k51 _ _ ⟨ha_, rfl⟩
  obtain ⟨hh52, rfl⟩ := hM
  obtain ⟨β, rfl⟩ := has_ex hh52
  clear hh52
  refine k45 _ _ ?_
  refine w_cond (o46) (by kernel_rfl) rfl (fun h56 => ?_) (fun h56 => ?_)
  ·have r57 := ite_t h56 r48
   refine w_seqk fun _ k58 => g_' (q_ (.iface 73 (i_ 1)) (q_ (i_ 0) (q_ (i_ 0) (q_ (.iface 73 (i_ 1)) (s_nil (k58 _ _ ?_))))))
   refine w_ret (th_ret ?_)
   refine b_ret (fn := Tryz.f10) (vs := [i_ 0, i_ 0, .iface 73 (i_ 1)]) (aRes_tmp (by kernel_rfl) (aRes_tmp (by kernel_rfl) (aRes_tmp (by kernel_rfl) (rfl)))) ?_
   obtain rfl := Option.some.inj r57
   exact ⟨(.iface 73 (i_ 1)), [], rfl, (FrS.step wf ((FrS.refl (W := []) wf).extR e9) e27 Inn.nil), Ev.no, Inn.nil⟩
  have r59 := ite_bf h56 r48
  refine w_skip (k44 _ _ (w_seqk fun _ k60 => ?_))
  refine w_draw [0, 1, 2, 3, 4, 5, 6, 7, 8, 9, 10, 11, 12] (by kernel_rfl) ?_
  refine e_' (.slice a35 n36 c37) (e_' (i_ i) ?_)
  obtain ⟨g61, r62⟩ := G_some r59
  refine m_' (elp (.slice a35 n36 c37) 7 i.toNat 0) (aIndexAddr Tryz.prog 76 (.slice a35 n36 c37) (i_ i)) (m28.sq.idxb (by kernel_rfl) g61.1 g61.2) ?_
  refine m_' (elp (.slice a35 n36 c37) 7 i.toNat 4) (aFieldAddr Tryz.prog 94 (elp (.slice a35 n36 c37) 7 i.toNat 0) 1) (Sq.fldq (d := 4) m28.sq g61.1 g61.2 (by kernel_rfl)) ?_
  refine m_' (i_ ((gt y19.1 i).2.2.2.2.1)) (aLoad Tryz.prog 3 (elp (.slice a35 n36 c37) 7 i.toNat 4) H26) (m28.sq.ld g61.1 g61.2 (by kernel_rfl)) ?_
  refine e_' (.slice a35 n36 c37) (e_' (i_ i) ?_)
  refine m_' (elp (.slice a35 n36 c37) 7 i.toNat 0) (aIndexAddr Tryz.prog 76 (.slice a35 n36 c37) (i_ i)) (m28.sq.idxb (by kernel_rfl) g61.1 g61.2) ?_
  refine m_' (elp (.slice a35 n36 c37) 7 i.toNat 5) (aFieldAddr Tryz.prog 94 (elp (.slice a35 n36 c37) 7 i.toNat 0) 2) (Sq.fldq (d := 5) m28.sq g61.1 g61.2 (by kernel_rfl)) ?_
  refine m_' (i_ ((gt y19.1 i).2.2.2.2.2.1)) (aLoad Tryz.prog 3 (elp (.slice a35 n36 c37) 7 i.toNat 5) H26) (m28.sq.ld g61.1 g61.2 (by kernel_rfl)) ?_
  refine e_' (i_ ((gt y19.1 i).2.2.2.2.1)) (e_' (i_ ((gt y19.1 i).2.2.2.2.2.1)) (e_' (.nilIface) ?_))
  refine d_nil ?_
  refine k60 _ _ ?_
  refine w_ret ?_
  refine b_ret (fn := Tryz.f10) (vs := [i_ ((gt y19.1 i).2.2.2.2.1), i_ ((gt y19.1 i).2.2.2.2.2.1), .nilIface]) (aRes_tmp (by kernel_rfl) (aRes_tmp (by kernel_rfl) (aRes_tmp (by kernel_rfl) (rfl)))) ?_
  obtain rfl := Option.some.inj r62
  exact ⟨(.nilIface), [], rfl, (FrS.step wf ((FrS.refl (W := []) wf).extR e9) e27 Inn.nil), Ev.nil, Inn.nil⟩
 have r63 := ite_f h40 r21
 refine l_' (.bool true) (aBin Tryz.prog .neq 30 (.tmp 14) (.const .nilIface) (.iface t41 x42) .nilIface) (aBin_nnil (by kernel_rfl)) ?_
 refine s_nil (k39 _ _ ?_)
 refine w_cond true (by kernel_rfl) rfl (fun _ => ?_) (fun h => by cases h)
 refine w_seqk fun _ k64 => g_' (q_ (.iface t41 x42) (q_ (i_ 0) (q_ (i_ 0) (q_ (.iface t41 x42) (s_nil (k64 _ _ ?_))))))
 refine w_ret (th_ret ?_)
 refine b_ret (fn := Tryz.f10) (vs := [i_ 0, i_ 0, .iface t41 x42]) (aRes_tmp (by kernel_rfl) (aRes_tmp (by kernel_rfl) (aRes_tmp (by kernel_rfl) (rfl)))) ?_
 obtain rfl := Option.some.inj r63
 exact ⟨(.iface t41 x42), f25, rfl, (FrS.step wf ((FrS.refl (W := []) wf).extR e9) e27 Inn.nil), m29, (i31.fresh e9.next)⟩
theorem c_hier_Check {H : AH} {hd_Node : Value} {fp_Node : Fp} {hd_UpFirst : Value} {fp_UpFirst : Fp} {hd_Up : Value} {fp_Up : Fp} {hd_DownFirst : Value} {fp_DownFirst : Fp} {hd_Down : Value} {fp_Down : Fp} {Node : List (Int)} {UpFirst : List (Int)} {Up : List (Int × Int × Int × Int)} {DownFirst : List (Int)} {Down : List (Int × Int × Int × Int)} {r : Er}
    (wf : WF H) (h_Node : Sq (encI .u32) 1 H hd_Node Node fp_Node) (h_UpFirst : Sq (encI .u32) 1 H hd_UpFirst UpFirst fp_UpFirst) (h_Up : Sq enc_u32_u64_u32_u32 4 H hd_Up Up fp_Up) (h_DownFirst : Sq (encI .u32) 1 H hd_DownFirst DownFirst fp_DownFirst) (h_Down : Sq enc_u32_u64_u32_u32 4 H hd_Down Down fp_Down) (hr : z_hier_Check Node UpFirst Up DownFirst Down = some r) :
    ACalls Tryz.prog 7 #[.agg #[hd_Node, hd_UpFirst, hd_Up, hd_DownFirst, hd_Down]] H fun v H' => ∃ (v3 : Value) (f4 : Fp), v = v3 ∧ FrS [] H H' ∧ Ev 73 68 H' v3 r f4 ∧ Inn [] H f4 := by
 refine acalls_of_body mixed Tryz.func7 rfl (Nat.le_of_ble_eq_true rfl) ?_
 unfold z_hier_Check at hr
 refine w_seqk fun _ k6 => g_' ?_
 refine s_rwl wf [hd_Node, hd_UpFirst, hd_Up, hd_DownFirst, hd_Down] (one_cons (h_Node.one1) (one_cons (h_UpFirst.one1) (one_cons (h_Up.one1) (one_cons (h_DownFirst.one1) (one_cons (h_Down.one1) (one_nil)))))) (by kernel_rfl) fun b7 H8 e9 hb10 r11 => ?_
 refine q_ (.nilIface) (s_nil (k6 _ _ (w_seqk fun _ k13 => g_' ?_)))
 refine l_' (.agg #[hd_Node, hd_UpFirst, hd_Up, hd_DownFirst, hd_Down]) (aLoad Tryz.prog 25 (pt_ b7 0) H8) (r11.ld (by kernel_rfl)) ?_
 have u14 := (h_Node.ext e9)
 have u15 := (h_UpFirst.ext e9)
 have u16 := (h_Up.ext e9)
 have u17 := (h_DownFirst.ext e9)
 have u18 := (h_Down.ext e9)
 obtain ⟨y19, hy20, r21⟩ := bind_some hr
 refine s_ck 26 #[.agg #[hd_Node, hd_UpFirst, hd_Up, hd_DownFirst, hd_Down]] (by kernel_rfl) (c_hier_ends e9.wf u14 u15 u16 u17 u18 hy20) ?_
 rintro _ H26 ⟨s22, f23, v24, f25, rfl, e27, m28, m29, i30, i31, d32⟩
 obtain ⟨a35, n36, c37, rfl⟩ := m28.form
 refine q_ (.tuple #[.slice a35 n36 c37, v24]) (q_ (.slice a35 n36 c37) (q_ (v24) (q_ (.slice a35 n36 c37) (q_ (v24) (s_nil (k13 _ _ (w_seqk fun _ k38 => g_' (q_ (v24) (q_ (v24) (s_nil (k38 _ _ ?_)))))))))))
 refine w_ret ?_
 refine b_ret (fn := Tryz.f7) (vs := [v24]) (aRes_tmp (by kernel_rfl) (rfl)) ?_
 obtain rfl := Option.some.inj r21
 exact ⟨(v24), f25, rfl, (FrS.step wf ((FrS.refl (W := []) wf).extR e9) e27 Inn.nil), m29, (i31.fresh e9.next)⟩
theorem c_viaductref03_SameArcs {H : AH} {hd_a : Value} {fp_a : Fp} {hd_b : Value} {fp_b : Fp} {a : List (Int × Int × Int)} {b : List (Int × Int × Int)} {r : Bool}
    (wf : WF H) (h_a : Sq enc_i64_i64_i64 3 H hd_a a fp_a) (h_b : Sq enc_i64_i64_i64 3 H hd_b b fp_b) (hr : z_viaductref03_SameArcs a b = some r) :
    ACalls Tryz.prog 40 #[hd_a, hd_b] H fun v H' => v = .bool r ∧ H = H' := by
 refine acalls_of_body mixed Tryz.func40 rfl (Nat.le_of_ble_eq_true rfl) ?_
 unfold z_viaductref03_SameArcs at hr
 refine w_seqk fun _ k1 => g_' (q_ (.bool false) (s_nil (k1 _ _ (w_seqk fun _ k2 => w_seqk fun _ k3 => g_' (q_ (hd_a) ?_)))))
 refine l_' (i_ (a.length : Int)) (aLen Tryz.prog 41 hd_a H) (h_a.lenb (by kernel_rfl)) ?_
 refine q_ (hd_b) ?_
 refine l_' (i_ (b.length : Int)) (aLen Tryz.prog 41 hd_b H) (h_b.lenb (by kernel_rfl)) ?_
 refine q_ (.bool (!decide ((a.length : Int) = (b.length : Int)))) (s_nil (k3 _ _ ?_))
 refine w_condn ((a.length : Int) = (b.length : Int)) (by kernel_rfl) rfl (fun h4 => ?_) (fun h4 => ?_)
 ·have r5 := ite_f h4 hr
  refine w_seqk fun _ k6 => g_' (q_ (.bool false) (s_nil (k6 _ _ ?_)))
  refine w_ret (th_ret ?_)
  refine b_ret (fn := Tryz.f40) (vs := [.bool false]) (aRes_tmp (by kernel_rfl) (rfl)) ?_
  obtain rfl := Option.some.inj r5
  exact ⟨rfl, rfl⟩
 have r7 := ite_t h4 hr
 refine w_skip (k2 _ _ (w_seqk fun _ k8 => w_seqk fun _ k9 => g_' (q_ (hd_a) ?_)))
 refine l_' (i_ (a.length : Int)) (aLen Tryz.prog 41 hd_a H) (h_a.lenb (by kernel_rfl)) ?_
 refine q_ (i_ 0) (s_nil (k9 _ _ ?_))
 obtain ⟨z13, hx11, r12⟩ := bind_some r7
 refine w_mid (fun α H14 => ∃ o10, z13 = Sum.inr o10 ∧ Has α [] ∧ H = H14) (fun _ k16 => ?_) (fun α H14 hM => ?_)
 ·refine w_block ?_
  obtain ⟨n18, hn19⟩ := loopO_iff.1 hx11
  refine w_loopn (fun n α H20 => ∃ (i0 : Int), iterO (fun zz_ => z_viaductref03_SameArcs_l0 a b zz_) n i0 = some z13 ∧ Has α [(0, hd_a), (1, hd_b), (12, i_ (a.length : Int)), (13, i_ i0)] ∧ H = H20) n18 ⟨0, hn19, ha_, rfl⟩ ?_
  rintro n18 α H20 ⟨i0, hi23, hh22, rfl⟩ K28 k28
  obtain ⟨n24, z25, rfl, hz26, hn27⟩ := iter_succ hi23
  obtain ⟨β, rfl⟩ := has_ex hh22
  clear hh22
  replace hz26 : z_viaductref03_SameArcs_l0 a b i0 = some z25 := hz26
  unfold z_viaductref03_SameArcs_l0 at hz26
  refine w_seqk fun _ k29 => g_' (q_ (.bool (decide (i0 < (a.length : Int)))) (s_nil (k29 _ _ (w_seqk fun _ k30 => ?_))))
  refine w_condp (i0 < (a.length : Int)) (by kernel_rfl) rfl (fun h31 => ?_) (fun h31 => ?_)
  ·have r32 := ite_t h31 hz26
   refine w_skip (k30 _ _ (w_seqk fun _ k33 => w_block (w_seqk fun _ k34 => g_' (q_ (i_ i0) (q_ (i_ i0) (s_nil (k34 _ _ (w_seqk fun _ k35 => ?_))))))))
   refine w_draw [0, 1, 2, 3, 4, 5, 6, 7, 8] (by kernel_rfl) ?_
   refine e_' (hd_a) (e_' (i_ i0) ?_)
   obtain ⟨g36, r37⟩ := G_some r32
   refine m_' (elp hd_a 3 i0.toNat 0) (aIndexAddr Tryz.prog 41 hd_a (i_ i0)) (h_a.idxb (by kernel_rfl) g36 h31) ?_
   refine m_' (.agg #[i_ ((gt a i0).1), i_ ((gt a i0).2.1), i_ ((gt a i0).2.2)]) (aLoad Tryz.prog 63 (elp hd_a 3 i0.toNat 0) H) (h_a.ld g36 h31 (by kernel_rfl)) ?_
   refine e_' (hd_b) (e_' (i_ i0) ?_)
   obtain ⟨g38, r39⟩ := G_some r37
   refine m_' (elp hd_b 3 i0.toNat 0) (aIndexAddr Tryz.prog 41 hd_b (i_ i0)) (h_b.idxb (by kernel_rfl) g36 g38) ?_
   refine m_' (.agg #[i_ ((gt b i0).1), i_ ((gt b i0).2.1), i_ ((gt b i0).2.2)]) (aLoad Tryz.prog 63 (elp hd_b 3 i0.toNat 0) H) (h_b.ld g36 g38 (by kernel_rfl)) ?_
   refine m_' (.bool (!decide (((gt a i0).1) = ((gt b i0).1) ∧ ((gt a i0).2.1) = ((gt b i0).2.1) ∧ ((gt a i0).2.2) = ((gt b i0).2.2)))) (aBin Tryz.prog .neq 63 (.tmp 19) (.tmp 23) (.agg #[i_ ((gt a i0).1), i_ ((gt a i0).2.1), i_ ((gt a i0).2.2)]) (.agg #[i_ ((gt b i0).1), i_ ((gt b i0).2.1), i_ ((gt b i0).2.2)])) (aBin_neq63 _ _ ((gt a i0).1) ((gt a i0).2.1) ((gt a i0).2.2) ((gt b i0).1) ((gt b i0).2.1) ((gt b i0).2.2)) ?_
   refine d_nil ?_
   refine k35 _ _ ?_
   refine w_condn (((gt a i0).1) = ((gt b i0).1) ∧ ((gt a i0).2.1) = ((gt b i0).2.1) ∧ ((gt a i0).2.2) = ((gt b i0).2.2)) (by kernel_rfl) rfl (fun h40 => ?_) (fun h40 => ?_)
   ·have r41 := ite_f h40 r39
    refine w_seqk fun _ k42 => g_' (q_ (.bool false) (s_nil (k42 _ _ ?_)))
    refine w_ret (bl_ret (th_ret (th_ret (bl_ret (th_ret (th_ret ?_))))))
    obtain ⟨v43, hv44, hz45⟩ := map_some r41
    subst hz45
    obtain rfl := it_inr hn27
    have hq46 := elim_inl r12
    rw [hq46] at hv44
    refine b_ret (fn := Tryz.f40) (vs := [.bool false]) (aRes_tmp (by kernel_rfl) (rfl)) ?_
    obtain rfl := Option.some.inj hv44
    exact ⟨rfl, rfl⟩
   have r47 := ite_t h40 r39
   refine w_skip (k33 _ _ (g_' ?_))
   obtain ⟨g48, r49⟩ := G_some r47
   refine w_' (i0 + 1) (wrap64 (by have := g48; omega)) ?_
   refine q_ (i_ (i0 + 1)) (s_nil ?_)
   obtain rfl := Option.some.inj r49
   exact k28 n24 _ _ (Nat.lt_succ_self _) ⟨(i0 + 1), hn27, ha_, rfl⟩
  have r50 := ite_f h31 hz26
  refine w_exit (th_exit (th_exit (bl_eq ?_)))
  obtain rfl := Option.some.inj r50
  obtain rfl := it_inr hn27
  exact k16 _ _ ⟨_, rfl, trivial, rfl⟩
 obtain ⟨o10, rfl, hh17, rfl⟩ := hM
 have r51 := elim_inr r12
 obtain ⟨β, rfl⟩ := has_ex hh17
 clear hh17
 refine k8 _ _ (w_seqk fun _ k52 => g_' (q_ (.bool true) (s_nil (k52 _ _ ?_))))
 refine w_ret ?_
 refine b_ret (fn := Tryz.f40) (vs := [.bool true]) (aRes_tmp (by kernel_rfl) (rfl)) ?_
 obtain rfl := Option.some.inj r51
 exact ⟨rfl, rfl⟩
theorem c_viaductref03_Same {H : AH} {hd_Arcs : Value} {fp_Arcs : Fp} {hd_Arcs_ : Value} {fp_Arcs_ : Fp} {N_ : Int} {Arcs : List (Int × Int × Int)} {N_2 : Int} {Arcs_ : List (Int × Int × Int)} {r : Bool}
    (wf : WF H) (h_Arcs : Sq enc_i64_i64_i64 3 H hd_Arcs Arcs fp_Arcs) (h_Arcs_ : Sq enc_i64_i64_i64 3 H hd_Arcs_ Arcs_ fp_Arcs_) (hr : z_viaductref03_Same N_ Arcs N_2 Arcs_ = some r) :
    ACalls Tryz.prog 14 #[.agg #[i_ N_, hd_Arcs], .agg #[i_ N_2, hd_Arcs_]] H fun v H' => v = .bool r ∧ FrS [] H H' := by
 refine acalls_of_body mixed Tryz.func14 rfl (Nat.le_of_ble_eq_true rfl) ?_
 unfold z_viaductref03_Same at hr
 refine w_seqk fun _ k1 => g_' ?_
 refine s_rwl wf [i_ N_, hd_Arcs] (one_cons (rfl) (one_cons (h_Arcs.one1) (one_nil))) (by kernel_rfl) fun b2 H3 e4 hb5 r6 => ?_
 have u13 := (h_Arcs_.ext e4)
 refine s_rwl e4.wf [i_ N_2, hd_Arcs_] (one_cons (rfl) (one_cons (u13.one1) (one_nil))) (by kernel_rfl) fun b8 H9 e10 hb11 r12 => ?_
 refine q_ (.bool false) (s_nil (k1 _ _ (w_seqk fun _ k15 => g_' (q_ (pt_ b2 0) ?_))))
 have u16 := (r6.ext e10)
 refine l_' (i_ N_) (aLoad Tryz.prog 3 (pt_ b2 0) H9) (u16.ld (by kernel_rfl)) ?_
 refine q_ (pt_ b8 0) ?_
 refine l_' (i_ N_2) (aLoad Tryz.prog 3 (pt_ b8 0) H9) (r12.ld (by kernel_rfl)) ?_
 refine s_b (N_ = N_2) (by kernel_rfl) (fun h17 => ?_) (fun h17 => ?_)
 ·have r18 := ite_t h17 hr
  refine q_ (.bool true) (q_ (pt_ b2 1) ?_)
  refine l_' (hd_Arcs) (aLoad Tryz.prog 41 (pt_ b2 1) H9) (u16.ld (by kernel_rfl)) ?_
  refine q_ (pt_ b8 1) ?_
  refine l_' (hd_Arcs_) (aLoad Tryz.prog 41 (pt_ b8 1) H9) (r12.ld (by kernel_rfl)) ?_
  have u19 := ((h_Arcs.ext e4).ext e10)
  have u20 := (u13.ext e10)
  obtain ⟨y21, hy22, r23⟩ := bind_some r18
  refine s_ck 40 #[hd_Arcs, hd_Arcs_] (by kernel_rfl) (c_viaductref03_SameArcs e10.wf u19 u20 hy22) ?_
  rintro _ _ ⟨rfl, rfl⟩
  refine q_ (.bool y21) (q_ (.bool y21) (s_nil (k15 _ _ ?_)))
  refine w_ret ?_
  refine b_ret (fn := Tryz.f14) (vs := [.bool y21]) (aRes_tmp (by kernel_rfl) (rfl)) ?_
  obtain rfl := Option.some.inj r23
  exact ⟨rfl, (((FrS.refl (W := []) wf).extR e4).extR e10)⟩
 have r26 := ite_f h17 hr
 refine q_ (.bool false) (n_' (n_' (n_' (n_' (n_' (q_ (.bool false) (q_ (.bool false) (s_nil (k15 _ _ ?_)))))))))
 refine w_ret ?_
 refine b_ret (fn := Tryz.f14) (vs := [.bool false]) (aRes_tmp (by kernel_rfl) (rfl)) ?_
 obtain rfl := Option.some.inj r26
 exact ⟨rfl, (((FrS.refl (W := []) wf).extR e4).extR e10)⟩
theorem c_viaductlaw10_awake {H : AH} {r : Bool}
    (wf : WF H) (hr : z_viaductlaw10_awake = some r) :
    ACalls Tryz.prog 4 #[] H fun v H' => v = .bool r ∧ FrS [] H H' := by
 refine acalls_of_body mixed Tryz.func4 rfl (Nat.le_of_ble_eq_true rfl) ?_
 unfold z_viaductlaw10_awake at hr
 refine w_seqk fun _ k1 => g_' (q_ (.bool false) (s_nil (k1 _ _ (w_seqk fun _ k2 => g_' ?_))))
 obtain ⟨y3, hy4, r5⟩ := bind_some hr
 refine s_ck 21 #[] (by kernel_rfl) (c_viaductref10_Three wf hy4) ?_
 rintro _ H16 ⟨s6, f7, s8, f9, s10, f11, s12, f13, s14, f15, rfl, e17, m18, m19, m20, m21, m22, i23, i24, i25, i26, i27, d28, d29, d30, d31, d32, d33, d34, d35, d36, d37⟩
 obtain ⟨a43, n44, c45, rfl⟩ := m18.form
 obtain ⟨a46, n47, c48, rfl⟩ := m19.form
 obtain ⟨a49, n50, c51, rfl⟩ := m20.form
 obtain ⟨a52, n53, c54, rfl⟩ := m21.form
 obtain ⟨a55, n56, c57, rfl⟩ := m22.form
 obtain ⟨y58, hy59, r60⟩ := bind_some r5
 refine s_ck 12 #[.agg #[.slice a43 n44 c45, .slice a46 n47 c48, .slice a49 n50 c51, .slice a52 n53 c54, .slice a55 n56 c57]] (by kernel_rfl) (c_hier_Graph e17.wf m18.sq m19.sq m20.sq m21.sq m22.sq hy59) ?_
 rintro _ H65 ⟨s61, f62, v63, f64, rfl, e66, m67, m68, i69, i70, d71⟩
 obtain ⟨a74, n75, c76, rfl⟩ := m67.form
 refine q_ (.tuple #[.agg #[i_ y58.1, .slice a74 n75 c76], v63]) (q_ (.agg #[i_ y58.1, .slice a74 n75 c76]) (q_ (v63) ?_))
 refine s_rwk e66.wf [i_ 0, .slice none 0 0] (by kernel_rfl) fun b77 H78 e79 hb80 r81 => ?_
 have u87 := (m67.ext e79)
 obtain ⟨H83, q84, e85, r86⟩ := Row.store (P := Tryz.prog) (t := 43) (p := 0) e79.wf r81 (.agg #[i_ y58.1, .slice a74 n75 c76]) [i_ y58.1, .slice a74 n75 c76] (by kernel_rfl) (by kernel_rfl) (one_cons (rfl) (one_cons (u87.one1) (one_nil))) (Nat.le_of_ble_eq_true (by kernel_rfl)) [i_ y58.1, .slice a74 n75 c76] (by kernel_rfl)
 refine s_ek (undef) (by kernel_rfl) (map_ok q84) ?_
 refine q_ (v63) (s_nil (k2 _ _ (w_seqk fun _ k88 => g_' ?_)))
 obtain ⟨y89, hy90, r91⟩ := bind_some r60
 refine s_ck 21 #[] (by kernel_rfl) (c_viaductref10_Three e85.wf hy90) ?_
 rintro _ H102 ⟨s92, f93, s94, f95, s96, f97, s98, f99, s100, f101, rfl, e103, m104, m105, m106, m107, m108, i109, i110, i111, i112, i113, d114, d115, d116, d117, d118, d119, d120, d121, d122, d123⟩
 obtain ⟨a129, n130, c131, rfl⟩ := m104.form
 obtain ⟨a132, n133, c134, rfl⟩ := m105.form
 obtain ⟨a135, n136, c137, rfl⟩ := m106.form
 obtain ⟨a138, n139, c140, rfl⟩ := m107.form
 obtain ⟨a141, n142, c143, rfl⟩ := m108.form
 obtain ⟨y144, hy145, r146⟩ := bind_some r91
 refine s_ck 10 #[.agg #[.slice a129 n130 c131, .slice a132 n133 c134, .slice a135 n136 c137, .slice a138 n139 c140, .slice a141 n142 c143], i_ 2] (by kernel_rfl) (c_hier_Ends e103.wf m104.sq m105.sq m106.sq m107.sq m108.sq hy145) ?_
 rintro _ H149 ⟨v147, f148, rfl, e150, m151, i152⟩
 refine q_ (.tuple #[i_ y144.1, i_ y144.2.1, v147]) (q_ (i_ y144.1) (q_ (i_ y144.2.1) (q_ (v147) (q_ (i_ y144.1) (q_ (i_ y144.2.1) (q_ (v147) (s_nil (k88 _ _ (w_seqk fun _ k154 => g_' (q_ (v63) ?_))))))))))
 have u158 := ((((m68.ext e79).fr e85 (hb80.djn m68.lt)).fr e103 Dj.nil_l).fr e150 Dj.nil_l)
 rcases (u158).cases with ⟨h155, rfl⟩ | ⟨h155, t156, x157, rfl⟩
 ·have r159 := ite_t h155 r146
  refine q_ (.bool true) (q_ (.bool true) (q_ (v147) ?_))
  rcases (m151).cases with ⟨h160, rfl⟩ | ⟨h160, t161, x162, rfl⟩
  ·have r163 := ite_t h160 r159
   refine q_ (.bool true) (q_ (.bool true) (q_ (.bool true) (q_ (i_ y144.1) ?_)))
   refine s_b (y144.1 = 1) (by kernel_rfl) (fun h164 => ?_) (fun h164 => ?_)
   ·have r165 := ite_t h164 r163
    refine q_ (.bool true) (q_ (.bool true) (q_ (i_ y144.2.1) ?_))
    refine s_b (y144.2.1 = 0) (by kernel_rfl) (fun h166 => ?_) (fun h166 => ?_)
    ·have r167 := ite_t h166 r165
     refine q_ (.bool true) (q_ (.bool true) ?_)
     obtain ⟨y168, hy169, r170⟩ := bind_some r167
     refine s_ck 21 #[] (by kernel_rfl) (c_viaductref10_Three e150.wf hy169) ?_
     rintro _ H181 ⟨s171, f172, s173, f174, s175, f176, s177, f178, s179, f180, rfl, e182, m183, m184, m185, m186, m187, i188, i189, i190, i191, i192, d193, d194, d195, d196, d197, d198, d199, d200, d201, d202⟩
     obtain ⟨a208, n209, c210, rfl⟩ := m183.form
     obtain ⟨a211, n212, c213, rfl⟩ := m184.form
     obtain ⟨a214, n215, c216, rfl⟩ := m185.form
     obtain ⟨a217, n218, c219, rfl⟩ := m186.form
     obtain ⟨a220, n221, c222, rfl⟩ := m187.form
     obtain ⟨y223, hy224, r225⟩ := bind_some r170
     refine s_ck 7 #[.agg #[.slice a208 n209 c210, .slice a211 n212 c213, .slice a214 n215 c216, .slice a217 n218 c219, .slice a220 n221 c222]] (by kernel_rfl) (c_hier_Check e182.wf m183.sq m184.sq m185.sq m186.sq m187.sq hy224) ?_
     rintro v226 H228 ⟨_, f227, rfl, e229, m230, i231⟩
     rcases (m230).cases with ⟨h233, rfl⟩ | ⟨h233, t234, x235, rfl⟩
     ·have r236 := ite_t h233 r225
      refine q_ (.bool true) (q_ (.bool true) (q_ (.bool true) ?_))
      have u237 := ((((r86.frS e103 Dj.nil_l).frS e150 Dj.nil_l).frS e182 Dj.nil_l).frS e229 Dj.nil_l)
      refine l_' (.agg #[i_ y58.1, .slice a74 n75 c76]) (aLoad Tryz.prog 43 (pt_ b77 0) H228) (u237.ld (by kernel_rfl)) ?_
      refine q_ (.agg #[i_ 0, i_ 1, i_ 4]) (q_ (.agg #[i_ 1, i_ 2, i_ 1]) ?_)
      refine s_owk (enc := enc_i64_i64_i64) (sz := 3) e229.wf [(0, 1, 4), (1, 2, 1)] 2 (by decide) (fun _ _ => rfl) (fun _ _ => rfl) rfl (by kernel_rfl) fun s238 f239 H240 e241 hf242 hm243 => ?_
      obtain ⟨a244, n245, c246, rfl⟩ := hm243.form
      refine q_ (.agg #[i_ 3, .slice a244 n245 c246]) ?_
      have u248 := ((((((u87.fr e85 (hb80.djn m67.lt)).fr e103 Dj.nil_l).fr e150 Dj.nil_l).fr e182 Dj.nil_l).fr e229 Dj.nil_l).ext e241)
      obtain ⟨y249, hy250, r251⟩ := bind_some r236
      refine s_ck 14 #[.agg #[i_ y58.1, .slice a74 n75 c76], .agg #[i_ 3, .slice a244 n245 c246]] (by kernel_rfl) (c_viaductref03_Same e241.wf u248.sq hm243.sq hy250) ?_
      rintro _ H252 ⟨rfl, e253⟩
      refine q_ (.bool y249) (q_ (.bool y249) (s_nil (k154 _ _ ?_)))
      refine w_ret ?_
      refine b_ret (fn := Tryz.f4) (vs := [.bool y249]) (aRes_tmp (by kernel_rfl) (rfl)) ?_
      obtain rfl := Option.some.inj r251
      exact ⟨rfl, (FrS.step wf ((FrS.step wf (FrS.step wf (FrS.step wf (FrS.step wf (FrS.step wf ((FrS.step wf (FrS.step wf (FrS.refl (W := []) wf) e17 Inn.nil) e66 Inn.nil).extR e79) e85 (hb80.fresh (ntr e17.next e66.next))) e103 Inn.nil) e150 Inn.nil) e182 Inn.nil) e229 Inn.nil).extR e241) e253 Inn.nil)⟩
     have r254 := ite_f h233 r225
     refine l_' (.bool false) (aBin Tryz.prog .eql 30 (.tmp 33) (.const .nilIface) (.iface t234 x235) .nilIface) (aBin_nil (by kernel_rfl)) ?_
     refine q_ (.bool false) (q_ (.bool false) (n_' (n_' (n_' (n_' (n_' (n_' (q_ (.bool false) (q_ (.bool false) (s_nil (k154 _ _ ?_)))))))))))
     refine w_ret ?_
     refine b_ret (fn := Tryz.f4) (vs := [.bool false]) (aRes_tmp (by kernel_rfl) (rfl)) ?_
     obtain rfl := Option.some.inj r254
     exact ⟨rfl, (FrS.step wf (FrS.step wf (FrS.step wf (FrS.step wf (FrS.step wf ((FrS.step wf (FrS.step wf (FrS.refl (W := []) wf) e17 Inn.nil) e66 Inn.nil).extR e79) e85 (hb80.fresh (ntr e17.next e66.next))) e103 Inn.nil) e150 Inn.nil) e182 Inn.nil) e229 Inn.nil)⟩
    have r255 := ite_f h166 r165
    refine q_ (.bool false) (q_ (.bool false) (n_' (n_' (n_' (q_ (.bool false) (q_ (.bool false) (n_' (n_' (n_' (n_' (n_' (n_' (q_ (.bool false) (q_ (.bool false) (s_nil (k154 _ _ ?_))))))))))))))))
    refine w_ret ?_
    refine b_ret (fn := Tryz.f4) (vs := [.bool false]) (aRes_tmp (by kernel_rfl) (rfl)) ?_
    obtain rfl := Option.some.inj r255
    exact ⟨rfl, (FrS.step wf (FrS.step wf (FrS.step wf ((FrS.step wf (FrS.step wf (FrS.refl (W := []) wf) e17 Inn.nil) e66 Inn.nil).extR e79) e85 (hb80.fresh (ntr e17.next e66.next))) e103 Inn.nil) e150 Inn.nil)⟩
   have r256 := ite_f h164 r163
   refine q_ (.bool false) (q_ (.bool false) (n_' (n_' (q_ (.bool false) (q_ (.bool false) (n_' (n_' (n_' (q_ (.bool false) (q_ (.bool false) (n_' (n_' (n_' (n_' (n_' (n_' (q_ (.bool false) (q_ (.bool false) (s_nil (k154 _ _ ?_))))))))))))))))))))
   refine w_ret ?_
   refine b_ret (fn := Tryz.f4) (vs := [.bool false]) (aRes_tmp (by kernel_rfl) (rfl)) ?_
   obtain rfl := Option.some.inj r256
   exact ⟨rfl, (FrS.step wf (FrS.step wf (FrS.step wf ((FrS.step wf (FrS.step wf (FrS.refl (W := []) wf) e17 Inn.nil) e66 Inn.nil).extR e79) e85 (hb80.fresh (ntr e17.next e66.next))) e103 Inn.nil) e150 Inn.nil)⟩
  have r257 := ite_f h160 r159
  refine l_' (.bool false) (aBin Tryz.prog .eql 30 (.tmp 20) (.const .nilIface) (.iface t161 x162) .nilIface) (aBin_nil (by kernel_rfl)) ?_
  refine q_ (.bool false) (q_ (.bool false) (n_' (n_' (q_ (.bool false) (q_ (.bool false) (n_' (n_' (q_ (.bool false) (q_ (.bool false) (n_' (n_' (n_' (q_ (.bool false) (q_ (.bool false) (n_' (n_' (n_' (n_' (n_' (n_' (q_ (.bool false) (q_ (.bool false) (s_nil (k154 _ _ ?_))))))))))))))))))))))))
  refine w_ret ?_
  refine b_ret (fn := Tryz.f4) (vs := [.bool false]) (aRes_tmp (by kernel_rfl) (rfl)) ?_
  obtain rfl := Option.some.inj r257
  exact ⟨rfl, (FrS.step wf (FrS.step wf (FrS.step wf ((FrS.step wf (FrS.step wf (FrS.refl (W := []) wf) e17 Inn.nil) e66 Inn.nil).extR e79) e85 (hb80.fresh (ntr e17.next e66.next))) e103 Inn.nil) e150 Inn.nil)⟩
 have r258 := ite_f h155 r146
 refine l_' (.bool false) (aBin Tryz.prog .eql 30 (.tmp 17) (.const .nilIface) (.iface t156 x157) .nilIface) (aBin_nil (by kernel_rfl)) ?_
 refine q_ (.bool false) (n_' (n_' (q_ (.bool false) (q_ (.bool false) (n_' (n_' (q_ (.bool false) (q_ (.bool false) (n_' (n_' (q_ (.bool false) (q_ (.bool false) (n_' (n_' (n_' (q_ (.bool false) (q_ (.bool false) (n_' (n_' (n_' (n_' (n_' (n_' (q_ (.bool false) (q_ (.bool false) (s_nil (k154 _ _ ?_)))))))))))))))))))))))))))
 refine w_ret ?_
 refine b_ret (fn := Tryz.f4) (vs := [.bool false]) (aRes_tmp (by kernel_rfl) (rfl)) ?_
 obtain rfl := Option.some.inj r258
 exact ⟨rfl, (FrS.step wf (FrS.step wf (FrS.step wf ((FrS.step wf (FrS.step wf (FrS.refl (W := []) wf) e17 Inn.nil) e66 Inn.nil).extR e79) e85 (hb80.fresh (ntr e17.next e66.next))) e103 Inn.nil) e150 Inn.nil)⟩
theorem c_viaductref10_Count {H : AH} {hd_Node : Value} {fp_Node : Fp} {hd_UpFirst : Value} {fp_UpFirst : Fp} {hd_Up : Value} {fp_Up : Fp} {hd_DownFirst : Value} {fp_DownFirst : Fp} {hd_Down : Value} {fp_Down : Fp} {Node : List (Int)} {UpFirst : List (Int)} {Up : List (Int × Int × Int × Int)} {DownFirst : List (Int)} {Down : List (Int × Int × Int × Int)} {r : Int}
    (wf : WF H) (h_Node : Sq (encI .u32) 1 H hd_Node Node fp_Node) (h_UpFirst : Sq (encI .u32) 1 H hd_UpFirst UpFirst fp_UpFirst) (h_Up : Sq enc_u32_u64_u32_u32 4 H hd_Up Up fp_Up) (h_DownFirst : Sq (encI .u32) 1 H hd_DownFirst DownFirst fp_DownFirst) (h_Down : Sq enc_u32_u64_u32_u32 4 H hd_Down Down fp_Down) (hr : z_viaductref10_Count Node UpFirst Up DownFirst Down = some r) :
    ACalls Tryz.prog 22 #[.agg #[hd_Node, hd_UpFirst, hd_Up, hd_DownFirst, hd_Down]] H fun v H' => v = i_ r ∧ FrS [] H H' := by
 refine acalls_of_body mixed Tryz.func22 rfl (Nat.le_of_ble_eq_true rfl) ?_
 unfold z_viaductref10_Count at hr
 refine w_seqk fun _ k1 => g_' ?_
 refine s_rwl wf [hd_Node, hd_UpFirst, hd_Up, hd_DownFirst, hd_Down] (one_cons (h_Node.one1) (one_cons (h_UpFirst.one1) (one_cons (h_Up.one1) (one_cons (h_DownFirst.one1) (one_cons (h_Down.one1) (one_nil)))))) (by kernel_rfl) fun b2 H3 e4 hb5 r6 => ?_
 refine q_ (i_ 0) (s_nil (k1 _ _ (w_seqk fun _ k8 => g_' (q_ (pt_ b2 2) ?_))))
 refine l_' (hd_Up) (aLoad Tryz.prog 23 (pt_ b2 2) H3) (r6.ld (by kernel_rfl)) ?_
 have u9 := (h_Up.ext e4)
 refine l_' (i_ (Up.length : Int)) (aLen Tryz.prog 23 hd_Up H3) (u9.lenb (by kernel_rfl)) ?_
 refine q_ (pt_ b2 4) ?_
 refine l_' (hd_Down) (aLoad Tryz.prog 23 (pt_ b2 4) H3) (r6.ld (by kernel_rfl)) ?_
 have u10 := (h_Down.ext e4)
 refine l_' (i_ (Down.length : Int)) (aLen Tryz.prog 23 hd_Down H3) (u10.lenb (by kernel_rfl)) ?_
 obtain ⟨g11, r12⟩ := G_some hr
 refine w_' ((Up.length : Int) + (Down.length : Int)) (wrap64 g11) ?_
 refine q_ (i_ ((Up.length : Int) + (Down.length : Int))) (s_nil (k8 _ _ ?_))
 refine w_ret ?_
 refine b_ret (fn := Tryz.f22) (vs := [i_ ((Up.length : Int) + (Down.length : Int))]) (aRes_tmp (by kernel_rfl) (rfl)) ?_
 obtain rfl := Option.some.inj r12
 exact ⟨rfl, ((FrS.refl (W := []) wf).extR e4)⟩
theorem c_viaductlaw10_great {H : AH} {hd_Node : Value} {fp_Node : Fp} {hd_UpFirst : Value} {fp_UpFirst : Fp} {hd_Up : Value} {fp_Up : Fp} {hd_DownFirst : Value} {fp_DownFirst : Fp} {hd_Down : Value} {fp_Down : Fp} {Node : List (Int)} {UpFirst : List (Int)} {Up : List (Int × Int × Int × Int)} {DownFirst : List (Int)} {Down : List (Int × Int × Int × Int)} {r : Bool}
    (wf : WF H) (h_Node : Sq (encI .u32) 1 H hd_Node Node fp_Node) (h_UpFirst : Sq (encI .u32) 1 H hd_UpFirst UpFirst fp_UpFirst) (h_Up : Sq enc_u32_u64_u32_u32 4 H hd_Up Up fp_Up) (h_DownFirst : Sq (encI .u32) 1 H hd_DownFirst DownFirst fp_DownFirst) (h_Down : Sq enc_u32_u64_u32_u32 4 H hd_Down Down fp_Down) (hr : z_viaductlaw10_great Node UpFirst Up DownFirst Down = some r) :
    ACalls Tryz.prog 5 #[.agg #[hd_Node, hd_UpFirst, hd_Up, hd_DownFirst, hd_Down]] H fun v H' => v = .bool r ∧ FrS [] H H' := by
 refine acalls_of_body mixed Tryz.func5 rfl (Nat.le_of_ble_eq_true rfl) ?_
 unfold z_viaductlaw10_great at hr
 refine w_seqk fun _ k1 => g_' ?_
 refine s_rwl wf [hd_Node, hd_UpFirst, hd_Up, hd_DownFirst, hd_Down] (one_cons (h_Node.one1) (one_cons (h_UpFirst.one1) (one_cons (h_Up.one1) (one_cons (h_DownFirst.one1) (one_cons (h_Down.one1) (one_nil)))))) (by kernel_rfl) fun b2 H3 e4 hb5 r6 => ?_
 refine q_ (.bool false) (s_nil (k1 _ _ (w_seqk fun _ k8 => g_' ?_)))
 refine l_' (.agg #[hd_Node, hd_UpFirst, hd_Up, hd_DownFirst, hd_Down]) (aLoad Tryz.prog 25 (pt_ b2 0) H3) (r6.ld (by kernel_rfl)) ?_
 have u9 := (h_Node.ext e4)
 have u10 := (h_UpFirst.ext e4)
 have u11 := (h_Up.ext e4)
 have u12 := (h_DownFirst.ext e4)
 have u13 := (h_Down.ext e4)
 obtain ⟨y14, hy15, r16⟩ := bind_some hr
 refine s_ck 22 #[.agg #[hd_Node, hd_UpFirst, hd_Up, hd_DownFirst, hd_Down]] (by kernel_rfl) (c_viaductref10_Count e4.wf u9 u10 u11 u12 u13 hy15) ?_
 rintro _ H17 ⟨rfl, e18⟩
 refine s_b (y14 > 2000) (by kernel_rfl) (fun h19 => ?_) (fun h19 => ?_)
 ·have r20 := ite_t h19 r16
  refine q_ (.bool true) ?_
  have u21 := (r6.frS e18 Dj.nil_l)
  refine l_' (.agg #[hd_Node, hd_UpFirst, hd_Up, hd_DownFirst, hd_Down]) (aLoad Tryz.prog 25 (pt_ b2 0) H17) (u21.ld (by kernel_rfl)) ?_
  have u22 := (u9.fr e18 Dj.nil_l)
  have u23 := (u10.fr e18 Dj.nil_l)
  have u24 := (u11.fr e18 Dj.nil_l)
  have u25 := (u12.fr e18 Dj.nil_l)
  have u26 := (u13.fr e18 Dj.nil_l)
  obtain ⟨y27, hy28, r29⟩ := bind_some r20
  refine s_ck 22 #[.agg #[hd_Node, hd_UpFirst, hd_Up, hd_DownFirst, hd_Down]] (by kernel_rfl) (c_viaductref10_Count e18.wf u22 u23 u24 u25 u26 hy28) ?_
  rintro _ H30 ⟨rfl, e31⟩
  refine q_ (.bool (decide (y27 ≤ 1048576))) (q_ (.bool (decide (y27 ≤ 1048576))) (q_ (.bool (decide (y27 ≤ 1048576))) (s_nil (k8 _ _ ?_))))
  refine w_ret ?_
  refine b_ret (fn := Tryz.f5) (vs := [.bool (decide (y27 ≤ 1048576))]) (aRes_tmp (by kernel_rfl) (rfl)) ?_
  obtain rfl := Option.some.inj r29
  exact ⟨rfl, (FrS.step wf (FrS.step wf ((FrS.refl (W := []) wf).extR e4) e18 Inn.nil) e31 Inn.nil)⟩
 have r32 := ite_f h19 r16
 refine q_ (.bool false) (n_' (n_' (n_' (q_ (.bool false) (q_ (.bool false) (s_nil (k8 _ _ ?_)))))))
 refine w_ret ?_
 refine b_ret (fn := Tryz.f5) (vs := [.bool false]) (aRes_tmp (by kernel_rfl) (rfl)) ?_
 obtain rfl := Option.some.inj r32
 exact ⟨rfl, (FrS.step wf ((FrS.refl (W := []) wf).extR e4) e18 Inn.nil)⟩
theorem c_viaductref10_Words {H : AH} {hd_l : Value} {fp_l : Fp} {l : List (Int)} {r : List (Int)}
    (wf : WF H) (h_l : Sq (encI .u32) 1 H hd_l l fp_l) (hr : z_viaductref10_Words l = some r) :
    ACalls Tryz.prog 27 #[hd_l] H fun v H' => ∃ (s3 : Value) (f4 : Fp), v = s3 ∧ FrS [] H H' ∧ Ow (encI .u32) 1 H' s3 r f4 ∧ Inn [] H f4 := by
 refine acalls_of_body mixed Tryz.func27 rfl (Nat.le_of_ble_eq_true rfl) ?_
 unfold z_viaductref10_Words at hr
 refine w_seqk fun _ k6 => g_' (q_ (.slice none 0 0) (s_nil (k6 _ _ (w_seqk fun _ k7 => g_' (q_ (.slice none 0 0) (s_nil (k7 _ _ (w_seqk fun _ k8 => w_seqk fun _ k9 => g_' (q_ (hd_l) ?_)))))))))
 refine l_' (i_ (l.length : Int)) (aLen Tryz.prog 22 hd_l H) (h_l.lenb (by kernel_rfl)) ?_
 refine q_ (i_ 0) (s_nil (k9 _ _ ?_))
 obtain ⟨o10, hx11, r12⟩ := bind_some hr
 refine w_mid (fun α H13 => ∃ (s17 : Value) (f18 : Fp), Has α [(3, s17)] ∧ FrS [] H H13 ∧ Ow (encI .u32) 1 H13 s17 o10 f18 ∧ Inn [] H f18) (fun _ k20 => ?_) (fun α H13 hM => ?_)
 ·refine w_block ?_
  obtain ⟨n22, hn23⟩ := loopO_iff.1 hx11
  refine w_loopn (fun n α H24 => ∃ (m0 : List (Int)), ∃ (i1 : Int), ∃ (s28 : Value), ∃ (f29 : Fp), iterO (fun zz_ => z_viaductref10_Words_l0 l zz_.1 zz_.2) n (m0, i1) = some o10 ∧ Has α [(3, s28), (6, hd_l), (7, i_ (l.length : Int)), (8, i_ i1)] ∧ FrS [] H H24 ∧ Ow (encI .u32) 1 H24 s28 m0 f29 ∧ Inn [] H f29) n22 ⟨[], 0, (.slice none 0 0), [], hn23, ha_, (FrS.refl (W := []) wf), (Ow.nil (by decide)), Inn.nil⟩ ?_
  rintro n22 α H24 ⟨m0, i1, s28, f29, hi32, hh31, e25, m27, i30⟩ K37 k37
  obtain ⟨n33, z34, rfl, hz35, hn36⟩ := iter_succ hi32
  obtain ⟨β, rfl⟩ := has_ex hh31
  clear hh31
  replace hz35 : z_viaductref10_Words_l0 l m0 i1 = some z34 := hz35
  unfold z_viaductref10_Words_l0 at hz35
  obtain ⟨a38, n39, c40, rfl⟩ := m27.form
  refine w_seqk fun _ k41 => g_' (q_ (.bool (decide (i1 < (l.length : Int)))) (s_nil (k41 _ _ (w_seqk fun _ k42 => ?_))))
  refine w_condp (i1 < (l.length : Int)) (by kernel_rfl) rfl (fun h43 => ?_) (fun h43 => ?_)
  ·have r44 := ite_t h43 hz35
   refine w_skip (k42 _ _ (w_seqk fun _ k45 => w_block (w_seqk fun _ k46 => g_' ?_)))
   obtain ⟨g47, r48⟩ := G_some r44
   have u49 := (h_l.fr e25 Dj.nil_l)
   refine l_' (elp hd_l 1 i1.toNat 0) (aIndexAddr Tryz.prog 22 hd_l (i_ i1)) (u49.idxb (by kernel_rfl) g47 h43) ?_
   refine l_' (.int .u32 (gt l i1)) (aLoad Tryz.prog 86 (elp hd_l 1 i1.toNat 0) H24) (u49.ld g47 h43 (by kernel_rfl)) ?_
   refine q_ (.int .u32 (gt l i1)) (s_nil (k46 _ _ (g_' (q_ (.slice a38 n39 c40) (q_ (.int .u32 (gt l i1)) ?_)))))
   refine s_owk (enc := (encI .u32)) (sz := 1) e25.wf [(gt l i1)] 1 (by decide) (fun _ _ => rfl) (fun _ _ => rfl) rfl (by kernel_rfl) fun s50 f51 H52 e53 hf54 hm55 => ?_
   obtain ⟨a56, n57, c58, rfl⟩ := hm55.form
   have u60 := (m27.ext e53)
   obtain ⟨g61, r62⟩ := G_some r48
   obtain ⟨s63, H64, f65, q69, e66, hm67, hf68⟩ := Ow.append (P := Tryz.prog) 4 e53.wf u60 hm55.sq (fun _ _ => rfl) (at_ := #[22, 22]) rfl rfl (by kernel_rfl) (by kernel_rfl) (by decide) (by have := g61; first | omega | (simp only [List.length_cons, List.length_nil] at this ⊢; omega) | (simp at this ⊢; omega))
   obtain ⟨a70, n71, c72, rfl⟩ := hm67.form
   refine s_ek (.slice a70 n71 c72) (by kernel_rfl) (q69) ?_
   refine q_ (.slice a70 n71 c72) (s_nil (k45 _ _ (g_' ?_)))
   obtain ⟨g74, r75⟩ := G_some r62
   refine w_' (i1 + 1) (wrap64 (by have := g74; omega)) ?_
   refine q_ (i_ (i1 + 1)) (s_nil ?_)
   obtain rfl := Option.some.inj r75
   exact k37 n33 _ _ (Nat.lt_succ_self _) ⟨(m0 ++ [(gt l i1)]), (i1 + 1), (.slice a70 n71 c72), f65, hn36, ha_, (FrS.step wf ((FrS.step wf (FrS.refl (W := []) wf) e25 Inn.nil).extR e53) e66 (i30.fresh (Nat.le_refl _))), hm67, (Inn.trans (i30.fresh (Nat.le_refl _)) (ntr e25.next e53.next) hf68)⟩
  have r76 := ite_f h43 hz35
  refine w_exit (th_exit (th_exit (bl_eq ?_)))
  obtain rfl := Option.some.inj r76
  obtain rfl := it_inr hn36
  exact k20 _ _ ⟨(.slice a38 n39 c40), f29, ha_, (FrS.step wf (FrS.refl (W := []) wf) e25 Inn.nil), m27, (i30.fresh (Nat.le_refl _))⟩
 obtain ⟨s17, f18, hh21, e14, m16, i19⟩ := hM
 obtain ⟨β, rfl⟩ := has_ex hh21
 clear hh21
 obtain ⟨a77, n78, c79, rfl⟩ := m16.form
 refine k8 _ _ (w_seqk fun _ k80 => g_' (q_ (.slice a77 n78 c79) (q_ (.slice a77 n78 c79) (s_nil (k80 _ _ ?_)))))
 refine w_ret ?_
 refine b_ret (fn := Tryz.f27) (vs := [.slice a77 n78 c79]) (aRes_tmp (by kernel_rfl) (rfl)) ?_
 obtain rfl := Option.some.inj r12
 exact ⟨(.slice a77 n78 c79), f18, rfl, (FrS.step wf (FrS.refl (W := []) wf) e14 Inn.nil), m16, (i19.fresh (Nat.le_refl _))⟩
theorem c_viaductref10_Links {H : AH} {hd_l : Value} {fp_l : Fp} {l : List (Int × Int × Int × Int)} {r : List (Int × Int × Int × Int)}
    (wf : WF H) (h_l : Sq enc_u32_u64_u32_u32 4 H hd_l l fp_l) (hr : z_viaductref10_Links l = some r) :
    ACalls Tryz.prog 28 #[hd_l] H fun v H' => ∃ (s3 : Value) (f4 : Fp), v = s3 ∧ FrS [] H H' ∧ Ow enc_u32_u64_u32_u32 4 H' s3 r f4 ∧ Inn [] H f4 := by
 refine acalls_of_body mixed Tryz.func28 rfl (Nat.le_of_ble_eq_true rfl) ?_
 unfold z_viaductref10_Links at hr
 refine w_seqk fun _ k6 => g_' (q_ (.slice none 0 0) (s_nil (k6 _ _ (w_seqk fun _ k7 => g_' (q_ (.slice none 0 0) (s_nil (k7 _ _ (w_seqk fun _ k8 => w_seqk fun _ k9 => g_' (q_ (hd_l) ?_)))))))))
 refine l_' (i_ (l.length : Int)) (aLen Tryz.prog 23 hd_l H) (h_l.lenb (by kernel_rfl)) ?_
 refine q_ (i_ 0) (s_nil (k9 _ _ ?_))
 obtain ⟨o10, hx11, r12⟩ := bind_some hr
 refine w_mid (fun α H13 => ∃ (s17 : Value) (f18 : Fp), Has α [(3, s17)] ∧ FrS [] H H13 ∧ Ow enc_u32_u64_u32_u32 4 H13 s17 o10 f18 ∧ Inn [] H f18) (fun _ k20 => ?_) (fun α H13 hM => ?_)
 ·refine w_block ?_
  obtain ⟨n22, hn23⟩ := loopO_iff.1 hx11
  refine w_loopn (fun n α H24 => ∃ (m0 : List (Int × Int × Int × Int)), ∃ (i1 : Int), ∃ (s28 : Value), ∃ (f29 : Fp), iterO (fun zz_ => z_viaductref10_Links_l0 l zz_.1 zz_.2) n (m0, i1) = some o10 ∧ Has α [(3, s28), (6, hd_l), (7, i_ (l.length : Int)), (8, i_ i1)] ∧ FrS [] H H24 ∧ Ow enc_u32_u64_u32_u32 4 H24 s28 m0 f29 ∧ Inn [] H f29) n22 ⟨[], 0, (.slice none 0 0), [], hn23, ha_, (FrS.refl (W := []) wf), (Ow.nil (by decide)), Inn.nil⟩ ?_
  rintro n22 α H24 ⟨m0, i1, s28, f29, hi32, hh31, e25, m27, i30⟩ K37 k37
  obtain ⟨n33, z34, rfl, hz35, hn36⟩ := iter_succ hi32
  obtain ⟨β, rfl⟩ := has_ex hh31
  clear hh31
  replace hz35 : z_viaductref10_Links_l0 l m0 i1 = some z34 := hz35
  unfold z_viaductref10_Links_l0 at hz35
  obtain ⟨a38, n39, c40, rfl⟩ := m27.form
  refine w_seqk fun _ k41 => g_' (q_ (.bool (decide (i1 < (l.length : Int)))) (s_nil (k41 _ _ (w_seqk fun _ k42 => ?_))))
  refine w_condp (i1 < (l.length : Int)) (by kernel_rfl) rfl (fun h43 => ?_) (fun h43 => ?_)
  ·have r44 := ite_t h43 hz35
   refine w_skip (k42 _ _ (w_seqk fun _ k45 => w_block (w_seqk fun _ k46 => g_' ?_)))
   obtain ⟨g47, r48⟩ := G_some r44
   have u49 := (h_l.fr e25 Dj.nil_l)
   refine l_' (elp hd_l 4 i1.toNat 0) (aIndexAddr Tryz.prog 23 hd_l (i_ i1)) (u49.idxb (by kernel_rfl) g47 h43) ?_
   refine l_' (.agg #[.int .u32 ((gt l i1).1), .int .u64 ((gt l i1).2.1), .int .u32 ((gt l i1).2.2.1), .int .u32 ((gt l i1).2.2.2)]) (aLoad Tryz.prog 92 (elp hd_l 4 i1.toNat 0) H24) (u49.ld g47 h43 (by kernel_rfl)) ?_
   refine s_rwk e25.wf [.int .u32 0, .int .u64 0, .int .u32 0, .int .u32 0] (by kernel_rfl) fun b50 H51 e52 hb53 r54 => ?_
   obtain ⟨H56, q57, e58, r59⟩ := Row.store (P := Tryz.prog) (t := 92) (p := 0) e52.wf r54 (.agg #[.int .u32 ((gt l i1).1), .int .u64 ((gt l i1).2.1), .int .u32 ((gt l i1).2.2.1), .int .u32 ((gt l i1).2.2.2)]) [.int .u32 ((gt l i1).1), .int .u64 ((gt l i1).2.1), .int .u32 ((gt l i1).2.2.1), .int .u32 ((gt l i1).2.2.2)] (by kernel_rfl) (by kernel_rfl) (one_cons (rfl) (one_cons (rfl) (one_cons (rfl) (one_cons (rfl) (one_nil))))) (Nat.le_of_ble_eq_true (by kernel_rfl)) [.int .u32 ((gt l i1).1), .int .u64 ((gt l i1).2.1), .int .u32 ((gt l i1).2.2.1), .int .u32 ((gt l i1).2.2.2)] (by kernel_rfl)
   refine s_ek (undef) (by kernel_rfl) (map_ok q57) ?_
   refine s_nil (k46 _ _ (g_' (q_ (.slice a38 n39 c40) ?_)))
   refine l_' (.agg #[.int .u32 ((gt l i1).1), .int .u64 ((gt l i1).2.1), .int .u32 ((gt l i1).2.2.1), .int .u32 ((gt l i1).2.2.2)]) (aLoad Tryz.prog 92 (pt_ b50 0) H56) (r59.ld (by kernel_rfl)) ?_
   refine s_owk (enc := enc_u32_u64_u32_u32) (sz := 4) e58.wf [((gt l i1).1, (gt l i1).2.1, (gt l i1).2.2.1, (gt l i1).2.2.2)] 1 (by decide) (fun _ _ => rfl) (fun _ _ => rfl) rfl (by kernel_rfl) fun s60 f61 H62 e63 hf64 hm65 => ?_
   obtain ⟨a66, n67, c68, rfl⟩ := hm65.form
   have u70 := (((m27.ext e52).fr e58 (hb53.djn m27.lt)).ext e63)
   obtain ⟨g71, r72⟩ := G_some r48
   obtain ⟨s73, H74, f75, q79, e76, hm77, hf78⟩ := Ow.append (P := Tryz.prog) 24 e63.wf u70 hm65.sq (fun _ _ => rfl) (at_ := #[23, 23]) rfl rfl (by kernel_rfl) (by kernel_rfl) (by decide) (by have := g71; first | omega | (simp only [List.length_cons, List.length_nil] at this ⊢; omega) | (simp at this ⊢; omega))
   obtain ⟨a80, n81, c82, rfl⟩ := hm77.form
   refine s_ek (.slice a80 n81 c82) (by kernel_rfl) (q79) ?_
   refine q_ (.slice a80 n81 c82) (s_nil (k45 _ _ (g_' ?_)))
   obtain ⟨g84, r85⟩ := G_some r72
   refine w_' (i1 + 1) (wrap64 (by have := g84; omega)) ?_
   refine q_ (i_ (i1 + 1)) (s_nil ?_)
   obtain rfl := Option.some.inj r85
   exact k37 n33 _ _ (Nat.lt_succ_self _) ⟨(m0 ++ [((gt l i1).1, (gt l i1).2.1, (gt l i1).2.2.1, (gt l i1).2.2.2)]), (i1 + 1), (.slice a80 n81 c82), f75, hn36, ha_, (FrS.step wf ((FrS.step wf ((FrS.step wf (FrS.refl (W := []) wf) e25 Inn.nil).extR e52) e58 (hb53.fresh e25.next)).extR e63) e76 (i30.fresh (Nat.le_refl _))), hm77, (Inn.trans (i30.fresh (Nat.le_refl _)) (ntr (ntr (ntr e25.next e52.next) e58.next) e63.next) hf78)⟩
  have r86 := ite_f h43 hz35
  refine w_exit (th_exit (th_exit (bl_eq ?_)))
  obtain rfl := Option.some.inj r86
  obtain rfl := it_inr hn36
  exact k20 _ _ ⟨(.slice a38 n39 c40), f29, ha_, (FrS.step wf (FrS.refl (W := []) wf) e25 Inn.nil), m27, (i30.fresh (Nat.le_refl _))⟩
 obtain ⟨s17, f18, hh21, e14, m16, i19⟩ := hM
 obtain ⟨β, rfl⟩ := has_ex hh21
 clear hh21
 obtain ⟨a87, n88, c89, rfl⟩ := m16.form
 refine k8 _ _ (w_seqk fun _ k90 => g_' (q_ (.slice a87 n88 c89) (q_ (.slice a87 n88 c89) (s_nil (k90 _ _ ?_)))))
 refine w_ret ?_
 refine b_ret (fn := Tryz.f28) (vs := [.slice a87 n88 c89]) (aRes_tmp (by kernel_rfl) (rfl)) ?_
 obtain rfl := Option.some.inj r12
 exact ⟨(.slice a87 n88 c89), f18, rfl, (FrS.step wf (FrS.refl (W := []) wf) e14 Inn.nil), m16, (i19.fresh (Nat.le_refl _))⟩
theorem c_viaductref10_Twin {H : AH} {hd_Node : Value} {fp_Node : Fp} {hd_UpFirst : Value} {fp_UpFirst : Fp} {hd_Up : Value} {fp_Up : Fp} {hd_DownFirst : Value} {fp_DownFirst : Fp} {hd_Down : Value} {fp_Down : Fp} {Node : List (Int)} {UpFirst : List (Int)} {Up : List (Int × Int × Int × Int)} {DownFirst : List (Int)} {Down : List (Int × Int × Int × Int)} {r : List (Int) × List (Int) × List (Int × Int × Int × Int) × List (Int) × List (Int × Int × Int × Int)}
    (wf : WF H) (h_Node : Sq (encI .u32) 1 H hd_Node Node fp_Node) (h_UpFirst : Sq (encI .u32) 1 H hd_UpFirst UpFirst fp_UpFirst) (h_Up : Sq enc_u32_u64_u32_u32 4 H hd_Up Up fp_Up) (h_DownFirst : Sq (encI .u32) 1 H hd_DownFirst DownFirst fp_DownFirst) (h_Down : Sq enc_u32_u64_u32_u32 4 H hd_Down Down fp_Down) (hr : z_viaductref10_Twin Node UpFirst Up DownFirst Down = some r) :
    ACalls Tryz.prog 8 #[.agg #[hd_Node, hd_UpFirst, hd_Up, hd_DownFirst, hd_Down]] H fun v H' => ∃ (s3 : Value) (f4 : Fp) (s7 : Value) (f8 : Fp) (s11 : Value) (f12 : Fp) (s15 : Value) (f16 : Fp) (s19 : Value) (f20 : Fp), v = .agg #[s3, s7, s11, s15, s19] ∧ FrS [] H H' ∧ Ow (encI .u32) 1 H' s3 r.1 f4 ∧ Ow (encI .u32) 1 H' s7 r.2.1 f8 ∧ Ow enc_u32_u64_u32_u32 4 H' s11 r.2.2.1 f12 ∧ Ow (encI .u32) 1 H' s15 r.2.2.2.1 f16 ∧ Ow enc_u32_u64_u32_u32 4 H' s19 r.2.2.2.2 f20 ∧ Inn [] H f4 ∧ Inn [] H f8 ∧ Inn [] H f12 ∧ Inn [] H f16 ∧ Inn [] H f20 ∧ Dj f4 f8 ∧ Dj f4 f12 ∧ Dj f8 f12 ∧ Dj f4 f16 ∧ Dj f8 f16 ∧ Dj f12 f16 ∧ Dj f4 f20 ∧ Dj f8 f20 ∧ Dj f12 f20 ∧ Dj f16 f20 := by
 refine acalls_of_body mixed Tryz.func8 rfl (Nat.le_of_ble_eq_true rfl) ?_
 unfold z_viaductref10_Twin at hr
 refine w_seqk fun _ k36 => g_' ?_
 refine s_rwl wf [hd_Node, hd_UpFirst, hd_Up, hd_DownFirst, hd_Down] (one_cons (h_Node.one1) (one_cons (h_UpFirst.one1) (one_cons (h_Up.one1) (one_cons (h_DownFirst.one1) (one_cons (h_Down.one1) (one_nil)))))) (by kernel_rfl) fun b37 H38 e39 hb40 r41 => ?_
 refine s_rwk e39.wf [.slice none 0 0, .slice none 0 0, .slice none 0 0, .slice none 0 0, .slice none 0 0] (by kernel_rfl) fun b43 H44 e45 hb46 r47 => ?_
 refine s_nil (k36 _ _ (w_seqk fun _ k49 => ?_))
 refine w_draw [0, 1, 3, 4, 6, 7, 9, 10, 12, 13, 2, 5, 8, 11, 14, 15, 16] (by kernel_rfl) ?_
 refine e_' (pt_ b37 0) ?_
 have u50 := (r41.ext e45)
 refine m_' (hd_Node) (aLoad Tryz.prog 22 (pt_ b37 0) H44) (u50.ld (by kernel_rfl)) ?_
 refine e_' (pt_ b37 1) ?_
 refine d_fl (hd_UpFirst) (x := aLoad Tryz.prog 22 (pt_ b37 1) H44) (by kernel_rfl) (u50.ld (by kernel_rfl)) ?_
 refine e_' (pt_ b37 2) ?_
 refine d_fl (hd_Up) (x := aLoad Tryz.prog 23 (pt_ b37 2) H44) (by kernel_rfl) (u50.ld (by kernel_rfl)) ?_
 refine e_' (pt_ b37 3) ?_
 refine d_fl (hd_DownFirst) (x := aLoad Tryz.prog 22 (pt_ b37 3) H44) (by kernel_rfl) (u50.ld (by kernel_rfl)) ?_
 refine e_' (pt_ b37 4) ?_
 refine d_fl (hd_Down) (x := aLoad Tryz.prog 23 (pt_ b37 4) H44) (by kernel_rfl) (u50.ld (by kernel_rfl)) ?_
 have u51 := ((h_Node.ext e39).ext e45)
 obtain ⟨y52, hy53, r54⟩ := bind_some hr
 refine d_ck 27 #[hd_Node] (by kernel_rfl) (c_viaductref10_Words e45.wf u51 hy53) ?_
 rintro s55 H57 ⟨_, f56, rfl, e58, m59, i60⟩
 obtain ⟨a62, n63, c64, rfl⟩ := m59.form
 have u65 := (u50.frS e58 Dj.nil_l)
 refine ⟨st_ql (y := aLoad Tryz.prog 23 (pt_ b37 4) H57) (by kernel_rfl) (u65.ld (by kernel_rfl)) (st_ql (y := aLoad Tryz.prog 22 (pt_ b37 3) H57) (by kernel_rfl) (u65.ld (by kernel_rfl)) (st_ql (y := aLoad Tryz.prog 23 (pt_ b37 2) H57) (by kernel_rfl) (u65.ld (by kernel_rfl)) (st_ql (y := aLoad Tryz.prog 22 (pt_ b37 1) H57) (by kernel_rfl) (u65.ld (by kernel_rfl)) (st_nil)))), ?_⟩
 have u66 := (((h_UpFirst.ext e39).ext e45).fr e58 Dj.nil_l)
 obtain ⟨y67, hy68, r69⟩ := bind_some r54
 refine d_ck 27 #[hd_UpFirst] (by kernel_rfl) (c_viaductref10_Words e58.wf u66 hy68) ?_
 rintro s70 H72 ⟨_, f71, rfl, e73, m74, i75⟩
 obtain ⟨a77, n78, c79, rfl⟩ := m74.form
 have u80 := (u65.frS e73 Dj.nil_l)
 refine ⟨st_ql (y := aLoad Tryz.prog 23 (pt_ b37 4) H72) (by kernel_rfl) (u80.ld (by kernel_rfl)) (st_ql (y := aLoad Tryz.prog 22 (pt_ b37 3) H72) (by kernel_rfl) (u80.ld (by kernel_rfl)) (st_ql (y := aLoad Tryz.prog 23 (pt_ b37 2) H72) (by kernel_rfl) (u80.ld (by kernel_rfl)) (st_anc (by kernel_rfl) (st_nil)))), ?_⟩
 have u81 := ((((h_Up.ext e39).ext e45).fr e58 Dj.nil_l).fr e73 Dj.nil_l)
 obtain ⟨y82, hy83, r84⟩ := bind_some r69
 refine d_ck 28 #[hd_Up] (by kernel_rfl) (c_viaductref10_Links e73.wf u81 hy83) ?_
 rintro s85 H87 ⟨_, f86, rfl, e88, m89, i90⟩
 obtain ⟨a92, n93, c94, rfl⟩ := m89.form
 have u95 := (u80.frS e88 Dj.nil_l)
 refine ⟨st_ql (y := aLoad Tryz.prog 23 (pt_ b37 4) H87) (by kernel_rfl) (u95.ld (by kernel_rfl)) (st_ql (y := aLoad Tryz.prog 22 (pt_ b37 3) H87) (by kernel_rfl) (u95.ld (by kernel_rfl)) (st_anc (by kernel_rfl) (st_anc (by kernel_rfl) (st_nil)))), ?_⟩
 have u96 := (((((h_DownFirst.ext e39).ext e45).fr e58 Dj.nil_l).fr e73 Dj.nil_l).fr e88 Dj.nil_l)
 obtain ⟨y97, hy98, r99⟩ := bind_some r84
 refine d_ck 27 #[hd_DownFirst] (by kernel_rfl) (c_viaductref10_Words e88.wf u96 hy98) ?_
 rintro s100 H102 ⟨_, f101, rfl, e103, m104, i105⟩
 obtain ⟨a107, n108, c109, rfl⟩ := m104.form
 have u110 := (u95.frS e103 Dj.nil_l)
 refine ⟨st_ql (y := aLoad Tryz.prog 23 (pt_ b37 4) H102) (by kernel_rfl) (u110.ld (by kernel_rfl)) (st_anc (by kernel_rfl) (st_anc (by kernel_rfl) (st_anc (by kernel_rfl) (st_nil)))), ?_⟩
 have u111 := ((((((h_Down.ext e39).ext e45).fr e58 Dj.nil_l).fr e73 Dj.nil_l).fr e88 Dj.nil_l).fr e103 Dj.nil_l)
 obtain ⟨y112, hy113, r114⟩ := bind_some r99
 refine d_ck 28 #[hd_Down] (by kernel_rfl) (c_viaductref10_Links e103.wf u111 hy113) ?_
 rintro s115 H117 ⟨_, f116, rfl, e118, m119, i120⟩
 obtain ⟨a122, n123, c124, rfl⟩ := m119.form
 refine ⟨st_anc (by kernel_rfl) (st_anc (by kernel_rfl) (st_anc (by kernel_rfl) (st_anc (by kernel_rfl) (st_nil)))), ?_⟩
 refine e_' (.agg #[.slice a62 n63 c64, .slice a77 n78 c79, .slice a92 n93 c94, .slice a107 n108 c109, .slice a122 n123 c124]) ?_
 have u129 := (((((r47.frS e58 Dj.nil_l).frS e73 Dj.nil_l).frS e88 Dj.nil_l).frS e103 Dj.nil_l).frS e118 Dj.nil_l)
 have u130 := (m104.fr e118 Dj.nil_l)
 have u131 := ((m89.fr e103 Dj.nil_l).fr e118 Dj.nil_l)
 have u132 := (((m74.fr e88 Dj.nil_l).fr e103 Dj.nil_l).fr e118 Dj.nil_l)
 have u133 := ((((m59.fr e73 Dj.nil_l).fr e88 Dj.nil_l).fr e103 Dj.nil_l).fr e118 Dj.nil_l)
 obtain ⟨H125, q126, e127, r128⟩ := Row.store (P := Tryz.prog) (t := 25) (p := 0) e118.wf u129 (.agg #[.slice a62 n63 c64, .slice a77 n78 c79, .slice a92 n93 c94, .slice a107 n108 c109, .slice a122 n123 c124]) [.slice a62 n63 c64, .slice a77 n78 c79, .slice a92 n93 c94, .slice a107 n108 c109, .slice a122 n123 c124] (by kernel_rfl) (by kernel_rfl) (one_cons (u133.one1) (one_cons (u132.one1) (one_cons (u131.one1) (one_cons (u130.one1) (one_cons (m119.one1) (one_nil)))))) (Nat.le_of_ble_eq_true (by kernel_rfl)) [.slice a62 n63 c64, .slice a77 n78 c79, .slice a92 n93 c94, .slice a107 n108 c109, .slice a122 n123 c124] (by kernel_rfl)
 refine d_ek (undef) (by kernel_rfl) (map_ok q126) (st_anc (by kernel_rfl) (st_anc (by kernel_rfl) (st_anc (by kernel_rfl) (st_anc (by kernel_rfl) (st_nil))))) ?_
 refine d_nil ?_
 refine k49 _ _ ?_
 refine w_ret ?_
 refine b_ret (fn := Tryz.f8) (vs := [.agg #[.slice a62 n63 c64, .slice a77 n78 c79, .slice a92 n93 c94, .slice a107 n108 c109, .slice a122 n123 c124]]) (aRes_cell (Eq.trans (b := aLoad Tryz.prog 25 (pt_ b43 0) H125) (by kernel_rfl) (r128.ld (by kernel_rfl))) (rfl)) ?_
 have u134 := (u133.fr e127 (Dj.symm (i60.djn r47.ltF)))
 have u135 := (u132.fr e127 (Dj.symm (i75.djn (r47.ltF.le e58.next))))
 have u136 := (u131.fr e127 (Dj.symm (i90.djn (r47.ltF.le (ntr e58.next e73.next)))))
 have u137 := (u130.fr e127 (Dj.symm (i105.djn (r47.ltF.le (ntr (ntr e58.next e73.next) e88.next)))))
 have u138 := (m119.fr e127 (Dj.symm (i120.djn (r47.ltF.le (ntr (ntr (ntr e58.next e73.next) e88.next) e103.next)))))
 obtain rfl := Option.some.inj r114
 exact ⟨(.slice a62 n63 c64), f56, (.slice a77 n78 c79), f71, (.slice a92 n93 c94), f86, (.slice a107 n108 c109), f101, (.slice a122 n123 c124), f116, rfl, (FrS.step wf (FrS.step wf (FrS.step wf (FrS.step wf (FrS.step wf (FrS.step wf (((FrS.refl (W := []) wf).extR e39).extR e45) e58 Inn.nil) e73 Inn.nil) e88 Inn.nil) e103 Inn.nil) e118 Inn.nil) e127 (hb46.fresh e39.next)), u134, u135, u136, u137, u138, (i60.fresh (ntr e39.next e45.next)), (i75.fresh (ntr (ntr e39.next e45.next) e58.next)), (i90.fresh (ntr (ntr (ntr e39.next e45.next) e58.next) e73.next)), (i105.fresh (ntr (ntr (ntr (ntr e39.next e45.next) e58.next) e73.next) e88.next)), (i120.fresh (ntr (ntr (ntr (ntr (ntr e39.next e45.next) e58.next) e73.next) e88.next) e103.next)), (Dj.symm (i75.djn m59.lt)), (Dj.symm (i90.djn (m59.lt.le e73.next))), (Dj.symm (i90.djn m74.lt)), (Dj.symm (i105.djn (m59.lt.le (ntr e73.next e88.next)))), (Dj.symm (i105.djn (m74.lt.le e88.next))), (Dj.symm (i105.djn m89.lt)), (Dj.symm (i120.djn (m59.lt.le (ntr (ntr e73.next e88.next) e103.next)))), (Dj.symm (i120.djn (m74.lt.le (ntr e88.next e103.next)))), (Dj.symm (i120.djn (m89.lt.le e103.next))), (Dj.symm (i120.djn m104.lt))⟩
theorem c_viaductref01_E {H : AH} {n_ : Int} {r : Int}
    (wf : WF H) (hr : z_viaductref01_E n_ = some r) :
    ACalls Tryz.prog 29 #[i_ n_] H fun v H' => v = .agg #[i_ r, .slice none 0 0] ∧ FrS [] H H' := by
 refine acalls_of_body mixed Tryz.func29 rfl (Nat.le_of_ble_eq_true rfl) ?_
 unfold z_viaductref01_E at hr
 refine w_seqk fun _ k1 => g_' ?_
 refine s_rwk wf [i_ 0, .slice none 0 0] (by kernel_rfl) fun b2 H3 e4 hb5 r6 => ?_
 refine s_nil (k1 _ _ (w_seqk fun _ k8 => g_' (q_ (i_ n_) (q_ (.agg #[i_ n_, .slice none 0 0]) ?_))))
 obtain ⟨H9, q10, e11, r12⟩ := Row.store (P := Tryz.prog) (t := 35) (p := 0) e4.wf r6 (.agg #[i_ n_, .slice none 0 0]) [i_ n_, .slice none 0 0] (by kernel_rfl) (by kernel_rfl) (one_cons (rfl) (one_cons (rfl) (one_nil))) (Nat.le_of_ble_eq_true (by kernel_rfl)) [i_ n_, .slice none 0 0] (by kernel_rfl)
 refine s_ek (undef) (by kernel_rfl) (map_ok q10) ?_
 refine s_nil (k8 _ _ ?_)
 refine w_ret ?_
 refine b_ret (fn := Tryz.f29) (vs := [.agg #[i_ n_, .slice none 0 0]]) (aRes_cell (Eq.trans (b := aLoad Tryz.prog 35 (pt_ b2 0) H9) (by kernel_rfl) (r12.ld (by kernel_rfl))) (rfl)) ?_
 obtain rfl := Option.some.inj hr
 exact ⟨rfl, (FrS.step wf ((FrS.refl (W := []) wf).extR e4) e11 (hb5.fresh (Nat.le_refl _)))⟩
theorem c_viaductref01_At {H : AH} {hd_Places : Value} {fp_Places : Fp} {kind : Int} {at_ : Int} {Code : Int} {Places : List (Int × Int)} {r : Int × List (Int × Int)}
    (wf : WF H) (h_Places : Sq enc_i64_i64 2 H hd_Places Places fp_Places) (hr : z_viaductref01_At kind at_ Code Places = some r) :
    ACalls Tryz.prog 32 #[i_ kind, i_ at_, .agg #[i_ Code, hd_Places]] H fun v H' => ∃ (s3 : Value) (f4 : Fp), v = .agg #[i_ r.1, s3] ∧ FrS [] H H' ∧ Ow enc_i64_i64 2 H' s3 r.2 f4 ∧ Inn [] H f4 := by
 refine acalls_of_body mixed Tryz.func32 rfl (Nat.le_of_ble_eq_true rfl) ?_
 unfold z_viaductref01_At at hr
 refine w_seqk fun _ k6 => g_' ?_
 refine s_rwl wf [i_ Code, hd_Places] (one_cons (rfl) (one_cons (h_Places.one1) (one_nil))) (by kernel_rfl) fun b7 H8 e9 hb10 r11 => ?_
 refine s_rwk e9.wf [i_ 0, .slice none 0 0] (by kernel_rfl) fun b13 H14 e15 hb16 r17 => ?_
 refine s_nil (k6 _ _ (w_seqk fun _ k19 => g_' (q_ (i_ kind) (q_ (i_ at_) (q_ (.agg #[i_ kind, i_ at_]) ?_)))))
 refine s_owk (enc := enc_i64_i64) (sz := 2) e15.wf [(kind, at_)] 1 (by decide) (fun _ _ => rfl) (fun _ _ => rfl) rfl (by kernel_rfl) fun s20 f21 H22 e23 hf24 hm25 => ?_
 obtain ⟨a26, n27, c28, rfl⟩ := hm25.form
 refine q_ (.slice a26 n27 c28) (s_nil (k19 _ _ (w_seqk fun _ k30 => g_' (q_ (.slice a26 n27 c28) (q_ (pt_ b7 1) ?_)))))
 have u31 := ((r11.ext e15).ext e23)
 refine l_' (hd_Places) (aLoad Tryz.prog 33 (pt_ b7 1) H22) (u31.ld (by kernel_rfl)) ?_
 obtain ⟨g32, r33⟩ := G_some hr
 have u41 := (((h_Places.ext e9).ext e15).ext e23)
 obtain ⟨s34, H35, f36, q40, e37, hm38, hf39⟩ := Ow.append (P := Tryz.prog) 16 e23.wf hm25 u41 (fun _ _ => rfl) (at_ := #[33, 33]) rfl rfl (by kernel_rfl) (by kernel_rfl) (by decide) (by have := g32; first | omega | (simp only [List.length_cons, List.length_nil] at this ⊢; omega) | (simp at this ⊢; omega))
 obtain ⟨a42, n43, c44, rfl⟩ := hm38.form
 refine s_ek (.slice a42 n43 c44) (by kernel_rfl) (q40) ?_
 refine q_ (.slice a42 n43 c44) (s_nil (k30 _ _ (w_seqk fun _ k46 => g_' (q_ (pt_ b7 0) ?_))))
 have u47 := (u31.frS e37 (hf24.djn (r11.ltF.le e15.next)))
 refine l_' (i_ Code) (aLoad Tryz.prog 3 (pt_ b7 0) H35) (u47.ld (by kernel_rfl)) ?_
 refine q_ (.slice a42 n43 c44) (q_ (.agg #[i_ Code, .slice a42 n43 c44]) ?_)
 have u52 := ((r17.ext e23).frS e37 (hf24.djn r17.ltF))
 obtain ⟨H48, q49, e50, r51⟩ := Row.store (P := Tryz.prog) (t := 35) (p := 0) e37.wf u52 (.agg #[i_ Code, .slice a42 n43 c44]) [i_ Code, .slice a42 n43 c44] (by kernel_rfl) (by kernel_rfl) (one_cons (rfl) (one_cons (hm38.one1) (one_nil))) (Nat.le_of_ble_eq_true (by kernel_rfl)) [i_ Code, .slice a42 n43 c44] (by kernel_rfl)
 refine s_ek (undef) (by kernel_rfl) (map_ok q49) ?_
 refine s_nil (k46 _ _ ?_)
 refine w_ret ?_
 refine b_ret (fn := Tryz.f32) (vs := [.agg #[i_ Code, .slice a42 n43 c44]]) (aRes_cell (Eq.trans (b := aLoad Tryz.prog 35 (pt_ b13 0) H48) (by kernel_rfl) (r51.ld (by kernel_rfl))) (rfl)) ?_
 have u53 := (hm38.fr e50 (Dj.symm (hf39.dj (hf24.djn r17.ltF) (r17.ltF.le e23.next))))
 obtain rfl := Option.some.inj r33
 exact ⟨(.slice a42 n43 c44), f36, rfl, (FrS.step wf (FrS.step wf ((((FrS.refl (W := []) wf).extR e9).extR e15).extR e23) e37 (hf24.fresh (ntr e9.next e15.next))) e50 (hb16.fresh e9.next)), u53, (Inn.trans (hf24.fresh (ntr e9.next e15.next)) (ntr (ntr e9.next e15.next) e23.next) hf39)⟩
end Go.Vd

/-! (KHc3) -/

set_option maxRecDepth 100000
set_option maxHeartbeats 4000000
set_option linter.unusedVariables false
namespace Go.Vd
open Go.Proofs
attribute [local irreducible] wpSeq wpOrd aWp
theorem c_viaductref10_firsts {H : AH} {hd_l : Value} {fp_l : Fp} {l : List (Int)} {n_ : Int} {links : Int} {r : Int × List (Int × Int)}
    (wf : WF H) (h_l : Sq (encI .u32) 1 H hd_l l fp_l) (hr : z_viaductref10_firsts l n_ links = some r) :
    ACalls Tryz.prog 31 #[hd_l, i_ n_, i_ links] H fun v H' => ∃ (s3 : Value) (f4 : Fp), v = .agg #[i_ r.1, s3] ∧ FrS [] H H' ∧ Ow enc_i64_i64 2 H' s3 r.2 f4 ∧ Inn [] H f4 := by
 refine acalls_of_body mixed Tryz.func31 rfl (Nat.le_of_ble_eq_true rfl) ?_
 unfold z_viaductref10_firsts at hr
 refine w_seqk fun _ k6 => g_' ?_
 refine s_rwk wf [i_ 0, .slice none 0 0] (by kernel_rfl) fun b7 H8 e9 hb10 r11 => ?_
 refine s_nil (k6 _ _ (w_seqk fun _ k13 => w_seqk fun _ k14 => g_' (q_ (hd_l) ?_)))
 obtain ⟨g15, r16⟩ := G_some hr
 have u17 := (h_l.ext e9)
 refine l_' (elp hd_l 1 (0 : Int).toNat 0) (aIndexAddr Tryz.prog 22 hd_l (i_ 0)) (u17.idxb (by kernel_rfl) (by decide) g15) ?_
 refine l_' (.int .u32 (gt l 0)) (aLoad Tryz.prog 86 (elp hd_l 1 (0 : Int).toNat 0) H8) (u17.ld (by decide) g15 (by kernel_rfl)) ?_
 refine q_ (.bool (!decide ((gt l 0) = 0))) (s_nil (k14 _ _ ?_))
 refine w_condn ((gt l 0) = 0) (by kernel_rfl) rfl (fun h18 => ?_) (fun h18 => ?_)
 ·have r19 := ite_f h18 r16
  refine w_seqk fun _ k20 => g_' ?_
  obtain ⟨y21, hy22, r23⟩ := bind_some r19
  refine s_ck 29 #[i_ 14] (by kernel_rfl) (c_viaductref01_E e9.wf hy22) ?_
  rintro _ H24 ⟨rfl, e25⟩
  have u30 := (r11.frS e25 Dj.nil_l)
  obtain ⟨H26, q27, e28, r29⟩ := Row.store (P := Tryz.prog) (t := 35) (p := 0) e25.wf u30 (.agg #[i_ y21, .slice none 0 0]) [i_ y21, .slice none 0 0] (by kernel_rfl) (by kernel_rfl) (one_cons (rfl) (one_cons (rfl) (one_nil))) (Nat.le_of_ble_eq_true (by kernel_rfl)) [i_ y21, .slice none 0 0] (by kernel_rfl)
  refine s_ek (undef) (by kernel_rfl) (map_ok q27) ?_
  refine s_nil (k20 _ _ ?_)
  refine w_ret (th_ret ?_)
  refine b_ret (fn := Tryz.f31) (vs := [.agg #[i_ y21, .slice none 0 0]]) (aRes_cell (Eq.trans (b := aLoad Tryz.prog 35 (pt_ b7 0) H26) (by kernel_rfl) (r29.ld (by kernel_rfl))) (rfl)) ?_
  obtain rfl := Option.some.inj r23
  exact ⟨(.slice none 0 0), [], rfl, (FrS.step wf (FrS.step wf ((FrS.refl (W := []) wf).extR e9) e25 Inn.nil) e28 (hb10.fresh (Nat.le_refl _))), (Ow.nil (by decide)), Inn.nil⟩
 have r31 := ite_t h18 r16
 refine w_skip (k13 _ _ (w_seqk fun _ k32 => w_seqk fun _ k33 => g_' (q_ (i_ 0) (s_nil (k33 _ _ ?_)))))
 obtain ⟨z37, hx35, r36⟩ := bind_some r31
 refine w_mid (fun α H38 => ∃ o34, z37 = Sum.inr o34 ∧ Has α [(0, hd_l), (1, i_ n_), (2, i_ links), (6, pt_ b7 0)] ∧ H8 = H38) (fun _ k40 => ?_) (fun α H38 hM => ?_)
 ·refine w_block ?_
  obtain ⟨n42, hn43⟩ := loopO_iff.1 hx35
  refine w_loopn (fun n α H44 => ∃ (r0 : Int), iterO (fun zz_ => z_viaductref10_firsts_l0 l n_ zz_) n r0 = some z37 ∧ Has α [(0, hd_l), (1, i_ n_), (2, i_ links), (6, pt_ b7 0), (7, i_ r0)] ∧ H8 = H44) n42 ⟨0, hn43, ha_, rfl⟩ ?_
  rintro n42 α H44 ⟨r0, hi47, hh46, rfl⟩ K52 k52
  obtain ⟨n48, z49, rfl, hz50, hn51⟩ := iter_succ hi47
  obtain ⟨β, rfl⟩ := has_ex hh46
  clear hh46
  replace hz50 : z_viaductref10_firsts_l0 l n_ r0 = some z49 := hz50
  unfold z_viaductref10_firsts_l0 at hz50
  refine w_seqk fun _ k53 => w_seqk fun _ k54 => g_' (q_ (i_ r0) (q_ (i_ n_) (q_ (.bool (decide (r0 < n_))) (s_nil (k54 _ _ ?_)))))
  refine w_condp (r0 < n_) (by kernel_rfl) rfl (fun h55 => ?_) (fun h55 => ?_)
  ·have r56 := ite_t h55 hz50
   refine w_skip (k53 _ _ (w_seqk fun _ k57 => w_block (w_seqk fun _ k58 => ?_)))
   refine w_draw [0, 1, 2, 3, 4, 5, 6, 7, 8, 9] (by kernel_rfl) ?_
   refine e_' (hd_l) (e_' (i_ r0) ?_)
   obtain ⟨g59, r60⟩ := G_some r56
   refine d_w ((r0 + 1)) (k := .i64) (x := (r0 + 1)) (by kernel_rfl) (wrap64 g59) ?_
   obtain ⟨g61, r62⟩ := G_some r60
   refine m_' (elp hd_l 1 (r0 + 1).toNat 0) (aIndexAddr Tryz.prog 22 hd_l (i_ (r0 + 1))) (u17.idxb (by kernel_rfl) g61.1 g61.2) ?_
   refine m_' (.int .u32 (gt l (r0 + 1))) (aLoad Tryz.prog 86 (elp hd_l 1 (r0 + 1).toNat 0) H8) (u17.ld g61.1 g61.2 (by kernel_rfl)) ?_
   refine e_' (hd_l) (e_' (i_ r0) ?_)
   obtain ⟨g63, r64⟩ := G_some r62
   refine m_' (elp hd_l 1 r0.toNat 0) (aIndexAddr Tryz.prog 22 hd_l (i_ r0)) (u17.idxb (by kernel_rfl) g63.1 g63.2) ?_
   refine m_' (.int .u32 (gt l r0)) (aLoad Tryz.prog 86 (elp hd_l 1 r0.toNat 0) H8) (u17.ld g63.1 g63.2 (by kernel_rfl)) ?_
   refine e_' (.bool (decide ((gt l (r0 + 1)) < (gt l r0)))) ?_
   refine d_nil ?_
   refine k58 _ _ ?_
   refine w_condp ((gt l (r0 + 1)) < (gt l r0)) (by kernel_rfl) rfl (fun h65 => ?_) (fun h65 => ?_)
   ·have r66 := ite_t h65 r64
    refine w_seqk fun _ k67 => g_' (q_ (i_ r0) ?_)
    obtain ⟨y68, hy69, r70⟩ := bind_some r66
    refine s_ck 29 #[i_ 14] (by kernel_rfl) (c_viaductref01_E e9.wf hy69) ?_
    rintro _ H71 ⟨rfl, e72⟩
    obtain ⟨y73, hy74, r75⟩ := bind_some r70
    refine s_ck 32 #[i_ 3, i_ r0, .agg #[i_ y68, .slice none 0 0]] (by kernel_rfl) (c_viaductref01_At e72.wf (Sq.nil (enc := enc_i64_i64) (sz := 2) (by decide)) hy74) ?_
    rintro _ H78 ⟨s76, f77, rfl, e79, m80, i81⟩
    obtain ⟨a83, n84, c85, rfl⟩ := m80.form
    have u90 := ((r11.frS e72 Dj.nil_l).frS e79 Dj.nil_l)
    obtain ⟨H86, q87, e88, r89⟩ := Row.store (P := Tryz.prog) (t := 35) (p := 0) e79.wf u90 (.agg #[i_ y73.1, .slice a83 n84 c85]) [i_ y73.1, .slice a83 n84 c85] (by kernel_rfl) (by kernel_rfl) (one_cons (rfl) (one_cons (m80.one1) (one_nil))) (Nat.le_of_ble_eq_true (by kernel_rfl)) [i_ y73.1, .slice a83 n84 c85] (by kernel_rfl)
    refine s_ek (undef) (by kernel_rfl) (map_ok q87) ?_
    refine s_nil (k67 _ _ ?_)
    refine w_ret (bl_ret (th_ret (th_ret (bl_ret (th_ret (th_ret ?_))))))
    obtain ⟨v91, hv92, hz93⟩ := map_some r75
    subst hz93
    obtain rfl := it_inr hn51
    have hq94 := elim_inl r36
    rw [hq94] at hv92
    refine b_ret (fn := Tryz.f31) (vs := [.agg #[i_ y73.1, .slice a83 n84 c85]]) (aRes_cell (Eq.trans (b := aLoad Tryz.prog 35 (pt_ b7 0) H86) (by kernel_rfl) (r89.ld (by kernel_rfl))) (rfl)) ?_
    have u95 := (m80.fr e88 (Dj.symm (i81.djn (r11.ltF.le e72.next))))
    obtain rfl := Option.some.inj hv92
    exact ⟨(.slice a83 n84 c85), f77, rfl, (FrS.step wf (FrS.step wf (FrS.step wf ((FrS.refl (W := []) wf).extR e9) e72 Inn.nil) e79 Inn.nil) e88 (hb10.fresh (Nat.le_refl _))), u95, (i81.fresh (ntr e9.next e72.next))⟩
   have r96 := ite_f h65 r64
   refine w_skip (k57 _ _ (g_' (q_ (i_ r0) ?_)))
   obtain ⟨g97, r98⟩ := G_some r96
   refine w_' (r0 + 1) (wrap64 (by have := g97; omega)) ?_
   refine q_ (i_ (r0 + 1)) (s_nil ?_)
   obtain rfl := Option.some.inj r98
   exact k52 n48 _ _ (Nat.lt_succ_self _) ⟨(r0 + 1), hn51, ha_, rfl⟩
  have r99 := ite_f h55 hz50
  refine w_exit (th_exit (th_exit (bl_eq ?_)))
  obtain rfl := Option.some.inj r99
  obtain rfl := it_inr hn51
  exact k40 _ _ ⟨_, rfl, ha_, rfl⟩
 obtain ⟨o34, rfl, hh41, rfl⟩ := hM
 have r100 := elim_inr r36
 obtain ⟨β, rfl⟩ := has_ex hh41
 clear hh41
 refine k32 _ _ (w_seqk fun _ k101 => w_seqk fun _ k102 => g_' (q_ (hd_l) (q_ (i_ n_) ?_)))
 obtain ⟨g103, r104⟩ := G_some r100
 refine l_' (elp hd_l 1 n_.toNat 0) (aIndexAddr Tryz.prog 22 hd_l (i_ n_)) (u17.idxb (by kernel_rfl) g103.1 g103.2) ?_
 refine l_' (.int .u32 (gt l n_)) (aLoad Tryz.prog 86 (elp hd_l 1 n_.toNat 0) H8) (u17.ld g103.1 g103.2 (by kernel_rfl)) ?_
 obtain ⟨g105, r106⟩ := G_some r104
 refine s_w ((gt l n_)) (k := .u64) (x := (gt l n_)) (by kernel_rfl) (wrapu64 g105) ?_
 refine q_ (i_ links) ?_
 obtain ⟨g107, r108⟩ := G_some r106
 refine s_w (links) (k := .u64) (x := links) (by kernel_rfl) (wrapu64 g107) ?_
 refine q_ (.bool (!decide ((gt l n_) = links))) (s_nil (k102 _ _ ?_))
 refine w_condn ((gt l n_) = links) (by kernel_rfl) rfl (fun h109 => ?_) (fun h109 => ?_)
 ·have r110 := ite_f h109 r108
  refine w_seqk fun _ k111 => g_' ?_
  obtain ⟨y112, hy113, r114⟩ := bind_some r110
  refine s_ck 29 #[i_ 14] (by kernel_rfl) (c_viaductref01_E e9.wf hy113) ?_
  rintro _ H115 ⟨rfl, e116⟩
  have u121 := (r11.frS e116 Dj.nil_l)
  obtain ⟨H117, q118, e119, r120⟩ := Row.store (P := Tryz.prog) (t := 35) (p := 0) e116.wf u121 (.agg #[i_ y112, .slice none 0 0]) [i_ y112, .slice none 0 0] (by kernel_rfl) (by kernel_rfl) (one_cons (rfl) (one_cons (rfl) (one_nil))) (Nat.le_of_ble_eq_true (by kernel_rfl)) [i_ y112, .slice none 0 0] (by kernel_rfl)
  refine s_ek (undef) (by kernel_rfl) (map_ok q118) ?_
  refine s_nil (k111 _ _ ?_)
  refine w_ret (th_ret ?_)
  refine b_ret (fn := Tryz.f31) (vs := [.agg #[i_ y112, .slice none 0 0]]) (aRes_cell (Eq.trans (b := aLoad Tryz.prog 35 (pt_ b7 0) H117) (by kernel_rfl) (r120.ld (by kernel_rfl))) (rfl)) ?_
  obtain rfl := Option.some.inj r114
  exact ⟨(.slice none 0 0), [], rfl, (FrS.step wf (FrS.step wf ((FrS.refl (W := []) wf).extR e9) e116 Inn.nil) e119 (hb10.fresh (Nat.le_refl _))), (Ow.nil (by decide)), Inn.nil⟩
 have r122 := ite_t h109 r108
 refine w_skip (k101 _ _ (w_seqk fun _ k123 => g_' (q_ (.agg #[i_ 0, .slice none 0 0]) ?_)))
 obtain ⟨H124, q125, e126, r127⟩ := Row.store (P := Tryz.prog) (t := 35) (p := 0) e9.wf r11 (.agg #[i_ 0, .slice none 0 0]) [i_ 0, .slice none 0 0] (by kernel_rfl) (by kernel_rfl) (one_cons (rfl) (one_cons (rfl) (one_nil))) (Nat.le_of_ble_eq_true (by kernel_rfl)) [i_ 0, .slice none 0 0] (by kernel_rfl)
 refine s_ek (undef) (by kernel_rfl) (map_ok q125) ?_
 refine s_nil (k123 _ _ ?_)
 refine w_ret ?_
 refine b_ret (fn := Tryz.f31) (vs := [.agg #[i_ 0, .slice none 0 0]]) (aRes_cell (Eq.trans (b := aLoad Tryz.prog 35 (pt_ b7 0) H124) (by kernel_rfl) (r127.ld (by kernel_rfl))) (rfl)) ?_
 obtain rfl := Option.some.inj r122
 exact ⟨(.slice none 0 0), [], rfl, (FrS.step wf ((FrS.refl (W := []) wf).extR e9) e126 (hb10.fresh (Nat.le_refl _))), (Ow.nil (by decide)), Inn.nil⟩
theorem c_viaductref01_Err_Bad {H : AH} {hd_Places : Value} {fp_Places : Fp} {Code : Int} {Places : List (Int × Int)} {r : Bool}
    (wf : WF H) (h_Places : Sq enc_i64_i64 2 H hd_Places Places fp_Places) (hr : z_viaductref01_Err_Bad Code Places = some r) :
    ACalls Tryz.prog 23 #[.agg #[i_ Code, hd_Places]] H fun v H' => v = .bool r ∧ FrS [] H H' := by
 refine acalls_of_body mixed Tryz.func23 rfl (Nat.le_of_ble_eq_true rfl) ?_
 unfold z_viaductref01_Err_Bad at hr
 refine w_seqk fun _ k1 => g_' ?_
 refine s_rwl wf [i_ Code, hd_Places] (one_cons (rfl) (one_cons (h_Places.one1) (one_nil))) (by kernel_rfl) fun b2 H3 e4 hb5 r6 => ?_
 refine q_ (.bool false) (s_nil (k1 _ _ (w_seqk fun _ k8 => g_' (q_ (pt_ b2 0) ?_))))
 refine l_' (i_ Code) (aLoad Tryz.prog 3 (pt_ b2 0) H3) (r6.ld (by kernel_rfl)) ?_
 refine s_bn (Code = 0) (by kernel_rfl) (fun h9 => ?_) (fun h9 => ?_)
 ·have r10 := ite_t h9 hr
  refine q_ (.bool false) (q_ (pt_ b2 1) ?_)
  refine l_' (hd_Places) (aLoad Tryz.prog 33 (pt_ b2 1) H3) (r6.ld (by kernel_rfl)) ?_
  have u11 := (h_Places.ext e4)
  refine l_' (i_ (Places.length : Int)) (aLen Tryz.prog 33 hd_Places H3) (u11.lenb (by kernel_rfl)) ?_
  refine q_ (.bool (decide ((Places.length : Int) > 0))) (q_ (.bool (decide ((Places.length : Int) > 0))) (q_ (.bool (decide ((Places.length : Int) > 0))) (s_nil (k8 _ _ ?_))))
  refine w_ret ?_
  refine b_ret (fn := Tryz.f23) (vs := [.bool (decide ((Places.length : Int) > 0))]) (aRes_tmp (by kernel_rfl) (rfl)) ?_
  obtain rfl := Option.some.inj r10
  exact ⟨rfl, ((FrS.refl (W := []) wf).extR e4)⟩
 have r12 := ite_f h9 hr
 refine q_ (.bool true) (n_' (n_' (n_' (n_' (q_ (.bool true) (q_ (.bool true) (s_nil (k8 _ _ ?_))))))))
 refine w_ret ?_
 refine b_ret (fn := Tryz.f23) (vs := [.bool true]) (aRes_tmp (by kernel_rfl) (rfl)) ?_
 obtain rfl := Option.some.inj r12
 exact ⟨rfl, ((FrS.refl (W := []) wf).extR e4)⟩
theorem c_viaductref01_First {H : AH} {b_list : Nat} {hd_list_2 : Value} {fp_list_2 : Fp} {hd_list_4 : Value} {fp_list_4 : Fp} {list_ : Int} {list_2 : List (Int × Int)} {list_3 : Int} {list_4 : List (Int × Int)} {r : Int × List (Int × Int)}
    (wf : WF H) (h_list_2 : Sq enc_i64_i64 2 H hd_list_2 list_2 fp_list_2) (h_list_4 : Sq enc_i64_i64 2 H hd_list_4 list_4 fp_list_4) (h_list : Row H b_list [i_ list_, hd_list_2, i_ list_3, hd_list_4]) (hr : z_viaductref01_First list_ list_2 list_3 list_4 = some r) :
    ACalls Tryz.prog 30 #[.slice (some ⟨b_list, 0, none⟩) 2 2] H fun v H' => ∃ (s3 : Value) (f4 : Fp), v = .agg #[i_ r.1, s3] ∧ FrS [] H H' ∧ Sq enc_i64_i64 2 H' s3 r.2 f4 ∧ Inn (fp_list_2 ++ fp_list_4) H f4 := by
 refine acalls_of_body mixed Tryz.func30 rfl (Nat.le_of_ble_eq_true rfl) ?_
 unfold z_viaductref01_First at hr
 refine w_seqk fun _ k6 => g_' ?_
 refine s_rwk wf [i_ 0, .slice none 0 0] (by kernel_rfl) fun b7 H8 e9 hb10 r11 => ?_
 refine s_nil (k6 _ _ (w_seqk fun _ k13 => w_seqk fun _ k14 => g_' (q_ (.slice (some ⟨b_list, 0, none⟩) 2 2) (q_ (i_ 2) (q_ (i_ 0) (s_nil (k14 _ _ (w_block ?_))))))))
 refine w_unroll ?_
 refine w_seqk fun _ k15 => g_' (q_ (.bool true) (s_nil (k15 _ _ (w_seqk fun _ k16 => ?_))))
 refine w_cond true (by kernel_rfl) rfl (fun _ => ?_) (fun h => by cases h)
 refine w_skip (k16 _ _ (w_seqk fun _ k17 => w_block (w_seqk fun _ k18 => g_' (q_ (pt_ b_list 0) ?_))))
 have u19 := (h_list.ext e9)
 refine l_' (.agg #[i_ list_, hd_list_2]) (aLoad Tryz.prog 35 (pt_ b_list 0) H8) (u19.ld (by kernel_rfl)) ?_
 refine s_rwk e9.wf [i_ 0, .slice none 0 0] (by kernel_rfl) fun b20 H21 e22 hb23 r24 => ?_
 have u30 := ((h_list_2.ext e9).ext e22)
 obtain ⟨H26, q27, e28, r29⟩ := Row.store (P := Tryz.prog) (t := 35) (p := 0) e22.wf r24 (.agg #[i_ list_, hd_list_2]) [i_ list_, hd_list_2] (by kernel_rfl) (by kernel_rfl) (one_cons (rfl) (one_cons (u30.one1) (one_nil))) (Nat.le_of_ble_eq_true (by kernel_rfl)) [i_ list_, hd_list_2] (by kernel_rfl)
 refine s_ek (undef) (by kernel_rfl) (map_ok q27) ?_
 refine s_nil (k18 _ _ (w_seqk fun _ k31 => g_' ?_))
 refine l_' (.agg #[i_ list_, hd_list_2]) (aLoad Tryz.prog 35 (pt_ b20 0) H26) (r29.ld (by kernel_rfl)) ?_
 have u32 := (u30.fr e28 (hb23.djn (h_list_2.lt.le e9.next)))
 obtain ⟨y33, hy34, r35⟩ := bind_some hr
 refine s_ck 23 #[.agg #[i_ list_, hd_list_2]] (by kernel_rfl) (c_viaductref01_Err_Bad e28.wf u32 hy34) ?_
 rintro _ H36 ⟨rfl, e37⟩
 refine s_nil (k31 _ _ ?_)
 refine w_cond (y33) (by kernel_rfl) rfl (fun h38 => ?_) (fun h38 => ?_)
 ·have r39 := ite_t h38 r35
  refine w_seqk fun _ k40 => g_' ?_
  have u41 := (r29.frS e37 Dj.nil_l)
  refine l_' (.agg #[i_ list_, hd_list_2]) (aLoad Tryz.prog 35 (pt_ b20 0) H36) (u41.ld (by kernel_rfl)) ?_
  have u46 := (((r11.ext e22).frS e28 (hb23.djn r11.ltF)).frS e37 Dj.nil_l)
  have u47 := (u32.fr e37 Dj.nil_l)
  obtain ⟨H42, q43, e44, r45⟩ := Row.store (P := Tryz.prog) (t := 35) (p := 0) e37.wf u46 (.agg #[i_ list_, hd_list_2]) [i_ list_, hd_list_2] (by kernel_rfl) (by kernel_rfl) (one_cons (rfl) (one_cons (u47.one1) (one_nil))) (Nat.le_of_ble_eq_true (by kernel_rfl)) [i_ list_, hd_list_2] (by kernel_rfl)
  refine s_ek (undef) (by kernel_rfl) (map_ok q43) ?_
  refine s_nil (k40 _ _ ?_)
  refine w_ret (bl_ret (th_ret (th_ret (bl_ret (th_ret ?_)))))
  refine b_ret (fn := Tryz.f30) (vs := [.agg #[i_ list_, hd_list_2]]) (aRes_cell (Eq.trans (b := aLoad Tryz.prog 35 (pt_ b7 0) H42) (by kernel_rfl) (r45.ld (by kernel_rfl))) (rfl)) ?_
  have u48 := (u47.fr e44 (hb10.djn h_list_2.lt))
  obtain rfl := Option.some.inj r39
  exact ⟨(hd_list_2), fp_list_2, rfl, (FrS.step wf (FrS.step wf (FrS.step wf (((FrS.refl (W := []) wf).extR e9).extR e22) e28 (hb23.fresh e9.next)) e37 Inn.nil) e44 (hb10.fresh (Nat.le_refl _))), u48, Inn.left⟩
 have r49 := ite_bf h38 r35
 refine w_skip (k17 _ _ (g_' (q_ (i_ 1) (q_ (i_ 1) (s_nil ?_)))))
 refine w_unroll ?_
 refine w_seqk fun _ k50 => g_' (q_ (.bool true) (s_nil (k50 _ _ (w_seqk fun _ k51 => ?_))))
 refine w_cond true (by kernel_rfl) rfl (fun _ => ?_) (fun h => by cases h)
 refine w_skip (k51 _ _ (w_seqk fun _ k52 => w_block (w_seqk fun _ k53 => g_' (q_ (pt_ b_list 2) ?_))))
 have u54 := (((u19.ext e22).frS e28 (hb23.djn (h_list.ltF.le e9.next))).frS e37 Dj.nil_l)
 refine l_' (.agg #[i_ list_3, hd_list_4]) (aLoad Tryz.prog 35 (pt_ b_list 2) H36) (u54.ld (by kernel_rfl)) ?_
 refine s_rwk e37.wf [i_ 0, .slice none 0 0] (by kernel_rfl) fun b55 H56 e57 hb58 r59 => ?_
 have u65 := (((((h_list_4.ext e9).ext e22).fr e28 (hb23.djn (h_list_4.lt.le e9.next))).fr e37 Dj.nil_l).ext e57)
 obtain ⟨H61, q62, e63, r64⟩ := Row.store (P := Tryz.prog) (t := 35) (p := 0) e57.wf r59 (.agg #[i_ list_3, hd_list_4]) [i_ list_3, hd_list_4] (by kernel_rfl) (by kernel_rfl) (one_cons (rfl) (one_cons (u65.one1) (one_nil))) (Nat.le_of_ble_eq_true (by kernel_rfl)) [i_ list_3, hd_list_4] (by kernel_rfl)
 refine s_ek (undef) (by kernel_rfl) (map_ok q62) ?_
 refine s_nil (k53 _ _ (w_seqk fun _ k66 => g_' ?_))
 refine l_' (.agg #[i_ list_3, hd_list_4]) (aLoad Tryz.prog 35 (pt_ b55 0) H61) (r64.ld (by kernel_rfl)) ?_
 have u67 := (u65.fr e63 (hb58.djn (h_list_4.lt.le (ntr (ntr (ntr e9.next e22.next) e28.next) e37.next))))
 obtain ⟨y68, hy69, r70⟩ := bind_some r49
 refine s_ck 23 #[.agg #[i_ list_3, hd_list_4]] (by kernel_rfl) (c_viaductref01_Err_Bad e63.wf u67 hy69) ?_
 rintro _ H71 ⟨rfl, e72⟩
 refine s_nil (k66 _ _ ?_)
 refine w_cond (y68) (by kernel_rfl) rfl (fun h73 => ?_) (fun h73 => ?_)
 ·have r74 := ite_t h73 r70
  refine w_seqk fun _ k75 => g_' ?_
  have u76 := (r64.frS e72 Dj.nil_l)
  refine l_' (.agg #[i_ list_3, hd_list_4]) (aLoad Tryz.prog 35 (pt_ b55 0) H71) (u76.ld (by kernel_rfl)) ?_
  have u81 := ((((((r11.ext e22).frS e28 (hb23.djn r11.ltF)).frS e37 Dj.nil_l).ext e57).frS e63 (hb58.djn (r11.ltF.le (ntr (ntr e22.next e28.next) e37.next)))).frS e72 Dj.nil_l)
  have u82 := (u67.fr e72 Dj.nil_l)
  obtain ⟨H77, q78, e79, r80⟩ := Row.store (P := Tryz.prog) (t := 35) (p := 0) e72.wf u81 (.agg #[i_ list_3, hd_list_4]) [i_ list_3, hd_list_4] (by kernel_rfl) (by kernel_rfl) (one_cons (rfl) (one_cons (u82.one1) (one_nil))) (Nat.le_of_ble_eq_true (by kernel_rfl)) [i_ list_3, hd_list_4] (by kernel_rfl)
  refine s_ek (undef) (by kernel_rfl) (map_ok q78) ?_
  refine s_nil (k75 _ _ ?_)
  refine w_ret (bl_ret (th_ret (th_ret (bl_ret (th_ret ?_)))))
  refine b_ret (fn := Tryz.f30) (vs := [.agg #[i_ list_3, hd_list_4]]) (aRes_cell (Eq.trans (b := aLoad Tryz.prog 35 (pt_ b7 0) H77) (by kernel_rfl) (r80.ld (by kernel_rfl))) (rfl)) ?_
  have u83 := (u82.fr e79 (hb10.djn h_list_4.lt))
  obtain rfl := Option.some.inj r74
  exact ⟨(hd_list_4), fp_list_4, rfl, (FrS.step wf (FrS.step wf (FrS.step wf ((FrS.step wf (FrS.step wf (((FrS.refl (W := []) wf).extR e9).extR e22) e28 (hb23.fresh e9.next)) e37 Inn.nil).extR e57) e63 (hb58.fresh (ntr (ntr (ntr e9.next e22.next) e28.next) e37.next))) e72 Inn.nil) e79 (hb10.fresh (Nat.le_refl _))), u83, (Inn.right Inn.refl')⟩
 have r84 := ite_bf h73 r70
 refine w_skip (k52 _ _ (g_' (q_ (i_ 2) (q_ (i_ 2) (s_nil ?_)))))
 refine w_unroll ?_
 refine w_seqk fun _ k85 => g_' (q_ (.bool false) (s_nil (k85 _ _ (w_seqk fun _ k86 => ?_))))
 refine w_cond false (by kernel_rfl) rfl (fun h => by cases h) (fun _ => ?_)
 refine w_exit (th_exit (th_exit (bl_eq ?_)))
 refine k13 _ _ (w_seqk fun _ k87 => g_' (q_ (.agg #[i_ 0, .slice none 0 0]) ?_))
 have u92 := ((((((r11.ext e22).frS e28 (hb23.djn r11.ltF)).frS e37 Dj.nil_l).ext e57).frS e63 (hb58.djn (r11.ltF.le (ntr (ntr e22.next e28.next) e37.next)))).frS e72 Dj.nil_l)
 obtain ⟨H88, q89, e90, r91⟩ := Row.store (P := Tryz.prog) (t := 35) (p := 0) e72.wf u92 (.agg #[i_ 0, .slice none 0 0]) [i_ 0, .slice none 0 0] (by kernel_rfl) (by kernel_rfl) (one_cons (rfl) (one_cons (rfl) (one_nil))) (Nat.le_of_ble_eq_true (by kernel_rfl)) [i_ 0, .slice none 0 0] (by kernel_rfl)
 refine s_ek (undef) (by kernel_rfl) (map_ok q89) ?_
 refine s_nil (k87 _ _ ?_)
 refine w_ret ?_
 refine b_ret (fn := Tryz.f30) (vs := [.agg #[i_ 0, .slice none 0 0]]) (aRes_cell (Eq.trans (b := aLoad Tryz.prog 35 (pt_ b7 0) H88) (by kernel_rfl) (r91.ld (by kernel_rfl))) (rfl)) ?_
 obtain rfl := Option.some.inj r84
 exact ⟨(.slice none 0 0), [], rfl, (FrS.step wf (FrS.step wf (FrS.step wf ((FrS.step wf (FrS.step wf (((FrS.refl (W := []) wf).extR e9).extR e22) e28 (hb23.fresh e9.next)) e37 Inn.nil).extR e57) e63 (hb58.fresh (ntr (ntr (ntr e9.next e22.next) e28.next) e37.next))) e72 Inn.nil) e90 (hb10.fresh (Nat.le_refl _))), (Sq.nil (by decide)), Inn.nil⟩
theorem c_viaductref10_Ranks {H : AH} {hd_Node : Value} {fp_Node : Fp} {hd_UpFirst : Value} {fp_UpFirst : Fp} {hd_Up : Value} {fp_Up : Fp} {hd_DownFirst : Value} {fp_DownFirst : Fp} {hd_Down : Value} {fp_Down : Fp} {Node : List (Int)} {UpFirst : List (Int)} {Up : List (Int × Int × Int × Int)} {DownFirst : List (Int)} {Down : List (Int × Int × Int × Int)} {r : List (Int)}
    (wf : WF H) (h_Node : Sq (encI .u32) 1 H hd_Node Node fp_Node) (h_UpFirst : Sq (encI .u32) 1 H hd_UpFirst UpFirst fp_UpFirst) (h_Up : Sq enc_u32_u64_u32_u32 4 H hd_Up Up fp_Up) (h_DownFirst : Sq (encI .u32) 1 H hd_DownFirst DownFirst fp_DownFirst) (h_Down : Sq enc_u32_u64_u32_u32 4 H hd_Down Down fp_Down) (hr : z_viaductref10_Ranks Node UpFirst Up DownFirst Down = some r) :
    ACalls Tryz.prog 33 #[.agg #[hd_Node, hd_UpFirst, hd_Up, hd_DownFirst, hd_Down]] H fun v H' => ∃ (s3 : Value) (f4 : Fp), v = s3 ∧ FrS [] H H' ∧ Ow (encI .i64) 1 H' s3 r f4 ∧ Inn [] H f4 := by
 refine acalls_of_body mixed Tryz.func33 rfl (Nat.le_of_ble_eq_true rfl) ?_
 unfold z_viaductref10_Ranks at hr
 refine w_seqk fun _ k6 => g_' ?_
 refine s_rwl wf [hd_Node, hd_UpFirst, hd_Up, hd_DownFirst, hd_Down] (one_cons (h_Node.one1) (one_cons (h_UpFirst.one1) (one_cons (h_Up.one1) (one_cons (h_DownFirst.one1) (one_cons (h_Down.one1) (one_nil)))))) (by kernel_rfl) fun b7 H8 e9 hb10 r11 => ?_
 refine q_ (.slice none 0 0) (s_nil (k6 _ _ (w_seqk fun _ k13 => g_' (q_ (.slice none 0 0) (s_nil (k13 _ _ (w_seqk fun _ k14 => w_seqk fun _ k15 => g_' (q_ (i_ 0) (s_nil (k15 _ _ ?_))))))))))
 obtain ⟨o16, hx17, r18⟩ := bind_some hr
 refine w_mid (fun α H19 => ∃ (s23 : Value) (f24 : Fp), Has α [(1, pt_ b7 0), (3, s23)] ∧ FrS [] H8 H19 ∧ Ow (encI .i64) 1 H19 s23 o16 f24 ∧ Inn [] H8 f24) (fun _ k26 => ?_) (fun α H19 hM => ?_)
 ·refine w_block ?_
  obtain ⟨n28, hn29⟩ := loopO_iff.1 hx17
  refine w_loopn (fun n α H30 => ∃ (l2 : List (Int)), ∃ (r3 : Int), ∃ (s34 : Value), ∃ (f35 : Fp), iterO (fun zz_ => z_viaductref10_Ranks_l1 UpFirst zz_.1 zz_.2) n (l2, r3) = some o16 ∧ Has α [(1, pt_ b7 0), (3, s34), (4, i_ r3)] ∧ FrS [] H8 H30 ∧ Ow (encI .i64) 1 H30 s34 l2 f35 ∧ Inn [] H8 f35) n28 ⟨[], 0, (.slice none 0 0), [], hn29, ha_, (FrS.refl (W := []) e9.wf), (Ow.nil (by decide)), Inn.nil⟩ ?_
  rintro n28 α H30 ⟨l2, r3, s34, f35, hi38, hh37, e31, m33, i36⟩ K43 k43
  obtain ⟨n39, z40, rfl, hz41, hn42⟩ := iter_succ hi38
  obtain ⟨β, rfl⟩ := has_ex hh37
  clear hh37
  replace hz41 : z_viaductref10_Ranks_l1 UpFirst l2 r3 = some z40 := hz41
  unfold z_viaductref10_Ranks_l1 at hz41
  obtain ⟨a44, n45, c46, rfl⟩ := m33.form
  refine w_seqk fun _ k47 => w_seqk fun _ k48 => g_' (q_ (i_ r3) ?_)
  obtain ⟨g49, r50⟩ := G_some hz41
  refine w_' (r3 + 1) (wrap64 g49) ?_
  refine q_ (pt_ b7 1) ?_
  have u51 := (r11.frS e31 Dj.nil_l)
  refine l_' (hd_UpFirst) (aLoad Tryz.prog 22 (pt_ b7 1) H30) (u51.ld (by kernel_rfl)) ?_
  have u52 := ((h_UpFirst.ext e9).fr e31 Dj.nil_l)
  refine l_' (i_ (UpFirst.length : Int)) (aLen Tryz.prog 22 hd_UpFirst H30) (u52.lenb (by kernel_rfl)) ?_
  refine q_ (.bool (decide ((r3 + 1) < (UpFirst.length : Int)))) (s_nil (k48 _ _ ?_))
  refine w_condp ((r3 + 1) < (UpFirst.length : Int)) (by kernel_rfl) rfl (fun h53 => ?_) (fun h53 => ?_)
  ·have r54 := ite_t h53 r50
   refine w_skip (k47 _ _ (w_seqk fun _ k55 => w_block (w_seqk fun _ k56 => g_' (q_ (pt_ b7 1) ?_))))
   refine l_' (hd_UpFirst) (aLoad Tryz.prog 22 (pt_ b7 1) H30) (u51.ld (by kernel_rfl)) ?_
   refine q_ (i_ r3) ?_
   obtain ⟨g57, r58⟩ := G_some r54
   refine l_' (elp hd_UpFirst 1 r3.toNat 0) (aIndexAddr Tryz.prog 22 hd_UpFirst (i_ r3)) (u52.idxb (by kernel_rfl) g57.1 g57.2) ?_
   refine l_' (.int .u32 (gt UpFirst r3)) (aLoad Tryz.prog 86 (elp hd_UpFirst 1 r3.toNat 0) H30) (u52.ld g57.1 g57.2 (by kernel_rfl)) ?_
   refine q_ (.int .u32 (gt UpFirst r3)) (s_nil (k56 _ _ ?_))
   obtain ⟨o59, hx60, r61⟩ := bind_some r58
   refine w_mid (fun α H62 => ∃ (s66 : Value) (f67 : Fp), Has α [(1, pt_ b7 0), (3, s66), (4, i_ r3)] ∧ FrS f35 H30 H62 ∧ Ow (encI .i64) 1 H62 s66 o59 f67 ∧ Inn f35 H30 f67) (fun _ k69 => ?_) (fun α H62 hM => ?_)
   ·refine w_block ?_
    obtain ⟨n71, hn72⟩ := loopO_iff.1 hx60
    refine w_loopn (fun n α H73 => ∃ (l0 : List (Int)), ∃ (i1 : Int), ∃ (s77 : Value), ∃ (f78 : Fp), iterO (fun zz_ => z_viaductref10_Ranks_l0 UpFirst r3 zz_.1 zz_.2) n (l0, i1) = some o59 ∧ Has α [(1, pt_ b7 0), (3, s77), (4, i_ r3), (5, .int .u32 i1)] ∧ FrS f35 H30 H73 ∧ Ow (encI .i64) 1 H73 s77 l0 f78 ∧ Inn f35 H30 f78) n71 ⟨l2, (gt UpFirst r3), (.slice a44 n45 c46), f35, hn72, ha_, (FrS.refl (W := f35) e31.wf), m33, Inn.refl'⟩ ?_
    rintro n71 α H73 ⟨l0, i1, s77, f78, hi81, hh80, e74, m76, i79⟩ K86 k86
    obtain ⟨n82, z83, rfl, hz84, hn85⟩ := iter_succ hi81
    obtain ⟨β, rfl⟩ := has_ex hh80
    clear hh80
    replace hz84 : z_viaductref10_Ranks_l0 UpFirst r3 l0 i1 = some z83 := hz84
    unfold z_viaductref10_Ranks_l0 at hz84
    obtain ⟨a87, n88, c89, rfl⟩ := m76.form
    refine w_seqk fun _ k90 => w_seqk fun _ k91 => g_' (q_ (.int .u32 i1) (q_ (pt_ b7 1) ?_))
    have u92 := (u51.frS e74 (i36.djn r11.ltF))
    refine l_' (hd_UpFirst) (aLoad Tryz.prog 22 (pt_ b7 1) H73) (u92.ld (by kernel_rfl)) ?_
    refine q_ (i_ r3) ?_
    obtain ⟨g93, r94⟩ := G_some hz84
    refine w_' (r3 + 1) (wrap64 (by have := g93; omega)) ?_
    obtain ⟨g95, r96⟩ := G_some r94
    have u97 := (u52.fr e74 (i36.djn (h_UpFirst.lt.le e9.next)))
    refine l_' (elp hd_UpFirst 1 (r3 + 1).toNat 0) (aIndexAddr Tryz.prog 22 hd_UpFirst (i_ (r3 + 1))) (u97.idxb (by kernel_rfl) g95 h53) ?_
    refine l_' (.int .u32 (gt UpFirst (r3 + 1))) (aLoad Tryz.prog 86 (elp hd_UpFirst 1 (r3 + 1).toNat 0) H73) (u97.ld g95 h53 (by kernel_rfl)) ?_
    refine q_ (.bool (decide (i1 < (gt UpFirst (r3 + 1))))) (s_nil (k91 _ _ ?_))
    refine w_condp (i1 < (gt UpFirst (r3 + 1))) (by kernel_rfl) rfl (fun h98 => ?_) (fun h98 => ?_)
    ·have r99 := ite_t h98 r96
     refine w_skip (k90 _ _ (w_seqk fun _ k100 => w_block (g_' (q_ (.slice a87 n88 c89) (q_ (i_ r3) ?_)))))
     refine s_owk (enc := (encI .i64)) (sz := 1) e74.wf [r3] 1 (by decide) (fun _ _ => rfl) (fun _ _ => rfl) rfl (by kernel_rfl) fun s101 f102 H103 e104 hf105 hm106 => ?_
     obtain ⟨a107, n108, c109, rfl⟩ := hm106.form
     have u111 := (m76.ext e104)
     obtain ⟨g112, r113⟩ := G_some r99
     obtain ⟨s114, H115, f116, q120, e117, hm118, hf119⟩ := Ow.append (P := Tryz.prog) 8 e104.wf u111 hm106.sq (fun _ _ => rfl) (at_ := #[49, 49]) rfl rfl (by kernel_rfl) (by kernel_rfl) (by decide) (by have := g112; first | omega | (simp only [List.length_cons, List.length_nil] at this ⊢; omega) | (simp at this ⊢; omega))
     obtain ⟨a121, n122, c123, rfl⟩ := hm118.form
     refine s_ek (.slice a121 n122 c123) (by kernel_rfl) (q120) ?_
     refine q_ (.slice a121 n122 c123) (s_nil (k100 _ _ (g_' (q_ (.int .u32 i1) ?_))))
     obtain ⟨g125, r126⟩ := G_some r113
     refine s_w ((i1 + 1)) (k := .u32) (x := (i1 + 1)) (by kernel_rfl) (wrapu32 g125) ?_
     refine q_ (.int .u32 (i1 + 1)) (s_nil ?_)
     obtain rfl := Option.some.inj r126
     exact k86 n82 _ _ (Nat.lt_succ_self _) ⟨(l0 ++ [r3]), (i1 + 1), (.slice a121 n122 c123), f116, hn85, ha_, (FrS.step e31.wf ((FrS.step e31.wf (FrS.refl (W := f35) e31.wf) e74 Inn.refl').extR e104) e117 (Inn.trans Inn.refl' (Nat.le_refl _) i79)), hm118, (Inn.trans (Inn.trans Inn.refl' (Nat.le_refl _) i79) (ntr e74.next e104.next) hf119)⟩
    have r127 := ite_f h98 r96
    refine w_exit (th_exit (th_exit (bl_eq ?_)))
    obtain rfl := Option.some.inj r127
    obtain rfl := it_inr hn85
    exact k69 _ _ ⟨(.slice a87 n88 c89), f78, ha_, (FrS.step e31.wf (FrS.refl (W := f35) e31.wf) e74 Inn.refl'), m76, (Inn.trans Inn.refl' (Nat.le_refl _) i79)⟩
   obtain ⟨s66, f67, hh70, e63, m65, i68⟩ := hM
   obtain ⟨β, rfl⟩ := has_ex hh70
   clear hh70
   obtain ⟨a128, n129, c130, rfl⟩ := m65.form
   refine k55 _ _ (g_' (q_ (i_ r3) ?_))
   obtain ⟨g131, r132⟩ := G_some r61
   refine w_' (r3 + 1) (wrap64 (by have := g131; omega)) ?_
   refine q_ (i_ (r3 + 1)) (s_nil ?_)
   obtain rfl := Option.some.inj r132
   exact k43 n39 _ _ (Nat.lt_succ_self _) ⟨o59, (r3 + 1), (.slice a128 n129 c130), f67, hn42, ha_, (FrS.step e9.wf (FrS.step e9.wf (FrS.refl (W := []) e9.wf) e31 Inn.nil) e63 (i36.fresh (Nat.le_refl _))), m65, (Inn.trans (i36.fresh (Nat.le_refl _)) e31.next i68)⟩
  have r133 := ite_f h53 r50
  refine w_exit (th_exit (th_exit (bl_eq ?_)))
  obtain rfl := Option.some.inj r133
  obtain rfl := it_inr hn42
  exact k26 _ _ ⟨(.slice a44 n45 c46), f35, ha_, (FrS.step e9.wf (FrS.refl (W := []) e9.wf) e31 Inn.nil), m33, (i36.fresh (Nat.le_refl _))⟩
 obtain ⟨s23, f24, hh27, e20, m22, i25⟩ := hM
 obtain ⟨β, rfl⟩ := has_ex hh27
 clear hh27
 obtain ⟨a134, n135, c136, rfl⟩ := m22.form
 refine k14 _ _ (w_seqk fun _ k137 => w_seqk fun _ k138 => g_' (q_ (i_ 0) (s_nil (k138 _ _ ?_))))
 obtain ⟨o139, hx140, r141⟩ := bind_some r18
 refine w_mid (fun α H142 => ∃ (s146 : Value) (f147 : Fp), Has α [(3, s146)] ∧ FrS f24 H19 H142 ∧ Ow (encI .i64) 1 H142 s146 o139 f147 ∧ Inn f24 H19 f147) (fun _ k149 => ?_) (fun α H142 hM => ?_)
 ·refine w_block ?_
  obtain ⟨n151, hn152⟩ := loopO_iff.1 hx140
  refine w_loopn (fun n α H153 => ∃ (l6 : List (Int)), ∃ (r7 : Int), ∃ (s157 : Value), ∃ (f158 : Fp), iterO (fun zz_ => z_viaductref10_Ranks_l3 DownFirst zz_.1 zz_.2) n (l6, r7) = some o139 ∧ Has α [(1, pt_ b7 0), (3, s157), (6, i_ r7)] ∧ FrS f24 H19 H153 ∧ Ow (encI .i64) 1 H153 s157 l6 f158 ∧ Inn f24 H19 f158) n151 ⟨o16, 0, (.slice a134 n135 c136), f24, hn152, ha_, (FrS.refl (W := f24) e20.wf), m22, Inn.refl'⟩ ?_
  rintro n151 α H153 ⟨l6, r7, s157, f158, hi161, hh160, e154, m156, i159⟩ K166 k166
  obtain ⟨n162, z163, rfl, hz164, hn165⟩ := iter_succ hi161
  obtain ⟨β, rfl⟩ := has_ex hh160
  clear hh160
  replace hz164 : z_viaductref10_Ranks_l3 DownFirst l6 r7 = some z163 := hz164
  unfold z_viaductref10_Ranks_l3 at hz164
  obtain ⟨a167, n168, c169, rfl⟩ := m156.form
  refine w_seqk fun _ k170 => w_seqk fun _ k171 => g_' (q_ (i_ r7) ?_)
  obtain ⟨g172, r173⟩ := G_some hz164
  refine w_' (r7 + 1) (wrap64 g172) ?_
  refine q_ (pt_ b7 3) ?_
  have u174 := ((r11.frS e20 Dj.nil_l).frS e154 (i25.djn r11.ltF))
  refine l_' (hd_DownFirst) (aLoad Tryz.prog 22 (pt_ b7 3) H153) (u174.ld (by kernel_rfl)) ?_
  have u175 := (((h_DownFirst.ext e9).fr e20 Dj.nil_l).fr e154 (i25.djn (h_DownFirst.lt.le e9.next)))
  refine l_' (i_ (DownFirst.length : Int)) (aLen Tryz.prog 22 hd_DownFirst H153) (u175.lenb (by kernel_rfl)) ?_
  refine q_ (.bool (decide ((r7 + 1) < (DownFirst.length : Int)))) (s_nil (k171 _ _ ?_))
  refine w_condp ((r7 + 1) < (DownFirst.length : Int)) (by kernel_rfl) rfl (fun h176 => ?_) (fun h176 => ?_)
  ·have r177 := ite_t h176 r173
   refine w_skip (k170 _ _ (w_seqk fun _ k178 => w_block (w_seqk fun _ k179 => g_' (q_ (pt_ b7 3) ?_))))
   refine l_' (hd_DownFirst) (aLoad Tryz.prog 22 (pt_ b7 3) H153) (u174.ld (by kernel_rfl)) ?_
   refine q_ (i_ r7) ?_
   obtain ⟨g180, r181⟩ := G_some r177
   refine l_' (elp hd_DownFirst 1 r7.toNat 0) (aIndexAddr Tryz.prog 22 hd_DownFirst (i_ r7)) (u175.idxb (by kernel_rfl) g180.1 g180.2) ?_
   refine l_' (.int .u32 (gt DownFirst r7)) (aLoad Tryz.prog 86 (elp hd_DownFirst 1 r7.toNat 0) H153) (u175.ld g180.1 g180.2 (by kernel_rfl)) ?_
   refine q_ (.int .u32 (gt DownFirst r7)) (s_nil (k179 _ _ ?_))
   obtain ⟨o182, hx183, r184⟩ := bind_some r181
   refine w_mid (fun α H185 => ∃ (s189 : Value) (f190 : Fp), Has α [(1, pt_ b7 0), (3, s189), (6, i_ r7)] ∧ FrS f158 H153 H185 ∧ Ow (encI .i64) 1 H185 s189 o182 f190 ∧ Inn f158 H153 f190) (fun _ k192 => ?_) (fun α H185 hM => ?_)
   ·refine w_block ?_
    obtain ⟨n194, hn195⟩ := loopO_iff.1 hx183
    refine w_loopn (fun n α H196 => ∃ (l4 : List (Int)), ∃ (i5 : Int), ∃ (s200 : Value), ∃ (f201 : Fp), iterO (fun zz_ => z_viaductref10_Ranks_l2 DownFirst r7 zz_.1 zz_.2) n (l4, i5) = some o182 ∧ Has α [(1, pt_ b7 0), (3, s200), (6, i_ r7), (7, .int .u32 i5)] ∧ FrS f158 H153 H196 ∧ Ow (encI .i64) 1 H196 s200 l4 f201 ∧ Inn f158 H153 f201) n194 ⟨l6, (gt DownFirst r7), (.slice a167 n168 c169), f158, hn195, ha_, (FrS.refl (W := f158) e154.wf), m156, Inn.refl'⟩ ?_
    rintro n194 α H196 ⟨l4, i5, s200, f201, hi204, hh203, e197, m199, i202⟩ K209 k209
    obtain ⟨n205, z206, rfl, hz207, hn208⟩ := iter_succ hi204
    obtain ⟨β, rfl⟩ := has_ex hh203
    clear hh203
    replace hz207 : z_viaductref10_Ranks_l2 DownFirst r7 l4 i5 = some z206 := hz207
    unfold z_viaductref10_Ranks_l2 at hz207
    obtain ⟨a210, n211, c212, rfl⟩ := m199.form
    refine w_seqk fun _ k213 => w_seqk fun _ k214 => g_' (q_ (.int .u32 i5) (q_ (pt_ b7 3) ?_))
    have u215 := (u174.frS e197 (i159.dj (i25.djn r11.ltF) (r11.ltF.le e20.next)))
    refine l_' (hd_DownFirst) (aLoad Tryz.prog 22 (pt_ b7 3) H196) (u215.ld (by kernel_rfl)) ?_
    refine q_ (i_ r7) ?_
    obtain ⟨g216, r217⟩ := G_some hz207
    refine w_' (r7 + 1) (wrap64 (by have := g216; omega)) ?_
    obtain ⟨g218, r219⟩ := G_some r217
    have u220 := (u175.fr e197 (i159.dj (i25.djn (h_DownFirst.lt.le e9.next)) (h_DownFirst.lt.le (ntr e9.next e20.next))))
    refine l_' (elp hd_DownFirst 1 (r7 + 1).toNat 0) (aIndexAddr Tryz.prog 22 hd_DownFirst (i_ (r7 + 1))) (u220.idxb (by kernel_rfl) g218 h176) ?_
    refine l_' (.int .u32 (gt DownFirst (r7 + 1))) (aLoad Tryz.prog 86 (elp hd_DownFirst 1 (r7 + 1).toNat 0) H196) (u220.ld g218 h176 (by kernel_rfl)) ?_
    refine q_ (.bool (decide (i5 < (gt DownFirst (r7 + 1))))) (s_nil (k214 _ _ ?_))
    refine w_condp (i5 < (gt DownFirst (r7 + 1))) (by kernel_rfl) rfl (fun h221 => ?_) (fun h221 => ?_)
    ·have r222 := ite_t h221 r219
     refine w_skip (k213 _ _ (w_seqk fun _ k223 => w_block (g_' (q_ (.slice a210 n211 c212) (q_ (i_ r7) ?_)))))
     refine s_owk (enc := (encI .i64)) (sz := 1) e197.wf [r7] 1 (by decide) (fun _ _ => rfl) (fun _ _ => rfl) rfl (by kernel_rfl) fun s224 f225 H226 e227 hf228 hm229 => ?_
     obtain ⟨a230, n231, c232, rfl⟩ := hm229.form
     have u234 := (m199.ext e227)
     obtain ⟨g235, r236⟩ := G_some r222
     obtain ⟨s237, H238, f239, q243, e240, hm241, hf242⟩ := Ow.append (P := Tryz.prog) 8 e227.wf u234 hm229.sq (fun _ _ => rfl) (at_ := #[49, 49]) rfl rfl (by kernel_rfl) (by kernel_rfl) (by decide) (by have := g235; first | omega | (simp only [List.length_cons, List.length_nil] at this ⊢; omega) | (simp at this ⊢; omega))
     obtain ⟨a244, n245, c246, rfl⟩ := hm241.form
     refine s_ek (.slice a244 n245 c246) (by kernel_rfl) (q243) ?_
     refine q_ (.slice a244 n245 c246) (s_nil (k223 _ _ (g_' (q_ (.int .u32 i5) ?_))))
     obtain ⟨g248, r249⟩ := G_some r236
     refine s_w ((i5 + 1)) (k := .u32) (x := (i5 + 1)) (by kernel_rfl) (wrapu32 g248) ?_
     refine q_ (.int .u32 (i5 + 1)) (s_nil ?_)
     obtain rfl := Option.some.inj r249
     exact k209 n205 _ _ (Nat.lt_succ_self _) ⟨(l4 ++ [r7]), (i5 + 1), (.slice a244 n245 c246), f239, hn208, ha_, (FrS.step e154.wf ((FrS.step e154.wf (FrS.refl (W := f158) e154.wf) e197 Inn.refl').extR e227) e240 (Inn.trans Inn.refl' (Nat.le_refl _) i202)), hm241, (Inn.trans (Inn.trans Inn.refl' (Nat.le_refl _) i202) (ntr e197.next e227.next) hf242)⟩
    have r250 := ite_f h221 r219
    refine w_exit (th_exit (th_exit (bl_eq ?_)))
    obtain rfl := Option.some.inj r250
    obtain rfl := it_inr hn208
    exact k192 _ _ ⟨(.slice a210 n211 c212), f201, ha_, (FrS.step e154.wf (FrS.refl (W := f158) e154.wf) e197 Inn.refl'), m199, (Inn.trans Inn.refl' (Nat.le_refl _) i202)⟩
   obtain ⟨s189, f190, hh193, e186, m188, i191⟩ := hM
   obtain ⟨β, rfl⟩ := has_ex hh193
   clear hh193
   obtain ⟨a251, n252, c253, rfl⟩ := m188.form
   refine k178 _ _ (g_' (q_ (i_ r7) ?_))
   obtain ⟨g254, r255⟩ := G_some r184
   refine w_' (r7 + 1) (wrap64 (by have := g254; omega)) ?_
   refine q_ (i_ (r7 + 1)) (s_nil ?_)
   obtain rfl := Option.some.inj r255
   exact k166 n162 _ _ (Nat.lt_succ_self _) ⟨o182, (r7 + 1), (.slice a251 n252 c253), f190, hn165, ha_, (FrS.step e20.wf (FrS.step e20.wf (FrS.refl (W := f24) e20.wf) e154 Inn.refl') e186 (Inn.trans Inn.refl' (Nat.le_refl _) i159)), m188, (Inn.trans (Inn.trans Inn.refl' (Nat.le_refl _) i159) e154.next i191)⟩
  have r256 := ite_f h176 r173
  refine w_exit (th_exit (th_exit (bl_eq ?_)))
  obtain rfl := Option.some.inj r256
  obtain rfl := it_inr hn165
  exact k149 _ _ ⟨(.slice a167 n168 c169), f158, ha_, (FrS.step e20.wf (FrS.refl (W := f24) e20.wf) e154 Inn.refl'), m156, (Inn.trans Inn.refl' (Nat.le_refl _) i159)⟩
 obtain ⟨s146, f147, hh150, e143, m145, i148⟩ := hM
 obtain ⟨β, rfl⟩ := has_ex hh150
 clear hh150
 obtain ⟨a257, n258, c259, rfl⟩ := m145.form
 refine k137 _ _ (w_seqk fun _ k260 => g_' (q_ (.slice a257 n258 c259) (q_ (.slice a257 n258 c259) (s_nil (k260 _ _ ?_)))))
 refine w_ret ?_
 refine b_ret (fn := Tryz.f33) (vs := [.slice a257 n258 c259]) (aRes_tmp (by kernel_rfl) (rfl)) ?_
 obtain rfl := Option.some.inj r141
 exact ⟨(.slice a257 n258 c259), f147, rfl, (FrS.step wf (FrS.step wf ((FrS.refl (W := []) wf).extR e9) e20 Inn.nil) e143 (i25.fresh e9.next)), m145, (Inn.trans (i25.fresh e9.next) (ntr e9.next e20.next) i148)⟩
theorem c_viaductref10_Link {H : AH} {hd_Node : Value} {fp_Node : Fp} {hd_UpFirst : Value} {fp_UpFirst : Fp} {hd_Up : Value} {fp_Up : Fp} {hd_DownFirst : Value} {fp_DownFirst : Fp} {hd_Down : Value} {fp_Down : Fp} {Node : List (Int)} {UpFirst : List (Int)} {Up : List (Int × Int × Int × Int)} {DownFirst : List (Int)} {Down : List (Int × Int × Int × Int)} {i : Int} {r : Int × Int × Int × Int}
    (wf : WF H) (h_Node : Sq (encI .u32) 1 H hd_Node Node fp_Node) (h_UpFirst : Sq (encI .u32) 1 H hd_UpFirst UpFirst fp_UpFirst) (h_Up : Sq enc_u32_u64_u32_u32 4 H hd_Up Up fp_Up) (h_DownFirst : Sq (encI .u32) 1 H hd_DownFirst DownFirst fp_DownFirst) (h_Down : Sq enc_u32_u64_u32_u32 4 H hd_Down Down fp_Down) (hr : z_viaductref10_Link Node UpFirst Up DownFirst Down i = some r) :
    ACalls Tryz.prog 59 #[.agg #[hd_Node, hd_UpFirst, hd_Up, hd_DownFirst, hd_Down], i_ i] H fun v H' => v = .agg #[.int .u32 r.1, .int .u64 r.2.1, .int .u32 r.2.2.1, .int .u32 r.2.2.2] ∧ FrS [] H H' := by
 refine acalls_of_body mixed Tryz.func59 rfl (Nat.le_of_ble_eq_true rfl) ?_
 unfold z_viaductref10_Link at hr
 refine w_seqk fun _ k1 => g_' ?_
 refine s_rwl wf [hd_Node, hd_UpFirst, hd_Up, hd_DownFirst, hd_Down] (one_cons (h_Node.one1) (one_cons (h_UpFirst.one1) (one_cons (h_Up.one1) (one_cons (h_DownFirst.one1) (one_cons (h_Down.one1) (one_nil)))))) (by kernel_rfl) fun b2 H3 e4 hb5 r6 => ?_
 refine s_rwk e4.wf [.int .u32 0, .int .u64 0, .int .u32 0, .int .u32 0] (by kernel_rfl) fun b8 H9 e10 hb11 r12 => ?_
 refine s_nil (k1 _ _ (w_seqk fun _ k14 => w_seqk fun _ k15 => g_' (q_ (i_ i) (q_ (pt_ b2 2) ?_))))
 have u16 := (r6.ext e10)
 refine l_' (hd_Up) (aLoad Tryz.prog 23 (pt_ b2 2) H9) (u16.ld (by kernel_rfl)) ?_
 have u17 := ((h_Up.ext e4).ext e10)
 refine l_' (i_ (Up.length : Int)) (aLen Tryz.prog 23 hd_Up H9) (u17.lenb (by kernel_rfl)) ?_
 refine q_ (.bool (decide (i < (Up.length : Int)))) (s_nil (k15 _ _ ?_))
 refine w_condp (i < (Up.length : Int)) (by kernel_rfl) rfl (fun h18 => ?_) (fun h18 => ?_)
 ·have r19 := ite_t h18 hr
  refine w_seqk fun _ k20 => g_' (q_ (pt_ b2 2) ?_)
  refine l_' (hd_Up) (aLoad Tryz.prog 23 (pt_ b2 2) H9) (u16.ld (by kernel_rfl)) ?_
  refine q_ (i_ i) ?_
  obtain ⟨g21, r22⟩ := G_some r19
  refine l_' (elp hd_Up 4 i.toNat 0) (aIndexAddr Tryz.prog 23 hd_Up (i_ i)) (u17.idxb (by kernel_rfl) g21 h18) ?_
  refine l_' (.agg #[.int .u32 ((gt Up i).1), .int .u64 ((gt Up i).2.1), .int .u32 ((gt Up i).2.2.1), .int .u32 ((gt Up i).2.2.2)]) (aLoad Tryz.prog 92 (elp hd_Up 4 i.toNat 0) H9) (u17.ld g21 h18 (by kernel_rfl)) ?_
  obtain ⟨H23, q24, e25, r26⟩ := Row.store (P := Tryz.prog) (t := 92) (p := 0) e10.wf r12 (.agg #[.int .u32 ((gt Up i).1), .int .u64 ((gt Up i).2.1), .int .u32 ((gt Up i).2.2.1), .int .u32 ((gt Up i).2.2.2)]) [.int .u32 ((gt Up i).1), .int .u64 ((gt Up i).2.1), .int .u32 ((gt Up i).2.2.1), .int .u32 ((gt Up i).2.2.2)] (by kernel_rfl) (by kernel_rfl) (one_cons (rfl) (one_cons (rfl) (one_cons (rfl) (one_cons (rfl) (one_nil))))) (Nat.le_of_ble_eq_true (by kernel_rfl)) [.int .u32 ((gt Up i).1), .int .u64 ((gt Up i).2.1), .int .u32 ((gt Up i).2.2.1), .int .u32 ((gt Up i).2.2.2)] (by kernel_rfl)
  refine s_ek (undef) (by kernel_rfl) (map_ok q24) ?_
  refine s_nil (k20 _ _ ?_)
  refine w_ret (th_ret ?_)
  refine b_ret (fn := Tryz.f59) (vs := [.agg #[.int .u32 ((gt Up i).1), .int .u64 ((gt Up i).2.1), .int .u32 ((gt Up i).2.2.1), .int .u32 ((gt Up i).2.2.2)]]) (aRes_cell (Eq.trans (b := aLoad Tryz.prog 92 (pt_ b8 0) H23) (by kernel_rfl) (r26.ld (by kernel_rfl))) (rfl)) ?_
  obtain rfl := Option.some.inj r22
  exact ⟨rfl, (FrS.step wf (((FrS.refl (W := []) wf).extR e4).extR e10) e25 (hb11.fresh e4.next))⟩
 have r27 := ite_f h18 hr
 refine w_skip (k14 _ _ (w_seqk fun _ k28 => g_' (q_ (pt_ b2 4) ?_)))
 refine l_' (hd_Down) (aLoad Tryz.prog 23 (pt_ b2 4) H9) (u16.ld (by kernel_rfl)) ?_
 refine q_ (i_ i) (q_ (pt_ b2 2) ?_)
 refine l_' (hd_Up) (aLoad Tryz.prog 23 (pt_ b2 2) H9) (u16.ld (by kernel_rfl)) ?_
 refine l_' (i_ (Up.length : Int)) (aLen Tryz.prog 23 hd_Up H9) (u17.lenb (by kernel_rfl)) ?_
 obtain ⟨g29, r30⟩ := G_some r27
 refine w_' (i - (Up.length : Int)) (wrap64 g29) ?_
 obtain ⟨g31, r32⟩ := G_some r30
 have u33 := ((h_Down.ext e4).ext e10)
 refine l_' (elp hd_Down 4 (i - (Up.length : Int)).toNat 0) (aIndexAddr Tryz.prog 23 hd_Down (i_ (i - (Up.length : Int)))) (u33.idxb (by kernel_rfl) g31.1 g31.2) ?_
 refine l_' (.agg #[.int .u32 ((gt Down (i - (Up.length : Int))).1), .int .u64 ((gt Down (i - (Up.length : Int))).2.1), .int .u32 ((gt Down (i - (Up.length : Int))).2.2.1), .int .u32 ((gt Down (i - (Up.length : Int))).2.2.2)]) (aLoad Tryz.prog 92 (elp hd_Down 4 (i - (Up.length : Int)).toNat 0) H9) (u33.ld g31.1 g31.2 (by kernel_rfl)) ?_
 obtain ⟨H34, q35, e36, r37⟩ := Row.store (P := Tryz.prog) (t := 92) (p := 0) e10.wf r12 (.agg #[.int .u32 ((gt Down (i - (Up.length : Int))).1), .int .u64 ((gt Down (i - (Up.length : Int))).2.1), .int .u32 ((gt Down (i - (Up.length : Int))).2.2.1), .int .u32 ((gt Down (i - (Up.length : Int))).2.2.2)]) [.int .u32 ((gt Down (i - (Up.length : Int))).1), .int .u64 ((gt Down (i - (Up.length : Int))).2.1), .int .u32 ((gt Down (i - (Up.length : Int))).2.2.1), .int .u32 ((gt Down (i - (Up.length : Int))).2.2.2)] (by kernel_rfl) (by kernel_rfl) (one_cons (rfl) (one_cons (rfl) (one_cons (rfl) (one_cons (rfl) (one_nil))))) (Nat.le_of_ble_eq_true (by kernel_rfl)) [.int .u32 ((gt Down (i - (Up.length : Int))).1), .int .u64 ((gt Down (i - (Up.length : Int))).2.1), .int .u32 ((gt Down (i - (Up.length : Int))).2.2.1), .int .u32 ((gt Down (i - (Up.length : Int))).2.2.2)] (by kernel_rfl)
 refine s_ek (undef) (by kernel_rfl) (map_ok q35) ?_
 refine s_nil (k28 _ _ ?_)
 refine w_ret ?_
 refine b_ret (fn := Tryz.f59) (vs := [.agg #[.int .u32 ((gt Down (i - (Up.length : Int))).1), .int .u64 ((gt Down (i - (Up.length : Int))).2.1), .int .u32 ((gt Down (i - (Up.length : Int))).2.2.1), .int .u32 ((gt Down (i - (Up.length : Int))).2.2.2)]]) (aRes_cell (Eq.trans (b := aLoad Tryz.prog 92 (pt_ b8 0) H34) (by kernel_rfl) (r37.ld (by kernel_rfl))) (rfl)) ?_
 obtain rfl := Option.some.inj r32
 exact ⟨rfl, (FrS.step wf (((FrS.refl (W := []) wf).extR e4).extR e10) e36 (hb11.fresh e4.next))⟩
theorem c_viaductref10_Plain {H : AH} {To : Int} {Weight : Int} {Left : Int} {Right : Int} {r : Bool}
    (wf : WF H) (hr : z_viaductref10_Plain To Weight Left Right = some r) :
    ACalls Tryz.prog 60 #[.agg #[.int .u32 To, .int .u64 Weight, .int .u32 Left, .int .u32 Right]] H fun v H' => v = .bool r ∧ FrS [] H H' := by
 refine acalls_of_body mixed Tryz.func60 rfl (Nat.le_of_ble_eq_true rfl) ?_
 unfold z_viaductref10_Plain at hr
 refine w_seqk fun _ k1 => g_' ?_
 refine s_rwl wf [.int .u32 To, .int .u64 Weight, .int .u32 Left, .int .u32 Right] (one_cons (rfl) (one_cons (rfl) (one_cons (rfl) (one_cons (rfl) (one_nil))))) (by kernel_rfl) fun b2 H3 e4 hb5 r6 => ?_
 refine q_ (.bool false) (s_nil (k1 _ _ (w_seqk fun _ k8 => g_' (q_ (pt_ b2 2) ?_))))
 refine l_' (.int .u32 Left) (aLoad Tryz.prog 86 (pt_ b2 2) H3) (r6.ld (by kernel_rfl)) ?_
 refine s_b (Left = 4294967295) (by kernel_rfl) (fun h9 => ?_) (fun h9 => ?_)
 ·have r10 := ite_t h9 hr
  refine q_ (.bool true) (q_ (pt_ b2 3) ?_)
  refine l_' (.int .u32 Right) (aLoad Tryz.prog 86 (pt_ b2 3) H3) (r6.ld (by kernel_rfl)) ?_
  refine q_ (.bool (decide (Right = 4294967295))) (q_ (.bool (decide (Right = 4294967295))) (q_ (.bool (decide (Right = 4294967295))) (s_nil (k8 _ _ ?_))))
  refine w_ret ?_
  refine b_ret (fn := Tryz.f60) (vs := [.bool (decide (Right = 4294967295))]) (aRes_tmp (by kernel_rfl) (rfl)) ?_
  obtain rfl := Option.some.inj r10
  exact ⟨rfl, ((FrS.refl (W := []) wf).extR e4)⟩
 have r11 := ite_f h9 hr
 refine q_ (.bool false) (n_' (n_' (n_' (q_ (.bool false) (q_ (.bool false) (s_nil (k8 _ _ ?_)))))))
 refine w_ret ?_
 refine b_ret (fn := Tryz.f60) (vs := [.bool false]) (aRes_tmp (by kernel_rfl) (rfl)) ?_
 obtain rfl := Option.some.inj r11
 exact ⟨rfl, ((FrS.refl (W := []) wf).extR e4)⟩
theorem c_viaductref10_EndOf {H : AH} {hd_Node : Value} {fp_Node : Fp} {hd_UpFirst : Value} {fp_UpFirst : Fp} {hd_Up : Value} {fp_Up : Fp} {hd_DownFirst : Value} {fp_DownFirst : Fp} {hd_Down : Value} {fp_Down : Fp} {hd_ranks : Value} {fp_ranks : Fp} {Node : List (Int)} {UpFirst : List (Int)} {Up : List (Int × Int × Int × Int)} {DownFirst : List (Int)} {Down : List (Int × Int × Int × Int)} {ranks : List (Int)} {i : Int} {r : Int × Int × Int}
    (wf : WF H) (h_Node : Sq (encI .u32) 1 H hd_Node Node fp_Node) (h_UpFirst : Sq (encI .u32) 1 H hd_UpFirst UpFirst fp_UpFirst) (h_Up : Sq enc_u32_u64_u32_u32 4 H hd_Up Up fp_Up) (h_DownFirst : Sq (encI .u32) 1 H hd_DownFirst DownFirst fp_DownFirst) (h_Down : Sq enc_u32_u64_u32_u32 4 H hd_Down Down fp_Down) (h_ranks : Sq (encI .i64) 1 H hd_ranks ranks fp_ranks) (hr : z_viaductref10_EndOf Node UpFirst Up DownFirst Down ranks i = some r) :
    ACalls Tryz.prog 35 #[.agg #[hd_Node, hd_UpFirst, hd_Up, hd_DownFirst, hd_Down], hd_ranks, i_ i] H fun v H' => v = .agg #[i_ r.1, i_ r.2.1, i_ r.2.2] ∧ FrS [] H H' := by
 refine acalls_of_body mixed Tryz.func35 rfl (Nat.le_of_ble_eq_true rfl) ?_
 unfold z_viaductref10_EndOf at hr
 refine w_seqk fun _ k1 => g_' ?_
 refine s_rwl wf [hd_Node, hd_UpFirst, hd_Up, hd_DownFirst, hd_Down] (one_cons (h_Node.one1) (one_cons (h_UpFirst.one1) (one_cons (h_Up.one1) (one_cons (h_DownFirst.one1) (one_cons (h_Down.one1) (one_nil)))))) (by kernel_rfl) fun b2 H3 e4 hb5 r6 => ?_
 refine s_rwk e4.wf [i_ 0, i_ 0, i_ 0] (by kernel_rfl) fun b8 H9 e10 hb11 r12 => ?_
 refine s_nil (k1 _ _ (w_seqk fun _ k14 => g_' ?_))
 have u15 := (r6.ext e10)
 refine l_' (.agg #[hd_Node, hd_UpFirst, hd_Up, hd_DownFirst, hd_Down]) (aLoad Tryz.prog 25 (pt_ b2 0) H9) (u15.ld (by kernel_rfl)) ?_
 refine q_ (i_ i) ?_
 have u16 := ((h_Node.ext e4).ext e10)
 have u17 := ((h_UpFirst.ext e4).ext e10)
 have u18 := ((h_Up.ext e4).ext e10)
 have u19 := ((h_DownFirst.ext e4).ext e10)
 have u20 := ((h_Down.ext e4).ext e10)
 obtain ⟨y21, hy22, r23⟩ := bind_some hr
 refine s_ck 59 #[.agg #[hd_Node, hd_UpFirst, hd_Up, hd_DownFirst, hd_Down], i_ i] (by kernel_rfl) (c_viaductref10_Link e10.wf u16 u17 u18 u19 u20 hy22) ?_
 rintro _ H24 ⟨rfl, e25⟩
 refine q_ (.int .u32 y21.1) ?_
 obtain ⟨g26, r27⟩ := G_some r23
 refine w_' y21.1 (wrap64 g26) ?_
 refine q_ (i_ y21.1) (s_nil (k14 _ _ (w_seqk fun _ k28 => w_seqk fun _ k29 => g_' (q_ (i_ i) (q_ (pt_ b2 2) ?_)))))
 have u30 := (u15.frS e25 Dj.nil_l)
 refine l_' (hd_Up) (aLoad Tryz.prog 23 (pt_ b2 2) H24) (u30.ld (by kernel_rfl)) ?_
 have u31 := (u18.fr e25 Dj.nil_l)
 refine l_' (i_ (Up.length : Int)) (aLen Tryz.prog 23 hd_Up H24) (u31.lenb (by kernel_rfl)) ?_
 refine q_ (.bool (decide (i < (Up.length : Int)))) (s_nil (k29 _ _ ?_))
 refine w_condp (i < (Up.length : Int)) (by kernel_rfl) rfl (fun h32 => ?_) (fun h32 => ?_)
 ·have r33 := ite_t h32 r27
  refine w_seqk fun _ k34 => ?_
  refine w_draw [0, 1, 2, 3, 4, 5, 6, 7, 8, 9, 10] (by kernel_rfl) ?_
  refine e_' (hd_ranks) (e_' (i_ i) ?_)
  obtain ⟨g35, r36⟩ := G_some r33
  have u37 := (((h_ranks.ext e4).ext e10).fr e25 Dj.nil_l)
  refine m_' (elp hd_ranks 1 i.toNat 0) (aIndexAddr Tryz.prog 49 hd_ranks (i_ i)) (u37.idxb (by kernel_rfl) g35.1 g35.2) ?_
  refine m_' (i_ (gt ranks i)) (aLoad Tryz.prog 3 (elp hd_ranks 1 i.toNat 0) H24) (u37.ld g35.1 g35.2 (by kernel_rfl)) ?_
  refine e_' (i_ y21.1) (e_' (hd_ranks) (e_' (i_ i) ?_))
  refine m_' (elp hd_ranks 1 i.toNat 0) (aIndexAddr Tryz.prog 49 hd_ranks (i_ i)) (u37.idxb (by kernel_rfl) g35.1 g35.2) ?_
  refine m_' (i_ (gt ranks i)) (aLoad Tryz.prog 3 (elp hd_ranks 1 i.toNat 0) H24) (u37.ld g35.1 g35.2 (by kernel_rfl)) ?_
  refine e_' (.agg #[i_ (gt ranks i), i_ y21.1, i_ (gt ranks i)]) ?_
  have u42 := (r12.frS e25 Dj.nil_l)
  obtain ⟨H38, q39, e40, r41⟩ := Row.store (P := Tryz.prog) (t := 96) (p := 0) e25.wf u42 (.agg #[i_ (gt ranks i), i_ y21.1, i_ (gt ranks i)]) [i_ (gt ranks i), i_ y21.1, i_ (gt ranks i)] (by kernel_rfl) (by kernel_rfl) (one_cons (rfl) (one_cons (rfl) (one_cons (rfl) (one_nil)))) (Nat.le_of_ble_eq_true (by kernel_rfl)) [i_ (gt ranks i), i_ y21.1, i_ (gt ranks i)] (by kernel_rfl)
  refine d_ek (undef) (by kernel_rfl) (map_ok q39) (st_nil) ?_
  refine d_nil ?_
  refine k34 _ _ ?_
  refine w_ret (th_ret ?_)
  refine b_ret (fn := Tryz.f35) (vs := [.agg #[i_ (gt ranks i), i_ y21.1, i_ (gt ranks i)]]) (aRes_cell (Eq.trans (b := aLoad Tryz.prog 96 (pt_ b8 0) H38) (by kernel_rfl) (r41.ld (by kernel_rfl))) (rfl)) ?_
  obtain rfl := Option.some.inj r36
  exact ⟨rfl, (FrS.step wf (FrS.step wf (((FrS.refl (W := []) wf).extR e4).extR e10) e25 Inn.nil) e40 (hb11.fresh e4.next))⟩
 have r43 := ite_f h32 r27
 refine w_skip (k28 _ _ (w_seqk fun _ k44 => ?_))
 refine w_draw [0, 1, 2, 3, 4, 5, 6, 7, 8, 9, 10] (by kernel_rfl) ?_
 refine e_' (i_ y21.1) (e_' (hd_ranks) (e_' (i_ i) ?_))
 obtain ⟨g45, r46⟩ := G_some r43
 have u47 := (((h_ranks.ext e4).ext e10).fr e25 Dj.nil_l)
 refine m_' (elp hd_ranks 1 i.toNat 0) (aIndexAddr Tryz.prog 49 hd_ranks (i_ i)) (u47.idxb (by kernel_rfl) g45.1 g45.2) ?_
 refine m_' (i_ (gt ranks i)) (aLoad Tryz.prog 3 (elp hd_ranks 1 i.toNat 0) H24) (u47.ld g45.1 g45.2 (by kernel_rfl)) ?_
 refine e_' (hd_ranks) (e_' (i_ i) ?_)
 refine m_' (elp hd_ranks 1 i.toNat 0) (aIndexAddr Tryz.prog 49 hd_ranks (i_ i)) (u47.idxb (by kernel_rfl) g45.1 g45.2) ?_
 refine m_' (i_ (gt ranks i)) (aLoad Tryz.prog 3 (elp hd_ranks 1 i.toNat 0) H24) (u47.ld g45.1 g45.2 (by kernel_rfl)) ?_
 refine e_' (.agg #[i_ y21.1, i_ (gt ranks i), i_ (gt ranks i)]) ?_
 have u52 := (r12.frS e25 Dj.nil_l)
 obtain ⟨H48, q49, e50, r51⟩ := Row.store (P := Tryz.prog) (t := 96) (p := 0) e25.wf u52 (.agg #[i_ y21.1, i_ (gt ranks i), i_ (gt ranks i)]) [i_ y21.1, i_ (gt ranks i), i_ (gt ranks i)] (by kernel_rfl) (by kernel_rfl) (one_cons (rfl) (one_cons (rfl) (one_cons (rfl) (one_nil)))) (Nat.le_of_ble_eq_true (by kernel_rfl)) [i_ y21.1, i_ (gt ranks i), i_ (gt ranks i)] (by kernel_rfl)
 refine d_ek (undef) (by kernel_rfl) (map_ok q49) (st_nil) ?_
 refine d_nil ?_
 refine k44 _ _ ?_
 refine w_ret ?_
 refine b_ret (fn := Tryz.f35) (vs := [.agg #[i_ y21.1, i_ (gt ranks i), i_ (gt ranks i)]]) (aRes_cell (Eq.trans (b := aLoad Tryz.prog 96 (pt_ b8 0) H48) (by kernel_rfl) (r51.ld (by kernel_rfl))) (rfl)) ?_
 obtain rfl := Option.some.inj r46
 exact ⟨rfl, (FrS.step wf (FrS.step wf (((FrS.refl (W := []) wf).extR e4).extR e10) e25 Inn.nil) e50 (hb11.fresh e4.next))⟩
end Go.Vd
