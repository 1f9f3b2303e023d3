/- The walks of the functions (printed by a program of ours). -/
import Derived.Test.YtccnpeeakadnoaaPhm0
import Derived.Test.YtccnpeeakadnoaaPhmVeC
import Derived.Test.YtccnpeeakadnoaaPhmIHm
import Derived.Test.YtccnpeeakadnoaaPhmVeN
import Derived.Test.YtccnpeeakadnoaaPhmVeM
import Derived.Test.YtccnpeeakadnoaaPhmSoA
import Derived.Test.YtccnpeeakadnoaaPhmVeT
set_option linter.unusedVariables false
set_option linter.unusedSimpArgs false
set_option linter.unusedSectionVars false
namespace Go.Vd
/-! Steps under short names: what is reckoned is reckoned by itself. -/
section
set_option linter.unusedSectionVars false
variable [Pins] {P : Program} {ops : Array Oper} {K : AAct → AH → Prop} {α : AAct} {H : AH} {o : Oper} {rest : List Oper} {tbl : List (List Nat)} {i : Nat} {rs : List Nat} {fl : List (Nat × AAct × Value)}
theorem q_ (v : Value) (k : wpSeq P ops K rest (α.put o.dst v) H) (h : stepQ P ops o α H = some v := by kernel_rfl) : wpSeq P ops K (o :: rest) α H := s_qk v h k
theorem l_' (v : Value) (x : Option Value) (h : x = some v) (k : wpSeq P ops K rest (α.put o.dst v) H) (h1 : stepQ P ops o α H = x := by kernel_rfl) : wpSeq P ops K (o :: rest) α H := s_ql v h1 h k
theorem e_' (v : Value) (k : wpOrd P ops tbl K rs fl (α.put (dstOf ops i) v) H) (h : stepD P ops tbl i rs α H = some v := by kernel_rfl) : wpOrd P ops tbl K (i :: rs) fl α H := d_qk v h k
theorem m_' (v : Value) (x : Option Value) (h : x = some v) (k : wpOrd P ops tbl K rs fl (α.put (dstOf ops i) v) H) (h1 : stepD P ops tbl i rs α H = x := by kernel_rfl) : wpOrd P ops tbl K (i :: rs) fl α H := d_ql v h1 h k
theorem has_of : ∀ {l : List (Nat × Value)}, (l.map fun p => α p.1) = l.map (·.2) → Has α l
  | [], _ => trivial
  | (_, _) :: _, h => ⟨(List.cons.inj h).1, has_of (List.cons.inj h).2⟩
theorem ha_ {l : List (Nat × Value)} (h : (l.map fun p => α p.1) = l.map (·.2) := by kernel_rfl) : Has α l := has_of h
theorem n_' (k : wpSeq P ops K rest (α.put o.dst undef) H) (hg : Region.wanted o (aYield ops α) = false := by kernel_rfl) : wpSeq P ops K (o :: rest) α H := s_no hg k
theorem j_' (k : wpOrd P ops tbl K rs fl (α.put (dstOf ops i) undef) H) (h : idle ops i α = true := by kernel_rfl) : wpOrd P ops tbl K (i :: rs) fl α H := d_idle h k
theorem g_' {N id : Nat} {l : List Oper} {Q : Exit → AAct → AH → Prop} (h : wpSeq P l.toArray (Q .normal) l α H) (hok : opsOk N l = true := by kernel_rfl) : aWp P N (.region id l.toArray false) Q α H := w_reg hok h
theorem w_' (x : Int) (hw : IntKind.i64.wrap x = x) (kk : wpSeq P ops K rest (α.put o.dst (.int .i64 x)) H) (h : stepQ P ops o α H = some (.int .i64 (IntKind.i64.wrap x)) := by kernel_rfl) : wpSeq P ops K (o :: rest) α H := s_w x h hw kk
end
abbrev i_ (n : Int) : Value := .int .i64 n
abbrev pt_ (b o : Nat) : Value := .pointer (some ⟨b, o, none⟩)
end Go.Vd
namespace Go.Vd
section
variable [Pins] {P : Program} {α : AAct} {H H' : AH} {W : Fp} {b o : Nat} {cs : List Value} {t : TypeId} {v : Value}
theorem Ext.n (h : Ext H H') : H.next ≤ H'.next := h.next
theorem FrS.n (h : FrS W H H') : H.next ≤ H'.next := h.next
theorem t_ {a b c : Nat} (h : a ≤ b) (k : b ≤ c) : a ≤ c := Nat.le_trans h k
theorem Row.l_ (h : Row H b cs) (hv : ldOf P t cs o = some v := by kernel_rfl) : aLoad P t (.pointer (some ⟨b, o, none⟩)) H = some v := h.ld hv
theorem rt_ {t : Nat} {v : Value} {l : List ResultVar} {vs : List Value} (hr : aRes P α H l = some vs) (h : α t = v := by kernel_rfl) : aRes P α H (.tmp t :: l) = some (v :: vs) := aRes_tmp h hr
theorem oi_ {E : Type} {a b : E} (h : some a = some b) : a = b := Option.some.inj h
theorem f0_ (wf : WF H) : FrS [] H H := .refl wf
noncomputable abbrev aL_ (t : TypeId) (v : Value) (H : AH) : Option Value := aLoad Go.Proofs.Try.prog t v H
end
end Go.Vd

/-! (KHm0) -/

set_option maxRecDepth 100000
set_option maxHeartbeats 4000000
set_option linter.unusedVariables false
namespace Go.Vd
open Go.Proofs
attribute [local irreducible] wpSeq wpOrd aWp
set_option linter.unusedSimpArgs false
theorem e_pure {α : Type} (P : Program) (a : α) : pr P (pure a : Sem α) = some a := rfl
theorem e_prog {P : Program} : pr P (program : Sem Program) = some P := rfl
theorem e_und {P : Program} {t : TypeId} {d : TypeDesc} (h : P.underlying t = some d) : pr P (underlying t) = some d := by
  simp only [underlying, pr_bind]
  show ((pr P (program : Sem Program)).bind _) = _
  simp [show pr P (program : Sem Program) = some P from rfl, h]
  rfl
theorem e_int {P : Program} (d : Nat) (t : TypeId) (k : IntKind) (h : P.underlying t = some (.int k)) (a c : Int) : pr P (Op.equalIn (d+1) t (.int k a) (.int k c)) = some (a == c) := by
  simp only [Op.equalIn, pr_bind, e_und h]
  simp [e_pure]
theorem e_bool {P : Program} (d : Nat) (t : TypeId) (h : P.underlying t = some .bool) (a c : Bool) : pr P (Op.equalIn (d+1) t (.bool a) (.bool c)) = some (a == c) := by
  simp only [Op.equalIn, pr_bind, e_und h]
  simp [e_pure]
theorem e73_p0 (a0 : Int) (a1 : Int) (a2 : Int) : pr Try.prog (part 3 #[i_ a0, i_ a1, i_ a2] 0) = some (i_ a0) := by kernel_rfl
theorem e73_q0 (a c : Int) : pr Try.prog (Op.equalIn 9999 3 (i_ a) (i_ c)) = some (a == c) := e_int 9998 3 .i64 Go.Proofs.Try.underlying3 a c
theorem e73_p1 (a0 : Int) (a1 : Int) (a2 : Int) : pr Try.prog (part 3 #[i_ a0, i_ a1, i_ a2] 1) = some (i_ a1) := by kernel_rfl
theorem e73_q1 (a c : Int) : pr Try.prog (Op.equalIn 9999 3 (i_ a) (i_ c)) = some (a == c) := e_int 9998 3 .i64 Go.Proofs.Try.underlying3 a c
theorem e73_p2 (a0 : Int) (a1 : Int) (a2 : Int) : pr Try.prog (part 3 #[i_ a0, i_ a1, i_ a2] 2) = some (i_ a2) := by kernel_rfl
theorem e73_q2 (a c : Int) : pr Try.prog (Op.equalIn 9999 3 (i_ a) (i_ c)) = some (a == c) := e_int 9998 3 .i64 Go.Proofs.Try.underlying3 a c
theorem e73_stood : Try.prog.stoodInHeld 73 = false := by kernel_rfl
theorem e73_eq (a0 : Int) (a1 : Int) (a2 : Int) (c0 : Int) (c1 : Int) (c2 : Int) : pr Try.prog (Op.equalIn Op.maxDepth 73 (.agg #[i_ a0, i_ a1, i_ a2]) (.agg #[i_ c0, i_ c1, i_ c2])) = some (a0 == c0 && a1 == c1 && a2 == c2) := by
  rw [show Op.maxDepth = 9998 + 1 + 1 from rfl, Op.equalIn]
  rw [pr_bind, e_und Go.Proofs.Try.underlying73]
  simp only [Option.bind_some, pr_bind, e_prog, e73_stood, Bool.false_eq_true, if_false]
  simp [pr_bind, e73_p0, e73_p1, e73_p2, e73_q0, e73_q1, e73_q2]
  by_cases h0 : a0 = c0
  · subst h0
    by_cases h1 : a1 = c1
    · subst h1
      by_cases h2 : a2 = c2
      · subst h2
        simp [e_pure, pr_bind, e73_p0, e73_p1, e73_p2, e73_q0, e73_q1, e73_q2]
      · simp [e_pure, pr_bind, e73_p0, e73_p1, e73_p2, e73_q0, e73_q1, e73_q2, h2]
    · simp [e_pure, pr_bind, e73_p0, e73_p1, e73_p2, e73_q0, e73_q1, e73_q2, h1]
  · simp [e_pure, pr_bind, e73_p0, e73_p1, e73_p2, e73_q0, e73_q1, e73_q2, h0]
theorem e73_gneq (x y : Operand) (a0 : Int) (a1 : Int) (a2 : Int) (c0 : Int) (c1 : Int) (c2 : Int) : pr Try.prog (eqGuard .neq 73 x y (.agg #[i_ a0, i_ a1, i_ a2]) (.agg #[i_ c0, i_ c1, i_ c2])) = some () := by kernel_rfl
theorem aBin_neq73 (x y : Operand) (a0 : Int) (a1 : Int) (a2 : Int) (c0 : Int) (c1 : Int) (c2 : Int) : aBin Try.prog .neq 73 x y (.agg #[i_ a0, i_ a1, i_ a2]) (.agg #[i_ c0, i_ c1, i_ c2]) = some (.bool (!decide (a0 = c0 ∧ a1 = c1 ∧ a2 = c2))) := by
  unfold aBin
  rw [if_pos (show (plain (.agg #[i_ a0, i_ a1, i_ a2]) && plain (.agg #[i_ c0, i_ c1, i_ c2])) = true from rfl), pr_bind, e73_gneq]
  have : pr Try.prog (binOp .neq 73 (.agg #[i_ a0, i_ a1, i_ a2]) (.agg #[i_ c0, i_ c1, i_ c2])) = some (.bool (!decide (a0 = c0 ∧ a1 = c1 ∧ a2 = c2))) := by
    simp only [binOp, Op.equal, pr_bind, e73_eq]
    by_cases g0 : a0 = c0 <;> by_cases g1 : a1 = c1 <;> by_cases g2 : a2 = c2 <;> simp [e_pure, g0, g1, g2]
  simp only [Option.bind_some, this]
  rfl
theorem e73_geql (x y : Operand) (a0 : Int) (a1 : Int) (a2 : Int) (c0 : Int) (c1 : Int) (c2 : Int) : pr Try.prog (eqGuard .eql 73 x y (.agg #[i_ a0, i_ a1, i_ a2]) (.agg #[i_ c0, i_ c1, i_ c2])) = some () := by kernel_rfl
theorem aBin_eql73 (x y : Operand) (a0 : Int) (a1 : Int) (a2 : Int) (c0 : Int) (c1 : Int) (c2 : Int) : aBin Try.prog .eql 73 x y (.agg #[i_ a0, i_ a1, i_ a2]) (.agg #[i_ c0, i_ c1, i_ c2]) = some (.bool (decide (a0 = c0 ∧ a1 = c1 ∧ a2 = c2))) := by
  unfold aBin
  rw [if_pos (show (plain (.agg #[i_ a0, i_ a1, i_ a2]) && plain (.agg #[i_ c0, i_ c1, i_ c2])) = true from rfl), pr_bind, e73_geql]
  have : pr Try.prog (binOp .eql 73 (.agg #[i_ a0, i_ a1, i_ a2]) (.agg #[i_ c0, i_ c1, i_ c2])) = some (.bool (decide (a0 = c0 ∧ a1 = c1 ∧ a2 = c2))) := by
    simp only [binOp, Op.equal, pr_bind, e73_eq]
    by_cases g0 : a0 = c0 <;> by_cases g1 : a1 = c1 <;> by_cases g2 : a2 = c2 <;> simp [e_pure, g0, g1, g2]
  simp only [Option.bind_some, this]
  rfl
theorem e93_p0 (a0 : Int) (a1 : Int) (a2 : Int) (a3 : Int) : pr Try.prog (part 90 #[.int .u32 a0, .int .u64 a1, .int .u32 a2, .int .u32 a3] 0) = some (.int .u32 a0) := by kernel_rfl
theorem e93_q0 (a c : Int) : pr Try.prog (Op.equalIn 9999 90 (.int .u32 a) (.int .u32 c)) = some (a == c) := e_int 9998 90 .u32 Go.Proofs.Try.underlying90 a c
theorem e93_p1 (a0 : Int) (a1 : Int) (a2 : Int) (a3 : Int) : pr Try.prog (part 42 #[.int .u32 a0, .int .u64 a1, .int .u32 a2, .int .u32 a3] 1) = some (.int .u64 a1) := by kernel_rfl
theorem e93_q1 (a c : Int) : pr Try.prog (Op.equalIn 9999 42 (.int .u64 a) (.int .u64 c)) = some (a == c) := e_int 9998 42 .u64 Go.Proofs.Try.underlying42 a c
theorem e93_p2 (a0 : Int) (a1 : Int) (a2 : Int) (a3 : Int) : pr Try.prog (part 90 #[.int .u32 a0, .int .u64 a1, .int .u32 a2, .int .u32 a3] 2) = some (.int .u32 a2) := by kernel_rfl
theorem e93_q2 (a c : Int) : pr Try.prog (Op.equalIn 9999 90 (.int .u32 a) (.int .u32 c)) = some (a == c) := e_int 9998 90 .u32 Go.Proofs.Try.underlying90 a c
theorem e93_p3 (a0 : Int) (a1 : Int) (a2 : Int) (a3 : Int) : pr Try.prog (part 90 #[.int .u32 a0, .int .u64 a1, .int .u32 a2, .int .u32 a3] 3) = some (.int .u32 a3) := by kernel_rfl
theorem e93_q3 (a c : Int) : pr Try.prog (Op.equalIn 9999 90 (.int .u32 a) (.int .u32 c)) = some (a == c) := e_int 9998 90 .u32 Go.Proofs.Try.underlying90 a c
theorem e93_stood : Try.prog.stoodInHeld 93 = false := by kernel_rfl
theorem e93_eq (a0 : Int) (a1 : Int) (a2 : Int) (a3 : Int) (c0 : Int) (c1 : Int) (c2 : Int) (c3 : Int) : pr Try.prog (Op.equalIn Op.maxDepth 93 (.agg #[.int .u32 a0, .int .u64 a1, .int .u32 a2, .int .u32 a3]) (.agg #[.int .u32 c0, .int .u64 c1, .int .u32 c2, .int .u32 c3])) = some (a0 == c0 && a1 == c1 && a2 == c2 && a3 == c3) := by
  rw [show Op.maxDepth = 9998 + 1 + 1 from rfl, Op.equalIn]
  rw [pr_bind, e_und Go.Proofs.Try.underlying93]
  simp only [Option.bind_some, pr_bind, e_prog, e93_stood, Bool.false_eq_true, if_false]
  simp [pr_bind, e93_p0, e93_p1, e93_p2, e93_p3, e93_q0, e93_q1, e93_q2, e93_q3]
  by_cases h0 : a0 = c0
  · subst h0
    by_cases h1 : a1 = c1
    · subst h1
      by_cases h2 : a2 = c2
      · subst h2
        by_cases h3 : a3 = c3
        · subst h3
          simp [e_pure, pr_bind, e93_p0, e93_p1, e93_p2, e93_p3, e93_q0, e93_q1, e93_q2, e93_q3]
        · simp [e_pure, pr_bind, e93_p0, e93_p1, e93_p2, e93_p3, e93_q0, e93_q1, e93_q2, e93_q3, h3]
      · simp [e_pure, pr_bind, e93_p0, e93_p1, e93_p2, e93_p3, e93_q0, e93_q1, e93_q2, e93_q3, h2]
    · simp [e_pure, pr_bind, e93_p0, e93_p1, e93_p2, e93_p3, e93_q0, e93_q1, e93_q2, e93_q3, h1]
  · simp [e_pure, pr_bind, e93_p0, e93_p1, e93_p2, e93_p3, e93_q0, e93_q1, e93_q2, e93_q3, h0]
theorem e93_gneq (x y : Operand) (a0 : Int) (a1 : Int) (a2 : Int) (a3 : Int) (c0 : Int) (c1 : Int) (c2 : Int) (c3 : Int) : pr Try.prog (eqGuard .neq 93 x y (.agg #[.int .u32 a0, .int .u64 a1, .int .u32 a2, .int .u32 a3]) (.agg #[.int .u32 c0, .int .u64 c1, .int .u32 c2, .int .u32 c3])) = some () := by kernel_rfl
theorem aBin_neq93 (x y : Operand) (a0 : Int) (a1 : Int) (a2 : Int) (a3 : Int) (c0 : Int) (c1 : Int) (c2 : Int) (c3 : Int) : aBin Try.prog .neq 93 x y (.agg #[.int .u32 a0, .int .u64 a1, .int .u32 a2, .int .u32 a3]) (.agg #[.int .u32 c0, .int .u64 c1, .int .u32 c2, .int .u32 c3]) = some (.bool (!decide (a0 = c0 ∧ a1 = c1 ∧ a2 = c2 ∧ a3 = c3))) := by
  unfold aBin
  rw [if_pos (show (plain (.agg #[.int .u32 a0, .int .u64 a1, .int .u32 a2, .int .u32 a3]) && plain (.agg #[.int .u32 c0, .int .u64 c1, .int .u32 c2, .int .u32 c3])) = true from rfl), pr_bind, e93_gneq]
  have : pr Try.prog (binOp .neq 93 (.agg #[.int .u32 a0, .int .u64 a1, .int .u32 a2, .int .u32 a3]) (.agg #[.int .u32 c0, .int .u64 c1, .int .u32 c2, .int .u32 c3])) = some (.bool (!decide (a0 = c0 ∧ a1 = c1 ∧ a2 = c2 ∧ a3 = c3))) := by
    simp only [binOp, Op.equal, pr_bind, e93_eq]
    by_cases g0 : a0 = c0 <;> by_cases g1 : a1 = c1 <;> by_cases g2 : a2 = c2 <;> by_cases g3 : a3 = c3 <;> simp [e_pure, g0, g1, g2, g3]
  simp only [Option.bind_some, this]
  rfl
theorem e93_geql (x y : Operand) (a0 : Int) (a1 : Int) (a2 : Int) (a3 : Int) (c0 : Int) (c1 : Int) (c2 : Int) (c3 : Int) : pr Try.prog (eqGuard .eql 93 x y (.agg #[.int .u32 a0, .int .u64 a1, .int .u32 a2, .int .u32 a3]) (.agg #[.int .u32 c0, .int .u64 c1, .int .u32 c2, .int .u32 c3])) = some () := by kernel_rfl
theorem aBin_eql93 (x y : Operand) (a0 : Int) (a1 : Int) (a2 : Int) (a3 : Int) (c0 : Int) (c1 : Int) (c2 : Int) (c3 : Int) : aBin Try.prog .eql 93 x y (.agg #[.int .u32 a0, .int .u64 a1, .int .u32 a2, .int .u32 a3]) (.agg #[.int .u32 c0, .int .u64 c1, .int .u32 c2, .int .u32 c3]) = some (.bool (decide (a0 = c0 ∧ a1 = c1 ∧ a2 = c2 ∧ a3 = c3))) := by
  unfold aBin
  rw [if_pos (show (plain (.agg #[.int .u32 a0, .int .u64 a1, .int .u32 a2, .int .u32 a3]) && plain (.agg #[.int .u32 c0, .int .u64 c1, .int .u32 c2, .int .u32 c3])) = true from rfl), pr_bind, e93_geql]
  have : pr Try.prog (binOp .eql 93 (.agg #[.int .u32 a0, .int .u64 a1, .int .u32 a2, .int .u32 a3]) (.agg #[.int .u32 c0, .int .u64 c1, .int .u32 c2, .int .u32 c3])) = some (.bool (decide (a0 = c0 ∧ a1 = c1 ∧ a2 = c2 ∧ a3 = c3))) := by
    simp only [binOp, Op.equal, pr_bind, e93_eq]
    by_cases g0 : a0 = c0 <;> by_cases g1 : a1 = c1 <;> by_cases g2 : a2 = c2 <;> by_cases g3 : a3 = c3 <;> simp [e_pure, g0, g1, g2, g3]
  simp only [Option.bind_some, this]
  rfl
theorem c_viaductref10_Three {H : AH} {r : List (Int) × List (Int) × List (Int × Int × Int × Int) × List (Int) × List (Int × Int × Int × Int)}
    (wf : WF H) (hr : z_viaductref10_Three = some r) :
    ACalls Try.prog 86 #[] H fun v H' => ∃ (s3 : Value) (f4 : Fp) (s7 : Value) (f8 : Fp) (s11 : Value) (f12 : Fp) (s15 : Value) (f16 : Fp) (s19 : Value) (f20 : Fp), v = .agg #[s3, s7, s11, s15, s19] ∧ FrS [] H H' ∧ Ow (encI .u32) 1 H' s3 r.1 f4 ∧ Ow (encI .u32) 1 H' s7 r.2.1 f8 ∧ Ow enc_u32_u64_u32_u32 4 H' s11 r.2.2.1 f12 ∧ Ow (encI .u32) 1 H' s15 r.2.2.2.1 f16 ∧ Ow enc_u32_u64_u32_u32 4 H' s19 r.2.2.2.2 f20 ∧ Inn [] H f4 ∧ Inn [] H f8 ∧ Inn [] H f12 ∧ Inn [] H f16 ∧ Inn [] H f20 ∧ Dj f4 f8 ∧ Dj f4 f12 ∧ Dj f8 f12 ∧ Dj f4 f16 ∧ Dj f8 f16 ∧ Dj f12 f16 ∧ Dj f4 f20 ∧ Dj f8 f20 ∧ Dj f12 f20 ∧ Dj f16 f20 := by
 refine acalls_of_body mixed Try.func86 rfl (Nat.le_of_ble_eq_true rfl) ?_
 unfold z_viaductref10_Three at hr
 refine w_seqk fun _ k36 => g_' ?_
 refine s_rwk wf [.slice none 0 0, .slice none 0 0, .slice none 0 0, .slice none 0 0, .slice none 0 0] (by kernel_rfl) fun b37 H38 e39 hb40 r41 => ?_
 refine s_nil (k36 _ _ (w_seqk fun _ k43 => g_' ?_))
 refine s_owk (enc := (encI .u32)) (sz := 1) e39.wf [1, 0, 2] 3 (by decide) (fun _ _ => rfl) (fun _ _ => rfl) rfl (by kernel_rfl) fun s44 f45 H46 e47 hf48 hm49 => ?_
 obtain ⟨a50, n51, c52, rfl⟩ := hm49.form
 refine s_owk (enc := (encI .u32)) (sz := 1) e47.wf [0, 1, 2, 2] 4 (by decide) (fun _ _ => rfl) (fun _ _ => rfl) rfl (by kernel_rfl) fun s54 f55 H56 e57 hf58 hm59 => ?_
 obtain ⟨a60, n61, c62, rfl⟩ := hm59.form
 refine q_ (.agg #[.int .u32 2, .int .u64 1, .int .u32 4294967295, .int .u32 4294967295]) (q_ (.agg #[.int .u32 2, .int .u64 5, .int .u32 2, .int .u32 0]) ?_)
 refine s_owk (enc := enc_u32_u64_u32_u32) (sz := 4) e57.wf [(2, 1, 4294967295, 4294967295), (2, 5, 2, 0)] 2 (by decide) (fun _ _ => rfl) (fun _ _ => rfl) rfl (by kernel_rfl) fun s64 f65 H66 e67 hf68 hm69 => ?_
 obtain ⟨a70, n71, c72, rfl⟩ := hm69.form
 refine s_owk (enc := (encI .u32)) (sz := 1) e67.wf [0, 1, 1, 1] 4 (by decide) (fun _ _ => rfl) (fun _ _ => rfl) rfl (by kernel_rfl) fun s74 f75 H76 e77 hf78 hm79 => ?_
 obtain ⟨a80, n81, c82, rfl⟩ := hm79.form
 refine q_ (.agg #[.int .u32 1, .int .u64 4, .int .u32 4294967295, .int .u32 4294967295]) ?_
 refine s_owk (enc := enc_u32_u64_u32_u32) (sz := 4) e77.wf [(1, 4, 4294967295, 4294967295)] 1 (by decide) (fun _ _ => rfl) (fun _ _ => rfl) rfl (by kernel_rfl) fun s84 f85 H86 e87 hf88 hm89 => ?_
 obtain ⟨a90, n91, c92, rfl⟩ := hm89.form
 refine q_ (.agg #[.slice a50 n51 c52, .slice a60 n61 c62, .slice a70 n71 c72, .slice a80 n81 c82, .slice a90 n91 c92]) ?_
 have u98 := (((((r41.ext e47).ext e57).ext e67).ext e77).ext e87)
 have u99 := (hm79.ext e87)
 have u100 := ((hm69.ext e77).ext e87)
 have u101 := (((hm59.ext e67).ext e77).ext e87)
 have u102 := ((((hm49.ext e57).ext e67).ext e77).ext e87)
 obtain ⟨H94, q95, e96, r97⟩ := Row.store (P := Try.prog) (t := 81) (p := 0) e87.wf u98 (.agg #[.slice a50 n51 c52, .slice a60 n61 c62, .slice a70 n71 c72, .slice a80 n81 c82, .slice a90 n91 c92]) [.slice a50 n51 c52, .slice a60 n61 c62, .slice a70 n71 c72, .slice a80 n81 c82, .slice a90 n91 c92] (by kernel_rfl) (by kernel_rfl) (one_cons (u102.one1) (one_cons (u101.one1) (one_cons (u100.one1) (one_cons (u99.one1) (one_cons (hm89.one1) (one_nil)))))) (Nat.le_of_ble_eq_true (by kernel_rfl)) [.slice a50 n51 c52, .slice a60 n61 c62, .slice a70 n71 c72, .slice a80 n81 c82, .slice a90 n91 c92] (by kernel_rfl)
 refine s_ek (undef) (by kernel_rfl) (map_ok q95) ?_
 refine s_nil (k43 _ _ ?_)
 refine w_ret ?_
 refine b_ret (fn := Try.f86) (vs := [.agg #[.slice a50 n51 c52, .slice a60 n61 c62, .slice a70 n71 c72, .slice a80 n81 c82, .slice a90 n91 c92]]) (aRes_cell (Eq.trans (b := aL_ 81 (pt_ b37 0) H94) (by kernel_rfl) (r97.l_)) (rfl)) ?_
 have u103 := (u102.fr e96 (Dj.symm (hf48.djn r41.ltF)))
 have u104 := (u101.fr e96 (Dj.symm (hf58.djn (r41.ltF.le e47.n))))
 have u105 := (u100.fr e96 (Dj.symm (hf68.djn (r41.ltF.le (t_ e47.n e57.n)))))
 have u106 := (u99.fr e96 (Dj.symm (hf78.djn (r41.ltF.le (t_ (t_ e47.n e57.n) e67.n)))))
 have u107 := (hm89.fr e96 (Dj.symm (hf88.djn (r41.ltF.le (t_ (t_ (t_ e47.n e57.n) e67.n) e77.n)))))
 obtain rfl := oi_ hr
 exact ⟨(.slice a50 n51 c52), f45, (.slice a60 n61 c62), f55, (.slice a70 n71 c72), f65, (.slice a80 n81 c82), f75, (.slice a90 n91 c92), f85, rfl, (FrS.step wf (((((((f0_ wf).extR e39).extR e47).extR e57).extR e67).extR e77).extR e87) e96 (hb40.fresh (Nat.le_refl _))), u103, u104, u105, u106, u107, (hf48.fresh e39.n), (hf58.fresh (t_ e39.n e47.n)), (hf68.fresh (t_ (t_ e39.n e47.n) e57.n)), (hf78.fresh (t_ (t_ (t_ e39.n e47.n) e57.n) e67.n)), (hf88.fresh (t_ (t_ (t_ (t_ e39.n e47.n) e57.n) e67.n) e77.n)), (Dj.symm (hf58.djn hm49.lt)), (Dj.symm (hf68.djn (hm49.lt.le e57.n))), (Dj.symm (hf68.djn hm59.lt)), (Dj.symm (hf78.djn (hm49.lt.le (t_ e57.n e67.n)))), (Dj.symm (hf78.djn (hm59.lt.le e67.n))), (Dj.symm (hf78.djn hm69.lt)), (Dj.symm (hf88.djn (hm49.lt.le (t_ (t_ e57.n e67.n) e77.n)))), (Dj.symm (hf88.djn (hm59.lt.le (t_ e67.n e77.n)))), (Dj.symm (hf88.djn (hm69.lt.le e77.n))), (Dj.symm (hf88.djn hm79.lt))⟩
theorem c_fault_At {H : AH} {ev_err : Value} {fp_err : Fp} {kind : Int} {at_ : Int} {err : Er} {r : Er}
    (wf : WF H) (h_err : Ev 122 235 H ev_err err fp_err) (hr : z_fault_At kind at_ err = some r) :
    ACalls Try.prog 119 #[i_ kind, i_ at_, ev_err] H fun v H' => ∃ (v3 : Value) (f4 : Fp), v = v3 ∧ FrS [] H H' ∧ Ev 122 235 H' v3 r f4 ∧ Inn fp_err H f4 := by
 refine acalls_of_body mixed Try.func119 rfl (Nat.le_of_ble_eq_true rfl) ?_
 unfold z_fault_At at hr
 refine w_seqk fun _ k6 => g_' (q_ (.nilIface) (s_nil (k6 _ _ (w_seqk fun _ k7 => w_seqk fun _ k8 => g_' (q_ (ev_err) ?_)))))
 rcases (h_err).cases with ⟨h9, rfl⟩ | ⟨h9, t10, x11, rfl⟩
 ·have r12 := ite_t h9 hr
  refine q_ (.bool true) (s_nil (k8 _ _ ?_))
  refine w_cond true (by kernel_rfl) rfl (fun _ => ?_) (fun h => by cases h)
  refine w_seqk fun _ k13 => g_' (q_ (.nilIface) (s_nil (k13 _ _ ?_)))
  refine w_ret (th_ret ?_)
  refine b_ret (fn := Try.f119) (vs := [.nilIface]) (rt_ (rfl)) ?_
  obtain rfl := oi_ r12
  exact ⟨(.nilIface), [], rfl, (f0_ wf), Ev.nil, Inn.nil⟩
 have r14 := ite_f h9 hr
 refine l_' (.bool false) (aBin Try.prog .eql 31 (.tmp 7) (.const .nilIface) (.iface t10 x11) .nilIface) (aBin_nil (by kernel_rfl)) ?_
 refine s_nil (k8 _ _ ?_)
 refine w_cond false (by kernel_rfl) rfl (fun h => by cases h) (fun _ => ?_)
 refine w_skip (k7 _ _ (w_seqk fun _ k15 => g_' (q_ (i_ kind) (q_ (i_ at_) (q_ (.agg #[i_ kind, i_ at_]) (q_ (.iface t10 x11) (q_ (.agg #[i_ kind, i_ at_, .iface t10 x11]) ?_)))))))
 refine s_rwl wf [i_ kind, i_ at_, .iface t10 x11] (one_cons (rfl) (one_cons (rfl) (one_cons (h_err.one1) (one_nil)))) (by kernel_rfl) fun b16 H17 e18 hb19 r20 => ?_
 have u22 := (h_err.ext e18)
 obtain ⟨fq23, he24, hi25⟩ := Ev.at r20 u22 hb19
 refine q_ (.iface 235 (pt_ b16 0)) (q_ (.iface 235 (pt_ b16 0)) (s_nil (k15 _ _ ?_)))
 refine w_ret ?_
 refine b_ret (fn := Try.f119) (vs := [.iface 235 (pt_ b16 0)]) (rt_ (rfl)) ?_
 obtain rfl := oi_ r14
 exact ⟨(.iface 235 (pt_ b16 0)), fq23, rfl, ((f0_ wf).extR e18), he24, (Inn.trans Inn.refl' (Nat.le_refl _) hi25)⟩
theorem c_hier_firsts {H : AH} {hd_l : Value} {fp_l : Fp} {l : List (Int)} {links : Int} {r : Er}
    (wf : WF H) (h_l : Sq (encI .u32) 1 H hd_l l fp_l) (hr : z_hier_firsts l links = some r) :
    ACalls Try.prog 129 #[hd_l, i_ links] H fun v H' => ∃ (v3 : Value) (f4 : Fp), v = v3 ∧ FrS [] H H' ∧ Ev 122 235 H' v3 r f4 ∧ Inn [] H f4 := by
 refine acalls_of_body mixed Try.func129 rfl (Nat.le_of_ble_eq_true rfl) ?_
 unfold z_hier_firsts at hr
 refine w_seqk fun _ k6 => g_' (q_ (.nilIface) (s_nil (k6 _ _ (w_seqk fun _ k7 => w_seqk fun _ k8 => g_' (q_ (hd_l) ?_)))))
 obtain ⟨g9, r10⟩ := G_some hr
 refine l_' (elp hd_l 1 (0 : Int).toNat 0) (aIndexAddr Try.prog 78 hd_l (i_ 0)) (h_l.idxb (by kernel_rfl) (by decide) g9) ?_
 refine l_' (.int .u32 (gt l 0)) (aL_ 90 (elp hd_l 1 (0 : Int).toNat 0) H) (h_l.ld (by decide) g9 (by kernel_rfl)) ?_
 refine q_ (.bool (!decide ((gt l 0) = 0))) (s_nil (k8 _ _ ?_))
 refine w_condn ((gt l 0) = 0) (by kernel_rfl) rfl (fun h11 => ?_) (fun h11 => ?_)
 ·have r12 := ite_f h11 r10
  refine w_seqk fun _ k13 => g_' (q_ (.iface 122 (i_ 14)) (q_ (.iface 122 (i_ 14)) (s_nil (k13 _ _ ?_))))
  refine w_ret (th_ret ?_)
  refine b_ret (fn := Try.f129) (vs := [.iface 122 (i_ 14)]) (rt_ (rfl)) ?_
  obtain rfl := oi_ r12
  exact ⟨(.iface 122 (i_ 14)), [], rfl, (f0_ wf), Ev.no, Inn.nil⟩
 have r14 := ite_t h11 r10
 refine w_skip (k7 _ _ (w_seqk fun _ k15 => w_seqk fun _ k16 => g_' (q_ (hd_l) ?_)))
 refine l_' (i_ (l.length : Int)) (aLen Try.prog 78 hd_l H) (h_l.lenb (by kernel_rfl)) ?_
 obtain ⟨g17, r18⟩ := G_some r14
 refine w_' ((l.length : Int) - 1) (wrap64 g17) ?_
 refine q_ (i_ 0) (s_nil (k16 _ _ ?_))
 obtain ⟨z22, hx20, r21⟩ := bind_some r18
 refine w_mid (fun α H23 => ∃ o19, z22 = Sum.inr o19 ∧ Has α [(0, hd_l), (1, i_ links)] ∧ H = H23) (fun _ k25 => ?_) (fun α H23 hM => ?_)
 ·refine w_block ?_
  obtain ⟨n27, hn28⟩ := loopO_iff.1 hx20
  refine w_loopn (fun n α H29 => ∃ (i0 : Int), iterO (fun zz_ => z_hier_firsts_l0 l zz_) n i0 = some z22 ∧ Has α [(0, hd_l), (1, i_ links), (13, i_ ((l.length : Int) - 1)), (14, i_ i0)] ∧ H = H29) n27 ⟨0, hn28, ha_, rfl⟩ ?_
  rintro n27 α H29 ⟨i0, hi32, hh31, rfl⟩ K37 k37
  obtain ⟨n33, z34, rfl, hz35, hn36⟩ := iter_succ hi32
  obtain ⟨β, rfl⟩ := has_ex hh31
  clear hh31
  replace hz35 : z_hier_firsts_l0 l i0 = some z34 := hz35
  unfold z_hier_firsts_l0 at hz35
  refine w_seqk fun _ k38 => g_' (q_ (.bool (decide (i0 < ((l.length : Int) - 1)))) (s_nil (k38 _ _ (w_seqk fun _ k39 => ?_))))
  refine w_condp (i0 < ((l.length : Int) - 1)) (by kernel_rfl) rfl (fun h40 => ?_) (fun h40 => ?_)
  ·have r41 := ite_t h40 hz35
   refine w_skip (k39 _ _ (w_seqk fun _ k42 => w_block (w_seqk fun _ k43 => g_' (q_ (i_ i0) (q_ (i_ i0) (s_nil (k43 _ _ (w_seqk fun _ k44 => ?_))))))))
   refine w_draw [0, 1, 2, 3, 4, 5, 6, 7, 8, 9] (by kernel_rfl) ?_
   refine e_' (hd_l) (e_' (i_ i0) ?_)
   obtain ⟨g45, r46⟩ := G_some r41
   refine d_w ((i0 + 1)) (k := .i64) (x := (i0 + 1)) (by kernel_rfl) (wrap64 g45) ?_
   obtain ⟨g47, r48⟩ := G_some r46
   refine m_' (elp hd_l 1 (i0 + 1).toNat 0) (aIndexAddr Try.prog 78 hd_l (i_ (i0 + 1))) (h_l.idxb (by kernel_rfl) g47.1 g47.2) ?_
   refine m_' (.int .u32 (gt l (i0 + 1))) (aL_ 90 (elp hd_l 1 (i0 + 1).toNat 0) H) (h_l.ld g47.1 g47.2 (by kernel_rfl)) ?_
   refine e_' (hd_l) (e_' (i_ i0) ?_)
   obtain ⟨g49, r50⟩ := G_some r48
   refine m_' (elp hd_l 1 i0.toNat 0) (aIndexAddr Try.prog 78 hd_l (i_ i0)) (h_l.idxb (by kernel_rfl) g49.1 g49.2) ?_
   refine m_' (.int .u32 (gt l i0)) (aL_ 90 (elp hd_l 1 i0.toNat 0) H) (h_l.ld g49.1 g49.2 (by kernel_rfl)) ?_
   refine e_' (.bool (decide ((gt l (i0 + 1)) < (gt l i0)))) ?_
   refine d_nil ?_
   refine k44 _ _ ?_
   refine w_condp ((gt l (i0 + 1)) < (gt l i0)) (by kernel_rfl) rfl (fun h51 => ?_) (fun h51 => ?_)
   ·have r52 := ite_t h51 r50
    refine w_seqk fun _ k53 => g_' (q_ (i_ i0) (q_ (.iface 122 (i_ 14)) ?_))
    obtain ⟨y54, hy55, r56⟩ := bind_some r52
    refine s_ck 119 #[i_ 3, i_ i0, .iface 122 (i_ 14)] (by kernel_rfl) (c_fault_At wf (Ev.no (tf := 235)) hy55) ?_
    rintro v57 H59 ⟨_, f58, rfl, e60, m61, i62⟩
    refine q_ (v57) (s_nil (k53 _ _ ?_))
    refine w_ret (bl_ret (th_ret (th_ret (bl_ret (th_ret (th_ret ?_))))))
    obtain ⟨v64, hv65, hz66⟩ := map_some r56
    subst hz66
    obtain rfl := it_inr hn36
    have hq67 := elim_inl r21
    rw [hq67] at hv65
    refine b_ret (fn := Try.f129) (vs := [v57]) (rt_ (rfl)) ?_
    obtain rfl := oi_ hv65
    exact ⟨(v57), f58, rfl, (FrS.step wf (f0_ wf) e60 Inn.nil), m61, (i62.fresh (Nat.le_refl _))⟩
   have r68 := ite_f h51 r50
   refine w_skip (k42 _ _ (g_' ?_))
   obtain ⟨g69, r70⟩ := G_some r68
   refine w_' (i0 + 1) (wrap64 (by have := g69; omega)) ?_
   refine q_ (i_ (i0 + 1)) (s_nil ?_)
   obtain rfl := oi_ r70
   exact k37 n33 _ _ (Nat.lt_succ_self _) ⟨(i0 + 1), hn36, ha_, rfl⟩
  have r71 := ite_f h40 hz35
  refine w_exit (th_exit (th_exit (bl_eq ?_)))
  obtain rfl := oi_ r71
  obtain rfl := it_inr hn36
  exact k25 _ _ ⟨_, rfl, ha_, rfl⟩
 obtain ⟨o19, rfl, hh26, rfl⟩ := hM
 have r72 := elim_inr r21
 obtain ⟨β, rfl⟩ := has_ex hh26
 clear hh26
 refine k15 _ _ (w_seqk fun _ k73 => w_seqk fun _ k74 => g_' (q_ (hd_l) (q_ (hd_l) ?_)))
 refine l_' (i_ (l.length : Int)) (aLen Try.prog 78 hd_l H) (h_l.lenb (by kernel_rfl)) ?_
 refine w_' ((l.length : Int) - 1) (wrap64 g17) ?_
 obtain ⟨g75, r76⟩ := G_some r72
 refine l_' (elp hd_l 1 ((l.length : Int) - 1).toNat 0) (aIndexAddr Try.prog 78 hd_l (i_ ((l.length : Int) - 1))) (h_l.idxb (by kernel_rfl) g75.1 g75.2) ?_
 refine l_' (.int .u32 (gt l ((l.length : Int) - 1))) (aL_ 90 (elp hd_l 1 ((l.length : Int) - 1).toNat 0) H) (h_l.ld g75.1 g75.2 (by kernel_rfl)) ?_
 obtain ⟨g77, r78⟩ := G_some r76
 refine w_' (gt l ((l.length : Int) - 1)) (wrap64 g77) ?_
 refine q_ (i_ links) (q_ (.bool (!decide ((gt l ((l.length : Int) - 1)) = links))) (s_nil (k74 _ _ ?_)))
 refine w_condn ((gt l ((l.length : Int) - 1)) = links) (by kernel_rfl) rfl (fun h79 => ?_) (fun h79 => ?_)
 ·have r80 := ite_f h79 r78
  refine w_seqk fun _ k81 => g_' (q_ (.iface 122 (i_ 14)) (q_ (.iface 122 (i_ 14)) (s_nil (k81 _ _ ?_))))
  refine w_ret (th_ret ?_)
  refine b_ret (fn := Try.f129) (vs := [.iface 122 (i_ 14)]) (rt_ (rfl)) ?_
  obtain rfl := oi_ r80
  exact ⟨(.iface 122 (i_ 14)), [], rfl, (f0_ wf), Ev.no, Inn.nil⟩
 have r82 := ite_t h79 r78
 refine w_skip (k73 _ _ (w_seqk fun _ k83 => g_' (q_ (.nilIface) (s_nil (k83 _ _ ?_)))))
 refine w_ret ?_
 refine b_ret (fn := Try.f129) (vs := [.nilIface]) (rt_ (rfl)) ?_
 obtain rfl := oi_ r82
 exact ⟨(.nilIface), [], rfl, (f0_ wf), Ev.nil, Inn.nil⟩
theorem c_hier_order {H : AH} {hd_l : Value} {fp_l : Fp} {l : List (Int)} {r : Er}
    (wf : WF H) (h_l : Sq (encI .u32) 1 H hd_l l fp_l) (hr : z_hier_order l = some r) :
    ACalls Try.prog 130 #[hd_l] H fun v H' => ∃ (v3 : Value) (f4 : Fp), v = v3 ∧ FrS [] H H' ∧ Ev 122 235 H' v3 r f4 ∧ Inn [] H f4 := by
 refine acalls_of_body mixed Try.func130 rfl (Nat.le_of_ble_eq_true rfl) ?_
 unfold z_hier_order at hr
 refine w_seqk fun _ k6 => g_' (q_ (.nilIface) (s_nil (k6 _ _ (w_seqk fun _ k7 => g_' (q_ (hd_l) ?_)))))
 refine l_' (i_ (l.length : Int)) (aLen Try.prog 78 hd_l H) (h_l.lenb (by kernel_rfl)) ?_
 obtain ⟨g8, r9⟩ := G_some hr
 refine s_mks (t := 22) (m := 8) (l := (l.length : Int)) (c := (l.length : Int)) (enc := (encI .i64)) (sz := 1) wf (0 : Int) (by kernel_rfl) (by decide) g8.1 (Int.le_refl _) (by omega) (by have := g8; omega) (by kernel_rfl) fun s10 f11 H12 e13 hf14 hm15 => ?_
 obtain ⟨a16, n17, c18, rfl⟩ := hm15.form
 have hm15 : Ow (encI .i64) 1 H12 (.slice a16 n17 c18) (List.replicate l.length (0 : Int)) f11 := hm15
 refine q_ (.slice a16 n17 c18) (s_nil (k7 _ _ (w_seqk fun _ k20 => w_seqk fun _ k21 => g_' (q_ (hd_l) ?_))))
 have u22 := (h_l.ext e13)
 refine l_' (i_ (l.length : Int)) (aLen Try.prog 78 hd_l H12) (u22.lenb (by kernel_rfl)) ?_
 refine q_ (i_ 0) (s_nil (k21 _ _ ?_))
 obtain ⟨z26, hx24, r25⟩ := bind_some r9
 refine w_mid (fun α H27 => ∃ o23, z26 = Sum.inr o23 ∧ Has α [] ∧ FrS f11 H12 H27) (fun _ k29 => ?_) (fun α H27 hM => ?_)
 ·refine w_block ?_
  obtain ⟨n31, hn32⟩ := loopO_iff.1 hx24
  refine w_loopn (fun n α H33 => ∃ (i0 : Int), ∃ (seen1 : List (Int)), iterO (fun zz_ => z_hier_order_l0 l zz_.1 zz_.2) n (i0, seen1) = some z26 ∧ Has α [(0, hd_l), (3, .slice a16 n17 c18), (9, hd_l), (10, i_ (l.length : Int)), (11, i_ i0)] ∧ FrS f11 H12 H33 ∧ Ow (encI .i64) 1 H33 (.slice a16 n17 c18) seen1 f11) n31 ⟨0, (List.replicate l.length (0 : Int)), hn32, ha_, (FrS.refl (W := f11) e13.wf), hm15⟩ ?_
  rintro n31 α H33 ⟨i0, seen1, hi38, hh37, e34, m36⟩ K43 k43
  obtain ⟨n39, z40, rfl, hz41, hn42⟩ := iter_succ hi38
  obtain ⟨β, rfl⟩ := has_ex hh37
  clear hh37
  replace hz41 : z_hier_order_l0 l i0 seen1 = some z40 := hz41
  unfold z_hier_order_l0 at hz41
  refine w_seqk fun _ k44 => g_' (q_ (.bool (decide (i0 < (l.length : Int)))) (s_nil (k44 _ _ (w_seqk fun _ k45 => ?_))))
  refine w_condp (i0 < (l.length : Int)) (by kernel_rfl) rfl (fun h46 => ?_) (fun h46 => ?_)
  ·have r47 := ite_t h46 hz41
   refine w_skip (k45 _ _ (w_seqk fun _ k48 => w_block (w_seqk fun _ k49 => g_' (q_ (i_ i0) ?_))))
   obtain ⟨g50, r51⟩ := G_some r47
   have u52 := (u22.fr e34 (hf14.djn h_l.lt))
   refine l_' (elp hd_l 1 i0.toNat 0) (aIndexAddr Try.prog 78 hd_l (i_ i0)) (u52.idxb (by kernel_rfl) g50 h46) ?_
   refine l_' (.int .u32 (gt l i0)) (aL_ 90 (elp hd_l 1 i0.toNat 0) H33) (u52.ld g50 h46 (by kernel_rfl)) ?_
   refine q_ (i_ i0) (q_ (.int .u32 (gt l i0)) (s_nil (k49 _ _ (w_seqk fun _ k53 => w_seqk fun _ k54 => ?_))))
   obtain ⟨o55, hx56, r57⟩ := bind_some r51
   refine w_mid (fun α H58 => Has α [(0, hd_l), (3, .slice a16 n17 c18), (4, i_ i0), (5, .int .u32 (gt l i0)), (9, hd_l), (10, i_ (l.length : Int)), (11, i_ i0), (27, .bool o55)] ∧ H33 = H58) (fun _ k60 => ?_) (fun α H58 hM => ?_)
   ·refine g_' (q_ (.int .u32 (gt l i0)) ?_)
    obtain ⟨g62, r63⟩ := G_some hx56
    refine w_' (gt l i0) (wrap64 g62) ?_
    refine q_ (hd_l) ?_
    refine l_' (i_ (l.length : Int)) (aLen Try.prog 78 hd_l H33) (u52.lenb (by kernel_rfl)) ?_
    refine s_b ((gt l i0) ≥ (l.length : Int)) (by kernel_rfl) (fun h64 => ?_) (fun h64 => ?_)
    ·have r65 := ite_t h64 r63
     refine q_ (.bool true) (n_' (n_' (n_' (n_' (n_' (q_ (.bool true) (s_nil ?_)))))))
     obtain rfl := oi_ r65
     exact k60 _ _ ⟨ha_, rfl⟩
    have r66 := ite_f h64 r63
    refine q_ (.bool false) (q_ (.slice a16 n17 c18) (q_ (.int .u32 (gt l i0)) ?_))
    obtain ⟨g67, r68⟩ := G_some r66
    refine l_' (elp (.slice a16 n17 c18) 1 (gt l i0).toNat 0) (aIndexAddr Try.prog 22 (.slice a16 n17 c18) (.int .u32 (gt l i0))) (m36.sq.idxb (by kernel_rfl) g67.1 g67.2) ?_
    refine l_' (i_ (gt seen1 (gt l i0))) (aL_ 3 (elp (.slice a16 n17 c18) 1 (gt l i0).toNat 0) H33) (m36.sq.ld g67.1 g67.2 (by kernel_rfl)) ?_
    refine q_ (.bool (decide ((gt seen1 (gt l i0)) > 0))) (q_ (.bool (decide ((gt seen1 (gt l i0)) > 0))) (s_nil ?_))
    obtain rfl := oi_ r68
    exact k60 _ _ ⟨ha_, rfl⟩
   obtain ⟨hh61, rfl⟩ := hM
   obtain ⟨β, rfl⟩ := has_ex hh61
   clear hh61
   refine k54 _ _ ?_
   refine w_cond (o55) (by kernel_rfl) rfl (fun h69 => ?_) (fun h69 => ?_)
   ·have r70 := ite_t h69 r57
    refine w_seqk fun _ k71 => g_' (q_ (i_ i0) (q_ (.iface 122 (i_ 20)) ?_))
    obtain ⟨y72, hy73, r74⟩ := bind_some r70
    refine s_ck 119 #[i_ 3, i_ i0, .iface 122 (i_ 20)] (by kernel_rfl) (c_fault_At e34.wf (Ev.no (tf := 235)) hy73) ?_
    rintro v75 H77 ⟨_, f76, rfl, e78, m79, i80⟩
    refine q_ (v75) (s_nil (k71 _ _ ?_))
    refine w_ret (th_ret (bl_ret (th_ret (th_ret (bl_ret (th_ret (th_ret ?_)))))))
    obtain ⟨v82, hv83, hz84⟩ := map_some r74
    subst hz84
    obtain rfl := it_inr hn42
    have hq85 := elim_inl r25
    rw [hq85] at hv83
    refine b_ret (fn := Try.f130) (vs := [v75]) (rt_ (rfl)) ?_
    obtain rfl := oi_ hv83
    exact ⟨(v75), f76, rfl, (FrS.step wf (FrS.step wf ((f0_ wf).extR e13) e34 (hf14.fresh (Nat.le_refl _))) e78 Inn.nil), m79, (i80.fresh (t_ e13.n e34.n))⟩
   have r86 := ite_bf h69 r57
   refine w_skip (k53 _ _ (g_' (q_ (.slice a16 n17 c18) (q_ (.int .u32 (gt l i0)) ?_))))
   obtain ⟨g87, r88⟩ := G_some r86
   refine l_' (elp (.slice a16 n17 c18) 1 (gt l i0).toNat 0) (aIndexAddr Try.prog 22 (.slice a16 n17 c18) (.int .u32 (gt l i0))) (m36.sq.idxb (by kernel_rfl) g87.1 g87.2) ?_
   obtain ⟨H89, q90, e91, hm92⟩ := Ow.store (P := Try.prog) (t := 3) (off := 0) e34.wf m36 g87.1 g87.2 (i_ 1) [i_ 1] (by kernel_rfl) (by kernel_rfl) rfl 1 (Nat.le_of_ble_eq_true rfl) (by kernel_rfl)
   refine s_ek (undef) (by kernel_rfl) (map_ok q90) ?_
   refine s_nil (k48 _ _ (g_' ?_))
   obtain ⟨g93, r94⟩ := G_some r88
   refine w_' (i0 + 1) (wrap64 (by have := g93; omega)) ?_
   refine q_ (i_ (i0 + 1)) (s_nil ?_)
   obtain rfl := oi_ r94
   exact k43 n39 _ _ (Nat.lt_succ_self _) ⟨(i0 + 1), (seen1.set (gt l i0).toNat 1), hn42, ha_, (FrS.step e13.wf (FrS.step e13.wf (FrS.refl (W := f11) e13.wf) e34 Inn.refl') e91 Inn.refl'), hm92⟩
  have r95 := ite_f h46 hz41
  refine w_exit (th_exit (th_exit (bl_eq ?_)))
  obtain rfl := oi_ r95
  obtain rfl := it_inr hn42
  exact k29 _ _ ⟨_, rfl, trivial, (FrS.step e13.wf (FrS.refl (W := f11) e13.wf) e34 Inn.refl')⟩
 obtain ⟨o23, rfl, hh30, e28⟩ := hM
 have r96 := elim_inr r25
 obtain ⟨β, rfl⟩ := has_ex hh30
 clear hh30
 refine k20 _ _ (w_seqk fun _ k97 => g_' (q_ (.nilIface) (s_nil (k97 _ _ ?_))))
 refine w_ret ?_
 refine b_ret (fn := Try.f130) (vs := [.nilIface]) (rt_ (rfl)) ?_
 obtain rfl := oi_ r96
 exact ⟨(.nilIface), [], rfl, (FrS.step wf ((f0_ wf).extR e13) e28 (hf14.fresh (Nat.le_refl _))), Ev.nil, Inn.nil⟩
theorem c_hier_links {H : AH} {hd_Node : Value} {fp_Node : Fp} {hd_UpFirst : Value} {fp_UpFirst : Fp} {hd_Up : Value} {fp_Up : Fp} {hd_DownFirst : Value} {fp_DownFirst : Fp} {hd_Down : Value} {fp_Down : Fp} {Node : List (Int)} {UpFirst : List (Int)} {Up : List (Int × Int × Int × Int)} {DownFirst : List (Int)} {Down : List (Int × Int × Int × Int)} {r : Unit}
    (wf : WF H) (h_Node : Sq (encI .u32) 1 H hd_Node Node fp_Node) (h_UpFirst : Sq (encI .u32) 1 H hd_UpFirst UpFirst fp_UpFirst) (h_Up : Sq enc_u32_u64_u32_u32 4 H hd_Up Up fp_Up) (h_DownFirst : Sq (encI .u32) 1 H hd_DownFirst DownFirst fp_DownFirst) (h_Down : Sq enc_u32_u64_u32_u32 4 H hd_Down Down fp_Down) (hr : z_hier_links Node UpFirst Up DownFirst Down = some r) :
    ACalls Try.prog 131 #[.agg #[hd_Node, hd_UpFirst, hd_Up, hd_DownFirst, hd_Down]] H fun v H' => ∃ (b3 : Nat), v = .func (.func 160) #[] #[pt_ b3 0] ∧ FrS [] H H' ∧ Row H' b3 [hd_Node, hd_UpFirst, hd_Up, hd_DownFirst, hd_Down] ∧ Inn [] H [b3] := by
 refine acalls_of_body mixed Try.func131 rfl (Nat.le_of_ble_eq_true rfl) ?_
 unfold z_hier_links at hr
 refine w_seqk fun _ k5 => g_' ?_
 refine s_rwl wf [hd_Node, hd_UpFirst, hd_Up, hd_DownFirst, hd_Down] (one_cons (h_Node.one1) (one_cons (h_UpFirst.one1) (one_cons (h_Up.one1) (one_cons (h_DownFirst.one1) (one_cons (h_Down.one1) (one_nil)))))) (by kernel_rfl) fun b6 H7 e8 hb9 r10 => ?_
 refine q_ (.nilFunc) (s_nil (k5 _ _ (w_seqk fun _ k12 => g_' (q_ (.func (.func 160) #[] #[pt_ b6 0]) (q_ (.func (.func 160) #[] #[pt_ b6 0]) (s_nil (k12 _ _ ?_)))))))
 refine w_ret ?_
 refine b_ret (fn := Try.f131) (vs := [.func (.func 160) #[] #[pt_ b6 0]]) (rt_ (rfl)) ?_
 obtain rfl := oi_ hr
 exact ⟨b6, rfl, ((f0_ wf).extR e8), r10, (hb9.fresh (Nat.le_refl _))⟩
theorem c_hier_links_1 [Pins] {H : AH} {l_ : Nat} {I_ : AH → List (Int × Int × Int × Int × Int × Int × Int × Int) → Fp → Prop} {fp_tr : Fp} {b_p : Nat} {hd_l : Value} {fp_l : Fp} {hd_l_2 : Value} {fp_l_2 : Fp} {hd_l_3 : Value} {fp_l_3 : Fp} {hd_l_4 : Value} {fp_l_4 : Fp} {hd_l_5 : Value} {fp_l_5 : Fp} {ok_ : List (Int × Int × Int × Int × Int × Int × Int × Int) → Bool} {tr : List (Int × Int × Int × Int × Int × Int × Int × Int)} {l : List (Int)} {l_2 : List (Int)} {l_3 : List (Int × Int × Int × Int)} {l_4 : List (Int)} {l_5 : List (Int × Int × Int × Int)} {r : List (Int × Int × Int × Int × Int × Int × Int × Int)}
    (wf : WF H) (hyl : Yld Try.prog l_ ok_ (fun x_ => #[i_ x_.1, .agg #[.int .u32 x_.2.1, .int .u64 x_.2.2.1, .int .u32 x_.2.2.2.1, .int .u32 x_.2.2.2.2.1, i_ x_.2.2.2.2.2.1, i_ x_.2.2.2.2.2.2.1, i_ x_.2.2.2.2.2.2.2]]) I_) (h_tr : Trc I_ H tr fp_tr) (h_l : Sq (encI .u32) 1 H hd_l l fp_l) (h_l_2 : Sq (encI .u32) 1 H hd_l_2 l_2 fp_l_2) (h_l_3 : Sq enc_u32_u64_u32_u32 4 H hd_l_3 l_3 fp_l_3) (h_l_4 : Sq (encI .u32) 1 H hd_l_4 l_4 fp_l_4) (h_l_5 : Sq enc_u32_u64_u32_u32 4 H hd_l_5 l_5 fp_l_5) (h_p : Row H b_p [hd_l, hd_l_2, hd_l_3, hd_l_4, hd_l_5]) (dj_fp_tr_fp_l_3 : Dj fp_tr fp_l_3) (dj_fp_tr_b_p : Dj fp_tr [b_p]) (dj_fp_tr_fp_l_2 : Dj fp_tr fp_l_2) (dj_fp_tr_fp_l : Dj fp_tr fp_l) (dj_fp_tr_fp_l_4 : Dj fp_tr fp_l_4) (dj_fp_tr_fp_l_5 : Dj fp_tr fp_l_5) (hr : z_hier_links_1 ok_ tr l l_2 l_3 l_4 l_5 = some r) :
    ACalls Try.prog 160 #[.func (.yield l_) #[] #[], pt_ b_p 0] H fun v H' => ∃ (f3 : Fp), v = .tuple #[] ∧ FrS fp_tr H H' ∧ Trc I_ H' r f3 ∧ Inn fp_tr H f3 := by
 refine acalls_of_body mixed Try.func160 rfl (Nat.le_of_ble_eq_true rfl) ?_
 unfold z_hier_links_1 at hr
 refine w_seqk fun _ k5 => g_' (q_ (i_ 0) (s_nil (k5 _ _ (w_seqk fun _ k6 => w_seqk fun _ k7 => g_' (q_ (pt_ b_p 0) ?_)))))
 refine l_' (hd_l) (aL_ 78 (pt_ b_p 0) H) (h_p.l_) ?_
 refine l_' (i_ (l.length : Int)) (aLen Try.prog 78 hd_l H) (h_l.lenb (by kernel_rfl)) ?_
 refine q_ (i_ 0) (s_nil (k7 _ _ ?_))
 obtain ⟨o8, hx9, r10⟩ := bind_some hr
 refine w_mid (fun α H11 => ∃ (f15 : Fp), Has α [(0, .func (.yield l_) #[] #[]), (1, pt_ b_p 0), (3, i_ o8.2)] ∧ FrS fp_tr H H11 ∧ Trc I_ H11 o8.1 f15 ∧ Inn fp_tr H f15) (fun _ k17 => ?_) (fun α H11 hM => ?_)
 ·refine w_block ?_
  obtain ⟨n19, hn20⟩ := loopO_iff.1 hx9
  refine w_loopn (fun n α H21 => ∃ (yield3 : List (Int × Int × Int × Int × Int × Int × Int × Int)), ∃ (i4 : Int), ∃ (i5 : Int), ∃ (f25 : Fp), iterO (fun zz_ => z_hier_links_1_l1 ok_ l l_2 l_3 zz_.1 zz_.2.1 zz_.2.2) n (yield3, i4, i5) = some o8 ∧ Has α [(0, .func (.yield l_) #[] #[]), (1, pt_ b_p 0), (3, i_ i5), (12, i_ (l.length : Int)), (13, i_ i4)] ∧ FrS fp_tr H H21 ∧ Trc I_ H21 yield3 f25 ∧ Inn fp_tr H f25) n19 ⟨tr, 0, 0, fp_tr, hn20, ha_, (FrS.refl (W := fp_tr) wf), h_tr, Inn.refl'⟩ ?_
  rintro n19 α H21 ⟨yield3, i4, i5, f25, hi28, hh27, e22, m24, i26⟩ K33 k33
  obtain ⟨n29, z30, rfl, hz31, hn32⟩ := iter_succ hi28
  obtain ⟨β, rfl⟩ := has_ex hh27
  clear hh27
  replace hz31 : z_hier_links_1_l1 ok_ l l_2 l_3 yield3 i4 i5 = some z30 := hz31
  unfold z_hier_links_1_l1 at hz31
  refine w_seqk fun _ k34 => g_' (q_ (.bool (decide (i4 < (l.length : Int)))) (s_nil (k34 _ _ (w_seqk fun _ k35 => ?_))))
  refine w_condp (i4 < (l.length : Int)) (by kernel_rfl) rfl (fun h36 => ?_) (fun h36 => ?_)
  ·have r37 := ite_t h36 hz31
   refine w_skip (k35 _ _ (w_seqk fun _ k38 => w_block (w_seqk fun _ k39 => g_' (q_ (i_ i4) (q_ (i_ i4) (s_nil (k39 _ _ (w_seqk fun _ k40 => ?_))))))))
   refine w_draw [0, 1, 2, 3, 4, 5, 6, 7, 8, 9, 10, 11, 12, 13, 14, 15] (by kernel_rfl) ?_
   refine e_' (pt_ b_p 2) ?_
   have u41 := (h_p.frS e22 dj_fp_tr_b_p)
   refine m_' (hd_l_3) (aL_ 79 (pt_ b_p 2) H21) (u41.l_) ?_
   refine e_' (pt_ b_p 1) ?_
   refine m_' (hd_l_2) (aL_ 78 (pt_ b_p 1) H21) (u41.l_) ?_
   refine e_' (i_ i4) ?_
   obtain ⟨g42, r43⟩ := G_some r37
   have u44 := (h_l_2.fr e22 dj_fp_tr_fp_l_2)
   refine m_' (elp hd_l_2 1 i4.toNat 0) (aIndexAddr Try.prog 78 hd_l_2 (i_ i4)) (u44.idxb (by kernel_rfl) g42.1 g42.2) ?_
   refine m_' (.int .u32 (gt l_2 i4)) (aL_ 90 (elp hd_l_2 1 i4.toNat 0) H21) (u44.ld g42.1 g42.2 (by kernel_rfl)) ?_
   refine e_' (pt_ b_p 1) ?_
   refine m_' (hd_l_2) (aL_ 78 (pt_ b_p 1) H21) (u41.l_) ?_
   refine e_' (i_ i4) ?_
   obtain ⟨g45, r46⟩ := G_some r43
   refine d_w ((i4 + 1)) (k := .i64) (x := (i4 + 1)) (by kernel_rfl) (wrap64 (by have := g45; omega)) ?_
   obtain ⟨g47, r48⟩ := G_some r46
   refine m_' (elp hd_l_2 1 (i4 + 1).toNat 0) (aIndexAddr Try.prog 78 hd_l_2 (i_ (i4 + 1))) (u44.idxb (by kernel_rfl) g47.1 g47.2) ?_
   refine m_' (.int .u32 (gt l_2 (i4 + 1))) (aL_ 90 (elp hd_l_2 1 (i4 + 1).toNat 0) H21) (u44.ld g47.1 g47.2 (by kernel_rfl)) ?_
   obtain ⟨g49, r50⟩ := G_some r48
   have u54 := (h_l_3.fr e22 dj_fp_tr_fp_l_3)
   obtain ⟨s51, q52, hs53⟩ := Sq.cut (P := Try.prog) u54 (t := 79) (by kernel_rfl) (lo := (some (.int .u32 (gt l_2 i4)))) (hi := (some (.int .u32 (gt l_2 (i4 + 1))))) (l := (gt l_2 i4).toNat) (r := (gt l_2 (i4 + 1)).toNat) (aBound_int _ (by have := g49; omega)) (aBound_int _ (by have := g49; omega)) (by have := g49; omega) (by have := g49; omega)
   obtain ⟨a55, n56, c57, rfl⟩ := hs53.form
   refine d_ql (.slice a55 n56 c57) (by kernel_rfl) q52 ?_
   refine m_' (i_ (((l_3.take (gt l_2 (i4 + 1)).toNat).drop (gt l_2 i4).toNat).length : Int)) (aLen Try.prog 79 (.slice a55 n56 c57) H21) (hs53.lenb (by kernel_rfl)) ?_
   refine e_' (i_ 0) ?_
   refine d_nil ?_
   refine k40 _ _ ?_
   obtain ⟨o59, hx60, r61⟩ := bind_some r50
   refine w_mid (fun α H62 => ∃ (f66 : Fp), Has α [(0, .func (.yield l_) #[] #[]), (1, pt_ b_p 0), (3, i_ o59.2), (12, i_ (l.length : Int)), (13, i_ i4)] ∧ FrS f25 H21 H62 ∧ Trc I_ H62 o59.1 f66 ∧ Inn f25 H21 f66) (fun _ k68 => ?_) (fun α H62 hM => ?_)
   ·refine w_block ?_
    obtain ⟨n70, hn71⟩ := loopO_iff.1 hx60
    refine w_loopn (fun n α H72 => ∃ (yield0 : List (Int × Int × Int × Int × Int × Int × Int × Int)), ∃ (i1 : Int), ∃ (i2 : Int), ∃ (f76 : Fp), iterO (fun zz_ => z_hier_links_1_l0 ok_ l_2 l_3 i4 zz_.1 zz_.2.1 zz_.2.2) n (yield0, i1, i2) = some o59 ∧ Has α [(0, .func (.yield l_) #[] #[]), (1, pt_ b_p 0), (3, i_ i1), (4, i_ i4), (12, i_ (l.length : Int)), (13, i_ i4), (29, .slice a55 n56 c57), (30, i_ (((l_3.take (gt l_2 (i4 + 1)).toNat).drop (gt l_2 i4).toNat).length : Int)), (31, i_ i2)] ∧ FrS f25 H21 H72 ∧ Trc I_ H72 yield0 f76 ∧ Inn f25 H21 f76) n70 ⟨yield3, i5, 0, f25, hn71, ha_, (FrS.refl (W := f25) e22.wf), m24, Inn.refl'⟩ ?_
    rintro n70 α H72 ⟨yield0, i1, i2, f76, hi79, hh78, e73, m75, i77⟩ K84 k84
    obtain ⟨n80, z81, rfl, hz82, hn83⟩ := iter_succ hi79
    obtain ⟨β, rfl⟩ := has_ex hh78
    clear hh78
    replace hz82 : z_hier_links_1_l0 ok_ l_2 l_3 i4 yield0 i1 i2 = some z81 := hz82
    unfold z_hier_links_1_l0 at hz82
    refine w_seqk fun _ k85 => g_' (q_ (.bool (decide (i2 < (((l_3.take (gt l_2 (i4 + 1)).toNat).drop (gt l_2 i4).toNat).length : Int)))) (s_nil (k85 _ _ (w_seqk fun _ k86 => ?_))))
    refine w_condp (i2 < (((l_3.take (gt l_2 (i4 + 1)).toNat).drop (gt l_2 i4).toNat).length : Int)) (by kernel_rfl) rfl (fun h87 => ?_) (fun h87 => ?_)
    ·have r88 := ite_t h87 hz82
     refine w_skip (k86 _ _ (w_seqk fun _ k89 => w_block (w_seqk fun _ k90 => g_' ?_)))
     obtain ⟨g91, r92⟩ := G_some r88
     have u93 := (hs53.fr e73 (i26.dj dj_fp_tr_fp_l_3 h_l_3.lt))
     refine l_' (elp (.slice a55 n56 c57) 4 i2.toNat 0) (aIndexAddr Try.prog 79 (.slice a55 n56 c57) (i_ i2)) (u93.idxb (by kernel_rfl) g91 h87) ?_
     refine l_' (.agg #[.int .u32 ((gt ((l_3.take (gt l_2 (i4 + 1)).toNat).drop (gt l_2 i4).toNat) i2).1), .int .u64 ((gt ((l_3.take (gt l_2 (i4 + 1)).toNat).drop (gt l_2 i4).toNat) i2).2.1), .int .u32 ((gt ((l_3.take (gt l_2 (i4 + 1)).toNat).drop (gt l_2 i4).toNat) i2).2.2.1), .int .u32 ((gt ((l_3.take (gt l_2 (i4 + 1)).toNat).drop (gt l_2 i4).toNat) i2).2.2.2)]) (aL_ 93 (elp (.slice a55 n56 c57) 4 i2.toNat 0) H72) (u93.ld g91 h87 (by kernel_rfl)) ?_
     refine s_rwk e73.wf [.int .u32 0, .int .u64 0, .int .u32 0, .int .u32 0] (by kernel_rfl) fun b94 H95 e96 hb97 r98 => ?_
     obtain ⟨H100, q101, e102, r103⟩ := Row.store (P := Try.prog) (t := 93) (p := 0) e96.wf r98 (.agg #[.int .u32 ((gt ((l_3.take (gt l_2 (i4 + 1)).toNat).drop (gt l_2 i4).toNat) i2).1), .int .u64 ((gt ((l_3.take (gt l_2 (i4 + 1)).toNat).drop (gt l_2 i4).toNat) i2).2.1), .int .u32 ((gt ((l_3.take (gt l_2 (i4 + 1)).toNat).drop (gt l_2 i4).toNat) i2).2.2.1), .int .u32 ((gt ((l_3.take (gt l_2 (i4 + 1)).toNat).drop (gt l_2 i4).toNat) i2).2.2.2)]) [.int .u32 ((gt ((l_3.take (gt l_2 (i4 + 1)).toNat).drop (gt l_2 i4).toNat) i2).1), .int .u64 ((gt ((l_3.take (gt l_2 (i4 + 1)).toNat).drop (gt l_2 i4).toNat) i2).2.1), .int .u32 ((gt ((l_3.take (gt l_2 (i4 + 1)).toNat).drop (gt l_2 i4).toNat) i2).2.2.1), .int .u32 ((gt ((l_3.take (gt l_2 (i4 + 1)).toNat).drop (gt l_2 i4).toNat) i2).2.2.2)] (by kernel_rfl) (by kernel_rfl) (one_cons (rfl) (one_cons (rfl) (one_cons (rfl) (one_cons (rfl) (one_nil))))) (Nat.le_of_ble_eq_true (by kernel_rfl)) [.int .u32 ((gt ((l_3.take (gt l_2 (i4 + 1)).toNat).drop (gt l_2 i4).toNat) i2).1), .int .u64 ((gt ((l_3.take (gt l_2 (i4 + 1)).toNat).drop (gt l_2 i4).toNat) i2).2.1), .int .u32 ((gt ((l_3.take (gt l_2 (i4 + 1)).toNat).drop (gt l_2 i4).toNat) i2).2.2.1), .int .u32 ((gt ((l_3.take (gt l_2 (i4 + 1)).toNat).drop (gt l_2 i4).toNat) i2).2.2.2)] (by kernel_rfl)
     refine s_ek (undef) (by kernel_rfl) (map_ok q101) ?_
     refine s_nil (k90 _ _ (w_seqk fun _ k104 => w_seqk fun _ k105 => g_' (q_ (.func (.yield l_) #[] #[]) (q_ (i_ i1) ?_))))
     refine l_' (.agg #[.int .u32 ((gt ((l_3.take (gt l_2 (i4 + 1)).toNat).drop (gt l_2 i4).toNat) i2).1), .int .u64 ((gt ((l_3.take (gt l_2 (i4 + 1)).toNat).drop (gt l_2 i4).toNat) i2).2.1), .int .u32 ((gt ((l_3.take (gt l_2 (i4 + 1)).toNat).drop (gt l_2 i4).toNat) i2).2.2.1), .int .u32 ((gt ((l_3.take (gt l_2 (i4 + 1)).toNat).drop (gt l_2 i4).toNat) i2).2.2.2)]) (aL_ 93 (pt_ b94 0) H100) (r103.l_) ?_
     refine q_ (i_ i4) (q_ (pt_ b94 0) ?_)
     refine l_' (.int .u32 ((gt ((l_3.take (gt l_2 (i4 + 1)).toNat).drop (gt l_2 i4).toNat) i2).1)) (aL_ 90 (pt_ b94 0) H100) (r103.l_) ?_
     obtain ⟨g106, r107⟩ := G_some r92
     refine w_' (gt ((l_3.take (gt l_2 (i4 + 1)).toNat).drop (gt l_2 i4).toNat) i2).1 (wrap64 g106) ?_
     refine q_ (i_ i4) (q_ (.agg #[.int .u32 ((gt ((l_3.take (gt l_2 (i4 + 1)).toNat).drop (gt l_2 i4).toNat) i2).1), .int .u64 ((gt ((l_3.take (gt l_2 (i4 + 1)).toNat).drop (gt l_2 i4).toNat) i2).2.1), .int .u32 ((gt ((l_3.take (gt l_2 (i4 + 1)).toNat).drop (gt l_2 i4).toNat) i2).2.2.1), .int .u32 ((gt ((l_3.take (gt l_2 (i4 + 1)).toNat).drop (gt l_2 i4).toNat) i2).2.2.2), i_ i4, i_ ((gt ((l_3.take (gt l_2 (i4 + 1)).toNat).drop (gt l_2 i4).toNat) i2).1), i_ i4]) ?_)
     obtain ⟨g108, r109⟩ := G_some r107
     have u115 := ((m75.ext e96).fr e102 (hb97.djn m75.lt))
     refine s_y l_ #[i_ i1, .agg #[.int .u32 ((gt ((l_3.take (gt l_2 (i4 + 1)).toNat).drop (gt l_2 i4).toNat) i2).1), .int .u64 ((gt ((l_3.take (gt l_2 (i4 + 1)).toNat).drop (gt l_2 i4).toNat) i2).2.1), .int .u32 ((gt ((l_3.take (gt l_2 (i4 + 1)).toNat).drop (gt l_2 i4).toNat) i2).2.2.1), .int .u32 ((gt ((l_3.take (gt l_2 (i4 + 1)).toNat).drop (gt l_2 i4).toNat) i2).2.2.2), i_ i4, i_ ((gt ((l_3.take (gt l_2 (i4 + 1)).toNat).drop (gt l_2 i4).toNat) i2).1), i_ i4]] (by kernel_rfl) (by kernel_rfl) (hyl _ _ _ (i1, (gt ((l_3.take (gt l_2 (i4 + 1)).toNat).drop (gt l_2 i4).toNat) i2).1, (gt ((l_3.take (gt l_2 (i4 + 1)).toNat).drop (gt l_2 i4).toNat) i2).2.1, (gt ((l_3.take (gt l_2 (i4 + 1)).toNat).drop (gt l_2 i4).toNat) i2).2.2.1, (gt ((l_3.take (gt l_2 (i4 + 1)).toNat).drop (gt l_2 i4).toNat) i2).2.2.2, i4, (gt ((l_3.take (gt l_2 (i4 + 1)).toNat).drop (gt l_2 i4).toNat) i2).1, i4) e102.wf g108 u115.at) ?_
     rintro _ H110 ⟨rfl, f111, e112, hm113, hf114⟩
     refine q_ (.bool false) (s_nil (k105 _ _ ?_))
     refine w_cond false (by kernel_rfl) rfl (fun h => by cases h) (fun _ => ?_)
     refine w_skip (k104 _ _ (g_' (q_ (i_ i1) ?_)))
     obtain ⟨g116, r117⟩ := G_some r109
     refine w_' (i1 + 1) (wrap64 g116) ?_
     refine q_ (i_ (i1 + 1)) (s_nil (k89 _ _ (g_' ?_)))
     obtain ⟨g118, r119⟩ := G_some r117
     refine w_' (i2 + 1) (wrap64 (by have := g118; omega)) ?_
     refine q_ (i_ (i2 + 1)) (s_nil ?_)
     obtain rfl := oi_ r119
     exact k84 n80 _ _ (Nat.lt_succ_self _) ⟨(yield0 ++ [(i1, (gt ((l_3.take (gt l_2 (i4 + 1)).toNat).drop (gt l_2 i4).toNat) i2).1, (gt ((l_3.take (gt l_2 (i4 + 1)).toNat).drop (gt l_2 i4).toNat) i2).2.1, (gt ((l_3.take (gt l_2 (i4 + 1)).toNat).drop (gt l_2 i4).toNat) i2).2.2.1, (gt ((l_3.take (gt l_2 (i4 + 1)).toNat).drop (gt l_2 i4).toNat) i2).2.2.2, i4, (gt ((l_3.take (gt l_2 (i4 + 1)).toNat).drop (gt l_2 i4).toNat) i2).1, i4)]), (i1 + 1), (i2 + 1), f111, hn83, ha_, (FrS.step e22.wf (FrS.step e22.wf ((FrS.step e22.wf (FrS.refl (W := f25) e22.wf) e73 Inn.refl').extR e96) e102 (hb97.fresh e73.n)) e112 (Inn.trans Inn.refl' (Nat.le_refl _) i77)), hm113, (Inn.trans (Inn.trans Inn.refl' (Nat.le_refl _) i77) (t_ (t_ e73.n e96.n) e102.n) hf114)⟩
    have r120 := ite_f h87 hz82
    refine w_exit (th_exit (th_exit (bl_eq ?_)))
    obtain rfl := oi_ r120
    obtain rfl := it_inr hn83
    exact k68 _ _ ⟨f76, ha_, (FrS.step e22.wf (FrS.refl (W := f25) e22.wf) e73 Inn.refl'), m75, (Inn.trans Inn.refl' (Nat.le_refl _) i77)⟩
   obtain ⟨f66, hh69, e63, m65, i67⟩ := hM
   obtain ⟨β, rfl⟩ := has_ex hh69
   clear hh69
   refine k38 _ _ (g_' ?_)
   refine w_' (i4 + 1) (wrap64 (by have := g45; omega)) ?_
   refine q_ (i_ (i4 + 1)) (s_nil ?_)
   obtain rfl := oi_ r61
   exact k33 n29 _ _ (Nat.lt_succ_self _) ⟨o59.1, (i4 + 1), o59.2, f66, hn32, ha_, (FrS.step wf (FrS.step wf (FrS.refl (W := fp_tr) wf) e22 Inn.refl') e63 (Inn.trans Inn.refl' (Nat.le_refl _) i26)), m65, (Inn.trans (Inn.trans Inn.refl' (Nat.le_refl _) i26) e22.n i67)⟩
  have r121 := ite_f h36 hz31
  refine w_exit (th_exit (th_exit (bl_eq ?_)))
  obtain rfl := oi_ r121
  obtain rfl := it_inr hn32
  exact k17 _ _ ⟨f25, ha_, (FrS.step wf (FrS.refl (W := fp_tr) wf) e22 Inn.refl'), m24, (Inn.trans Inn.refl' (Nat.le_refl _) i26)⟩
 obtain ⟨f15, hh18, e12, m14, i16⟩ := hM
 obtain ⟨β, rfl⟩ := has_ex hh18
 clear hh18
 refine k6 _ _ (w_seqk fun _ k122 => g_' (q_ (pt_ b_p 0) ?_))
 have u123 := (h_p.frS e12 dj_fp_tr_b_p)
 refine l_' (hd_l) (aL_ 78 (pt_ b_p 0) H11) (u123.l_) ?_
 have u124 := (h_l.fr e12 dj_fp_tr_fp_l)
 refine l_' (i_ (l.length : Int)) (aLen Try.prog 78 hd_l H11) (u124.lenb (by kernel_rfl)) ?_
 refine q_ (i_ 0) (s_nil (k122 _ _ ?_))
 obtain ⟨o125, hx126, r127⟩ := bind_some r10
 refine w_mid (fun α H128 => ∃ (f132 : Fp), Has α [] ∧ FrS f15 H11 H128 ∧ Trc I_ H128 o125 f132 ∧ Inn f15 H11 f132) (fun _ k134 => ?_) (fun α H128 hM => ?_)
 ·refine w_block ?_
  obtain ⟨n136, hn137⟩ := loopO_iff.1 hx126
  refine w_loopn (fun n α H138 => ∃ (yield9 : List (Int × Int × Int × Int × Int × Int × Int × Int)), ∃ (i10 : Int), ∃ (i11 : Int), ∃ (f142 : Fp), iterO (fun zz_ => z_hier_links_1_l3 ok_ l l_4 l_5 zz_.1 zz_.2.1 zz_.2.2) n (yield9, i10, i11) = some o125 ∧ Has α [(0, .func (.yield l_) #[] #[]), (1, pt_ b_p 0), (3, i_ i10), (52, i_ (l.length : Int)), (53, i_ i11)] ∧ FrS f15 H11 H138 ∧ Trc I_ H138 yield9 f142 ∧ Inn f15 H11 f142) n136 ⟨o8.1, o8.2, 0, f15, hn137, ha_, (FrS.refl (W := f15) e12.wf), m14, Inn.refl'⟩ ?_
  rintro n136 α H138 ⟨yield9, i10, i11, f142, hi145, hh144, e139, m141, i143⟩ K150 k150
  obtain ⟨n146, z147, rfl, hz148, hn149⟩ := iter_succ hi145
  obtain ⟨β, rfl⟩ := has_ex hh144
  clear hh144
  replace hz148 : z_hier_links_1_l3 ok_ l l_4 l_5 yield9 i10 i11 = some z147 := hz148
  unfold z_hier_links_1_l3 at hz148
  refine w_seqk fun _ k151 => g_' (q_ (.bool (decide (i11 < (l.length : Int)))) (s_nil (k151 _ _ (w_seqk fun _ k152 => ?_))))
  refine w_condp (i11 < (l.length : Int)) (by kernel_rfl) rfl (fun h153 => ?_) (fun h153 => ?_)
  ·have r154 := ite_t h153 hz148
   refine w_skip (k152 _ _ (w_seqk fun _ k155 => w_block (w_seqk fun _ k156 => g_' (q_ (i_ i11) (q_ (i_ i11) (s_nil (k156 _ _ (w_seqk fun _ k157 => ?_))))))))
   refine w_draw [0, 1, 2, 3, 4, 5, 6, 7, 8, 9, 10, 11, 12, 13, 14, 15] (by kernel_rfl) ?_
   refine e_' (pt_ b_p 4) ?_
   have u158 := (u123.frS e139 (i16.dj dj_fp_tr_b_p h_p.ltF))
   refine m_' (hd_l_5) (aL_ 79 (pt_ b_p 4) H138) (u158.l_) ?_
   refine e_' (pt_ b_p 3) ?_
   refine m_' (hd_l_4) (aL_ 78 (pt_ b_p 3) H138) (u158.l_) ?_
   refine e_' (i_ i11) ?_
   obtain ⟨g159, r160⟩ := G_some r154
   have u161 := ((h_l_4.fr e12 dj_fp_tr_fp_l_4).fr e139 (i16.dj dj_fp_tr_fp_l_4 h_l_4.lt))
   refine m_' (elp hd_l_4 1 i11.toNat 0) (aIndexAddr Try.prog 78 hd_l_4 (i_ i11)) (u161.idxb (by kernel_rfl) g159.1 g159.2) ?_
   refine m_' (.int .u32 (gt l_4 i11)) (aL_ 90 (elp hd_l_4 1 i11.toNat 0) H138) (u161.ld g159.1 g159.2 (by kernel_rfl)) ?_
   refine e_' (pt_ b_p 3) ?_
   refine m_' (hd_l_4) (aL_ 78 (pt_ b_p 3) H138) (u158.l_) ?_
   refine e_' (i_ i11) ?_
   obtain ⟨g162, r163⟩ := G_some r160
   refine d_w ((i11 + 1)) (k := .i64) (x := (i11 + 1)) (by kernel_rfl) (wrap64 (by have := g162; omega)) ?_
   obtain ⟨g164, r165⟩ := G_some r163
   refine m_' (elp hd_l_4 1 (i11 + 1).toNat 0) (aIndexAddr Try.prog 78 hd_l_4 (i_ (i11 + 1))) (u161.idxb (by kernel_rfl) g164.1 g164.2) ?_
   refine m_' (.int .u32 (gt l_4 (i11 + 1))) (aL_ 90 (elp hd_l_4 1 (i11 + 1).toNat 0) H138) (u161.ld g164.1 g164.2 (by kernel_rfl)) ?_
   obtain ⟨g166, r167⟩ := G_some r165
   have u171 := ((h_l_5.fr e12 dj_fp_tr_fp_l_5).fr e139 (i16.dj dj_fp_tr_fp_l_5 h_l_5.lt))
   obtain ⟨s168, q169, hs170⟩ := Sq.cut (P := Try.prog) u171 (t := 79) (by kernel_rfl) (lo := (some (.int .u32 (gt l_4 i11)))) (hi := (some (.int .u32 (gt l_4 (i11 + 1))))) (l := (gt l_4 i11).toNat) (r := (gt l_4 (i11 + 1)).toNat) (aBound_int _ (by have := g166; omega)) (aBound_int _ (by have := g166; omega)) (by have := g166; omega) (by have := g166; omega)
   obtain ⟨a172, n173, c174, rfl⟩ := hs170.form
   refine d_ql (.slice a172 n173 c174) (by kernel_rfl) q169 ?_
   refine m_' (i_ (((l_5.take (gt l_4 (i11 + 1)).toNat).drop (gt l_4 i11).toNat).length : Int)) (aLen Try.prog 79 (.slice a172 n173 c174) H138) (hs170.lenb (by kernel_rfl)) ?_
   refine e_' (i_ 0) ?_
   refine d_nil ?_
   refine k157 _ _ ?_
   obtain ⟨o176, hx177, r178⟩ := bind_some r167
   refine w_mid (fun α H179 => ∃ (f183 : Fp), Has α [(0, .func (.yield l_) #[] #[]), (1, pt_ b_p 0), (3, i_ o176.2), (52, i_ (l.length : Int)), (53, i_ i11)] ∧ FrS f142 H138 H179 ∧ Trc I_ H179 o176.1 f183 ∧ Inn f142 H138 f183) (fun _ k185 => ?_) (fun α H179 hM => ?_)
   ·refine w_block ?_
    obtain ⟨n187, hn188⟩ := loopO_iff.1 hx177
    refine w_loopn (fun n α H189 => ∃ (yield6 : List (Int × Int × Int × Int × Int × Int × Int × Int)), ∃ (i7 : Int), ∃ (i8 : Int), ∃ (f193 : Fp), iterO (fun zz_ => z_hier_links_1_l2 ok_ l_4 l_5 i11 zz_.1 zz_.2.1 zz_.2.2) n (yield6, i7, i8) = some o176 ∧ Has α [(0, .func (.yield l_) #[] #[]), (1, pt_ b_p 0), (3, i_ i7), (7, i_ i11), (52, i_ (l.length : Int)), (53, i_ i11), (69, .slice a172 n173 c174), (70, i_ (((l_5.take (gt l_4 (i11 + 1)).toNat).drop (gt l_4 i11).toNat).length : Int)), (71, i_ i8)] ∧ FrS f142 H138 H189 ∧ Trc I_ H189 yield6 f193 ∧ Inn f142 H138 f193) n187 ⟨yield9, i10, 0, f142, hn188, ha_, (FrS.refl (W := f142) e139.wf), m141, Inn.refl'⟩ ?_
    rintro n187 α H189 ⟨yield6, i7, i8, f193, hi196, hh195, e190, m192, i194⟩ K201 k201
    obtain ⟨n197, z198, rfl, hz199, hn200⟩ := iter_succ hi196
    obtain ⟨β, rfl⟩ := has_ex hh195
    clear hh195
    replace hz199 : z_hier_links_1_l2 ok_ l_4 l_5 i11 yield6 i7 i8 = some z198 := hz199
    unfold z_hier_links_1_l2 at hz199
    refine w_seqk fun _ k202 => g_' (q_ (.bool (decide (i8 < (((l_5.take (gt l_4 (i11 + 1)).toNat).drop (gt l_4 i11).toNat).length : Int)))) (s_nil (k202 _ _ (w_seqk fun _ k203 => ?_))))
    refine w_condp (i8 < (((l_5.take (gt l_4 (i11 + 1)).toNat).drop (gt l_4 i11).toNat).length : Int)) (by kernel_rfl) rfl (fun h204 => ?_) (fun h204 => ?_)
    ·have r205 := ite_t h204 hz199
     refine w_skip (k203 _ _ (w_seqk fun _ k206 => w_block (w_seqk fun _ k207 => g_' ?_)))
     obtain ⟨g208, r209⟩ := G_some r205
     have u210 := (hs170.fr e190 (i143.dj (i16.dj dj_fp_tr_fp_l_5 h_l_5.lt) (h_l_5.lt.le e12.n)))
     refine l_' (elp (.slice a172 n173 c174) 4 i8.toNat 0) (aIndexAddr Try.prog 79 (.slice a172 n173 c174) (i_ i8)) (u210.idxb (by kernel_rfl) g208 h204) ?_
     refine l_' (.agg #[.int .u32 ((gt ((l_5.take (gt l_4 (i11 + 1)).toNat).drop (gt l_4 i11).toNat) i8).1), .int .u64 ((gt ((l_5.take (gt l_4 (i11 + 1)).toNat).drop (gt l_4 i11).toNat) i8).2.1), .int .u32 ((gt ((l_5.take (gt l_4 (i11 + 1)).toNat).drop (gt l_4 i11).toNat) i8).2.2.1), .int .u32 ((gt ((l_5.take (gt l_4 (i11 + 1)).toNat).drop (gt l_4 i11).toNat) i8).2.2.2)]) (aL_ 93 (elp (.slice a172 n173 c174) 4 i8.toNat 0) H189) (u210.ld g208 h204 (by kernel_rfl)) ?_
     refine s_rwk e190.wf [.int .u32 0, .int .u64 0, .int .u32 0, .int .u32 0] (by kernel_rfl) fun b211 H212 e213 hb214 r215 => ?_
     obtain ⟨H217, q218, e219, r220⟩ := Row.store (P := Try.prog) (t := 93) (p := 0) e213.wf r215 (.agg #[.int .u32 ((gt ((l_5.take (gt l_4 (i11 + 1)).toNat).drop (gt l_4 i11).toNat) i8).1), .int .u64 ((gt ((l_5.take (gt l_4 (i11 + 1)).toNat).drop (gt l_4 i11).toNat) i8).2.1), .int .u32 ((gt ((l_5.take (gt l_4 (i11 + 1)).toNat).drop (gt l_4 i11).toNat) i8).2.2.1), .int .u32 ((gt ((l_5.take (gt l_4 (i11 + 1)).toNat).drop (gt l_4 i11).toNat) i8).2.2.2)]) [.int .u32 ((gt ((l_5.take (gt l_4 (i11 + 1)).toNat).drop (gt l_4 i11).toNat) i8).1), .int .u64 ((gt ((l_5.take (gt l_4 (i11 + 1)).toNat).drop (gt l_4 i11).toNat) i8).2.1), .int .u32 ((gt ((l_5.take (gt l_4 (i11 + 1)).toNat).drop (gt l_4 i11).toNat) i8).2.2.1), .int .u32 ((gt ((l_5.take (gt l_4 (i11 + 1)).toNat).drop (gt l_4 i11).toNat) i8).2.2.2)] (by kernel_rfl) (by kernel_rfl) (one_cons (rfl) (one_cons (rfl) (one_cons (rfl) (one_cons (rfl) (one_nil))))) (Nat.le_of_ble_eq_true (by kernel_rfl)) [.int .u32 ((gt ((l_5.take (gt l_4 (i11 + 1)).toNat).drop (gt l_4 i11).toNat) i8).1), .int .u64 ((gt ((l_5.take (gt l_4 (i11 + 1)).toNat).drop (gt l_4 i11).toNat) i8).2.1), .int .u32 ((gt ((l_5.take (gt l_4 (i11 + 1)).toNat).drop (gt l_4 i11).toNat) i8).2.2.1), .int .u32 ((gt ((l_5.take (gt l_4 (i11 + 1)).toNat).drop (gt l_4 i11).toNat) i8).2.2.2)] (by kernel_rfl)
     refine s_ek (undef) (by kernel_rfl) (map_ok q218) ?_
     refine s_nil (k207 _ _ (w_seqk fun _ k221 => w_seqk fun _ k222 => g_' (q_ (.func (.yield l_) #[] #[]) (q_ (i_ i7) ?_))))
     refine l_' (.agg #[.int .u32 ((gt ((l_5.take (gt l_4 (i11 + 1)).toNat).drop (gt l_4 i11).toNat) i8).1), .int .u64 ((gt ((l_5.take (gt l_4 (i11 + 1)).toNat).drop (gt l_4 i11).toNat) i8).2.1), .int .u32 ((gt ((l_5.take (gt l_4 (i11 + 1)).toNat).drop (gt l_4 i11).toNat) i8).2.2.1), .int .u32 ((gt ((l_5.take (gt l_4 (i11 + 1)).toNat).drop (gt l_4 i11).toNat) i8).2.2.2)]) (aL_ 93 (pt_ b211 0) H217) (r220.l_) ?_
     refine q_ (pt_ b211 0) ?_
     refine l_' (.int .u32 ((gt ((l_5.take (gt l_4 (i11 + 1)).toNat).drop (gt l_4 i11).toNat) i8).1)) (aL_ 90 (pt_ b211 0) H217) (r220.l_) ?_
     obtain ⟨g223, r224⟩ := G_some r209
     refine w_' (gt ((l_5.take (gt l_4 (i11 + 1)).toNat).drop (gt l_4 i11).toNat) i8).1 (wrap64 g223) ?_
     refine q_ (i_ i11) (q_ (i_ i11) (q_ (.agg #[.int .u32 ((gt ((l_5.take (gt l_4 (i11 + 1)).toNat).drop (gt l_4 i11).toNat) i8).1), .int .u64 ((gt ((l_5.take (gt l_4 (i11 + 1)).toNat).drop (gt l_4 i11).toNat) i8).2.1), .int .u32 ((gt ((l_5.take (gt l_4 (i11 + 1)).toNat).drop (gt l_4 i11).toNat) i8).2.2.1), .int .u32 ((gt ((l_5.take (gt l_4 (i11 + 1)).toNat).drop (gt l_4 i11).toNat) i8).2.2.2), i_ ((gt ((l_5.take (gt l_4 (i11 + 1)).toNat).drop (gt l_4 i11).toNat) i8).1), i_ i11, i_ i11]) ?_))
     obtain ⟨g225, r226⟩ := G_some r224
     have u232 := ((m192.ext e213).fr e219 (hb214.djn m192.lt))
     refine s_y l_ #[i_ i7, .agg #[.int .u32 ((gt ((l_5.take (gt l_4 (i11 + 1)).toNat).drop (gt l_4 i11).toNat) i8).1), .int .u64 ((gt ((l_5.take (gt l_4 (i11 + 1)).toNat).drop (gt l_4 i11).toNat) i8).2.1), .int .u32 ((gt ((l_5.take (gt l_4 (i11 + 1)).toNat).drop (gt l_4 i11).toNat) i8).2.2.1), .int .u32 ((gt ((l_5.take (gt l_4 (i11 + 1)).toNat).drop (gt l_4 i11).toNat) i8).2.2.2), i_ ((gt ((l_5.take (gt l_4 (i11 + 1)).toNat).drop (gt l_4 i11).toNat) i8).1), i_ i11, i_ i11]] (by kernel_rfl) (by kernel_rfl) (hyl _ _ _ (i7, (gt ((l_5.take (gt l_4 (i11 + 1)).toNat).drop (gt l_4 i11).toNat) i8).1, (gt ((l_5.take (gt l_4 (i11 + 1)).toNat).drop (gt l_4 i11).toNat) i8).2.1, (gt ((l_5.take (gt l_4 (i11 + 1)).toNat).drop (gt l_4 i11).toNat) i8).2.2.1, (gt ((l_5.take (gt l_4 (i11 + 1)).toNat).drop (gt l_4 i11).toNat) i8).2.2.2, (gt ((l_5.take (gt l_4 (i11 + 1)).toNat).drop (gt l_4 i11).toNat) i8).1, i11, i11) e219.wf g225 u232.at) ?_
     rintro _ H227 ⟨rfl, f228, e229, hm230, hf231⟩
     refine q_ (.bool false) (s_nil (k222 _ _ ?_))
     refine w_cond false (by kernel_rfl) rfl (fun h => by cases h) (fun _ => ?_)
     refine w_skip (k221 _ _ (g_' (q_ (i_ i7) ?_)))
     obtain ⟨g233, r234⟩ := G_some r226
     refine w_' (i7 + 1) (wrap64 g233) ?_
     refine q_ (i_ (i7 + 1)) (s_nil (k206 _ _ (g_' ?_)))
     obtain ⟨g235, r236⟩ := G_some r234
     refine w_' (i8 + 1) (wrap64 (by have := g235; omega)) ?_
     refine q_ (i_ (i8 + 1)) (s_nil ?_)
     obtain rfl := oi_ r236
     exact k201 n197 _ _ (Nat.lt_succ_self _) ⟨(yield6 ++ [(i7, (gt ((l_5.take (gt l_4 (i11 + 1)).toNat).drop (gt l_4 i11).toNat) i8).1, (gt ((l_5.take (gt l_4 (i11 + 1)).toNat).drop (gt l_4 i11).toNat) i8).2.1, (gt ((l_5.take (gt l_4 (i11 + 1)).toNat).drop (gt l_4 i11).toNat) i8).2.2.1, (gt ((l_5.take (gt l_4 (i11 + 1)).toNat).drop (gt l_4 i11).toNat) i8).2.2.2, (gt ((l_5.take (gt l_4 (i11 + 1)).toNat).drop (gt l_4 i11).toNat) i8).1, i11, i11)]), (i7 + 1), (i8 + 1), f228, hn200, ha_, (FrS.step e139.wf (FrS.step e139.wf ((FrS.step e139.wf (FrS.refl (W := f142) e139.wf) e190 Inn.refl').extR e213) e219 (hb214.fresh e190.n)) e229 (Inn.trans Inn.refl' (Nat.le_refl _) i194)), hm230, (Inn.trans (Inn.trans Inn.refl' (Nat.le_refl _) i194) (t_ (t_ e190.n e213.n) e219.n) hf231)⟩
    have r237 := ite_f h204 hz199
    refine w_exit (th_exit (th_exit (bl_eq ?_)))
    obtain rfl := oi_ r237
    obtain rfl := it_inr hn200
    exact k185 _ _ ⟨f193, ha_, (FrS.step e139.wf (FrS.refl (W := f142) e139.wf) e190 Inn.refl'), m192, (Inn.trans Inn.refl' (Nat.le_refl _) i194)⟩
   obtain ⟨f183, hh186, e180, m182, i184⟩ := hM
   obtain ⟨β, rfl⟩ := has_ex hh186
   clear hh186
   refine k155 _ _ (g_' ?_)
   refine w_' (i11 + 1) (wrap64 (by have := g162; omega)) ?_
   refine q_ (i_ (i11 + 1)) (s_nil ?_)
   obtain rfl := oi_ r178
   exact k150 n146 _ _ (Nat.lt_succ_self _) ⟨o176.1, o176.2, (i11 + 1), f183, hn149, ha_, (FrS.step e12.wf (FrS.step e12.wf (FrS.refl (W := f15) e12.wf) e139 Inn.refl') e180 (Inn.trans Inn.refl' (Nat.le_refl _) i143)), m182, (Inn.trans (Inn.trans Inn.refl' (Nat.le_refl _) i143) e139.n i184)⟩
  have r238 := ite_f h153 hz148
  refine w_exit (th_exit (th_exit (bl_eq ?_)))
  obtain rfl := oi_ r238
  obtain rfl := it_inr hn149
  exact k134 _ _ ⟨f142, trivial, (FrS.step e12.wf (FrS.refl (W := f15) e12.wf) e139 Inn.refl'), m141, (Inn.trans Inn.refl' (Nat.le_refl _) i143)⟩
 obtain ⟨f132, hh135, e129, m131, i133⟩ := hM
 obtain ⟨β, rfl⟩ := has_ex hh135
 clear hh135
 refine b_nrm (fn := Try.f160) (vs := []) (rfl) ?_
 obtain rfl := oi_ r127
 exact ⟨f132, rfl, (FrS.step wf (FrS.step wf (FrS.refl (W := fp_tr) wf) e12 Inn.refl') e129 (Inn.trans Inn.refl' (Nat.le_refl _) i16)), m131, (Inn.trans (Inn.trans Inn.refl' (Nat.le_refl _) i16) e12.n i133)⟩
theorem c_hier_plain {H : AH} {To : Int} {Weight : Int} {Left : Int} {Right : Int} {r : Bool}
    (wf : WF H) (hr : z_hier_plain To Weight Left Right = some r) :
    ACalls Try.prog 96 #[.agg #[.int .u32 To, .int .u64 Weight, .int .u32 Left, .int .u32 Right]] H fun v H' => v = .bool r ∧ FrS [] H H' := by
 refine acalls_of_body mixed Try.func96 rfl (Nat.le_of_ble_eq_true rfl) ?_
 unfold z_hier_plain at hr
 refine w_seqk fun _ k1 => g_' ?_
 refine s_rwl wf [.int .u32 To, .int .u64 Weight, .int .u32 Left, .int .u32 Right] (one_cons (rfl) (one_cons (rfl) (one_cons (rfl) (one_cons (rfl) (one_nil))))) (by kernel_rfl) fun b2 H3 e4 hb5 r6 => ?_
 refine q_ (.bool false) (s_nil (k1 _ _ (w_seqk fun _ k8 => g_' (q_ (pt_ b2 2) ?_))))
 refine l_' (.int .u32 Left) (aL_ 90 (pt_ b2 2) H3) (r6.l_) ?_
 refine s_b (Left = 4294967295) (by kernel_rfl) (fun h9 => ?_) (fun h9 => ?_)
 ·have r10 := ite_t h9 hr
  refine q_ (.bool true) (q_ (pt_ b2 3) ?_)
  refine l_' (.int .u32 Right) (aL_ 90 (pt_ b2 3) H3) (r6.l_) ?_
  refine q_ (.bool (decide (Right = 4294967295))) (q_ (.bool (decide (Right = 4294967295))) (q_ (.bool (decide (Right = 4294967295))) (s_nil (k8 _ _ ?_))))
  refine w_ret ?_
  refine b_ret (fn := Try.f96) (vs := [.bool (decide (Right = 4294967295))]) (rt_ (rfl)) ?_
  obtain rfl := oi_ r10
  exact ⟨rfl, ((f0_ wf).extR e4)⟩
 have r11 := ite_f h9 hr
 refine q_ (.bool false) (n_' (n_' (n_' (q_ (.bool false) (q_ (.bool false) (s_nil (k8 _ _ ?_)))))))
 refine w_ret ?_
 refine b_ret (fn := Try.f96) (vs := [.bool false]) (rt_ (rfl)) ?_
 obtain rfl := oi_ r11
 exact ⟨rfl, ((f0_ wf).extR e4)⟩
end Go.Vd

/-! (KHm1) -/

set_option maxRecDepth 100000
set_option maxHeartbeats 4000000
set_option linter.unusedVariables false
namespace Go.Vd
open Go.Proofs
attribute [local irreducible] wpSeq wpOrd aWp
theorem c_hier_shape {H : AH} {hd_Node : Value} {fp_Node : Fp} {hd_UpFirst : Value} {fp_UpFirst : Fp} {hd_Up : Value} {fp_Up : Fp} {hd_DownFirst : Value} {fp_DownFirst : Fp} {hd_Down : Value} {fp_Down : Fp} {hd_all : Value} {fp_all : Fp} {Node : List (Int)} {UpFirst : List (Int)} {Up : List (Int × Int × Int × Int)} {DownFirst : List (Int)} {Down : List (Int × Int × Int × Int)} {all : List (Int × Int × Int × Int × Int × Int × Int)} {i : Int} {r : Bool}
    (wf : WF H) (h_Node : Sq (encI .u32) 1 H hd_Node Node fp_Node) (h_UpFirst : Sq (encI .u32) 1 H hd_UpFirst UpFirst fp_UpFirst) (h_Up : Sq enc_u32_u64_u32_u32 4 H hd_Up Up fp_Up) (h_DownFirst : Sq (encI .u32) 1 H hd_DownFirst DownFirst fp_DownFirst) (h_Down : Sq enc_u32_u64_u32_u32 4 H hd_Down Down fp_Down) (h_all : Sq enc_u32_u64_u32_u32_i64_i64_i64 7 H hd_all all fp_all) (hr : z_hier_shape Node UpFirst Up DownFirst Down all i = some r) :
    ACalls Try.prog 132 #[.agg #[hd_Node, hd_UpFirst, hd_Up, hd_DownFirst, hd_Down], hd_all, i_ i] H fun v H' => v = .bool r ∧ FrS [] H H' := by
 refine acalls_of_body mixed Try.func132 rfl (Nat.le_of_ble_eq_true rfl) ?_
 unfold z_hier_shape at hr
 refine w_seqk fun _ k1 => g_' ?_
 refine s_rwl wf [hd_Node, hd_UpFirst, hd_Up, hd_DownFirst, hd_Down] (one_cons (h_Node.one1) (one_cons (h_UpFirst.one1) (one_cons (h_Up.one1) (one_cons (h_DownFirst.one1) (one_cons (h_Down.one1) (one_nil)))))) (by kernel_rfl) fun b2 H3 e4 hb5 r6 => ?_
 refine q_ (.bool false) (s_nil (k1 _ _ (w_seqk fun _ k8 => g_' (q_ (hd_all) (q_ (i_ i) ?_)))))
 obtain ⟨g9, r10⟩ := G_some hr
 have u11 := (h_all.ext e4)
 refine l_' (elp hd_all 7 i.toNat 0) (aIndexAddr Try.prog 160 hd_all (i_ i)) (u11.idxb (by kernel_rfl) g9.1 g9.2) ?_
 refine l_' (.agg #[.int .u32 ((gt all i).1), .int .u64 ((gt all i).2.1), .int .u32 ((gt all i).2.2.1), .int .u32 ((gt all i).2.2.2.1), i_ ((gt all i).2.2.2.2.1), i_ ((gt all i).2.2.2.2.2.1), i_ ((gt all i).2.2.2.2.2.2)]) (aL_ 164 (elp hd_all 7 i.toNat 0) H3) (u11.ld g9.1 g9.2 (by kernel_rfl)) ?_
 refine s_rwk e4.wf [.int .u32 0, .int .u64 0, .int .u32 0, .int .u32 0, i_ 0, i_ 0, i_ 0] (by kernel_rfl) fun b12 H13 e14 hb15 r16 => ?_
 obtain ⟨H18, q19, e20, r21⟩ := Row.store (P := Try.prog) (t := 164) (p := 0) e14.wf r16 (.agg #[.int .u32 ((gt all i).1), .int .u64 ((gt all i).2.1), .int .u32 ((gt all i).2.2.1), .int .u32 ((gt all i).2.2.2.1), i_ ((gt all i).2.2.2.2.1), i_ ((gt all i).2.2.2.2.2.1), i_ ((gt all i).2.2.2.2.2.2)]) [.int .u32 ((gt all i).1), .int .u64 ((gt all i).2.1), .int .u32 ((gt all i).2.2.1), .int .u32 ((gt all i).2.2.2.1), i_ ((gt all i).2.2.2.2.1), i_ ((gt all i).2.2.2.2.2.1), i_ ((gt all i).2.2.2.2.2.2)] (by kernel_rfl) (by kernel_rfl) (one_cons (rfl) (one_cons (rfl) (one_cons (rfl) (one_cons (rfl) (one_cons (rfl) (one_cons (rfl) (one_cons (rfl) (one_nil)))))))) (Nat.le_of_ble_eq_true (by kernel_rfl)) [.int .u32 ((gt all i).1), .int .u64 ((gt all i).2.1), .int .u32 ((gt all i).2.2.1), .int .u32 ((gt all i).2.2.2.1), i_ ((gt all i).2.2.2.2.1), i_ ((gt all i).2.2.2.2.2.1), i_ ((gt all i).2.2.2.2.2.2)] (by kernel_rfl)
 refine s_ek (undef) (by kernel_rfl) (map_ok q19) ?_
 refine s_nil (k8 _ _ (w_seqk fun _ k22 => w_block (w_seqk fun _ k23 => ?_)))
 obtain ⟨o24, hx25, r26⟩ := bind_some r10
 refine w_mid (fun α H27 => Has α [(1, hd_all), (2, i_ i), (3, pt_ b2 0), (7, pt_ b12 0), (16, .bool o24)] ∧ H18 = H27) (fun _ k29 => ?_) (fun α H27 hM => ?_)
 ·refine g_' (q_ (pt_ b12 0) (q_ (pt_ b12 0) ?_))
  refine l_' (.int .u32 ((gt all i).1)) (aL_ 90 (pt_ b12 0) H18) (r21.l_) ?_
  obtain ⟨g31, r32⟩ := G_some hx25
  refine w_' (gt all i).1 (wrap64 g31) ?_
  refine q_ (pt_ b2 0) ?_
  have u33 := ((r6.ext e14).frS e20 (hb15.djn r6.ltF))
  refine l_' (hd_Node) (aL_ 78 (pt_ b2 0) H18) (u33.l_) ?_
  have u34 := (((h_Node.ext e4).ext e14).fr e20 (hb15.djn (h_Node.lt.le e4.n)))
  refine l_' (i_ (Node.length : Int)) (aLen Try.prog 78 hd_Node H18) (u34.lenb (by kernel_rfl)) ?_
  refine s_b (((gt all i).1) ≥ (Node.length : Int)) (by kernel_rfl) (fun h35 => ?_) (fun h35 => ?_)
  ·have r36 := ite_t h35 r32
   refine q_ (.bool true) (n_' (n_' (n_' (n_' (n_' (n_' (n_' (q_ (.bool true) (q_ (.bool true) (s_nil ?_))))))))))
   obtain rfl := oi_ r36
   exact k29 _ _ ⟨ha_, rfl⟩
  have r37 := ite_f h35 r32
  refine q_ (.bool false) (q_ (pt_ b12 0) (q_ (pt_ b12 0) ?_))
  refine l_' (.int .u32 ((gt all i).1)) (aL_ 90 (pt_ b12 0) H18) (r21.l_) ?_
  refine w_' (gt all i).1 (wrap64 g31) ?_
  refine q_ (pt_ b12 6) ?_
  refine l_' (i_ ((gt all i).2.2.2.2.2.2)) (aL_ 3 (pt_ b12 6) H18) (r21.l_) ?_
  refine q_ (.bool (decide (((gt all i).1) ≤ ((gt all i).2.2.2.2.2.2)))) (q_ (.bool (decide (((gt all i).1) ≤ ((gt all i).2.2.2.2.2.2)))) (q_ (.bool (decide (((gt all i).1) ≤ ((gt all i).2.2.2.2.2.2)))) (s_nil ?_)))
  obtain rfl := oi_ r37
  exact k29 _ _ ⟨ha_, rfl⟩
 obtain ⟨hh30, rfl⟩ := hM
 obtain ⟨β, rfl⟩ := has_ex hh30
 clear hh30
 refine k23 _ _ ?_
 refine w_cond (o24) (by kernel_rfl) rfl (fun h38 => ?_) (fun h38 => ?_)
 ·have r39 := ite_t h38 r26
  refine w_seqk fun _ k40 => g_' (q_ (.bool false) (s_nil (k40 _ _ ?_)))
  refine w_ret (bl_ret (th_ret ?_))
  refine b_ret (fn := Try.f132) (vs := [.bool false]) (rt_ (rfl)) ?_
  obtain rfl := oi_ r39
  exact ⟨rfl, (FrS.step wf (((f0_ wf).extR e4).extR e14) e20 (hb15.fresh e4.n))⟩
 have r41 := ite_bf h38 r26
 refine w_seqk fun _ k42 => ?_
 obtain ⟨o43, hx44, r45⟩ := bind_some r41
 refine w_mid (fun α H46 => Has α [(1, hd_all), (3, pt_ b2 0), (7, pt_ b12 0), (34, .bool o43)] ∧ H18 = H46) (fun _ k48 => ?_) (fun α H46 hM => ?_)
 ·refine w_draw [0, 1, 2, 3, 4, 5, 6, 7, 8, 9, 10, 11, 12, 13, 14, 15, 16, 17, 18, 19, 20, 21, 22, 23, 24, 25, 26, 27, 28, 29, 30, 31, 32, 33] (by kernel_rfl) ?_
  refine e_' (i_ i) ?_
  refine d_b (i > 0) (by kernel_rfl) (fun h50 => ?_) (fun h50 => ?_)
  ·have r51 := ite_t h50 hx44
   refine e_' (.bool true) (e_' (i_ i) (e_' (pt_ b2 2) ?_))
   have u52 := ((r6.ext e14).frS e20 (hb15.djn r6.ltF))
   refine m_' (hd_Up) (aL_ 79 (pt_ b2 2) H18) (u52.l_) ?_
   have u53 := (((h_Up.ext e4).ext e14).fr e20 (hb15.djn (h_Up.lt.le e4.n)))
   refine m_' (i_ (Up.length : Int)) (aLen Try.prog 79 hd_Up H18) (u53.lenb (by kernel_rfl)) ?_
   refine d_bn (i = (Up.length : Int)) (by kernel_rfl) (fun h54 => ?_) (fun h54 => ?_)
   ·have r55 := ite_t h54 r51
    refine e_' (.bool false) (e_' (.bool false) (j_' (j_' (j_' (j_' (j_' (j_' (j_' (j_' (j_' (e_' (.bool false) (e_' (.bool false) (j_' (j_' (j_' (j_' (j_' (j_' (j_' (j_' (j_' (j_' (j_' (e_' (.bool false) (e_' (.bool false) ?_)))))))))))))))))))))))))
    refine d_nil ?_
    obtain rfl := oi_ r55
    exact k48 _ _ ⟨ha_, rfl⟩
   have r56 := ite_f h54 r51
   refine e_' (.bool true) (e_' (.bool true) (e_' (hd_all) (e_' (i_ i) ?_)))
   obtain ⟨g57, r58⟩ := G_some r56
   refine d_w ((i - 1)) (k := .i64) (x := (i - 1)) (by kernel_rfl) (wrap64 g57) ?_
   obtain ⟨g59, r60⟩ := G_some r58
   have u61 := ((u11.ext e14).fr e20 (hb15.djn (h_all.lt.le e4.n)))
   refine m_' (elp hd_all 7 (i - 1).toNat 0) (aIndexAddr Try.prog 160 hd_all (i_ (i - 1))) (u61.idxb (by kernel_rfl) g59.1 g59.2) ?_
   refine m_' (elp hd_all 7 (i - 1).toNat 6) (aFieldAddr Try.prog 164 (elp hd_all 7 (i - 1).toNat 0) 3) (Sq.fldq (d := 6) u61 g59.1 g59.2 (by kernel_rfl)) ?_
   refine m_' (i_ ((gt all (i - 1)).2.2.2.2.2.2)) (aL_ 3 (elp hd_all 7 (i - 1).toNat 6) H18) (u61.ld g59.1 g59.2 (by kernel_rfl)) ?_
   refine e_' (pt_ b12 6) ?_
   refine m_' (i_ ((gt all i).2.2.2.2.2.2)) (aL_ 3 (pt_ b12 6) H18) (r21.l_) ?_
   refine d_b (((gt all (i - 1)).2.2.2.2.2.2) = ((gt all i).2.2.2.2.2.2)) (by kernel_rfl) (fun h62 => ?_) (fun h62 => ?_)
   ·have r63 := ite_t h62 r60
    refine e_' (.bool true) (e_' (.bool true) (e_' (hd_all) (e_' (i_ i) ?_)))
    obtain ⟨g64, r65⟩ := G_some r63
    refine d_w ((i - 1)) (k := .i64) (x := (i - 1)) (by kernel_rfl) (wrap64 (by have := g64; omega)) ?_
    refine m_' (elp hd_all 7 (i - 1).toNat 0) (aIndexAddr Try.prog 160 hd_all (i_ (i - 1))) (u61.idxb (by kernel_rfl) g59.1 g59.2) ?_
    refine m_' (elp hd_all 7 (i - 1).toNat 0) (aFieldAddr Try.prog 164 (elp hd_all 7 (i - 1).toNat 0) 0) (Sq.fldq (d := 0) u61 g59.1 g59.2 (by kernel_rfl)) ?_
    refine m_' (elp hd_all 7 (i - 1).toNat 0) (aFieldAddr Try.prog 93 (elp hd_all 7 (i - 1).toNat 0) 0) (Sq.fldq (d := 0) u61 g59.1 g59.2 (by kernel_rfl)) ?_
    refine m_' (.int .u32 ((gt all (i - 1)).1)) (aL_ 90 (elp hd_all 7 (i - 1).toNat 0) H18) (u61.ld g59.1 g59.2 (by kernel_rfl)) ?_
    refine e_' (pt_ b12 0) (e_' (pt_ b12 0) ?_)
    refine m_' (.int .u32 ((gt all i).1)) (aL_ 90 (pt_ b12 0) H18) (r21.l_) ?_
    refine e_' (.bool (decide (((gt all (i - 1)).1) ≥ ((gt all i).1)))) (e_' (.bool (decide (((gt all (i - 1)).1) ≥ ((gt all i).1)))) (e_' (.bool (decide (((gt all (i - 1)).1) ≥ ((gt all i).1)))) ?_))
    refine d_nil ?_
    obtain rfl := oi_ r65
    exact k48 _ _ ⟨ha_, rfl⟩
   have r66 := ite_f h62 r60
   refine e_' (.bool false) (e_' (.bool false) (j_' (j_' (j_' (j_' (j_' (j_' (j_' (j_' (j_' (j_' (j_' (e_' (.bool false) (e_' (.bool false) ?_))))))))))))))
   refine d_nil ?_
   obtain rfl := oi_ r66
   exact k48 _ _ ⟨ha_, rfl⟩
  have r67 := ite_f h50 hx44
  refine e_' (.bool false) (j_' (j_' (j_' (j_' (j_' (e_' (.bool false) (e_' (.bool false) (j_' (j_' (j_' (j_' (j_' (j_' (j_' (j_' (j_' (e_' (.bool false) (e_' (.bool false) (j_' (j_' (j_' (j_' (j_' (j_' (j_' (j_' (j_' (j_' (j_' (e_' (.bool false) (e_' (.bool false) ?_)))))))))))))))))))))))))))))))
  refine d_nil ?_
  obtain rfl := oi_ r67
  exact k48 _ _ ⟨ha_, rfl⟩
 obtain ⟨hh49, rfl⟩ := hM
 obtain ⟨β, rfl⟩ := has_ex hh49
 clear hh49
 refine k42 _ _ ?_
 refine w_cond (o43) (by kernel_rfl) rfl (fun h68 => ?_) (fun h68 => ?_)
 ·have r69 := ite_t h68 r45
  refine w_seqk fun _ k70 => g_' (q_ (.bool false) (s_nil (k70 _ _ ?_)))
  refine w_ret (bl_ret (th_ret ?_))
  refine b_ret (fn := Try.f132) (vs := [.bool false]) (rt_ (rfl)) ?_
  obtain rfl := oi_ r69
  exact ⟨rfl, (FrS.step wf (((f0_ wf).extR e4).extR e14) e20 (hb15.fresh e4.n))⟩
 have r71 := ite_bf h68 r45
 refine w_seqk fun _ k72 => g_' (q_ (pt_ b12 0) ?_)
 refine l_' (.agg #[.int .u32 ((gt all i).1), .int .u64 ((gt all i).2.1), .int .u32 ((gt all i).2.2.1), .int .u32 ((gt all i).2.2.2.1)]) (aL_ 93 (pt_ b12 0) H18) (r21.l_) ?_
 obtain ⟨y73, hy74, r75⟩ := bind_some r71
 refine s_ck 96 #[.agg #[.int .u32 ((gt all i).1), .int .u64 ((gt all i).2.1), .int .u32 ((gt all i).2.2.1), .int .u32 ((gt all i).2.2.2.1)]] (by kernel_rfl) (c_hier_plain e20.wf hy74) ?_
 rintro _ H76 ⟨rfl, e77⟩
 refine q_ (.bool y73) (s_nil (k72 _ _ ?_))
 refine w_cond (y73) (by kernel_rfl) rfl (fun h78 => ?_) (fun h78 => ?_)
 ·have r79 := ite_t h78 r75
  refine w_seqk fun _ k80 => g_' (q_ (.bool true) (s_nil (k80 _ _ ?_)))
  refine w_ret (bl_ret (th_ret ?_))
  refine b_ret (fn := Try.f132) (vs := [.bool true]) (rt_ (rfl)) ?_
  obtain rfl := oi_ r79
  exact ⟨rfl, (FrS.step wf (FrS.step wf (((f0_ wf).extR e4).extR e14) e20 (hb15.fresh e4.n)) e77 Inn.nil)⟩
 have r81 := ite_bf h78 r75
 refine w_skip (k22 _ _ (w_seqk fun _ k82 => ?_))
 refine w_draw [0, 1, 2, 3, 4, 5, 6, 7, 8, 9] (by kernel_rfl) ?_
 refine e_' (pt_ b12 0) (e_' (pt_ b12 2) ?_)
 have u83 := (r21.frS e77 Dj.nil_l)
 refine m_' (.int .u32 ((gt all i).2.2.1)) (aL_ 90 (pt_ b12 2) H76) (u83.l_) ?_
 obtain ⟨g84, r85⟩ := G_some r81
 refine d_w ((gt all i).2.2.1) (k := .i64) (x := (gt all i).2.2.1) (by kernel_rfl) (wrap64 g84) ?_
 refine e_' (pt_ b12 0) (e_' (pt_ b12 3) ?_)
 refine m_' (.int .u32 ((gt all i).2.2.2.1)) (aL_ 90 (pt_ b12 3) H76) (u83.l_) ?_
 obtain ⟨g86, r87⟩ := G_some r85
 refine d_w ((gt all i).2.2.2.1) (k := .i64) (x := (gt all i).2.2.2.1) (by kernel_rfl) (wrap64 g86) ?_
 refine e_' (i_ ((gt all i).2.2.1)) (e_' (i_ ((gt all i).2.2.2.1)) ?_)
 refine d_nil ?_
 refine k82 _ _ (w_seqk fun _ k88 => w_seqk fun _ k89 => ?_)
 obtain ⟨o90, hx91, r92⟩ := bind_some r87
 refine w_mid (fun α H93 => Has α [(1, hd_all), (7, pt_ b12 0), (8, i_ ((gt all i).2.2.1)), (9, i_ ((gt all i).2.2.2.1)), (97, .bool o90)] ∧ H76 = H93) (fun _ k95 => ?_) (fun α H93 hM => ?_)
 ·refine g_' (q_ (i_ ((gt all i).2.2.1)) (q_ (pt_ b2 2) ?_))
  have u97 := (((r6.ext e14).frS e20 (hb15.djn r6.ltF)).frS e77 Dj.nil_l)
  refine l_' (hd_Up) (aL_ 79 (pt_ b2 2) H76) (u97.l_) ?_
  have u98 := ((((h_Up.ext e4).ext e14).fr e20 (hb15.djn (h_Up.lt.le e4.n))).fr e77 Dj.nil_l)
  refine l_' (i_ (Up.length : Int)) (aLen Try.prog 79 hd_Up H76) (u98.lenb (by kernel_rfl)) ?_
  refine s_b (((gt all i).2.2.1) < (Up.length : Int)) (by kernel_rfl) (fun h99 => ?_) (fun h99 => ?_)
  ·have r100 := ite_t h99 hx91
   refine q_ (.bool true) (n_' (n_' (n_' (n_' (q_ (.bool true) (q_ (.bool true) (n_' (n_' (n_' (n_' (n_' (q_ (.bool true) (s_nil ?_)))))))))))))
   obtain rfl := oi_ r100
   exact k95 _ _ ⟨ha_, rfl⟩
  have r101 := ite_f h99 hx91
  refine q_ (.bool false) (q_ (i_ ((gt all i).2.2.1)) (q_ (hd_all) ?_))
  have u102 := (((u11.ext e14).fr e20 (hb15.djn (h_all.lt.le e4.n))).fr e77 Dj.nil_l)
  refine l_' (i_ (all.length : Int)) (aLen Try.prog 160 hd_all H76) (u102.lenb (by kernel_rfl)) ?_
  refine s_b (((gt all i).2.2.1) ≥ (all.length : Int)) (by kernel_rfl) (fun h103 => ?_) (fun h103 => ?_)
  ·have r104 := ite_t h103 r101
   refine q_ (.bool true) (q_ (.bool true) (n_' (n_' (n_' (n_' (n_' (q_ (.bool true) (s_nil ?_))))))))
   obtain rfl := oi_ r104
   exact k95 _ _ ⟨ha_, rfl⟩
  have r105 := ite_f h103 r101
  refine q_ (.bool false) (q_ (.bool false) (q_ (i_ ((gt all i).2.2.2.1)) (q_ (pt_ b2 2) ?_)))
  refine l_' (hd_Up) (aL_ 79 (pt_ b2 2) H76) (u97.l_) ?_
  refine l_' (i_ (Up.length : Int)) (aLen Try.prog 79 hd_Up H76) (u98.lenb (by kernel_rfl)) ?_
  refine q_ (.bool (decide (((gt all i).2.2.2.1) ≥ (Up.length : Int)))) (q_ (.bool (decide (((gt all i).2.2.2.1) ≥ (Up.length : Int)))) (s_nil ?_))
  obtain rfl := oi_ r105
  exact k95 _ _ ⟨ha_, rfl⟩
 obtain ⟨hh96, rfl⟩ := hM
 obtain ⟨β, rfl⟩ := has_ex hh96
 clear hh96
 refine k89 _ _ ?_
 refine w_cond (o90) (by kernel_rfl) rfl (fun h106 => ?_) (fun h106 => ?_)
 ·have r107 := ite_t h106 r92
  refine w_seqk fun _ k108 => g_' (q_ (.bool false) (s_nil (k108 _ _ ?_)))
  refine w_ret (th_ret ?_)
  refine b_ret (fn := Try.f132) (vs := [.bool false]) (rt_ (rfl)) ?_
  obtain rfl := oi_ r107
  exact ⟨rfl, (FrS.step wf (FrS.step wf (((f0_ wf).extR e4).extR e14) e20 (hb15.fresh e4.n)) e77 Inn.nil)⟩
 have r109 := ite_bf h106 r92
 refine w_skip (k88 _ _ (w_seqk fun _ k110 => ?_))
 refine w_draw [0, 1, 2, 3, 4, 5, 6, 7, 8, 9, 10, 11] (by kernel_rfl) ?_
 refine e_' (hd_all) (e_' (i_ ((gt all i).2.2.1)) ?_)
 obtain ⟨g111, r112⟩ := G_some r109
 have u113 := (((u11.ext e14).fr e20 (hb15.djn (h_all.lt.le e4.n))).fr e77 Dj.nil_l)
 refine m_' (elp hd_all 7 ((gt all i).2.2.1).toNat 0) (aIndexAddr Try.prog 160 hd_all (i_ ((gt all i).2.2.1))) (u113.idxb (by kernel_rfl) g111.1 g111.2) ?_
 refine m_' (.agg #[.int .u32 ((gt all ((gt all i).2.2.1)).1), .int .u64 ((gt all ((gt all i).2.2.1)).2.1), .int .u32 ((gt all ((gt all i).2.2.1)).2.2.1), .int .u32 ((gt all ((gt all i).2.2.1)).2.2.2.1), i_ ((gt all ((gt all i).2.2.1)).2.2.2.2.1), i_ ((gt all ((gt all i).2.2.1)).2.2.2.2.2.1), i_ ((gt all ((gt all i).2.2.1)).2.2.2.2.2.2)]) (aL_ 164 (elp hd_all 7 ((gt all i).2.2.1).toNat 0) H76) (u113.ld g111.1 g111.2 (by kernel_rfl)) ?_
 refine e_' (hd_all) (e_' (i_ ((gt all i).2.2.2.1)) ?_)
 obtain ⟨g114, r115⟩ := G_some r112
 refine m_' (elp hd_all 7 ((gt all i).2.2.2.1).toNat 0) (aIndexAddr Try.prog 160 hd_all (i_ ((gt all i).2.2.2.1))) (u113.idxb (by kernel_rfl) g114.1 g114.2) ?_
 refine d_fl (.agg #[.int .u32 ((gt all ((gt all i).2.2.2.1)).1), .int .u64 ((gt all ((gt all i).2.2.2.1)).2.1), .int .u32 ((gt all ((gt all i).2.2.2.1)).2.2.1), .int .u32 ((gt all ((gt all i).2.2.2.1)).2.2.2.1), i_ ((gt all ((gt all i).2.2.2.1)).2.2.2.2.1), i_ ((gt all ((gt all i).2.2.2.1)).2.2.2.2.2.1), i_ ((gt all ((gt all i).2.2.2.1)).2.2.2.2.2.2)]) (x := aL_ 164 (elp hd_all 7 ((gt all i).2.2.2.1).toNat 0) H76) (by kernel_rfl) (u113.ld g114.1 g114.2 (by kernel_rfl)) ?_
 refine d_rwk e77.wf [.int .u32 0, .int .u64 0, .int .u32 0, .int .u32 0, i_ 0, i_ 0, i_ 0] (by kernel_rfl) fun b116 H117 e118 hb119 r120 => ?_
 refine d_rwk e118.wf [.int .u32 0, .int .u64 0, .int .u32 0, .int .u32 0, i_ 0, i_ 0, i_ 0] (by kernel_rfl) fun b122 H123 e124 hb125 r126 => ?_
 have u132 := (r120.ext e124)
 obtain ⟨H128, q129, e130, r131⟩ := Row.store (P := Try.prog) (t := 164) (p := 0) e124.wf u132 (.agg #[.int .u32 ((gt all ((gt all i).2.2.1)).1), .int .u64 ((gt all ((gt all i).2.2.1)).2.1), .int .u32 ((gt all ((gt all i).2.2.1)).2.2.1), .int .u32 ((gt all ((gt all i).2.2.1)).2.2.2.1), i_ ((gt all ((gt all i).2.2.1)).2.2.2.2.1), i_ ((gt all ((gt all i).2.2.1)).2.2.2.2.2.1), i_ ((gt all ((gt all i).2.2.1)).2.2.2.2.2.2)]) [.int .u32 ((gt all ((gt all i).2.2.1)).1), .int .u64 ((gt all ((gt all i).2.2.1)).2.1), .int .u32 ((gt all ((gt all i).2.2.1)).2.2.1), .int .u32 ((gt all ((gt all i).2.2.1)).2.2.2.1), i_ ((gt all ((gt all i).2.2.1)).2.2.2.2.1), i_ ((gt all ((gt all i).2.2.1)).2.2.2.2.2.1), i_ ((gt all ((gt all i).2.2.1)).2.2.2.2.2.2)] (by kernel_rfl) (by kernel_rfl) (one_cons (rfl) (one_cons (rfl) (one_cons (rfl) (one_cons (rfl) (one_cons (rfl) (one_cons (rfl) (one_cons (rfl) (one_nil)))))))) (Nat.le_of_ble_eq_true (by kernel_rfl)) [.int .u32 ((gt all ((gt all i).2.2.1)).1), .int .u64 ((gt all ((gt all i).2.2.1)).2.1), .int .u32 ((gt all ((gt all i).2.2.1)).2.2.1), .int .u32 ((gt all ((gt all i).2.2.1)).2.2.2.1), i_ ((gt all ((gt all i).2.2.1)).2.2.2.2.1), i_ ((gt all ((gt all i).2.2.1)).2.2.2.2.2.1), i_ ((gt all ((gt all i).2.2.1)).2.2.2.2.2.2)] (by kernel_rfl)
 have u133 := (((u113.ext e118).ext e124).fr e130 (hb119.djn (h_all.lt.le (t_ (t_ (t_ e4.n e14.n) e20.n) e77.n))))
 refine d_ek (undef) (by kernel_rfl) (map_ok q129) (st_ql (y := aL_ 164 (elp hd_all 7 ((gt all i).2.2.2.1).toNat 0) H128) (by kernel_rfl) (u133.ld g114.1 g114.2 (by kernel_rfl)) (st_nil)) ?_
 have u138 := (r126.frS e130 (Dj.symm (hb125.djn r120.ltF)))
 obtain ⟨H134, q135, e136, r137⟩ := Row.store (P := Try.prog) (t := 164) (p := 0) e130.wf u138 (.agg #[.int .u32 ((gt all ((gt all i).2.2.2.1)).1), .int .u64 ((gt all ((gt all i).2.2.2.1)).2.1), .int .u32 ((gt all ((gt all i).2.2.2.1)).2.2.1), .int .u32 ((gt all ((gt all i).2.2.2.1)).2.2.2.1), i_ ((gt all ((gt all i).2.2.2.1)).2.2.2.2.1), i_ ((gt all ((gt all i).2.2.2.1)).2.2.2.2.2.1), i_ ((gt all ((gt all i).2.2.2.1)).2.2.2.2.2.2)]) [.int .u32 ((gt all ((gt all i).2.2.2.1)).1), .int .u64 ((gt all ((gt all i).2.2.2.1)).2.1), .int .u32 ((gt all ((gt all i).2.2.2.1)).2.2.1), .int .u32 ((gt all ((gt all i).2.2.2.1)).2.2.2.1), i_ ((gt all ((gt all i).2.2.2.1)).2.2.2.2.1), i_ ((gt all ((gt all i).2.2.2.1)).2.2.2.2.2.1), i_ ((gt all ((gt all i).2.2.2.1)).2.2.2.2.2.2)] (by kernel_rfl) (by kernel_rfl) (one_cons (rfl) (one_cons (rfl) (one_cons (rfl) (one_cons (rfl) (one_cons (rfl) (one_cons (rfl) (one_cons (rfl) (one_nil)))))))) (Nat.le_of_ble_eq_true (by kernel_rfl)) [.int .u32 ((gt all ((gt all i).2.2.2.1)).1), .int .u64 ((gt all ((gt all i).2.2.2.1)).2.1), .int .u32 ((gt all ((gt all i).2.2.2.1)).2.2.1), .int .u32 ((gt all ((gt all i).2.2.2.1)).2.2.2.1), i_ ((gt all ((gt all i).2.2.2.1)).2.2.2.2.1), i_ ((gt all ((gt all i).2.2.2.1)).2.2.2.2.2.1), i_ ((gt all ((gt all i).2.2.2.1)).2.2.2.2.2.2)] (by kernel_rfl)
 refine d_ek (undef) (by kernel_rfl) (map_ok q135) (st_anc (by kernel_rfl) (st_nil)) ?_
 refine d_nil ?_
 refine k110 _ _ (w_seqk fun _ k139 => g_' (q_ (pt_ b116 4) ?_))
 have u140 := (r131.frS e136 (hb125.djn r120.ltF))
 refine l_' (i_ ((gt all ((gt all i).2.2.1)).2.2.2.2.1)) (aL_ 3 (pt_ b116 4) H134) (u140.l_) ?_
 refine q_ (pt_ b12 4) ?_
 have u141 := ((((u83.ext e118).ext e124).frS e130 (hb119.djn (r16.ltF.le (t_ e20.n e77.n)))).frS e136 (hb125.djn (r16.ltF.le (t_ (t_ e20.n e77.n) e118.n))))
 refine l_' (i_ ((gt all i).2.2.2.2.1)) (aL_ 3 (pt_ b12 4) H134) (u141.l_) ?_
 refine s_b (((gt all ((gt all i).2.2.1)).2.2.2.2.1) = ((gt all i).2.2.2.2.1)) (by kernel_rfl) (fun h142 => ?_) (fun h142 => ?_)
 ·have r143 := ite_t h142 r115
  refine q_ (.bool true) (q_ (pt_ b122 5) ?_)
  refine l_' (i_ ((gt all ((gt all i).2.2.2.1)).2.2.2.2.2.1)) (aL_ 3 (pt_ b122 5) H134) (r137.l_) ?_
  refine q_ (pt_ b12 5) ?_
  refine l_' (i_ ((gt all i).2.2.2.2.2.1)) (aL_ 3 (pt_ b12 5) H134) (u141.l_) ?_
  refine s_b (((gt all ((gt all i).2.2.2.1)).2.2.2.2.2.1) = ((gt all i).2.2.2.2.2.1)) (by kernel_rfl) (fun h144 => ?_) (fun h144 => ?_)
  ·have r145 := ite_t h144 r143
   refine q_ (.bool true) (q_ (.bool true) (q_ (pt_ b116 6) ?_))
   refine l_' (i_ ((gt all ((gt all i).2.2.1)).2.2.2.2.2.2)) (aL_ 3 (pt_ b116 6) H134) (u140.l_) ?_
   refine q_ (pt_ b122 6) ?_
   refine l_' (i_ ((gt all ((gt all i).2.2.2.1)).2.2.2.2.2.2)) (aL_ 3 (pt_ b122 6) H134) (r137.l_) ?_
   refine q_ (.bool (decide (((gt all ((gt all i).2.2.1)).2.2.2.2.2.2) = ((gt all ((gt all i).2.2.2.1)).2.2.2.2.2.2)))) (q_ (.bool (decide (((gt all ((gt all i).2.2.1)).2.2.2.2.2.2) = ((gt all ((gt all i).2.2.2.1)).2.2.2.2.2.2)))) (q_ (.bool (decide (((gt all ((gt all i).2.2.1)).2.2.2.2.2.2) = ((gt all ((gt all i).2.2.2.1)).2.2.2.2.2.2)))) (s_nil (k139 _ _ ?_))))
   refine w_ret ?_
   refine b_ret (fn := Try.f132) (vs := [.bool (decide (((gt all ((gt all i).2.2.1)).2.2.2.2.2.2) = ((gt all ((gt all i).2.2.2.1)).2.2.2.2.2.2)))]) (rt_ (rfl)) ?_
   obtain rfl := oi_ r145
   exact ⟨rfl, (FrS.step wf (FrS.step wf (((FrS.step wf (FrS.step wf (((f0_ wf).extR e4).extR e14) e20 (hb15.fresh e4.n)) e77 Inn.nil).extR e118).extR e124) e130 (hb119.fresh (t_ (t_ (t_ e4.n e14.n) e20.n) e77.n))) e136 (hb125.fresh (t_ (t_ (t_ (t_ e4.n e14.n) e20.n) e77.n) e118.n)))⟩
  have r146 := ite_f h144 r143
  refine q_ (.bool false) (q_ (.bool false) (n_' (n_' (n_' (n_' (n_' (q_ (.bool false) (q_ (.bool false) (s_nil (k139 _ _ ?_))))))))))
  refine w_ret ?_
  refine b_ret (fn := Try.f132) (vs := [.bool false]) (rt_ (rfl)) ?_
  obtain rfl := oi_ r146
  exact ⟨rfl, (FrS.step wf (FrS.step wf (((FrS.step wf (FrS.step wf (((f0_ wf).extR e4).extR e14) e20 (hb15.fresh e4.n)) e77 Inn.nil).extR e118).extR e124) e130 (hb119.fresh (t_ (t_ (t_ e4.n e14.n) e20.n) e77.n))) e136 (hb125.fresh (t_ (t_ (t_ (t_ e4.n e14.n) e20.n) e77.n) e118.n)))⟩
 have r147 := ite_f h142 r115
 refine q_ (.bool false) (n_' (n_' (n_' (n_' (n_' (q_ (.bool false) (q_ (.bool false) (n_' (n_' (n_' (n_' (n_' (q_ (.bool false) (q_ (.bool false) (s_nil (k139 _ _ ?_))))))))))))))))
 refine w_ret ?_
 refine b_ret (fn := Try.f132) (vs := [.bool false]) (rt_ (rfl)) ?_
 obtain rfl := oi_ r147
 exact ⟨rfl, (FrS.step wf (FrS.step wf (((FrS.step wf (FrS.step wf (((f0_ wf).extR e4).extR e14) e20 (hb15.fresh e4.n)) e77 Inn.nil).extR e118).extR e124) e130 (hb119.fresh (t_ (t_ (t_ e4.n e14.n) e20.n) e77.n))) e136 (hb125.fresh (t_ (t_ (t_ (t_ e4.n e14.n) e20.n) e77.n) e118.n)))⟩
theorem c_hier_weight {H : AH} {hd_all : Value} {fp_all : Fp} {all : List (Int × Int × Int × Int × Int × Int × Int)} {i : Int} {r : Bool}
    (wf : WF H) (h_all : Sq enc_u32_u64_u32_u32_i64_i64_i64 7 H hd_all all fp_all) (hr : z_hier_weight all i = some r) :
    ACalls Try.prog 133 #[hd_all, i_ i] H fun v H' => v = .bool r ∧ FrS [] H H' := by
 refine acalls_of_body mixed Try.func133 rfl (Nat.le_of_ble_eq_true rfl) ?_
 unfold z_hier_weight at hr
 refine w_seqk fun _ k1 => g_' (q_ (.bool false) (s_nil (k1 _ _ (w_seqk fun _ k2 => g_' (q_ (hd_all) (q_ (i_ i) ?_))))))
 obtain ⟨g3, r4⟩ := G_some hr
 refine l_' (elp hd_all 7 i.toNat 0) (aIndexAddr Try.prog 160 hd_all (i_ i)) (h_all.idxb (by kernel_rfl) g3.1 g3.2) ?_
 refine l_' (elp hd_all 7 i.toNat 0) (aFieldAddr Try.prog 164 (elp hd_all 7 i.toNat 0) 0) (Sq.fldq (d := 0) h_all g3.1 g3.2 (by kernel_rfl)) ?_
 refine l_' (.agg #[.int .u32 ((gt all i).1), .int .u64 ((gt all i).2.1), .int .u32 ((gt all i).2.2.1), .int .u32 ((gt all i).2.2.2.1)]) (aL_ 93 (elp hd_all 7 i.toNat 0) H) (h_all.ld g3.1 g3.2 (by kernel_rfl)) ?_
 refine s_rwk wf [.int .u32 0, .int .u64 0, .int .u32 0, .int .u32 0] (by kernel_rfl) fun b5 H6 e7 hb8 r9 => ?_
 obtain ⟨H11, q12, e13, r14⟩ := Row.store (P := Try.prog) (t := 93) (p := 0) e7.wf r9 (.agg #[.int .u32 ((gt all i).1), .int .u64 ((gt all i).2.1), .int .u32 ((gt all i).2.2.1), .int .u32 ((gt all i).2.2.2.1)]) [.int .u32 ((gt all i).1), .int .u64 ((gt all i).2.1), .int .u32 ((gt all i).2.2.1), .int .u32 ((gt all i).2.2.2.1)] (by kernel_rfl) (by kernel_rfl) (one_cons (rfl) (one_cons (rfl) (one_cons (rfl) (one_cons (rfl) (one_nil))))) (Nat.le_of_ble_eq_true (by kernel_rfl)) [.int .u32 ((gt all i).1), .int .u64 ((gt all i).2.1), .int .u32 ((gt all i).2.2.1), .int .u32 ((gt all i).2.2.2.1)] (by kernel_rfl)
 refine s_ek (undef) (by kernel_rfl) (map_ok q12) ?_
 refine s_nil (k2 _ _ (w_seqk fun _ k15 => w_seqk fun _ k16 => g_' ?_))
 refine l_' (.agg #[.int .u32 ((gt all i).1), .int .u64 ((gt all i).2.1), .int .u32 ((gt all i).2.2.1), .int .u32 ((gt all i).2.2.2.1)]) (aL_ 93 (pt_ b5 0) H11) (r14.l_) ?_
 obtain ⟨y17, hy18, r19⟩ := bind_some r4
 refine s_ck 96 #[.agg #[.int .u32 ((gt all i).1), .int .u64 ((gt all i).2.1), .int .u32 ((gt all i).2.2.1), .int .u32 ((gt all i).2.2.2.1)]] (by kernel_rfl) (c_hier_plain e13.wf hy18) ?_
 rintro _ H20 ⟨rfl, e21⟩
 refine s_nil (k16 _ _ ?_)
 refine w_cond (y17) (by kernel_rfl) rfl (fun h22 => ?_) (fun h22 => ?_)
 ·have r23 := ite_t h22 r19
  refine w_seqk fun _ k24 => g_' (q_ (pt_ b5 1) ?_)
  have u25 := (r14.frS e21 Dj.nil_l)
  refine l_' (.int .u64 ((gt all i).2.1)) (aL_ 42 (pt_ b5 1) H20) (u25.l_) ?_
  refine q_ (.bool (decide (((gt all i).2.1) ≤ 2147483647))) (q_ (.bool (decide (((gt all i).2.1) ≤ 2147483647))) (s_nil (k24 _ _ ?_)))
  refine w_ret (th_ret ?_)
  refine b_ret (fn := Try.f133) (vs := [.bool (decide (((gt all i).2.1) ≤ 2147483647))]) (rt_ (rfl)) ?_
  obtain rfl := oi_ r23
  exact ⟨rfl, (FrS.step wf (FrS.step wf ((f0_ wf).extR e7) e13 (hb8.fresh (Nat.le_refl _))) e21 Inn.nil)⟩
 have r26 := ite_bf h22 r19
 refine w_skip (k15 _ _ (w_seqk fun _ k27 => ?_))
 refine w_draw [0, 1, 2, 3, 4, 5, 6, 7, 8, 9, 10, 11, 12, 13, 14, 15] (by kernel_rfl) ?_
 refine e_' (hd_all) (e_' (pt_ b5 2) ?_)
 have u28 := (r14.frS e21 Dj.nil_l)
 refine m_' (.int .u32 ((gt all i).2.2.1)) (aL_ 90 (pt_ b5 2) H20) (u28.l_) ?_
 obtain ⟨g29, r30⟩ := G_some r26
 have u31 := (((h_all.ext e7).fr e13 (hb8.djn h_all.lt)).fr e21 Dj.nil_l)
 refine m_' (elp hd_all 7 ((gt all i).2.2.1).toNat 0) (aIndexAddr Try.prog 160 hd_all (.int .u32 ((gt all i).2.2.1))) (u31.idxb (by kernel_rfl) g29.1 g29.2) ?_
 refine m_' (elp hd_all 7 ((gt all i).2.2.1).toNat 0) (aFieldAddr Try.prog 164 (elp hd_all 7 ((gt all i).2.2.1).toNat 0) 0) (Sq.fldq (d := 0) u31 g29.1 g29.2 (by kernel_rfl)) ?_
 refine m_' (elp hd_all 7 ((gt all i).2.2.1).toNat 1) (aFieldAddr Try.prog 93 (elp hd_all 7 ((gt all i).2.2.1).toNat 0) 1) (Sq.fldq (d := 1) u31 g29.1 g29.2 (by kernel_rfl)) ?_
 refine m_' (.int .u64 ((gt all ((gt all i).2.2.1)).2.1)) (aL_ 42 (elp hd_all 7 ((gt all i).2.2.1).toNat 1) H20) (u31.ld g29.1 g29.2 (by kernel_rfl)) ?_
 refine e_' (hd_all) (e_' (pt_ b5 3) ?_)
 refine m_' (.int .u32 ((gt all i).2.2.2.1)) (aL_ 90 (pt_ b5 3) H20) (u28.l_) ?_
 obtain ⟨g32, r33⟩ := G_some r30
 refine m_' (elp hd_all 7 ((gt all i).2.2.2.1).toNat 0) (aIndexAddr Try.prog 160 hd_all (.int .u32 ((gt all i).2.2.2.1))) (u31.idxb (by kernel_rfl) g32.1 g32.2) ?_
 refine m_' (elp hd_all 7 ((gt all i).2.2.2.1).toNat 0) (aFieldAddr Try.prog 164 (elp hd_all 7 ((gt all i).2.2.2.1).toNat 0) 0) (Sq.fldq (d := 0) u31 g32.1 g32.2 (by kernel_rfl)) ?_
 refine m_' (elp hd_all 7 ((gt all i).2.2.2.1).toNat 1) (aFieldAddr Try.prog 93 (elp hd_all 7 ((gt all i).2.2.2.1).toNat 0) 1) (Sq.fldq (d := 1) u31 g32.1 g32.2 (by kernel_rfl)) ?_
 refine m_' (.int .u64 ((gt all ((gt all i).2.2.2.1)).2.1)) (aL_ 42 (elp hd_all 7 ((gt all i).2.2.2.1).toNat 1) H20) (u31.ld g32.1 g32.2 (by kernel_rfl)) ?_
 refine e_' (.int .u64 ((gt all ((gt all i).2.2.1)).2.1)) (e_' (.int .u64 ((gt all ((gt all i).2.2.2.1)).2.1)) ?_)
 refine d_nil ?_
 refine k27 _ _ (w_seqk fun _ k34 => g_' (q_ (pt_ b5 1) ?_))
 refine l_' (.int .u64 ((gt all i).2.1)) (aL_ 42 (pt_ b5 1) H20) (u28.l_) ?_
 refine s_b (((gt all i).2.1) ≤ 140737488355328) (by kernel_rfl) (fun h35 => ?_) (fun h35 => ?_)
 ·have r36 := ite_t h35 r33
  refine q_ (.bool true) (q_ (.int .u64 ((gt all ((gt all i).2.2.1)).2.1)) ?_)
  refine s_b (((gt all ((gt all i).2.2.1)).2.1) ≤ 140737488355328) (by kernel_rfl) (fun h37 => ?_) (fun h37 => ?_)
  ·have r38 := ite_t h37 r36
   refine q_ (.bool true) (q_ (.bool true) (q_ (.int .u64 ((gt all ((gt all i).2.2.2.1)).2.1)) ?_))
   refine s_b (((gt all ((gt all i).2.2.2.1)).2.1) ≤ 140737488355328) (by kernel_rfl) (fun h39 => ?_) (fun h39 => ?_)
   ·have r40 := ite_t h39 r38
    refine q_ (.bool true) (q_ (.bool true) (q_ (.int .u64 ((gt all ((gt all i).2.2.1)).2.1)) (q_ (.int .u64 ((gt all ((gt all i).2.2.2.1)).2.1)) ?_)))
    obtain ⟨g41, r42⟩ := G_some r40
    refine s_w ((((gt all ((gt all i).2.2.1)).2.1) + ((gt all ((gt all i).2.2.2.1)).2.1))) (k := .u64) (x := (((gt all ((gt all i).2.2.1)).2.1) + ((gt all ((gt all i).2.2.2.1)).2.1))) (by kernel_rfl) (wrapu64 g41) ?_
    refine q_ (pt_ b5 1) ?_
    refine l_' (.int .u64 ((gt all i).2.1)) (aL_ 42 (pt_ b5 1) H20) (u28.l_) ?_
    refine q_ (.bool (decide ((((gt all ((gt all i).2.2.1)).2.1) + ((gt all ((gt all i).2.2.2.1)).2.1)) = ((gt all i).2.1)))) (q_ (.bool (decide ((((gt all ((gt all i).2.2.1)).2.1) + ((gt all ((gt all i).2.2.2.1)).2.1)) = ((gt all i).2.1)))) (q_ (.bool (decide ((((gt all ((gt all i).2.2.1)).2.1) + ((gt all ((gt all i).2.2.2.1)).2.1)) = ((gt all i).2.1)))) (s_nil (k34 _ _ ?_))))
    refine w_ret ?_
    refine b_ret (fn := Try.f133) (vs := [.bool (decide ((((gt all ((gt all i).2.2.1)).2.1) + ((gt all ((gt all i).2.2.2.1)).2.1)) = ((gt all i).2.1)))]) (rt_ (rfl)) ?_
    obtain rfl := oi_ r42
    exact ⟨rfl, (FrS.step wf (FrS.step wf ((f0_ wf).extR e7) e13 (hb8.fresh (Nat.le_refl _))) e21 Inn.nil)⟩
   have r43 := ite_f h39 r38
   refine q_ (.bool false) (q_ (.bool false) (n_' (n_' (n_' (n_' (n_' (n_' (q_ (.bool false) (q_ (.bool false) (s_nil (k34 _ _ ?_)))))))))))
   refine w_ret ?_
   refine b_ret (fn := Try.f133) (vs := [.bool false]) (rt_ (rfl)) ?_
   obtain rfl := oi_ r43
   exact ⟨rfl, (FrS.step wf (FrS.step wf ((f0_ wf).extR e7) e13 (hb8.fresh (Nat.le_refl _))) e21 Inn.nil)⟩
  have r44 := ite_f h37 r36
  refine q_ (.bool false) (q_ (.bool false) (n_' (n_' (q_ (.bool false) (q_ (.bool false) (n_' (n_' (n_' (n_' (n_' (n_' (q_ (.bool false) (q_ (.bool false) (s_nil (k34 _ _ ?_)))))))))))))))
  refine w_ret ?_
  refine b_ret (fn := Try.f133) (vs := [.bool false]) (rt_ (rfl)) ?_
  obtain rfl := oi_ r44
  exact ⟨rfl, (FrS.step wf (FrS.step wf ((f0_ wf).extR e7) e13 (hb8.fresh (Nat.le_refl _))) e21 Inn.nil)⟩
 have r45 := ite_f h35 r33
 refine q_ (.bool false) (n_' (n_' (q_ (.bool false) (q_ (.bool false) (n_' (n_' (q_ (.bool false) (q_ (.bool false) (n_' (n_' (n_' (n_' (n_' (n_' (q_ (.bool false) (q_ (.bool false) (s_nil (k34 _ _ ?_))))))))))))))))))
 refine w_ret ?_
 refine b_ret (fn := Try.f133) (vs := [.bool false]) (rt_ (rfl)) ?_
 obtain rfl := oi_ r45
 exact ⟨rfl, (FrS.step wf (FrS.step wf ((f0_ wf).extR e7) e13 (hb8.fresh (Nat.le_refl _))) e21 Inn.nil)⟩
theorem c_hier_ends {H : AH} {hd_Node : Value} {fp_Node : Fp} {hd_UpFirst : Value} {fp_UpFirst : Fp} {hd_Up : Value} {fp_Up : Fp} {hd_DownFirst : Value} {fp_DownFirst : Fp} {hd_Down : Value} {fp_Down : Fp} {Node : List (Int)} {UpFirst : List (Int)} {Up : List (Int × Int × Int × Int)} {DownFirst : List (Int)} {Down : List (Int × Int × Int × Int)} {r : List (Int × Int × Int × Int × Int × Int × Int) × Er}
    (wf : WF H) (h_Node : Sq (encI .u32) 1 H hd_Node Node fp_Node) (h_UpFirst : Sq (encI .u32) 1 H hd_UpFirst UpFirst fp_UpFirst) (h_Up : Sq enc_u32_u64_u32_u32 4 H hd_Up Up fp_Up) (h_DownFirst : Sq (encI .u32) 1 H hd_DownFirst DownFirst fp_DownFirst) (h_Down : Sq enc_u32_u64_u32_u32 4 H hd_Down Down fp_Down) (hr : z_hier_ends Node UpFirst Up DownFirst Down = some r) :
    ACalls Try.prog 95 #[.agg #[hd_Node, hd_UpFirst, hd_Up, hd_DownFirst, hd_Down]] H fun v H' => ∃ (s3 : Value) (f4 : Fp) (v7 : Value) (f8 : Fp), v = .tuple #[s3, v7] ∧ FrS [] H H' ∧ Ow enc_u32_u64_u32_u32_i64_i64_i64 7 H' s3 r.1 f4 ∧ Ev 122 235 H' v7 r.2 f8 ∧ Inn [] H f4 ∧ Inn [] H f8 ∧ Dj f4 f8 := by
 refine acalls_of_body mixed Try.func95 rfl (Nat.le_of_ble_eq_true rfl) ?_
 unfold z_hier_ends at hr
 refine w_seqk fun _ k12 => g_' ?_
 refine s_rwl wf [hd_Node, hd_UpFirst, hd_Up, hd_DownFirst, hd_Down] (one_cons (h_Node.one1) (one_cons (h_UpFirst.one1) (one_cons (h_Up.one1) (one_cons (h_DownFirst.one1) (one_cons (h_Down.one1) (one_nil)))))) (by kernel_rfl) fun b13 H14 e15 hb16 r17 => ?_
 refine q_ (.slice none 0 0) (q_ (.nilIface) (s_nil (k12 _ _ (w_seqk fun _ k19 => g_' (q_ (pt_ b13 0) ?_)))))
 refine l_' (hd_Node) (aL_ 78 (pt_ b13 0) H14) (r17.l_) ?_
 have u20 := (h_Node.ext e15)
 refine l_' (i_ (Node.length : Int)) (aLen Try.prog 78 hd_Node H14) (u20.lenb (by kernel_rfl)) ?_
 refine q_ (i_ (Node.length : Int)) (s_nil (k19 _ _ (w_seqk fun _ k21 => w_block (w_seqk fun _ k22 => ?_))))
 obtain ⟨o23, hx24, r25⟩ := bind_some hr
 refine w_mid (fun α H26 => Has α [(1, pt_ b13 0), (4, i_ (Node.length : Int)), (15, .bool o23)] ∧ H14 = H26) (fun _ k28 => ?_) (fun α H26 hM => ?_)
 ·refine g_' (q_ (i_ (Node.length : Int)) ?_)
  refine s_b ((Node.length : Int) > 65536) (by kernel_rfl) (fun h30 => ?_) (fun h30 => ?_)
  ·have r31 := ite_t h30 hx24
   refine q_ (.bool true) (n_' (n_' (n_' (n_' (n_' (n_' (n_' (n_' (q_ (.bool true) (q_ (.bool true) (s_nil ?_)))))))))))
   obtain rfl := oi_ r31
   exact k28 _ _ ⟨ha_, rfl⟩
  have r32 := ite_f h30 hx24
  refine q_ (.bool false) (q_ (pt_ b13 2) ?_)
  refine l_' (hd_Up) (aL_ 79 (pt_ b13 2) H14) (r17.l_) ?_
  have u33 := (h_Up.ext e15)
  refine l_' (i_ (Up.length : Int)) (aLen Try.prog 79 hd_Up H14) (u33.lenb (by kernel_rfl)) ?_
  refine q_ (pt_ b13 4) ?_
  refine l_' (hd_Down) (aL_ 79 (pt_ b13 4) H14) (r17.l_) ?_
  have u34 := (h_Down.ext e15)
  refine l_' (i_ (Down.length : Int)) (aLen Try.prog 79 hd_Down H14) (u34.lenb (by kernel_rfl)) ?_
  obtain ⟨g35, r36⟩ := G_some r32
  refine w_' ((Up.length : Int) + (Down.length : Int)) (wrap64 g35) ?_
  refine q_ (.bool (decide (((Up.length : Int) + (Down.length : Int)) > 1048576))) (q_ (.bool (decide (((Up.length : Int) + (Down.length : Int)) > 1048576))) (q_ (.bool (decide (((Up.length : Int) + (Down.length : Int)) > 1048576))) (s_nil ?_)))
  obtain rfl := oi_ r36
  exact k28 _ _ ⟨ha_, rfl⟩
 obtain ⟨hh29, rfl⟩ := hM
 obtain ⟨β, rfl⟩ := has_ex hh29
 clear hh29
 refine k22 _ _ ?_
 refine w_cond (o23) (by kernel_rfl) rfl (fun h37 => ?_) (fun h37 => ?_)
 ·have r38 := ite_t h37 r25
  refine w_seqk fun _ k39 => g_' (q_ (.iface 122 (i_ 9)) (q_ (.slice none 0 0) (q_ (.iface 122 (i_ 9)) (s_nil (k39 _ _ ?_)))))
  refine w_ret (bl_ret (th_ret ?_))
  refine b_ret (fn := Try.f95) (vs := [.slice none 0 0, .iface 122 (i_ 9)]) (rt_ (aRes_tmp (by kernel_rfl) (rfl))) ?_
  obtain rfl := oi_ r38
  exact ⟨(.slice none 0 0), [], (.iface 122 (i_ 9)), [], rfl, ((f0_ wf).extR e15), (Ow.nil (by decide)), Ev.no, Inn.nil, Inn.nil, Dj.nil_l⟩
 have r40 := ite_bf h37 r25
 refine w_seqk fun _ k41 => ?_
 obtain ⟨o42, hx43, r44⟩ := bind_some r40
 refine w_mid (fun α H45 => Has α [(1, pt_ b13 0), (29, .bool o42)] ∧ H14 = H45) (fun _ k47 => ?_) (fun α H45 hM => ?_)
 ·refine g_' (q_ (pt_ b13 1) ?_)
  refine l_' (hd_UpFirst) (aL_ 78 (pt_ b13 1) H14) (r17.l_) ?_
  have u49 := (h_UpFirst.ext e15)
  refine l_' (i_ (UpFirst.length : Int)) (aLen Try.prog 78 hd_UpFirst H14) (u49.lenb (by kernel_rfl)) ?_
  refine q_ (i_ (Node.length : Int)) ?_
  obtain ⟨g50, r51⟩ := G_some hx43
  refine w_' ((Node.length : Int) + 1) (wrap64 (by have := g50; omega)) ?_
  refine s_bn ((UpFirst.length : Int) = ((Node.length : Int) + 1)) (by kernel_rfl) (fun h52 => ?_) (fun h52 => ?_)
  ·have r53 := ite_t h52 r51
   refine q_ (.bool false) (q_ (pt_ b13 3) ?_)
   refine l_' (hd_DownFirst) (aL_ 78 (pt_ b13 3) H14) (r17.l_) ?_
   have u54 := (h_DownFirst.ext e15)
   refine l_' (i_ (DownFirst.length : Int)) (aLen Try.prog 78 hd_DownFirst H14) (u54.lenb (by kernel_rfl)) ?_
   refine q_ (i_ (Node.length : Int)) ?_
   refine w_' ((Node.length : Int) + 1) (wrap64 (by have := g50; omega)) ?_
   refine q_ (.bool (!decide ((DownFirst.length : Int) = ((Node.length : Int) + 1)))) (q_ (.bool (!decide ((DownFirst.length : Int) = ((Node.length : Int) + 1)))) (q_ (.bool (!decide ((DownFirst.length : Int) = ((Node.length : Int) + 1)))) (s_nil ?_)))
   obtain rfl := oi_ r53
   exact k47 _ _ ⟨ha_, rfl⟩
  have r55 := ite_f h52 r51
  refine q_ (.bool true) (n_' (n_' (n_' (n_' (n_' (n_' (q_ (.bool true) (q_ (.bool true) (s_nil ?_)))))))))
  obtain rfl := oi_ r55
  exact k47 _ _ ⟨ha_, rfl⟩
 obtain ⟨hh48, rfl⟩ := hM
 obtain ⟨β, rfl⟩ := has_ex hh48
 clear hh48
 refine k41 _ _ ?_
 refine w_cond (o42) (by kernel_rfl) rfl (fun h56 => ?_) (fun h56 => ?_)
 ·have r57 := ite_t h56 r44
  refine w_seqk fun _ k58 => g_' (q_ (.iface 122 (i_ 14)) (q_ (.slice none 0 0) (q_ (.iface 122 (i_ 14)) (s_nil (k58 _ _ ?_)))))
  refine w_ret (bl_ret (th_ret ?_))
  refine b_ret (fn := Try.f95) (vs := [.slice none 0 0, .iface 122 (i_ 14)]) (rt_ (aRes_tmp (by kernel_rfl) (rfl))) ?_
  obtain rfl := oi_ r57
  exact ⟨(.slice none 0 0), [], (.iface 122 (i_ 14)), [], rfl, ((f0_ wf).extR e15), (Ow.nil (by decide)), Ev.no, Inn.nil, Inn.nil, Dj.nil_l⟩
 have r59 := ite_bf h56 r44
 refine w_skip (k21 _ _ (w_seqk fun _ k60 => w_seqk fun _ k61 => g_' (q_ (pt_ b13 1) ?_)))
 refine l_' (hd_UpFirst) (aL_ 78 (pt_ b13 1) H14) (r17.l_) ?_
 refine q_ (pt_ b13 2) ?_
 refine l_' (hd_Up) (aL_ 79 (pt_ b13 2) H14) (r17.l_) ?_
 have u62 := (h_Up.ext e15)
 refine l_' (i_ (Up.length : Int)) (aLen Try.prog 79 hd_Up H14) (u62.lenb (by kernel_rfl)) ?_
 have u63 := (h_UpFirst.ext e15)
 obtain ⟨y64, hy65, r66⟩ := bind_some r59
 refine s_ck 129 #[hd_UpFirst, i_ (Up.length : Int)] (by kernel_rfl) (c_hier_firsts e15.wf u63 hy65) ?_
 rintro v67 H69 ⟨_, f68, rfl, e70, m71, i72⟩
 refine q_ (v67) (s_nil (k61 _ _ (w_seqk fun _ k74 => g_' (q_ (v67) ?_))))
 rcases (m71).cases with ⟨h75, rfl⟩ | ⟨h75, t76, x77, rfl⟩
 ·have r78 := ite_t h75 r66
  refine q_ (.bool false) (s_nil (k74 _ _ ?_))
  refine w_cond false (by kernel_rfl) rfl (fun h => by cases h) (fun _ => ?_)
  refine w_skip (k60 _ _ (w_seqk fun _ k79 => w_seqk fun _ k80 => g_' (q_ (pt_ b13 3) ?_)))
  have u81 := (r17.frS e70 Dj.nil_l)
  refine l_' (hd_DownFirst) (aL_ 78 (pt_ b13 3) H69) (u81.l_) ?_
  refine q_ (pt_ b13 4) ?_
  refine l_' (hd_Down) (aL_ 79 (pt_ b13 4) H69) (u81.l_) ?_
  have u82 := ((h_Down.ext e15).fr e70 Dj.nil_l)
  refine l_' (i_ (Down.length : Int)) (aLen Try.prog 79 hd_Down H69) (u82.lenb (by kernel_rfl)) ?_
  have u83 := ((h_DownFirst.ext e15).fr e70 Dj.nil_l)
  obtain ⟨y84, hy85, r86⟩ := bind_some r78
  refine s_ck 129 #[hd_DownFirst, i_ (Down.length : Int)] (by kernel_rfl) (c_hier_firsts e70.wf u83 hy85) ?_
  rintro v87 H89 ⟨_, f88, rfl, e90, m91, i92⟩
  refine q_ (v87) (s_nil (k80 _ _ (w_seqk fun _ k94 => g_' (q_ (v87) ?_))))
  rcases (m91).cases with ⟨h95, rfl⟩ | ⟨h95, t96, x97, rfl⟩
  ·have r98 := ite_t h95 r86
   refine q_ (.bool false) (s_nil (k94 _ _ ?_))
   refine w_cond false (by kernel_rfl) rfl (fun h => by cases h) (fun _ => ?_)
   refine w_skip (k79 _ _ (w_seqk fun _ k99 => w_seqk fun _ k100 => g_' (q_ (pt_ b13 0) ?_)))
   have u101 := (u81.frS e90 Dj.nil_l)
   refine l_' (hd_Node) (aL_ 78 (pt_ b13 0) H89) (u101.l_) ?_
   have u102 := ((u20.fr e70 Dj.nil_l).fr e90 Dj.nil_l)
   obtain ⟨y103, hy104, r105⟩ := bind_some r98
   refine s_ck 130 #[hd_Node] (by kernel_rfl) (c_hier_order e90.wf u102 hy104) ?_
   rintro v106 H108 ⟨_, f107, rfl, e109, m110, i111⟩
   refine q_ (v106) (s_nil (k100 _ _ (w_seqk fun _ k113 => g_' (q_ (v106) ?_))))
   rcases (m110).cases with ⟨h114, rfl⟩ | ⟨h114, t115, x116, rfl⟩
   ·have r117 := ite_t h114 r105
    refine q_ (.bool false) (s_nil (k113 _ _ ?_))
    refine w_cond false (by kernel_rfl) rfl (fun h => by cases h) (fun _ => ?_)
    refine w_skip (k99 _ _ (w_seqk fun _ k118 => g_' ?_))
    refine s_rwk e109.wf [.slice none 0 0] (by kernel_rfl) fun b119 H120 e121 hb122 r123 => ?_
    refine s_nil (k118 _ _ (w_seqk fun _ k125 => w_seqk fun _ k126 => g_' ?_))
    have u127 := ((u101.frS e109 Dj.nil_l).ext e121)
    refine l_' (.agg #[hd_Node, hd_UpFirst, hd_Up, hd_DownFirst, hd_Down]) (aL_ 81 (pt_ b13 0) H120) (u127.l_) ?_
    have u128 := ((u102.fr e109 Dj.nil_l).ext e121)
    have u129 := ((((u63.fr e70 Dj.nil_l).fr e90 Dj.nil_l).fr e109 Dj.nil_l).ext e121)
    have u130 := ((((u62.fr e70 Dj.nil_l).fr e90 Dj.nil_l).fr e109 Dj.nil_l).ext e121)
    have u131 := (((u83.fr e90 Dj.nil_l).fr e109 Dj.nil_l).ext e121)
    have u132 := (((u82.fr e90 Dj.nil_l).fr e109 Dj.nil_l).ext e121)
    obtain ⟨y133, hy134, r135⟩ := bind_some r117
    refine s_ck 131 #[.agg #[hd_Node, hd_UpFirst, hd_Up, hd_DownFirst, hd_Down]] (by kernel_rfl) (c_hier_links e121.wf u128 u129 u130 u131 u132 hy134) ?_
    rintro _ H137 ⟨b136, rfl, e138, m139, i140⟩
    refine s_nil (k126 _ _ (w_block ?_))
    obtain ⟨y142, hy143, r144⟩ := bind_some r135
    obtain ⟨o145, ho146, r147⟩ := bind_some r144
    refine w_mid (fun α H148 => ∃ (s152 : Value) (f153 : Fp), Has α [(1, pt_ b13 0), (8, pt_ b119 0)] ∧ FrS [b119] H137 H148 ∧ Ow enc_u32_u64_u32_u32_i64_i64_i64 7 H148 s152 o145 f153 ∧ Row H148 b119 [s152] ∧ Inn [] H137 f153) (fun _ k157 => ?_) (fun α H148 hM => ?_)
    ·refine w_range 160 #[pt_ b136 0] (by kernel_rfl) (by kernel_rfl) (by kernel_rfl) (by kernel_rfl) ?_
     intro p1_ l_ hY_
     have hyl169 : Yld Try.prog l_ (fun tr_ => (foldO (fun x_ zz_ => z_hier_ends_l0 x_ zz_) [] tr_).isSome) (fun x_ => #[i_ x_.1, .agg #[.int .u32 x_.2.1, .int .u64 x_.2.2.1, .int .u32 x_.2.2.2.1, .int .u32 x_.2.2.2.2.1, i_ x_.2.2.2.2.2.1, i_ x_.2.2.2.2.2.2.1, i_ x_.2.2.2.2.2.2.2]]) (fun (H_ : AH) (xs_ : List (Int × Int × Int × Int × Int × Int × Int × Int)) (fp_ : Fp) => ∃ (all0 : List (Int × Int × Int × Int × Int × Int × Int)), ∃ (s162 : Value), ∃ (f163 : Fp), foldO (fun x_ zz_ => z_hier_ends_l0 x_ zz_) [] xs_ = some all0 ∧ fp_ = (f163 ++ [b119]) ∧ Ow enc_u32_u64_u32_u32_i64_i64_i64 7 H_ s162 all0 f163 ∧ Row H_ b119 [s162] ∧ Dj f163 [b119]) := by
      rintro H159 xs_ fp_ x_ wf hok_ ⟨all0, s162, f163, hf_, rfl, m161, m165, d167⟩
      obtain ⟨z_, hz0_⟩ := Option.isSome_iff_exists.1 hok_
      have hz := hz0_
      rw [foldO_snoc hf_] at hz
      replace hz : z_hier_ends_l0 x_ all0 = some z_ := hz
      unfold z_hier_ends_l0 at hz
      refine hY_ #[i_ x_.1, .agg #[.int .u32 x_.2.1, .int .u64 x_.2.2.1, .int .u32 x_.2.2.2.1, .int .u32 x_.2.2.2.2.1, i_ x_.2.2.2.2.2.1, i_ x_.2.2.2.2.2.2.1, i_ x_.2.2.2.2.2.2.2]] H159 _ rfl (fun p2_ => ?_)
      obtain ⟨a170, n171, c172, rfl⟩ := m161.form
      refine r_reg (by kernel_rfl) ?_
      refine s_rwk wf [.int .u32 0, .int .u64 0, .int .u32 0, .int .u32 0, i_ 0, i_ 0, i_ 0] (by kernel_rfl) fun b173 H174 e175 hb176 r177 => ?_
      obtain ⟨H179, q180, e181, r182⟩ := Row.store (P := Try.prog) (t := 164) (p := 0) e175.wf r177 (.agg #[.int .u32 x_.2.1, .int .u64 x_.2.2.1, .int .u32 x_.2.2.2.1, .int .u32 x_.2.2.2.2.1, i_ x_.2.2.2.2.2.1, i_ x_.2.2.2.2.2.2.1, i_ x_.2.2.2.2.2.2.2]) [.int .u32 x_.2.1, .int .u64 x_.2.2.1, .int .u32 x_.2.2.2.1, .int .u32 x_.2.2.2.2.1, i_ x_.2.2.2.2.2.1, i_ x_.2.2.2.2.2.2.1, i_ x_.2.2.2.2.2.2.2] (by kernel_rfl) (by kernel_rfl) (one_cons (rfl) (one_cons (rfl) (one_cons (rfl) (one_cons (rfl) (one_cons (rfl) (one_cons (rfl) (one_cons (rfl) (one_nil)))))))) (Nat.le_of_ble_eq_true (by kernel_rfl)) [.int .u32 x_.2.1, .int .u64 x_.2.2.1, .int .u32 x_.2.2.2.1, .int .u32 x_.2.2.2.2.1, i_ x_.2.2.2.2.2.1, i_ x_.2.2.2.2.2.2.1, i_ x_.2.2.2.2.2.2.2] (by kernel_rfl)
      refine s_ek (undef) (by kernel_rfl) (map_ok q180) ?_
      refine s_nil ?_
      refine r_block ?_
      refine r_reg (by kernel_rfl) ?_
      have u183 := ((m165.ext e175).frS e181 (hb176.djn m165.ltF))
      refine l_' (.slice a170 n171 c172) (aL_ 160 (pt_ b119 0) H179) (u183.l_) ?_
      refine l_' (.agg #[.int .u32 x_.2.1, .int .u64 x_.2.2.1, .int .u32 x_.2.2.2.1, .int .u32 x_.2.2.2.2.1, i_ x_.2.2.2.2.2.1, i_ x_.2.2.2.2.2.2.1, i_ x_.2.2.2.2.2.2.2]) (aL_ 164 (pt_ b173 0) H179) (r182.l_) ?_
      refine s_owk (enc := enc_u32_u64_u32_u32_i64_i64_i64) (sz := 7) e181.wf [(x_.2.1, x_.2.2.1, x_.2.2.2.1, x_.2.2.2.2.1, x_.2.2.2.2.2.1, x_.2.2.2.2.2.2.1, x_.2.2.2.2.2.2.2)] 1 (by decide) (fun _ _ => rfl) (fun _ _ => rfl) rfl (by kernel_rfl) fun s184 f185 H186 e187 hf188 hm189 => ?_
      obtain ⟨a190, n191, c192, rfl⟩ := hm189.form
      have u194 := (((m161.ext e175).fr e181 (hb176.djn m161.lt)).ext e187)
      obtain ⟨g195, r196⟩ := G_some hz
      obtain ⟨s197, H198, f199, q203, e200, hm201, hf202⟩ := Ow.append (P := Try.prog) 48 e187.wf u194 hm189.sq (fun _ _ => rfl) (at_ := #[160, 160]) rfl rfl (by kernel_rfl) (by kernel_rfl) (by decide) (by have := g195; first | omega | (simp only [List.length_cons, List.length_nil] at this ⊢; omega) | (simp at this ⊢; omega))
      obtain ⟨a204, n205, c206, rfl⟩ := hm201.form
      refine s_ek (.slice a204 n205 c206) (by kernel_rfl) (q203) ?_
      have u212 := ((u183.ext e187).frS e200 d167)
      obtain ⟨H208, q209, e210, r211⟩ := Row.store (P := Try.prog) (t := 160) (p := 0) e200.wf u212 (.slice a204 n205 c206) [.slice a204 n205 c206] (by kernel_rfl) (by kernel_rfl) (one_cons (hm201.one1) (one_nil)) (Nat.le_of_ble_eq_true (by kernel_rfl)) [.slice a204 n205 c206] (by kernel_rfl)
      refine s_ek (undef) (by kernel_rfl) (map_ok q209) ?_
      refine s_nil ?_
      obtain rfl := oi_ r196
      have u213 := (hm201.fr e210 (Dj.symm (hf202.dj d167 (m165.ltF.le (t_ (t_ e175.n e181.n) e187.n)))))
      exact ⟨rfl, (f199 ++ [b119]), (FrS.step wf (FrS.step wf ((FrS.step wf ((FrS.refl (W := (f163 ++ [b119])) wf).extR e175) e181 (hb176.fresh (Nat.le_refl _))).extR e187) e200 Inn.left) e210 (Inn.right Inn.refl')), ⟨(Lt.app (hm201.lt.le e210.n) (m165.ltF.le (t_ (t_ (t_ (t_ e175.n e181.n) e187.n) e200.n) e210.n))), e210.wf, fun W_ H_2 k_ d_ => ⟨(all0 ++ [(x_.2.1, x_.2.2.1, x_.2.2.2.1, x_.2.2.2.2.1, x_.2.2.2.2.2.1, x_.2.2.2.2.2.2.1, x_.2.2.2.2.2.2.2)]), (.slice a204 n205 c206), f199, hz0_, rfl, (u213.fr k_ (Dj.appL d_)), (r211.frS k_ (Dj.appR d_)), (hf202.dj d167 (m165.ltF.le (t_ (t_ e175.n e181.n) e187.n)))⟩⟩, (Inn.app (Inn.trans Inn.left (t_ (t_ e175.n e181.n) e187.n) hf202) (Inn.right Inn.refl'))⟩
     have u214 := (r123.frS e138 Dj.nil_l)
     have u215 := (u128.fr e138 Dj.nil_l)
     have u216 := (u129.fr e138 Dj.nil_l)
     have u217 := (u130.fr e138 Dj.nil_l)
     have u218 := (u131.fr e138 Dj.nil_l)
     have u219 := (u132.fr e138 Dj.nil_l)
     refine (c_hier_links_1 e138.wf hyl169 ⟨(Lt.app Lt.nil (r123.ltF.le e138.n)), e138.wf, fun W_ H_2 k_ d_ => ⟨[], (.slice none 0 0), [], rfl, rfl, (Ow.nil (by decide)), (u214.frS k_ (Dj.appR d_)), Dj.nil_l⟩⟩ u215 u216 u217 u218 u219 m139 (Dj.app Dj.nil_l (hb122.djn (h_Up.lt.le (t_ (t_ (t_ e15.n e70.n) e90.n) e109.n)))) (Dj.app Dj.nil_l (Dj.symm (i140.djn r123.ltF))) (Dj.app Dj.nil_l (hb122.djn (h_UpFirst.lt.le (t_ (t_ (t_ e15.n e70.n) e90.n) e109.n)))) (Dj.app Dj.nil_l (hb122.djn (h_Node.lt.le (t_ (t_ (t_ e15.n e70.n) e90.n) e109.n)))) (Dj.app Dj.nil_l (hb122.djn (h_DownFirst.lt.le (t_ (t_ (t_ e15.n e70.n) e90.n) e109.n)))) (Dj.app Dj.nil_l (hb122.djn (h_Down.lt.le (t_ (t_ (t_ e15.n e70.n) e90.n) e109.n)))) hy143).mono ?_
     rintro _ H220 ⟨_, rfl, e221, m222, i223⟩
     obtain ⟨q224, s225, f226, hf230, rfl, m227, m228, d229⟩ := m222.at
     rw [hf230] at ho146; cases ho146
     exact k157 _ _ ⟨s225, f226, ha_, e221.mono (fun t_ ht_ => by simpa using ht_), m227, m228, Inn.off (fun t_ ht_ => i223 t_ (List.mem_append_left _ ht_)) (Dj.app Dj.nil_l (Dj.symm d229))⟩
    obtain ⟨s152, f153, hh158, e149, m151, m155, i156⟩ := hM
    obtain ⟨β, rfl⟩ := has_ex hh158
    clear hh158
    obtain ⟨a231, n232, c233, rfl⟩ := m151.form
    refine k125 _ _ (w_seqk fun _ k234 => w_seqk fun _ k235 => g_' ?_)
    refine l_' (.slice a231 n232 c233) (aL_ 160 (pt_ b119 0) H148) (m155.l_) ?_
    refine l_' (i_ (o145.length : Int)) (aLen Try.prog 160 (.slice a231 n232 c233) H148) (m151.sq.lenb (by kernel_rfl)) ?_
    refine q_ (i_ 0) (s_nil (k235 _ _ ?_))
    obtain ⟨z239, hx237, r238⟩ := bind_some r147
    refine w_mid (fun α H240 => ∃ o236, z239 = Sum.inr o236 ∧ Has α [(8, pt_ b119 0)] ∧ FrS [] H148 H240) (fun _ k242 => ?_) (fun α H240 hM => ?_)
    ·refine w_block ?_
     obtain ⟨n244, hn245⟩ := loopO_iff.1 hx237
     refine w_loopn (fun n α H246 => ∃ (i1 : Int), iterO (fun zz_ => z_hier_ends_l1 Node UpFirst Up DownFirst Down o145 zz_) n i1 = some z239 ∧ Has α [(1, pt_ b13 0), (8, pt_ b119 0), (78, i_ (o145.length : Int)), (79, i_ i1)] ∧ FrS [] H148 H246) n244 ⟨0, hn245, ha_, (FrS.refl (W := []) e149.wf)⟩ ?_
     rintro n244 α H246 ⟨i1, hi249, hh248, e247⟩ K254 k254
     obtain ⟨n250, z251, rfl, hz252, hn253⟩ := iter_succ hi249
     obtain ⟨β, rfl⟩ := has_ex hh248
     clear hh248
     replace hz252 : z_hier_ends_l1 Node UpFirst Up DownFirst Down o145 i1 = some z251 := hz252
     unfold z_hier_ends_l1 at hz252
     refine w_seqk fun _ k255 => g_' (q_ (.bool (decide (i1 < (o145.length : Int)))) (s_nil (k255 _ _ (w_seqk fun _ k256 => ?_))))
     refine w_condp (i1 < (o145.length : Int)) (by kernel_rfl) rfl (fun h257 => ?_) (fun h257 => ?_)
     ·have r258 := ite_t h257 hz252
      refine w_skip (k256 _ _ (w_seqk fun _ k259 => w_block (w_seqk fun _ k260 => g_' (q_ (i_ i1) (q_ (i_ i1) (s_nil (k260 _ _ (w_block (w_seqk fun _ k261 => g_' ?_)))))))))
      have u262 := (((u127.frS e138 Dj.nil_l).frS e149 (hb122.djn (r17.ltF.le (t_ (t_ e70.n e90.n) e109.n)))).frS e247 Dj.nil_l)
      refine l_' (.agg #[hd_Node, hd_UpFirst, hd_Up, hd_DownFirst, hd_Down]) (aL_ 81 (pt_ b13 0) H246) (u262.l_) ?_
      have u263 := (m155.frS e247 Dj.nil_l)
      refine l_' (.slice a231 n232 c233) (aL_ 160 (pt_ b119 0) H246) (u263.l_) ?_
      refine q_ (i_ i1) ?_
      have u264 := (((u128.fr e138 Dj.nil_l).fr e149 (hb122.djn (h_Node.lt.le (t_ (t_ (t_ e15.n e70.n) e90.n) e109.n)))).fr e247 Dj.nil_l)
      have u265 := (((u129.fr e138 Dj.nil_l).fr e149 (hb122.djn (h_UpFirst.lt.le (t_ (t_ (t_ e15.n e70.n) e90.n) e109.n)))).fr e247 Dj.nil_l)
      have u266 := (((u130.fr e138 Dj.nil_l).fr e149 (hb122.djn (h_Up.lt.le (t_ (t_ (t_ e15.n e70.n) e90.n) e109.n)))).fr e247 Dj.nil_l)
      have u267 := (((u131.fr e138 Dj.nil_l).fr e149 (hb122.djn (h_DownFirst.lt.le (t_ (t_ (t_ e15.n e70.n) e90.n) e109.n)))).fr e247 Dj.nil_l)
      have u268 := (((u132.fr e138 Dj.nil_l).fr e149 (hb122.djn (h_Down.lt.le (t_ (t_ (t_ e15.n e70.n) e90.n) e109.n)))).fr e247 Dj.nil_l)
      have u269 := (m151.fr e247 Dj.nil_l)
      obtain ⟨y270, hy271, r272⟩ := bind_some r258
      refine s_ck 132 #[.agg #[hd_Node, hd_UpFirst, hd_Up, hd_DownFirst, hd_Down], .slice a231 n232 c233, i_ i1] (by kernel_rfl) (c_hier_shape e247.wf u264 u265 u266 u267 u268 u269.sq hy271) ?_
      rintro _ H273 ⟨rfl, e274⟩
      refine q_ (.bool (!y270)) (q_ (.bool (!y270)) (s_nil (k261 _ _ ?_)))
      refine w_cond ((!y270)) (by kernel_rfl) rfl (fun h275 => ?_) (fun h275 => ?_)
      ·have r276 := ite_t h275 r272
       refine w_seqk fun _ k277 => g_' (q_ (i_ i1) (q_ (.iface 122 (i_ 14)) ?_))
       obtain ⟨y278, hy279, r280⟩ := bind_some r276
       refine s_ck 119 #[i_ 4, i_ i1, .iface 122 (i_ 14)] (by kernel_rfl) (c_fault_At e274.wf (Ev.no (tf := 235)) hy279) ?_
       rintro v281 H283 ⟨_, f282, rfl, e284, m285, i286⟩
       refine q_ (.slice none 0 0) (q_ (v281) (s_nil (k277 _ _ ?_)))
       refine w_ret (bl_ret (bl_ret (th_ret (th_ret (bl_ret (th_ret (th_ret ?_)))))))
       obtain ⟨v288, hv289, hz290⟩ := map_some r280
       subst hz290
       obtain rfl := it_inr hn253
       have hq291 := elim_inl r238
       rw [hq291] at hv289
       refine b_ret (fn := Try.f95) (vs := [.slice none 0 0, v281]) (rt_ (aRes_tmp (by kernel_rfl) (rfl))) ?_
       obtain rfl := oi_ hv289
       exact ⟨(.slice none 0 0), [], (v281), f282, rfl, (FrS.step wf (FrS.step wf (FrS.step wf (FrS.step wf (FrS.step wf ((FrS.step wf (FrS.step wf (FrS.step wf ((f0_ wf).extR e15) e70 Inn.nil) e90 Inn.nil) e109 Inn.nil).extR e121) e138 Inn.nil) e149 (hb122.fresh (t_ (t_ (t_ e15.n e70.n) e90.n) e109.n))) e247 Inn.nil) e274 Inn.nil) e284 Inn.nil), (Ow.nil (by decide)), m285, Inn.nil, (i286.fresh (t_ (t_ (t_ (t_ (t_ (t_ (t_ (t_ e15.n e70.n) e90.n) e109.n) e121.n) e138.n) e149.n) e247.n) e274.n)), Dj.nil_l⟩
      have r292 := ite_bf h275 r272
      refine w_seqk fun _ k293 => g_' ?_
      have u294 := (u263.frS e274 Dj.nil_l)
      refine l_' (.slice a231 n232 c233) (aL_ 160 (pt_ b119 0) H273) (u294.l_) ?_
      refine q_ (i_ i1) ?_
      have u295 := (u269.fr e274 Dj.nil_l)
      obtain ⟨y296, hy297, r298⟩ := bind_some r292
      refine s_ck 133 #[.slice a231 n232 c233, i_ i1] (by kernel_rfl) (c_hier_weight e274.wf u295.sq hy297) ?_
      rintro _ H299 ⟨rfl, e300⟩
      refine q_ (.bool (!y296)) (q_ (.bool (!y296)) (s_nil (k293 _ _ ?_)))
      refine w_cond ((!y296)) (by kernel_rfl) rfl (fun h301 => ?_) (fun h301 => ?_)
      ·have r302 := ite_t h301 r298
       refine w_seqk fun _ k303 => g_' (q_ (i_ i1) (q_ (.iface 122 (i_ 8)) ?_))
       obtain ⟨y304, hy305, r306⟩ := bind_some r302
       refine s_ck 119 #[i_ 4, i_ i1, .iface 122 (i_ 8)] (by kernel_rfl) (c_fault_At e300.wf (Ev.no (tf := 235)) hy305) ?_
       rintro v307 H309 ⟨_, f308, rfl, e310, m311, i312⟩
       refine q_ (.slice none 0 0) (q_ (v307) (s_nil (k303 _ _ ?_)))
       refine w_ret (bl_ret (bl_ret (th_ret (th_ret (bl_ret (th_ret (th_ret ?_)))))))
       obtain ⟨v314, hv315, hz316⟩ := map_some r306
       subst hz316
       obtain rfl := it_inr hn253
       have hq317 := elim_inl r238
       rw [hq317] at hv315
       refine b_ret (fn := Try.f95) (vs := [.slice none 0 0, v307]) (rt_ (aRes_tmp (by kernel_rfl) (rfl))) ?_
       obtain rfl := oi_ hv315
       exact ⟨(.slice none 0 0), [], (v307), f308, rfl, (FrS.step wf (FrS.step wf (FrS.step wf (FrS.step wf (FrS.step wf (FrS.step wf ((FrS.step wf (FrS.step wf (FrS.step wf ((f0_ wf).extR e15) e70 Inn.nil) e90 Inn.nil) e109 Inn.nil).extR e121) e138 Inn.nil) e149 (hb122.fresh (t_ (t_ (t_ e15.n e70.n) e90.n) e109.n))) e247 Inn.nil) e274 Inn.nil) e300 Inn.nil) e310 Inn.nil), (Ow.nil (by decide)), m311, Inn.nil, (i312.fresh (t_ (t_ (t_ (t_ (t_ (t_ (t_ (t_ (t_ e15.n e70.n) e90.n) e109.n) e121.n) e138.n) e149.n) e247.n) e274.n) e300.n)), Dj.nil_l⟩
      have r318 := ite_bf h301 r298
      refine w_skip (k259 _ _ (g_' ?_))
      obtain ⟨g319, r320⟩ := G_some r318
      refine w_' (i1 + 1) (wrap64 g319) ?_
      refine q_ (i_ (i1 + 1)) (s_nil ?_)
      obtain rfl := oi_ r320
      exact k254 n250 _ _ (Nat.lt_succ_self _) ⟨(i1 + 1), hn253, ha_, (FrS.step e149.wf (FrS.step e149.wf (FrS.step e149.wf (FrS.refl (W := []) e149.wf) e247 Inn.nil) e274 Inn.nil) e300 Inn.nil)⟩
     have r321 := ite_f h257 hz252
     refine w_exit (th_exit (th_exit (bl_eq ?_)))
     obtain rfl := oi_ r321
     obtain rfl := it_inr hn253
     exact k242 _ _ ⟨_, rfl, ha_, (FrS.step e149.wf (FrS.refl (W := []) e149.wf) e247 Inn.nil)⟩
    obtain ⟨o236, rfl, hh243, e241⟩ := hM
    have r322 := elim_inr r238
    obtain ⟨β, rfl⟩ := has_ex hh243
    clear hh243
    refine k234 _ _ (w_seqk fun _ k323 => g_' ?_)
    have u324 := (m155.frS e241 Dj.nil_l)
    refine l_' (.slice a231 n232 c233) (aL_ 160 (pt_ b119 0) H240) (u324.l_) ?_
    refine q_ (.slice a231 n232 c233) (q_ (.nilIface) (s_nil (k323 _ _ ?_)))
    refine w_ret ?_
    refine b_ret (fn := Try.f95) (vs := [.slice a231 n232 c233, .nilIface]) (rt_ (aRes_tmp (by kernel_rfl) (rfl))) ?_
    have u325 := (m151.fr e241 Dj.nil_l)
    obtain rfl := oi_ r322
    exact ⟨(.slice a231 n232 c233), f153, (.nilIface), [], rfl, (FrS.step wf (FrS.step wf (FrS.step wf ((FrS.step wf (FrS.step wf (FrS.step wf ((f0_ wf).extR e15) e70 Inn.nil) e90 Inn.nil) e109 Inn.nil).extR e121) e138 Inn.nil) e149 (hb122.fresh (t_ (t_ (t_ e15.n e70.n) e90.n) e109.n))) e241 Inn.nil), u325, Ev.nil, (i156.fresh (t_ (t_ (t_ (t_ (t_ e15.n e70.n) e90.n) e109.n) e121.n) e138.n)), Inn.nil, Dj.nil_r⟩
   have r326 := ite_f h114 r105
   refine l_' (.bool true) (aBin Try.prog .neq 31 (.tmp 66) (.const .nilIface) (.iface t115 x116) .nilIface) (aBin_nnil (by kernel_rfl)) ?_
   refine s_nil (k113 _ _ ?_)
   refine w_cond true (by kernel_rfl) rfl (fun _ => ?_) (fun h => by cases h)
   refine w_seqk fun _ k327 => g_' (q_ (.iface t115 x116) (q_ (.slice none 0 0) (q_ (.iface t115 x116) (s_nil (k327 _ _ ?_)))))
   refine w_ret (th_ret ?_)
   refine b_ret (fn := Try.f95) (vs := [.slice none 0 0, .iface t115 x116]) (rt_ (aRes_tmp (by kernel_rfl) (rfl))) ?_
   obtain rfl := oi_ r326
   exact ⟨(.slice none 0 0), [], (.iface t115 x116), f107, rfl, (FrS.step wf (FrS.step wf (FrS.step wf ((f0_ wf).extR e15) e70 Inn.nil) e90 Inn.nil) e109 Inn.nil), (Ow.nil (by decide)), m110, Inn.nil, (i111.fresh (t_ (t_ e15.n e70.n) e90.n)), Dj.nil_l⟩
  have r328 := ite_f h95 r86
  refine l_' (.bool true) (aBin Try.prog .neq 31 (.tmp 60) (.const .nilIface) (.iface t96 x97) .nilIface) (aBin_nnil (by kernel_rfl)) ?_
  refine s_nil (k94 _ _ ?_)
  refine w_cond true (by kernel_rfl) rfl (fun _ => ?_) (fun h => by cases h)
  refine w_seqk fun _ k329 => g_' (q_ (.iface t96 x97) (q_ (.slice none 0 0) (q_ (.iface t96 x97) (s_nil (k329 _ _ ?_)))))
  refine w_ret (th_ret ?_)
  refine b_ret (fn := Try.f95) (vs := [.slice none 0 0, .iface t96 x97]) (rt_ (aRes_tmp (by kernel_rfl) (rfl))) ?_
  obtain rfl := oi_ r328
  exact ⟨(.slice none 0 0), [], (.iface t96 x97), f88, rfl, (FrS.step wf (FrS.step wf ((f0_ wf).extR e15) e70 Inn.nil) e90 Inn.nil), (Ow.nil (by decide)), m91, Inn.nil, (i92.fresh (t_ e15.n e70.n)), Dj.nil_l⟩
 have r330 := ite_f h75 r66
 refine l_' (.bool true) (aBin Try.prog .neq 31 (.tmp 51) (.const .nilIface) (.iface t76 x77) .nilIface) (aBin_nnil (by kernel_rfl)) ?_
 refine s_nil (k74 _ _ ?_)
 refine w_cond true (by kernel_rfl) rfl (fun _ => ?_) (fun h => by cases h)
 refine w_seqk fun _ k331 => g_' (q_ (.iface t76 x77) (q_ (.slice none 0 0) (q_ (.iface t76 x77) (s_nil (k331 _ _ ?_)))))
 refine w_ret (th_ret ?_)
 refine b_ret (fn := Try.f95) (vs := [.slice none 0 0, .iface t76 x77]) (rt_ (aRes_tmp (by kernel_rfl) (rfl))) ?_
 obtain rfl := oi_ r330
 exact ⟨(.slice none 0 0), [], (.iface t76 x77), f68, rfl, (FrS.step wf ((f0_ wf).extR e15) e70 Inn.nil), (Ow.nil (by decide)), m71, Inn.nil, (i72.fresh e15.n), Dj.nil_l⟩
theorem c_hier_Graph_1 {H : AH} {From : Int} {To : Int} {Weight : Int} {From_ : Int} {To_ : Int} {Weight_ : Int} {r : Int}
    (wf : WF H) (hr : z_hier_Graph_1 From To Weight From_ To_ Weight_ = some r) :
    ACalls Try.prog 97 #[.agg #[i_ From, i_ To, i_ Weight], .agg #[i_ From_, i_ To_, i_ Weight_]] H fun v H' => v = i_ r ∧ FrS [] H H' := by
 refine acalls_of_body mixed Try.func97 rfl (Nat.le_of_ble_eq_true rfl) ?_
 unfold z_hier_Graph_1 at hr
 refine w_seqk fun _ k1 => g_' ?_
 refine s_rwl wf [i_ From, i_ To, i_ Weight] (one_cons (rfl) (one_cons (rfl) (one_cons (rfl) (one_nil)))) (by kernel_rfl) fun b2 H3 e4 hb5 r6 => ?_
 refine s_rwl e4.wf [i_ From_, i_ To_, i_ Weight_] (one_cons (rfl) (one_cons (rfl) (one_cons (rfl) (one_nil)))) (by kernel_rfl) fun b8 H9 e10 hb11 r12 => ?_
 refine q_ (i_ 0) (s_nil (k1 _ _ (w_seqk fun _ k14 => w_seqk fun _ k15 => g_' (q_ (pt_ b2 0) ?_))))
 have u16 := (r6.ext e10)
 refine l_' (i_ From) (aL_ 3 (pt_ b2 0) H9) (u16.l_) ?_
 refine q_ (pt_ b8 0) ?_
 refine l_' (i_ From_) (aL_ 3 (pt_ b8 0) H9) (r12.l_) ?_
 refine q_ (.bool (!decide (From = From_))) (s_nil (k15 _ _ ?_))
 refine w_condn (From = From_) (by kernel_rfl) rfl (fun h17 => ?_) (fun h17 => ?_)
 ·have r18 := ite_f h17 hr
  refine w_seqk fun _ k19 => g_' (q_ (pt_ b2 0) ?_)
  refine l_' (i_ From) (aL_ 3 (pt_ b2 0) H9) (u16.l_) ?_
  refine q_ (pt_ b8 0) ?_
  refine l_' (i_ From_) (aL_ 3 (pt_ b8 0) H9) (r12.l_) ?_
  obtain ⟨g20, r21⟩ := G_some r18
  refine w_' (From - From_) (wrap64 g20) ?_
  refine q_ (i_ (From - From_)) (s_nil (k19 _ _ ?_))
  refine w_ret (th_ret ?_)
  refine b_ret (fn := Try.f97) (vs := [i_ (From - From_)]) (rt_ (rfl)) ?_
  obtain rfl := oi_ r21
  exact ⟨rfl, (((f0_ wf).extR e4).extR e10)⟩
 have r22 := ite_t h17 hr
 refine w_skip (k14 _ _ (w_seqk fun _ k23 => g_' (q_ (pt_ b2 1) ?_)))
 refine l_' (i_ To) (aL_ 3 (pt_ b2 1) H9) (u16.l_) ?_
 refine q_ (pt_ b8 1) ?_
 refine l_' (i_ To_) (aL_ 3 (pt_ b8 1) H9) (r12.l_) ?_
 obtain ⟨g24, r25⟩ := G_some r22
 refine w_' (To - To_) (wrap64 g24) ?_
 refine q_ (i_ (To - To_)) (s_nil (k23 _ _ ?_))
 refine w_ret ?_
 refine b_ret (fn := Try.f97) (vs := [i_ (To - To_)]) (rt_ (rfl)) ?_
 obtain rfl := oi_ r25
 exact ⟨rfl, (((f0_ wf).extR e4).extR e10)⟩
end Go.Vd

/-! (KHm2) -/

set_option maxRecDepth 100000
set_option maxHeartbeats 4000000
set_option linter.unusedVariables false
namespace Go.Vd
open Go.Proofs
attribute [local irreducible] wpSeq wpOrd aWp
theorem c_hier_Graph {H : AH} {hd_Node : Value} {fp_Node : Fp} {hd_UpFirst : Value} {fp_UpFirst : Fp} {hd_Up : Value} {fp_Up : Fp} {hd_DownFirst : Value} {fp_DownFirst : Fp} {hd_Down : Value} {fp_Down : Fp} {Node : List (Int)} {UpFirst : List (Int)} {Up : List (Int × Int × Int × Int)} {DownFirst : List (Int)} {Down : List (Int × Int × Int × Int)} {r : Int × List (Int × Int × Int) × Er}
    (wf : WF H) (h_Node : Sq (encI .u32) 1 H hd_Node Node fp_Node) (h_UpFirst : Sq (encI .u32) 1 H hd_UpFirst UpFirst fp_UpFirst) (h_Up : Sq enc_u32_u64_u32_u32 4 H hd_Up Up fp_Up) (h_DownFirst : Sq (encI .u32) 1 H hd_DownFirst DownFirst fp_DownFirst) (h_Down : Sq enc_u32_u64_u32_u32 4 H hd_Down Down fp_Down) (hr : z_hier_Graph Node UpFirst Up DownFirst Down = some r) :
    ACalls Try.prog 38 #[.agg #[hd_Node, hd_UpFirst, hd_Up, hd_DownFirst, hd_Down]] H fun v H' => ∃ (s3 : Value) (f4 : Fp) (v7 : Value) (f8 : Fp), v = .tuple #[.agg #[i_ r.1, s3], v7] ∧ FrS [] H H' ∧ Ow enc_i64_i64_i64 3 H' s3 r.2.1 f4 ∧ Ev 122 235 H' v7 r.2.2 f8 ∧ Inn [] H f4 ∧ Inn [] H f8 ∧ Dj f4 f8 := by
 refine acalls_of_body mixed Try.func38 rfl (Nat.le_of_ble_eq_true rfl) ?_
 unfold z_hier_Graph at hr
 refine w_seqk fun _ k12 => g_' ?_
 refine s_rwl wf [hd_Node, hd_UpFirst, hd_Up, hd_DownFirst, hd_Down] (one_cons (h_Node.one1) (one_cons (h_UpFirst.one1) (one_cons (h_Up.one1) (one_cons (h_DownFirst.one1) (one_cons (h_Down.one1) (one_nil)))))) (by kernel_rfl) fun b13 H14 e15 hb16 r17 => ?_
 refine s_rwk e15.wf [i_ 0, .slice none 0 0] (by kernel_rfl) fun b19 H20 e21 hb22 r23 => ?_
 refine q_ (.nilIface) (s_nil (k12 _ _ (w_seqk fun _ k25 => g_' ?_)))
 have u26 := (r17.ext e21)
 refine l_' (.agg #[hd_Node, hd_UpFirst, hd_Up, hd_DownFirst, hd_Down]) (aL_ 81 (pt_ b13 0) H20) (u26.l_) ?_
 have u27 := ((h_Node.ext e15).ext e21)
 have u28 := ((h_UpFirst.ext e15).ext e21)
 have u29 := ((h_Up.ext e15).ext e21)
 have u30 := ((h_DownFirst.ext e15).ext e21)
 have u31 := ((h_Down.ext e15).ext e21)
 obtain ⟨y32, hy33, r34⟩ := bind_some hr
 refine s_ck 95 #[.agg #[hd_Node, hd_UpFirst, hd_Up, hd_DownFirst, hd_Down]] (by kernel_rfl) (c_hier_ends e21.wf u27 u28 u29 u30 u31 hy33) ?_
 rintro _ H39 ⟨s35, f36, v37, f38, rfl, e40, m41, m42, i43, i44, d45⟩
 obtain ⟨a48, n49, c50, rfl⟩ := m41.form
 refine q_ (.tuple #[.slice a48 n49 c50, v37]) (q_ (.slice a48 n49 c50) (q_ (v37) (q_ (.slice a48 n49 c50) (q_ (v37) (s_nil (k25 _ _ (w_seqk fun _ k51 => w_seqk fun _ k52 => g_' (q_ (v37) ?_))))))))
 rcases (m42).cases with ⟨h53, rfl⟩ | ⟨h53, t54, x55, rfl⟩
 ·have r56 := ite_t h53 r34
  refine q_ (.bool false) (s_nil (k52 _ _ ?_))
  refine w_cond false (by kernel_rfl) rfl (fun h => by cases h) (fun _ => ?_)
  refine w_skip (k51 _ _ (w_seqk fun _ k57 => g_' (q_ (pt_ b13 0) ?_)))
  have u58 := (u26.frS e40 Dj.nil_l)
  refine l_' (hd_Node) (aL_ 78 (pt_ b13 0) H39) (u58.l_) ?_
  have u59 := (u27.fr e40 Dj.nil_l)
  refine l_' (i_ (Node.length : Int)) (aLen Try.prog 78 hd_Node H39) (u59.lenb (by kernel_rfl)) ?_
  refine q_ (.agg #[i_ (Node.length : Int), .slice none 0 0]) ?_
  refine s_rwk e40.wf [i_ 0, .slice none 0 0] (by kernel_rfl) fun b60 H61 e62 hb63 r64 => ?_
  obtain ⟨H66, q67, e68, r69⟩ := Row.store (P := Try.prog) (t := 59) (p := 0) e62.wf r64 (.agg #[i_ (Node.length : Int), .slice none 0 0]) [i_ (Node.length : Int), .slice none 0 0] (by kernel_rfl) (by kernel_rfl) (one_cons (rfl) (one_cons (rfl) (one_nil))) (Nat.le_of_ble_eq_true (by kernel_rfl)) [i_ (Node.length : Int), .slice none 0 0] (by kernel_rfl)
  refine s_ek (undef) (by kernel_rfl) (map_ok q67) ?_
  refine s_nil (k57 _ _ (w_seqk fun _ k70 => w_seqk fun _ k71 => g_' (q_ (.slice a48 n49 c50) ?_)))
  have u72 := ((m41.ext e62).fr e68 (hb63.djn m41.lt))
  refine l_' (i_ (y32.1.length : Int)) (aLen Try.prog 160 (.slice a48 n49 c50) H66) (u72.sq.lenb (by kernel_rfl)) ?_
  refine q_ (i_ 0) (s_nil (k71 _ _ ?_))
  obtain ⟨o73, hx74, r75⟩ := bind_some r56
  refine w_mid (fun α H76 => ∃ (s80 : Value) (f81 : Fp), Has α [(2, pt_ b19 0), (6, pt_ b60 0)] ∧ FrS [b60] H66 H76 ∧ Ow enc_i64_i64_i64 3 H76 s80 o73 f81 ∧ Row H76 b60 [i_ (Node.length : Int), s80] ∧ Inn [] H66 f81) (fun _ k85 => ?_) (fun α H76 hM => ?_)
  ·refine w_block ?_
   obtain ⟨n87, hn88⟩ := loopO_iff.1 hx74
   refine w_loopn (fun n α H89 => ∃ (i0 : Int), ∃ (g1 : List (Int × Int × Int)), ∃ (s93 : Value), ∃ (f94 : Fp), iterO (fun zz_ => z_hier_Graph_l0 Node y32 zz_.1 zz_.2) n (i0, g1) = some o73 ∧ Has α [(1, pt_ b13 0), (2, pt_ b19 0), (6, pt_ b60 0), (22, .slice a48 n49 c50), (23, i_ (y32.1.length : Int)), (24, i_ i0)] ∧ FrS [b60] H66 H89 ∧ Ow enc_i64_i64_i64 3 H89 s93 g1 f94 ∧ Row H89 b60 [i_ (Node.length : Int), s93] ∧ Inn [] H66 f94) n87 ⟨0, [], (.slice none 0 0), [], hn88, ha_, (FrS.refl (W := [b60]) e68.wf), (Ow.nil (by decide)), r69, Inn.nil⟩ ?_
   rintro n87 α H89 ⟨i0, g1, s93, f94, hi99, hh98, e90, m92, m96, i97⟩ K104 k104
   obtain ⟨n100, z101, rfl, hz102, hn103⟩ := iter_succ hi99
   obtain ⟨β, rfl⟩ := has_ex hh98
   clear hh98
   replace hz102 : z_hier_Graph_l0 Node y32 i0 g1 = some z101 := hz102
   unfold z_hier_Graph_l0 at hz102
   obtain ⟨a105, n106, c107, rfl⟩ := m92.form
   refine w_seqk fun _ k108 => g_' (q_ (.bool (decide (i0 < (y32.1.length : Int)))) (s_nil (k108 _ _ (w_seqk fun _ k109 => ?_))))
   refine w_condp (i0 < (y32.1.length : Int)) (by kernel_rfl) rfl (fun h110 => ?_) (fun h110 => ?_)
   ·have r111 := ite_t h110 hz102
    refine w_skip (k109 _ _ (w_seqk fun _ k112 => w_block (w_seqk fun _ k113 => g_' ?_)))
    obtain ⟨g114, r115⟩ := G_some r111
    have u116 := (u72.fr e90 (hb63.djn m41.lt))
    refine l_' (elp (.slice a48 n49 c50) 7 i0.toNat 0) (aIndexAddr Try.prog 160 (.slice a48 n49 c50) (i_ i0)) (u116.sq.idxb (by kernel_rfl) g114 h110) ?_
    refine l_' (.agg #[.int .u32 ((gt y32.1 i0).1), .int .u64 ((gt y32.1 i0).2.1), .int .u32 ((gt y32.1 i0).2.2.1), .int .u32 ((gt y32.1 i0).2.2.2.1), i_ ((gt y32.1 i0).2.2.2.2.1), i_ ((gt y32.1 i0).2.2.2.2.2.1), i_ ((gt y32.1 i0).2.2.2.2.2.2)]) (aL_ 164 (elp (.slice a48 n49 c50) 7 i0.toNat 0) H89) (u116.sq.ld g114 h110 (by kernel_rfl)) ?_
    refine s_rwk e90.wf [.int .u32 0, .int .u64 0, .int .u32 0, .int .u32 0, i_ 0, i_ 0, i_ 0] (by kernel_rfl) fun b117 H118 e119 hb120 r121 => ?_
    obtain ⟨H123, q124, e125, r126⟩ := Row.store (P := Try.prog) (t := 164) (p := 0) e119.wf r121 (.agg #[.int .u32 ((gt y32.1 i0).1), .int .u64 ((gt y32.1 i0).2.1), .int .u32 ((gt y32.1 i0).2.2.1), .int .u32 ((gt y32.1 i0).2.2.2.1), i_ ((gt y32.1 i0).2.2.2.2.1), i_ ((gt y32.1 i0).2.2.2.2.2.1), i_ ((gt y32.1 i0).2.2.2.2.2.2)]) [.int .u32 ((gt y32.1 i0).1), .int .u64 ((gt y32.1 i0).2.1), .int .u32 ((gt y32.1 i0).2.2.1), .int .u32 ((gt y32.1 i0).2.2.2.1), i_ ((gt y32.1 i0).2.2.2.2.1), i_ ((gt y32.1 i0).2.2.2.2.2.1), i_ ((gt y32.1 i0).2.2.2.2.2.2)] (by kernel_rfl) (by kernel_rfl) (one_cons (rfl) (one_cons (rfl) (one_cons (rfl) (one_cons (rfl) (one_cons (rfl) (one_cons (rfl) (one_cons (rfl) (one_nil)))))))) (Nat.le_of_ble_eq_true (by kernel_rfl)) [.int .u32 ((gt y32.1 i0).1), .int .u64 ((gt y32.1 i0).2.1), .int .u32 ((gt y32.1 i0).2.2.1), .int .u32 ((gt y32.1 i0).2.2.2.1), i_ ((gt y32.1 i0).2.2.2.2.1), i_ ((gt y32.1 i0).2.2.2.2.2.1), i_ ((gt y32.1 i0).2.2.2.2.2.2)] (by kernel_rfl)
    refine s_ek (undef) (by kernel_rfl) (map_ok q124) ?_
    refine s_nil (k113 _ _ (w_seqk fun _ k127 => g_' (q_ (pt_ b117 0) ?_)))
    refine l_' (.agg #[.int .u32 ((gt y32.1 i0).1), .int .u64 ((gt y32.1 i0).2.1), .int .u32 ((gt y32.1 i0).2.2.1), .int .u32 ((gt y32.1 i0).2.2.2.1)]) (aL_ 93 (pt_ b117 0) H123) (r126.l_) ?_
    obtain ⟨y128, hy129, r130⟩ := bind_some r115
    refine s_ck 96 #[.agg #[.int .u32 ((gt y32.1 i0).1), .int .u64 ((gt y32.1 i0).2.1), .int .u32 ((gt y32.1 i0).2.2.1), .int .u32 ((gt y32.1 i0).2.2.2.1)]] (by kernel_rfl) (c_hier_plain e125.wf hy129) ?_
    rintro _ H131 ⟨rfl, e132⟩
    refine s_nil (k127 _ _ ?_)
    refine w_cond (y128) (by kernel_rfl) rfl (fun h133 => ?_) (fun h133 => ?_)
    ·have r134 := ite_t h133 r130
     refine w_draw [0, 1, 2, 3, 4, 5, 6, 7, 8, 9, 10, 11, 12, 13, 14, 15, 16, 17, 18, 19, 20, 21, 22, 23, 24] (by kernel_rfl) ?_
     refine e_' (pt_ b60 1) ?_
     have u135 := (((m96.ext e119).frS e125 (hb120.djn (r64.ltF.le (t_ e68.n e90.n)))).frS e132 Dj.nil_l)
     refine m_' (.slice a105 n106 c107) (aL_ 57 (pt_ b60 1) H131) (u135.l_) ?_
     refine e_' (pt_ b13 0) ?_
     have u136 := ((((((u58.ext e62).frS e68 (hb63.djn (r17.ltF.le (t_ e21.n e40.n)))).frS e90 (hb63.djn (r17.ltF.le (t_ e21.n e40.n)))).ext e119).frS e125 (hb120.djn (r17.ltF.le (t_ (t_ (t_ (t_ e21.n e40.n) e62.n) e68.n) e90.n)))).frS e132 Dj.nil_l)
     refine m_' (hd_Node) (aL_ 78 (pt_ b13 0) H131) (u136.l_) ?_
     refine e_' (pt_ b117 4) ?_
     have u137 := (r126.frS e132 Dj.nil_l)
     refine m_' (i_ ((gt y32.1 i0).2.2.2.2.1)) (aL_ 3 (pt_ b117 4) H131) (u137.l_) ?_
     obtain ⟨g138, r139⟩ := G_some r134
     have u140 := ((((((u59.ext e62).fr e68 (hb63.djn (h_Node.lt.le (t_ (t_ e15.n e21.n) e40.n)))).fr e90 (hb63.djn (h_Node.lt.le (t_ (t_ e15.n e21.n) e40.n)))).ext e119).fr e125 (hb120.djn (h_Node.lt.le (t_ (t_ (t_ (t_ (t_ e15.n e21.n) e40.n) e62.n) e68.n) e90.n)))).fr e132 Dj.nil_l)
     refine m_' (elp hd_Node 1 ((gt y32.1 i0).2.2.2.2.1).toNat 0) (aIndexAddr Try.prog 78 hd_Node (i_ ((gt y32.1 i0).2.2.2.2.1))) (u140.idxb (by kernel_rfl) g138.1 g138.2) ?_
     refine m_' (.int .u32 (gt Node ((gt y32.1 i0).2.2.2.2.1))) (aL_ 90 (elp hd_Node 1 ((gt y32.1 i0).2.2.2.2.1).toNat 0) H131) (u140.ld g138.1 g138.2 (by kernel_rfl)) ?_
     obtain ⟨g141, r142⟩ := G_some r139
     refine d_w ((gt Node ((gt y32.1 i0).2.2.2.2.1))) (k := .i64) (x := (gt Node ((gt y32.1 i0).2.2.2.2.1))) (by kernel_rfl) (wrap64 g141) ?_
     refine e_' (pt_ b13 0) ?_
     refine m_' (hd_Node) (aL_ 78 (pt_ b13 0) H131) (u136.l_) ?_
     refine e_' (pt_ b117 5) ?_
     refine m_' (i_ ((gt y32.1 i0).2.2.2.2.2.1)) (aL_ 3 (pt_ b117 5) H131) (u137.l_) ?_
     obtain ⟨g143, r144⟩ := G_some r142
     refine m_' (elp hd_Node 1 ((gt y32.1 i0).2.2.2.2.2.1).toNat 0) (aIndexAddr Try.prog 78 hd_Node (i_ ((gt y32.1 i0).2.2.2.2.2.1))) (u140.idxb (by kernel_rfl) g143.1 g143.2) ?_
     refine m_' (.int .u32 (gt Node ((gt y32.1 i0).2.2.2.2.2.1))) (aL_ 90 (elp hd_Node 1 ((gt y32.1 i0).2.2.2.2.2.1).toNat 0) H131) (u140.ld g143.1 g143.2 (by kernel_rfl)) ?_
     obtain ⟨g145, r146⟩ := G_some r144
     refine d_w ((gt Node ((gt y32.1 i0).2.2.2.2.2.1))) (k := .i64) (x := (gt Node ((gt y32.1 i0).2.2.2.2.2.1))) (by kernel_rfl) (wrap64 g145) ?_
     refine e_' (pt_ b117 0) (e_' (pt_ b117 1) ?_)
     refine m_' (.int .u64 ((gt y32.1 i0).2.1)) (aL_ 42 (pt_ b117 1) H131) (u137.l_) ?_
     obtain ⟨g147, r148⟩ := G_some r146
     refine d_w ((gt y32.1 i0).2.1) (k := .i64) (x := (gt y32.1 i0).2.1) (by kernel_rfl) (wrap64 g147) ?_
     refine e_' (.agg #[i_ (gt Node ((gt y32.1 i0).2.2.2.2.1)), i_ (gt Node ((gt y32.1 i0).2.2.2.2.2.1)), i_ ((gt y32.1 i0).2.1)]) ?_
     refine d_owk (enc := enc_i64_i64_i64) (sz := 3) e132.wf [((gt Node ((gt y32.1 i0).2.2.2.2.1)), (gt Node ((gt y32.1 i0).2.2.2.2.2.1)), (gt y32.1 i0).2.1)] 1 (by decide) (fun _ _ => rfl) (fun _ _ => rfl) rfl (by kernel_rfl) fun s149 f150 H151 e152 hf153 hm154 => ?_
     obtain ⟨a155, n156, c157, rfl⟩ := hm154.form
     have u159 := ((((m92.ext e119).fr e125 (hb120.djn m92.lt)).fr e132 Dj.nil_l).ext e152)
     obtain ⟨g160, r161⟩ := G_some r148
     obtain ⟨s162, H163, f164, q168, e165, hm166, hf167⟩ := Ow.append (P := Try.prog) 24 e152.wf u159 hm154.sq (fun _ _ => rfl) (at_ := #[57, 57]) rfl rfl (by kernel_rfl) (by kernel_rfl) (by decide) (by have := g160; first | omega | (simp only [List.length_cons, List.length_nil] at this ⊢; omega) | (simp at this ⊢; omega))
     obtain ⟨a169, n170, c171, rfl⟩ := hm166.form
     refine d_ek (.slice a169 n170 c171) (by kernel_rfl) (q168) (st_nil) ?_
     refine e_' (pt_ b60 1) ?_
     have u177 := ((u135.ext e152).frS e165 (i97.djn (r64.ltF.le e68.n)))
     obtain ⟨H173, q174, e175, r176⟩ := Row.store (P := Try.prog) (t := 57) (p := 1) e165.wf u177 (.slice a169 n170 c171) [.slice a169 n170 c171] (by kernel_rfl) (by kernel_rfl) (one_cons (hm166.one1) (one_nil)) (Nat.le_of_ble_eq_true (by kernel_rfl)) [i_ (Node.length : Int), .slice a169 n170 c171] (by kernel_rfl)
     refine d_ek (undef) (by kernel_rfl) (map_ok q174) (st_nil) ?_
     refine d_nil ?_
     refine k112 _ _ (g_' ?_)
     obtain ⟨g178, r179⟩ := G_some r161
     refine w_' (i0 + 1) (wrap64 (by have := g178; omega)) ?_
     refine q_ (i_ (i0 + 1)) (s_nil ?_)
     have u180 := (hm166.fr e175 (Dj.symm (hf167.dj (i97.djn (r64.ltF.le e68.n)) (r64.ltF.le (t_ (t_ (t_ (t_ (t_ e68.n e90.n) e119.n) e125.n) e132.n) e152.n)))))
     obtain rfl := oi_ r179
     exact k104 n100 _ _ (Nat.lt_succ_self _) ⟨(i0 + 1), (g1 ++ [((gt Node ((gt y32.1 i0).2.2.2.2.1)), (gt Node ((gt y32.1 i0).2.2.2.2.2.1)), (gt y32.1 i0).2.1)]), (.slice a169 n170 c171), f164, hn103, ha_, (FrS.step e68.wf (FrS.step e68.wf ((FrS.step e68.wf (FrS.step e68.wf ((FrS.step e68.wf (FrS.refl (W := [b60]) e68.wf) e90 Inn.refl').extR e119) e125 (hb120.fresh e90.n)) e132 Inn.nil).extR e152) e165 (i97.fresh (Nat.le_refl _))) e175 Inn.refl'), u180, r176, (Inn.trans (i97.fresh (Nat.le_refl _)) (t_ (t_ (t_ (t_ e90.n e119.n) e125.n) e132.n) e152.n) hf167)⟩
    have r181 := ite_bf h133 r130
    refine w_skip (k112 _ _ (g_' ?_))
    obtain ⟨g182, r183⟩ := G_some r181
    refine w_' (i0 + 1) (wrap64 (by have := g182; omega)) ?_
    refine q_ (i_ (i0 + 1)) (s_nil ?_)
    have u184 := (((m92.ext e119).fr e125 (hb120.djn m92.lt)).fr e132 Dj.nil_l)
    have u185 := (((m96.ext e119).frS e125 (hb120.djn (r64.ltF.le (t_ e68.n e90.n)))).frS e132 Dj.nil_l)
    obtain rfl := oi_ r183
    exact k104 n100 _ _ (Nat.lt_succ_self _) ⟨(i0 + 1), g1, (.slice a105 n106 c107), f94, hn103, ha_, (FrS.step e68.wf (FrS.step e68.wf ((FrS.step e68.wf (FrS.refl (W := [b60]) e68.wf) e90 Inn.refl').extR e119) e125 (hb120.fresh e90.n)) e132 Inn.nil), u184, u185, (i97.fresh (Nat.le_refl _))⟩
   have r186 := ite_f h110 hz102
   refine w_exit (th_exit (th_exit (bl_eq ?_)))
   obtain rfl := oi_ r186
   obtain rfl := it_inr hn103
   exact k85 _ _ ⟨(.slice a105 n106 c107), f94, ha_, (FrS.step e68.wf (FrS.refl (W := [b60]) e68.wf) e90 Inn.refl'), m92, m96, (i97.fresh (Nat.le_refl _))⟩
  obtain ⟨s80, f81, hh86, e77, m79, m83, i84⟩ := hM
  obtain ⟨β, rfl⟩ := has_ex hh86
  clear hh86
  obtain ⟨a187, n188, c189, rfl⟩ := m79.form
  refine k70 _ _ (w_seqk fun _ k190 => g_' (q_ (pt_ b60 1) ?_))
  refine l_' (.slice a187 n188 c189) (aL_ 57 (pt_ b60 1) H76) (m83.l_) ?_
  obtain ⟨g191, r192⟩ := G_some r75
  obtain ⟨y193, hy194, r195⟩ := bind_some r192
  refine s_ck 74 #[.slice a187 n188 c189, .func (.func 97) #[] #[]] (by kernel_rfl) (a_sortO (enc := enc_i64_i64_i64) (fun _ => rfl) (by intro x v hv; simp only [enc_i64_i64_i64, List.mem_cons, List.not_mem_nil, or_false] at hv; rcases hv with rfl | rfl | rfl <;> rfl) (by intro x v hv; simp only [enc_i64_i64_i64, List.mem_cons, List.not_mem_nil, or_false] at hv; rcases hv with rfl | rfl | rfl <;> rfl) (c := (fun (a_ b_ : Int × Int × Int) => z_hier_Graph_1 a_.1 a_.2.1 a_.2.2 b_.1 b_.2.1 b_.2.2)) (Go.Proofs.enters_of Try.func97 (by kernel_rfl) rfl) (fun x y r hr => (c_hier_Graph_1 aNil_wf hr).mono fun v H' h => h.1) e77.wf m79 g191 hy194) ?_
  rintro _ H196 ⟨rfl, e197, hm198⟩
  refine s_nil (k190 _ _ (w_seqk fun _ k199 => g_' ?_))
  have u200 := (m83.frS e197 (i84.djn (r64.ltF.le e68.n)))
  refine l_' (.agg #[i_ (Node.length : Int), .slice a187 n188 c189]) (aL_ 59 (pt_ b60 0) H196) (u200.l_) ?_
  have u205 := (((((r23.frS e40 Dj.nil_l).ext e62).frS e68 (hb63.djn (r23.ltF.le e40.n))).frS e77 (hb63.djn (r23.ltF.le e40.n))).frS e197 (i84.djn (r23.ltF.le (t_ (t_ e40.n e62.n) e68.n))))
  obtain ⟨H201, q202, e203, r204⟩ := Row.store (P := Try.prog) (t := 59) (p := 0) e197.wf u205 (.agg #[i_ (Node.length : Int), .slice a187 n188 c189]) [i_ (Node.length : Int), .slice a187 n188 c189] (by kernel_rfl) (by kernel_rfl) (one_cons (rfl) (one_cons (hm198.one1) (one_nil))) (Nat.le_of_ble_eq_true (by kernel_rfl)) [i_ (Node.length : Int), .slice a187 n188 c189] (by kernel_rfl)
  refine s_ek (undef) (by kernel_rfl) (map_ok q202) ?_
  refine q_ (.nilIface) (s_nil (k199 _ _ ?_))
  refine w_ret ?_
  refine b_ret (fn := Try.f38) (vs := [.agg #[i_ (Node.length : Int), .slice a187 n188 c189], .nilIface]) (aRes_cell (Eq.trans (b := aL_ 59 (pt_ b19 0) H201) (by kernel_rfl) (r204.l_)) (rt_ (rfl))) ?_
  have u206 := (hm198.fr e203 (Dj.symm (i84.djn (r23.ltF.le (t_ (t_ e40.n e62.n) e68.n)))))
  obtain rfl := oi_ r195
  exact ⟨(.slice a187 n188 c189), f81, (.nilIface), [], rfl, (FrS.step wf (FrS.step wf (FrS.step wf (FrS.step wf ((FrS.step wf (((f0_ wf).extR e15).extR e21) e40 Inn.nil).extR e62) e68 (hb63.fresh (t_ (t_ e15.n e21.n) e40.n))) e77 (hb63.fresh (t_ (t_ e15.n e21.n) e40.n))) e197 (i84.fresh (t_ (t_ (t_ (t_ e15.n e21.n) e40.n) e62.n) e68.n))) e203 (hb22.fresh e15.n)), u206, Ev.nil, (i84.fresh (t_ (t_ (t_ (t_ e15.n e21.n) e40.n) e62.n) e68.n)), Inn.nil, Dj.nil_r⟩
 have r207 := ite_f h53 r34
 refine l_' (.bool true) (aBin Try.prog .neq 31 (.tmp 14) (.const .nilIface) (.iface t54 x55) .nilIface) (aBin_nnil (by kernel_rfl)) ?_
 refine s_nil (k52 _ _ ?_)
 refine w_cond true (by kernel_rfl) rfl (fun _ => ?_) (fun h => by cases h)
 refine w_seqk fun _ k208 => g_' (q_ (.agg #[i_ 0, .slice none 0 0]) (q_ (.iface t54 x55) ?_))
 have u213 := (r23.frS e40 Dj.nil_l)
 obtain ⟨H209, q210, e211, r212⟩ := Row.store (P := Try.prog) (t := 59) (p := 0) e40.wf u213 (.agg #[i_ 0, .slice none 0 0]) [i_ 0, .slice none 0 0] (by kernel_rfl) (by kernel_rfl) (one_cons (rfl) (one_cons (rfl) (one_nil))) (Nat.le_of_ble_eq_true (by kernel_rfl)) [i_ 0, .slice none 0 0] (by kernel_rfl)
 refine s_ek (undef) (by kernel_rfl) (map_ok q210) ?_
 refine q_ (.iface t54 x55) (s_nil (k208 _ _ ?_))
 refine w_ret (th_ret ?_)
 refine b_ret (fn := Try.f38) (vs := [.agg #[i_ 0, .slice none 0 0], .iface t54 x55]) (aRes_cell (Eq.trans (b := aL_ 59 (pt_ b19 0) H209) (by kernel_rfl) (r212.l_)) (rt_ (rfl))) ?_
 have u214 := (m42.fr e211 (Dj.symm (i44.djn r23.ltF)))
 obtain rfl := oi_ r207
 exact ⟨(.slice none 0 0), [], (.iface t54 x55), f38, rfl, (FrS.step wf (FrS.step wf (((f0_ wf).extR e15).extR e21) e40 Inn.nil) e211 (hb22.fresh e15.n)), (Ow.nil (by decide)), u214, Inn.nil, (i44.fresh (t_ e15.n e21.n)), Dj.nil_l⟩
theorem c_hier_Ends {H : AH} {hd_Node : Value} {fp_Node : Fp} {hd_UpFirst : Value} {fp_UpFirst : Fp} {hd_Up : Value} {fp_Up : Fp} {hd_DownFirst : Value} {fp_DownFirst : Fp} {hd_Down : Value} {fp_Down : Fp} {Node : List (Int)} {UpFirst : List (Int)} {Up : List (Int × Int × Int × Int)} {DownFirst : List (Int)} {Down : List (Int × Int × Int × Int)} {i : Int} {r : Int × Int × Er}
    (wf : WF H) (h_Node : Sq (encI .u32) 1 H hd_Node Node fp_Node) (h_UpFirst : Sq (encI .u32) 1 H hd_UpFirst UpFirst fp_UpFirst) (h_Up : Sq enc_u32_u64_u32_u32 4 H hd_Up Up fp_Up) (h_DownFirst : Sq (encI .u32) 1 H hd_DownFirst DownFirst fp_DownFirst) (h_Down : Sq enc_u32_u64_u32_u32 4 H hd_Down Down fp_Down) (hr : z_hier_Ends Node UpFirst Up DownFirst Down i = some r) :
    ACalls Try.prog 87 #[.agg #[hd_Node, hd_UpFirst, hd_Up, hd_DownFirst, hd_Down], i_ i] H fun v H' => ∃ (v3 : Value) (f4 : Fp), v = .tuple #[i_ r.1, i_ r.2.1, v3] ∧ FrS [] H H' ∧ Ev 122 235 H' v3 r.2.2 f4 ∧ Inn [] H f4 := by
 refine acalls_of_body mixed Try.func87 rfl (Nat.le_of_ble_eq_true rfl) ?_
 unfold z_hier_Ends at hr
 refine w_seqk fun _ k6 => g_' ?_
 refine s_rwl wf [hd_Node, hd_UpFirst, hd_Up, hd_DownFirst, hd_Down] (one_cons (h_Node.one1) (one_cons (h_UpFirst.one1) (one_cons (h_Up.one1) (one_cons (h_DownFirst.one1) (one_cons (h_Down.one1) (one_nil)))))) (by kernel_rfl) fun b7 H8 e9 hb10 r11 => ?_
 refine q_ (i_ 0) (q_ (i_ 0) (q_ (.nilIface) (s_nil (k6 _ _ (w_seqk fun _ k13 => g_' ?_)))))
 refine l_' (.agg #[hd_Node, hd_UpFirst, hd_Up, hd_DownFirst, hd_Down]) (aL_ 81 (pt_ b7 0) H8) (r11.l_) ?_
 have u14 := (h_Node.ext e9)
 have u15 := (h_UpFirst.ext e9)
 have u16 := (h_Up.ext e9)
 have u17 := (h_DownFirst.ext e9)
 have u18 := (h_Down.ext e9)
 obtain ⟨y19, hy20, r21⟩ := bind_some hr
 refine s_ck 95 #[.agg #[hd_Node, hd_UpFirst, hd_Up, hd_DownFirst, hd_Down]] (by kernel_rfl) (c_hier_ends e9.wf u14 u15 u16 u17 u18 hy20) ?_
 rintro _ H26 ⟨s22, f23, v24, f25, rfl, e27, m28, m29, i30, i31, d32⟩
 obtain ⟨a35, n36, c37, rfl⟩ := m28.form
 refine q_ (.tuple #[.slice a35 n36 c37, v24]) (q_ (.slice a35 n36 c37) (q_ (v24) (q_ (.slice a35 n36 c37) (q_ (v24) (s_nil (k13 _ _ (w_seqk fun _ k38 => w_seqk fun _ k39 => g_' (q_ (v24) ?_))))))))
 rcases (m29).cases with ⟨h40, rfl⟩ | ⟨h40, t41, x42, rfl⟩
 ·have r43 := ite_t h40 r21
  refine q_ (.bool false) (s_nil (k39 _ _ ?_))
  refine w_cond false (by kernel_rfl) rfl (fun h => by cases h) (fun _ => ?_)
  refine w_skip (k38 _ _ (w_seqk fun _ k44 => w_seqk fun _ k45 => ?_))
  obtain ⟨o46, hx47, r48⟩ := bind_some r43
  refine w_mid (fun α H49 => Has α [(1, i_ i), (7, .slice a35 n36 c37), (24, .bool o46)] ∧ H26 = H49) (fun _ k51 => ?_) (fun α H49 hM => ?_)
  ·refine g_' (q_ (i_ i) ?_)
   refine s_b (i < 0) (by kernel_rfl) (fun h53 => ?_) (fun h53 => ?_)
   ·have r54 := ite_t h53 hx47
    refine q_ (.bool true) (n_' (n_' (n_' (n_' (q_ (.bool true) (s_nil ?_))))))
    obtain rfl := oi_ r54
    exact k51 _ _ ⟨ha_, rfl⟩
   have r55 := ite_f h53 hx47
   refine q_ (.bool false) (q_ (i_ i) (q_ (.slice a35 n36 c37) ?_))
   refine l_' (i_ (y19.1.length : Int)) (aLen Try.prog 160 (.slice a35 n36 c37) H26) (m28.sq.lenb (by kernel_rfl)) ?_
   refine q_ (.bool (decide (i ≥ (y19.1.length : Int)))) (q_ (.bool (decide (i ≥ (y19.1.length : Int)))) (s_nil ?_))
   obtain rfl := oi_ r55
   exact k51 _ _ ⟨ha_, rfl⟩
  obtain ⟨hh52, rfl⟩ := hM
  obtain ⟨β, rfl⟩ := has_ex hh52
  clear hh52
  refine k45 _ _ ?_
  refine w_cond (o46) (by kernel_rfl) rfl (fun h56 => ?_) (fun h56 => ?_)
  ·have r57 := ite_t h56 r48
   refine w_seqk fun _ k58 => g_' (q_ (.iface 122 (i_ 1)) (q_ (i_ 0) (q_ (i_ 0) (q_ (.iface 122 (i_ 1)) (s_nil (k58 _ _ ?_))))))
   refine w_ret (th_ret ?_)
   refine b_ret (fn := Try.f87) (vs := [i_ 0, i_ 0, .iface 122 (i_ 1)]) (rt_ (aRes_tmp (by kernel_rfl) (aRes_tmp (by kernel_rfl) (rfl)))) ?_
   obtain rfl := oi_ r57
   exact ⟨(.iface 122 (i_ 1)), [], rfl, (FrS.step wf ((f0_ wf).extR e9) e27 Inn.nil), Ev.no, Inn.nil⟩
  have r59 := ite_bf h56 r48
  refine w_skip (k44 _ _ (w_seqk fun _ k60 => ?_))
  refine w_draw [0, 1, 2, 3, 4, 5, 6, 7, 8, 9, 10, 11, 12] (by kernel_rfl) ?_
  refine e_' (.slice a35 n36 c37) (e_' (i_ i) ?_)
  obtain ⟨g61, r62⟩ := G_some r59
  refine m_' (elp (.slice a35 n36 c37) 7 i.toNat 0) (aIndexAddr Try.prog 160 (.slice a35 n36 c37) (i_ i)) (m28.sq.idxb (by kernel_rfl) g61.1 g61.2) ?_
  refine m_' (elp (.slice a35 n36 c37) 7 i.toNat 4) (aFieldAddr Try.prog 164 (elp (.slice a35 n36 c37) 7 i.toNat 0) 1) (Sq.fldq (d := 4) m28.sq g61.1 g61.2 (by kernel_rfl)) ?_
  refine m_' (i_ ((gt y19.1 i).2.2.2.2.1)) (aL_ 3 (elp (.slice a35 n36 c37) 7 i.toNat 4) H26) (m28.sq.ld g61.1 g61.2 (by kernel_rfl)) ?_
  refine e_' (.slice a35 n36 c37) (e_' (i_ i) ?_)
  refine m_' (elp (.slice a35 n36 c37) 7 i.toNat 0) (aIndexAddr Try.prog 160 (.slice a35 n36 c37) (i_ i)) (m28.sq.idxb (by kernel_rfl) g61.1 g61.2) ?_
  refine m_' (elp (.slice a35 n36 c37) 7 i.toNat 5) (aFieldAddr Try.prog 164 (elp (.slice a35 n36 c37) 7 i.toNat 0) 2) (Sq.fldq (d := 5) m28.sq g61.1 g61.2 (by kernel_rfl)) ?_
  refine m_' (i_ ((gt y19.1 i).2.2.2.2.2.1)) (aL_ 3 (elp (.slice a35 n36 c37) 7 i.toNat 5) H26) (m28.sq.ld g61.1 g61.2 (by kernel_rfl)) ?_
  refine e_' (i_ ((gt y19.1 i).2.2.2.2.1)) (e_' (i_ ((gt y19.1 i).2.2.2.2.2.1)) (e_' (.nilIface) ?_))
  refine d_nil ?_
  refine k60 _ _ ?_
  refine w_ret ?_
  refine b_ret (fn := Try.f87) (vs := [i_ ((gt y19.1 i).2.2.2.2.1), i_ ((gt y19.1 i).2.2.2.2.2.1), .nilIface]) (rt_ (aRes_tmp (by kernel_rfl) (aRes_tmp (by kernel_rfl) (rfl)))) ?_
  obtain rfl := oi_ r62
  exact ⟨(.nilIface), [], rfl, (FrS.step wf ((f0_ wf).extR e9) e27 Inn.nil), Ev.nil, Inn.nil⟩
 have r63 := ite_f h40 r21
 refine l_' (.bool true) (aBin Try.prog .neq 31 (.tmp 14) (.const .nilIface) (.iface t41 x42) .nilIface) (aBin_nnil (by kernel_rfl)) ?_
 refine s_nil (k39 _ _ ?_)
 refine w_cond true (by kernel_rfl) rfl (fun _ => ?_) (fun h => by cases h)
 refine w_seqk fun _ k64 => g_' (q_ (.iface t41 x42) (q_ (i_ 0) (q_ (i_ 0) (q_ (.iface t41 x42) (s_nil (k64 _ _ ?_))))))
 refine w_ret (th_ret ?_)
 refine b_ret (fn := Try.f87) (vs := [i_ 0, i_ 0, .iface t41 x42]) (rt_ (aRes_tmp (by kernel_rfl) (aRes_tmp (by kernel_rfl) (rfl)))) ?_
 obtain rfl := oi_ r63
 exact ⟨(.iface t41 x42), f25, rfl, (FrS.step wf ((f0_ wf).extR e9) e27 Inn.nil), m29, (i31.fresh e9.n)⟩
theorem c_hier_Check {H : AH} {hd_Node : Value} {fp_Node : Fp} {hd_UpFirst : Value} {fp_UpFirst : Fp} {hd_Up : Value} {fp_Up : Fp} {hd_DownFirst : Value} {fp_DownFirst : Fp} {hd_Down : Value} {fp_Down : Fp} {Node : List (Int)} {UpFirst : List (Int)} {Up : List (Int × Int × Int × Int)} {DownFirst : List (Int)} {Down : List (Int × Int × Int × Int)} {r : Er}
    (wf : WF H) (h_Node : Sq (encI .u32) 1 H hd_Node Node fp_Node) (h_UpFirst : Sq (encI .u32) 1 H hd_UpFirst UpFirst fp_UpFirst) (h_Up : Sq enc_u32_u64_u32_u32 4 H hd_Up Up fp_Up) (h_DownFirst : Sq (encI .u32) 1 H hd_DownFirst DownFirst fp_DownFirst) (h_Down : Sq enc_u32_u64_u32_u32 4 H hd_Down Down fp_Down) (hr : z_hier_Check Node UpFirst Up DownFirst Down = some r) :
    ACalls Try.prog 88 #[.agg #[hd_Node, hd_UpFirst, hd_Up, hd_DownFirst, hd_Down]] H fun v H' => ∃ (v3 : Value) (f4 : Fp), v = v3 ∧ FrS [] H H' ∧ Ev 122 235 H' v3 r f4 ∧ Inn [] H f4 := by
 refine acalls_of_body mixed Try.func88 rfl (Nat.le_of_ble_eq_true rfl) ?_
 unfold z_hier_Check at hr
 refine w_seqk fun _ k6 => g_' ?_
 refine s_rwl wf [hd_Node, hd_UpFirst, hd_Up, hd_DownFirst, hd_Down] (one_cons (h_Node.one1) (one_cons (h_UpFirst.one1) (one_cons (h_Up.one1) (one_cons (h_DownFirst.one1) (one_cons (h_Down.one1) (one_nil)))))) (by kernel_rfl) fun b7 H8 e9 hb10 r11 => ?_
 refine q_ (.nilIface) (s_nil (k6 _ _ (w_seqk fun _ k13 => g_' ?_)))
 refine l_' (.agg #[hd_Node, hd_UpFirst, hd_Up, hd_DownFirst, hd_Down]) (aL_ 81 (pt_ b7 0) H8) (r11.l_) ?_
 have u14 := (h_Node.ext e9)
 have u15 := (h_UpFirst.ext e9)
 have u16 := (h_Up.ext e9)
 have u17 := (h_DownFirst.ext e9)
 have u18 := (h_Down.ext e9)
 obtain ⟨y19, hy20, r21⟩ := bind_some hr
 refine s_ck 95 #[.agg #[hd_Node, hd_UpFirst, hd_Up, hd_DownFirst, hd_Down]] (by kernel_rfl) (c_hier_ends e9.wf u14 u15 u16 u17 u18 hy20) ?_
 rintro _ H26 ⟨s22, f23, v24, f25, rfl, e27, m28, m29, i30, i31, d32⟩
 obtain ⟨a35, n36, c37, rfl⟩ := m28.form
 refine q_ (.tuple #[.slice a35 n36 c37, v24]) (q_ (.slice a35 n36 c37) (q_ (v24) (q_ (.slice a35 n36 c37) (q_ (v24) (s_nil (k13 _ _ (w_seqk fun _ k38 => g_' (q_ (v24) (q_ (v24) (s_nil (k38 _ _ ?_)))))))))))
 refine w_ret ?_
 refine b_ret (fn := Try.f88) (vs := [v24]) (rt_ (rfl)) ?_
 obtain rfl := oi_ r21
 exact ⟨(v24), f25, rfl, (FrS.step wf ((f0_ wf).extR e9) e27 Inn.nil), m29, (i31.fresh e9.n)⟩
theorem c_viaductref03_SameArcs {H : AH} {hd_a : Value} {fp_a : Fp} {hd_b : Value} {fp_b : Fp} {a : List (Int × Int × Int)} {b : List (Int × Int × Int)} {r : Bool}
    (wf : WF H) (h_a : Sq enc_i64_i64_i64 3 H hd_a a fp_a) (h_b : Sq enc_i64_i64_i64 3 H hd_b b fp_b) (hr : z_viaductref03_SameArcs a b = some r) :
    ACalls Try.prog 80 #[hd_a, hd_b] H fun v H' => v = .bool r ∧ H = H' := by
 refine acalls_of_body mixed Try.func80 rfl (Nat.le_of_ble_eq_true rfl) ?_
 unfold z_viaductref03_SameArcs at hr
 refine w_seqk fun _ k1 => g_' (q_ (.bool false) (s_nil (k1 _ _ (w_seqk fun _ k2 => w_seqk fun _ k3 => g_' (q_ (hd_a) ?_)))))
 refine l_' (i_ (a.length : Int)) (aLen Try.prog 57 hd_a H) (h_a.lenb (by kernel_rfl)) ?_
 refine q_ (hd_b) ?_
 refine l_' (i_ (b.length : Int)) (aLen Try.prog 57 hd_b H) (h_b.lenb (by kernel_rfl)) ?_
 refine q_ (.bool (!decide ((a.length : Int) = (b.length : Int)))) (s_nil (k3 _ _ ?_))
 refine w_condn ((a.length : Int) = (b.length : Int)) (by kernel_rfl) rfl (fun h4 => ?_) (fun h4 => ?_)
 ·have r5 := ite_f h4 hr
  refine w_seqk fun _ k6 => g_' (q_ (.bool false) (s_nil (k6 _ _ ?_)))
  refine w_ret (th_ret ?_)
  refine b_ret (fn := Try.f80) (vs := [.bool false]) (rt_ (rfl)) ?_
  obtain rfl := oi_ r5
  exact ⟨rfl, rfl⟩
 have r7 := ite_t h4 hr
 refine w_skip (k2 _ _ (w_seqk fun _ k8 => w_seqk fun _ k9 => g_' (q_ (hd_a) ?_)))
 refine l_' (i_ (a.length : Int)) (aLen Try.prog 57 hd_a H) (h_a.lenb (by kernel_rfl)) ?_
 refine q_ (i_ 0) (s_nil (k9 _ _ ?_))
 obtain ⟨z13, hx11, r12⟩ := bind_some r7
 refine w_mid (fun α H14 => ∃ o10, z13 = Sum.inr o10 ∧ Has α [] ∧ H = H14) (fun _ k16 => ?_) (fun α H14 hM => ?_)
 ·refine w_block ?_
  obtain ⟨n18, hn19⟩ := loopO_iff.1 hx11
  refine w_loopn (fun n α H20 => ∃ (i0 : Int), iterO (fun zz_ => z_viaductref03_SameArcs_l0 a b zz_) n i0 = some z13 ∧ Has α [(0, hd_a), (1, hd_b), (12, i_ (a.length : Int)), (13, i_ i0)] ∧ H = H20) n18 ⟨0, hn19, ha_, rfl⟩ ?_
  rintro n18 α H20 ⟨i0, hi23, hh22, rfl⟩ K28 k28
  obtain ⟨n24, z25, rfl, hz26, hn27⟩ := iter_succ hi23
  obtain ⟨β, rfl⟩ := has_ex hh22
  clear hh22
  replace hz26 : z_viaductref03_SameArcs_l0 a b i0 = some z25 := hz26
  unfold z_viaductref03_SameArcs_l0 at hz26
  refine w_seqk fun _ k29 => g_' (q_ (.bool (decide (i0 < (a.length : Int)))) (s_nil (k29 _ _ (w_seqk fun _ k30 => ?_))))
  refine w_condp (i0 < (a.length : Int)) (by kernel_rfl) rfl (fun h31 => ?_) (fun h31 => ?_)
  ·have r32 := ite_t h31 hz26
   refine w_skip (k30 _ _ (w_seqk fun _ k33 => w_block (w_seqk fun _ k34 => g_' (q_ (i_ i0) (q_ (i_ i0) (s_nil (k34 _ _ (w_seqk fun _ k35 => ?_))))))))
   refine w_draw [0, 1, 2, 3, 4, 5, 6, 7, 8] (by kernel_rfl) ?_
   refine e_' (hd_a) (e_' (i_ i0) ?_)
   obtain ⟨g36, r37⟩ := G_some r32
   refine m_' (elp hd_a 3 i0.toNat 0) (aIndexAddr Try.prog 57 hd_a (i_ i0)) (h_a.idxb (by kernel_rfl) g36 h31) ?_
   refine m_' (.agg #[i_ ((gt a i0).1), i_ ((gt a i0).2.1), i_ ((gt a i0).2.2)]) (aL_ 73 (elp hd_a 3 i0.toNat 0) H) (h_a.ld g36 h31 (by kernel_rfl)) ?_
   refine e_' (hd_b) (e_' (i_ i0) ?_)
   obtain ⟨g38, r39⟩ := G_some r37
   refine m_' (elp hd_b 3 i0.toNat 0) (aIndexAddr Try.prog 57 hd_b (i_ i0)) (h_b.idxb (by kernel_rfl) g36 g38) ?_
   refine m_' (.agg #[i_ ((gt b i0).1), i_ ((gt b i0).2.1), i_ ((gt b i0).2.2)]) (aL_ 73 (elp hd_b 3 i0.toNat 0) H) (h_b.ld g36 g38 (by kernel_rfl)) ?_
   refine m_' (.bool (!decide (((gt a i0).1) = ((gt b i0).1) ∧ ((gt a i0).2.1) = ((gt b i0).2.1) ∧ ((gt a i0).2.2) = ((gt b i0).2.2)))) (aBin Try.prog .neq 73 (.tmp 19) (.tmp 23) (.agg #[i_ ((gt a i0).1), i_ ((gt a i0).2.1), i_ ((gt a i0).2.2)]) (.agg #[i_ ((gt b i0).1), i_ ((gt b i0).2.1), i_ ((gt b i0).2.2)])) (aBin_neq73 _ _ ((gt a i0).1) ((gt a i0).2.1) ((gt a i0).2.2) ((gt b i0).1) ((gt b i0).2.1) ((gt b i0).2.2)) ?_
   refine d_nil ?_
   refine k35 _ _ ?_
   refine w_condn (((gt a i0).1) = ((gt b i0).1) ∧ ((gt a i0).2.1) = ((gt b i0).2.1) ∧ ((gt a i0).2.2) = ((gt b i0).2.2)) (by kernel_rfl) rfl (fun h40 => ?_) (fun h40 => ?_)
   ·have r41 := ite_f h40 r39
    refine w_seqk fun _ k42 => g_' (q_ (.bool false) (s_nil (k42 _ _ ?_)))
    refine w_ret (bl_ret (th_ret (th_ret (bl_ret (th_ret (th_ret ?_))))))
    obtain ⟨v43, hv44, hz45⟩ := map_some r41
    subst hz45
    obtain rfl := it_inr hn27
    have hq46 := elim_inl r12
    rw [hq46] at hv44
    refine b_ret (fn := Try.f80) (vs := [.bool false]) (rt_ (rfl)) ?_
    obtain rfl := oi_ hv44
    exact ⟨rfl, rfl⟩
   have r47 := ite_t h40 r39
   refine w_skip (k33 _ _ (g_' ?_))
   obtain ⟨g48, r49⟩ := G_some r47
   refine w_' (i0 + 1) (wrap64 (by have := g48; omega)) ?_
   refine q_ (i_ (i0 + 1)) (s_nil ?_)
   obtain rfl := oi_ r49
   exact k28 n24 _ _ (Nat.lt_succ_self _) ⟨(i0 + 1), hn27, ha_, rfl⟩
  have r50 := ite_f h31 hz26
  refine w_exit (th_exit (th_exit (bl_eq ?_)))
  obtain rfl := oi_ r50
  obtain rfl := it_inr hn27
  exact k16 _ _ ⟨_, rfl, trivial, rfl⟩
 obtain ⟨o10, rfl, hh17, rfl⟩ := hM
 have r51 := elim_inr r12
 obtain ⟨β, rfl⟩ := has_ex hh17
 clear hh17
 refine k8 _ _ (w_seqk fun _ k52 => g_' (q_ (.bool true) (s_nil (k52 _ _ ?_))))
 refine w_ret ?_
 refine b_ret (fn := Try.f80) (vs := [.bool true]) (rt_ (rfl)) ?_
 obtain rfl := oi_ r51
 exact ⟨rfl, rfl⟩
theorem c_viaductref03_Same {H : AH} {hd_Arcs : Value} {fp_Arcs : Fp} {hd_Arcs_ : Value} {fp_Arcs_ : Fp} {N_ : Int} {Arcs : List (Int × Int × Int)} {N_2 : Int} {Arcs_ : List (Int × Int × Int)} {r : Bool}
    (wf : WF H) (h_Arcs : Sq enc_i64_i64_i64 3 H hd_Arcs Arcs fp_Arcs) (h_Arcs_ : Sq enc_i64_i64_i64 3 H hd_Arcs_ Arcs_ fp_Arcs_) (hr : z_viaductref03_Same N_ Arcs N_2 Arcs_ = some r) :
    ACalls Try.prog 33 #[.agg #[i_ N_, hd_Arcs], .agg #[i_ N_2, hd_Arcs_]] H fun v H' => v = .bool r ∧ FrS [] H H' := by
 refine acalls_of_body mixed Try.func33 rfl (Nat.le_of_ble_eq_true rfl) ?_
 unfold z_viaductref03_Same at hr
 refine w_seqk fun _ k1 => g_' ?_
 refine s_rwl wf [i_ N_, hd_Arcs] (one_cons (rfl) (one_cons (h_Arcs.one1) (one_nil))) (by kernel_rfl) fun b2 H3 e4 hb5 r6 => ?_
 have u13 := (h_Arcs_.ext e4)
 refine s_rwl e4.wf [i_ N_2, hd_Arcs_] (one_cons (rfl) (one_cons (u13.one1) (one_nil))) (by kernel_rfl) fun b8 H9 e10 hb11 r12 => ?_
 refine q_ (.bool false) (s_nil (k1 _ _ (w_seqk fun _ k15 => g_' (q_ (pt_ b2 0) ?_))))
 have u16 := (r6.ext e10)
 refine l_' (i_ N_) (aL_ 3 (pt_ b2 0) H9) (u16.l_) ?_
 refine q_ (pt_ b8 0) ?_
 refine l_' (i_ N_2) (aL_ 3 (pt_ b8 0) H9) (r12.l_) ?_
 refine s_b (N_ = N_2) (by kernel_rfl) (fun h17 => ?_) (fun h17 => ?_)
 ·have r18 := ite_t h17 hr
  refine q_ (.bool true) (q_ (pt_ b2 1) ?_)
  refine l_' (hd_Arcs) (aL_ 57 (pt_ b2 1) H9) (u16.l_) ?_
  refine q_ (pt_ b8 1) ?_
  refine l_' (hd_Arcs_) (aL_ 57 (pt_ b8 1) H9) (r12.l_) ?_
  have u19 := ((h_Arcs.ext e4).ext e10)
  have u20 := (u13.ext e10)
  obtain ⟨y21, hy22, r23⟩ := bind_some r18
  refine s_ck 80 #[hd_Arcs, hd_Arcs_] (by kernel_rfl) (c_viaductref03_SameArcs e10.wf u19 u20 hy22) ?_
  rintro _ _ ⟨rfl, rfl⟩
  refine q_ (.bool y21) (q_ (.bool y21) (s_nil (k15 _ _ ?_)))
  refine w_ret ?_
  refine b_ret (fn := Try.f33) (vs := [.bool y21]) (rt_ (rfl)) ?_
  obtain rfl := oi_ r23
  exact ⟨rfl, (((f0_ wf).extR e4).extR e10)⟩
 have r26 := ite_f h17 hr
 refine q_ (.bool false) (n_' (n_' (n_' (n_' (n_' (q_ (.bool false) (q_ (.bool false) (s_nil (k15 _ _ ?_)))))))))
 refine w_ret ?_
 refine b_ret (fn := Try.f33) (vs := [.bool false]) (rt_ (rfl)) ?_
 obtain rfl := oi_ r26
 exact ⟨rfl, (((f0_ wf).extR e4).extR e10)⟩
theorem c_viaductlaw10_awake {H : AH} {r : Bool}
    (wf : WF H) (hr : z_viaductlaw10_awake = some r) :
    ACalls Try.prog 34 #[] H fun v H' => v = .bool r ∧ FrS [] H H' := by
 refine acalls_of_body mixed Try.func34 rfl (Nat.le_of_ble_eq_true rfl) ?_
 unfold z_viaductlaw10_awake at hr
 refine w_seqk fun _ k1 => g_' (q_ (.bool false) (s_nil (k1 _ _ (w_seqk fun _ k2 => g_' ?_))))
 obtain ⟨y3, hy4, r5⟩ := bind_some hr
 refine s_ck 86 #[] (by kernel_rfl) (c_viaductref10_Three wf hy4) ?_
 rintro _ H16 ⟨s6, f7, s8, f9, s10, f11, s12, f13, s14, f15, rfl, e17, m18, m19, m20, m21, m22, i23, i24, i25, i26, i27, d28, d29, d30, d31, d32, d33, d34, d35, d36, d37⟩
 obtain ⟨a43, n44, c45, rfl⟩ := m18.form
 obtain ⟨a46, n47, c48, rfl⟩ := m19.form
 obtain ⟨a49, n50, c51, rfl⟩ := m20.form
 obtain ⟨a52, n53, c54, rfl⟩ := m21.form
 obtain ⟨a55, n56, c57, rfl⟩ := m22.form
 obtain ⟨y58, hy59, r60⟩ := bind_some r5
 refine s_ck 38 #[.agg #[.slice a43 n44 c45, .slice a46 n47 c48, .slice a49 n50 c51, .slice a52 n53 c54, .slice a55 n56 c57]] (by kernel_rfl) (c_hier_Graph e17.wf m18.sq m19.sq m20.sq m21.sq m22.sq hy59) ?_
 rintro _ H65 ⟨s61, f62, v63, f64, rfl, e66, m67, m68, i69, i70, d71⟩
 obtain ⟨a74, n75, c76, rfl⟩ := m67.form
 refine q_ (.tuple #[.agg #[i_ y58.1, .slice a74 n75 c76], v63]) (q_ (.agg #[i_ y58.1, .slice a74 n75 c76]) (q_ (v63) ?_))
 refine s_rwk e66.wf [i_ 0, .slice none 0 0] (by kernel_rfl) fun b77 H78 e79 hb80 r81 => ?_
 have u87 := (m67.ext e79)
 obtain ⟨H83, q84, e85, r86⟩ := Row.store (P := Try.prog) (t := 59) (p := 0) e79.wf r81 (.agg #[i_ y58.1, .slice a74 n75 c76]) [i_ y58.1, .slice a74 n75 c76] (by kernel_rfl) (by kernel_rfl) (one_cons (rfl) (one_cons (u87.one1) (one_nil))) (Nat.le_of_ble_eq_true (by kernel_rfl)) [i_ y58.1, .slice a74 n75 c76] (by kernel_rfl)
 refine s_ek (undef) (by kernel_rfl) (map_ok q84) ?_
 refine q_ (v63) (s_nil (k2 _ _ (w_seqk fun _ k88 => g_' ?_)))
 obtain ⟨y89, hy90, r91⟩ := bind_some r60
 refine s_ck 86 #[] (by kernel_rfl) (c_viaductref10_Three e85.wf hy90) ?_
 rintro _ H102 ⟨s92, f93, s94, f95, s96, f97, s98, f99, s100, f101, rfl, e103, m104, m105, m106, m107, m108, i109, i110, i111, i112, i113, d114, d115, d116, d117, d118, d119, d120, d121, d122, d123⟩
 obtain ⟨a129, n130, c131, rfl⟩ := m104.form
 obtain ⟨a132, n133, c134, rfl⟩ := m105.form
 obtain ⟨a135, n136, c137, rfl⟩ := m106.form
 obtain ⟨a138, n139, c140, rfl⟩ := m107.form
 obtain ⟨a141, n142, c143, rfl⟩ := m108.form
 obtain ⟨y144, hy145, r146⟩ := bind_some r91
 refine s_ck 87 #[.agg #[.slice a129 n130 c131, .slice a132 n133 c134, .slice a135 n136 c137, .slice a138 n139 c140, .slice a141 n142 c143], i_ 2] (by kernel_rfl) (c_hier_Ends e103.wf m104.sq m105.sq m106.sq m107.sq m108.sq hy145) ?_
 rintro _ H149 ⟨v147, f148, rfl, e150, m151, i152⟩
 refine q_ (.tuple #[i_ y144.1, i_ y144.2.1, v147]) (q_ (i_ y144.1) (q_ (i_ y144.2.1) (q_ (v147) (q_ (i_ y144.1) (q_ (i_ y144.2.1) (q_ (v147) (s_nil (k88 _ _ (w_seqk fun _ k154 => g_' (q_ (v63) ?_))))))))))
 have u158 := ((((m68.ext e79).fr e85 (hb80.djn m68.lt)).fr e103 Dj.nil_l).fr e150 Dj.nil_l)
 rcases (u158).cases with ⟨h155, rfl⟩ | ⟨h155, t156, x157, rfl⟩
 ·have r159 := ite_t h155 r146
  refine q_ (.bool true) (q_ (.bool true) (q_ (v147) ?_))
  rcases (m151).cases with ⟨h160, rfl⟩ | ⟨h160, t161, x162, rfl⟩
  ·have r163 := ite_t h160 r159
   refine q_ (.bool true) (q_ (.bool true) (q_ (.bool true) (q_ (i_ y144.1) ?_)))
   refine s_b (y144.1 = 1) (by kernel_rfl) (fun h164 => ?_) (fun h164 => ?_)
   ·have r165 := ite_t h164 r163
    refine q_ (.bool true) (q_ (.bool true) (q_ (i_ y144.2.1) ?_))
    refine s_b (y144.2.1 = 0) (by kernel_rfl) (fun h166 => ?_) (fun h166 => ?_)
    ·have r167 := ite_t h166 r165
     refine q_ (.bool true) (q_ (.bool true) ?_)
     obtain ⟨y168, hy169, r170⟩ := bind_some r167
     refine s_ck 86 #[] (by kernel_rfl) (c_viaductref10_Three e150.wf hy169) ?_
     rintro _ H181 ⟨s171, f172, s173, f174, s175, f176, s177, f178, s179, f180, rfl, e182, m183, m184, m185, m186, m187, i188, i189, i190, i191, i192, d193, d194, d195, d196, d197, d198, d199, d200, d201, d202⟩
     obtain ⟨a208, n209, c210, rfl⟩ := m183.form
     obtain ⟨a211, n212, c213, rfl⟩ := m184.form
     obtain ⟨a214, n215, c216, rfl⟩ := m185.form
     obtain ⟨a217, n218, c219, rfl⟩ := m186.form
     obtain ⟨a220, n221, c222, rfl⟩ := m187.form
     obtain ⟨y223, hy224, r225⟩ := bind_some r170
     refine s_ck 88 #[.agg #[.slice a208 n209 c210, .slice a211 n212 c213, .slice a214 n215 c216, .slice a217 n218 c219, .slice a220 n221 c222]] (by kernel_rfl) (c_hier_Check e182.wf m183.sq m184.sq m185.sq m186.sq m187.sq hy224) ?_
     rintro v226 H228 ⟨_, f227, rfl, e229, m230, i231⟩
     rcases (m230).cases with ⟨h233, rfl⟩ | ⟨h233, t234, x235, rfl⟩
     ·have r236 := ite_t h233 r225
      refine q_ (.bool true) (q_ (.bool true) (q_ (.bool true) ?_))
      have u237 := ((((r86.frS e103 Dj.nil_l).frS e150 Dj.nil_l).frS e182 Dj.nil_l).frS e229 Dj.nil_l)
      refine l_' (.agg #[i_ y58.1, .slice a74 n75 c76]) (aL_ 59 (pt_ b77 0) H228) (u237.l_) ?_
      refine q_ (.agg #[i_ 0, i_ 1, i_ 4]) (q_ (.agg #[i_ 1, i_ 2, i_ 1]) ?_)
      refine s_owk (enc := enc_i64_i64_i64) (sz := 3) e229.wf [(0, 1, 4), (1, 2, 1)] 2 (by decide) (fun _ _ => rfl) (fun _ _ => rfl) rfl (by kernel_rfl) fun s238 f239 H240 e241 hf242 hm243 => ?_
      obtain ⟨a244, n245, c246, rfl⟩ := hm243.form
      refine q_ (.agg #[i_ 3, .slice a244 n245 c246]) ?_
      have u248 := ((((((u87.fr e85 (hb80.djn m67.lt)).fr e103 Dj.nil_l).fr e150 Dj.nil_l).fr e182 Dj.nil_l).fr e229 Dj.nil_l).ext e241)
      obtain ⟨y249, hy250, r251⟩ := bind_some r236
      refine s_ck 33 #[.agg #[i_ y58.1, .slice a74 n75 c76], .agg #[i_ 3, .slice a244 n245 c246]] (by kernel_rfl) (c_viaductref03_Same e241.wf u248.sq hm243.sq hy250) ?_
      rintro _ H252 ⟨rfl, e253⟩
      refine q_ (.bool y249) (q_ (.bool y249) (s_nil (k154 _ _ ?_)))
      refine w_ret ?_
      refine b_ret (fn := Try.f34) (vs := [.bool y249]) (rt_ (rfl)) ?_
      obtain rfl := oi_ r251
      exact ⟨rfl, (FrS.step wf ((FrS.step wf (FrS.step wf (FrS.step wf (FrS.step wf (FrS.step wf ((FrS.step wf (FrS.step wf (f0_ wf) e17 Inn.nil) e66 Inn.nil).extR e79) e85 (hb80.fresh (t_ e17.n e66.n))) e103 Inn.nil) e150 Inn.nil) e182 Inn.nil) e229 Inn.nil).extR e241) e253 Inn.nil)⟩
     have r254 := ite_f h233 r225
     refine l_' (.bool false) (aBin Try.prog .eql 31 (.tmp 33) (.const .nilIface) (.iface t234 x235) .nilIface) (aBin_nil (by kernel_rfl)) ?_
     refine q_ (.bool false) (q_ (.bool false) (n_' (n_' (n_' (n_' (n_' (n_' (q_ (.bool false) (q_ (.bool false) (s_nil (k154 _ _ ?_)))))))))))
     refine w_ret ?_
     refine b_ret (fn := Try.f34) (vs := [.bool false]) (rt_ (rfl)) ?_
     obtain rfl := oi_ r254
     exact ⟨rfl, (FrS.step wf (FrS.step wf (FrS.step wf (FrS.step wf (FrS.step wf ((FrS.step wf (FrS.step wf (f0_ wf) e17 Inn.nil) e66 Inn.nil).extR e79) e85 (hb80.fresh (t_ e17.n e66.n))) e103 Inn.nil) e150 Inn.nil) e182 Inn.nil) e229 Inn.nil)⟩
    have r255 := ite_f h166 r165
    refine q_ (.bool false) (q_ (.bool false) (n_' (n_' (n_' (q_ (.bool false) (q_ (.bool false) (n_' (n_' (n_' (n_' (n_' (n_' (q_ (.bool false) (q_ (.bool false) (s_nil (k154 _ _ ?_))))))))))))))))
    refine w_ret ?_
    refine b_ret (fn := Try.f34) (vs := [.bool false]) (rt_ (rfl)) ?_
    obtain rfl := oi_ r255
    exact ⟨rfl, (FrS.step wf (FrS.step wf (FrS.step wf ((FrS.step wf (FrS.step wf (f0_ wf) e17 Inn.nil) e66 Inn.nil).extR e79) e85 (hb80.fresh (t_ e17.n e66.n))) e103 Inn.nil) e150 Inn.nil)⟩
   have r256 := ite_f h164 r163
   refine q_ (.bool false) (q_ (.bool false) (n_' (n_' (q_ (.bool false) (q_ (.bool false) (n_' (n_' (n_' (q_ (.bool false) (q_ (.bool false) (n_' (n_' (n_' (n_' (n_' (n_' (q_ (.bool false) (q_ (.bool false) (s_nil (k154 _ _ ?_))))))))))))))))))))
   refine w_ret ?_
   refine b_ret (fn := Try.f34) (vs := [.bool false]) (rt_ (rfl)) ?_
   obtain rfl := oi_ r256
   exact ⟨rfl, (FrS.step wf (FrS.step wf (FrS.step wf ((FrS.step wf (FrS.step wf (f0_ wf) e17 Inn.nil) e66 Inn.nil).extR e79) e85 (hb80.fresh (t_ e17.n e66.n))) e103 Inn.nil) e150 Inn.nil)⟩
  have r257 := ite_f h160 r159
  refine l_' (.bool false) (aBin Try.prog .eql 31 (.tmp 20) (.const .nilIface) (.iface t161 x162) .nilIface) (aBin_nil (by kernel_rfl)) ?_
  refine q_ (.bool false) (q_ (.bool false) (n_' (n_' (q_ (.bool false) (q_ (.bool false) (n_' (n_' (q_ (.bool false) (q_ (.bool false) (n_' (n_' (n_' (q_ (.bool false) (q_ (.bool false) (n_' (n_' (n_' (n_' (n_' (n_' (q_ (.bool false) (q_ (.bool false) (s_nil (k154 _ _ ?_))))))))))))))))))))))))
  refine w_ret ?_
  refine b_ret (fn := Try.f34) (vs := [.bool false]) (rt_ (rfl)) ?_
  obtain rfl := oi_ r257
  exact ⟨rfl, (FrS.step wf (FrS.step wf (FrS.step wf ((FrS.step wf (FrS.step wf (f0_ wf) e17 Inn.nil) e66 Inn.nil).extR e79) e85 (hb80.fresh (t_ e17.n e66.n))) e103 Inn.nil) e150 Inn.nil)⟩
 have r258 := ite_f h155 r146
 refine l_' (.bool false) (aBin Try.prog .eql 31 (.tmp 17) (.const .nilIface) (.iface t156 x157) .nilIface) (aBin_nil (by kernel_rfl)) ?_
 refine q_ (.bool false) (n_' (n_' (q_ (.bool false) (q_ (.bool false) (n_' (n_' (q_ (.bool false) (q_ (.bool false) (n_' (n_' (q_ (.bool false) (q_ (.bool false) (n_' (n_' (n_' (q_ (.bool false) (q_ (.bool false) (n_' (n_' (n_' (n_' (n_' (n_' (q_ (.bool false) (q_ (.bool false) (s_nil (k154 _ _ ?_)))))))))))))))))))))))))))
 refine w_ret ?_
 refine b_ret (fn := Try.f34) (vs := [.bool false]) (rt_ (rfl)) ?_
 obtain rfl := oi_ r258
 exact ⟨rfl, (FrS.step wf (FrS.step wf (FrS.step wf ((FrS.step wf (FrS.step wf (f0_ wf) e17 Inn.nil) e66 Inn.nil).extR e79) e85 (hb80.fresh (t_ e17.n e66.n))) e103 Inn.nil) e150 Inn.nil)⟩
theorem c_viaductref10_Count {H : AH} {hd_Node : Value} {fp_Node : Fp} {hd_UpFirst : Value} {fp_UpFirst : Fp} {hd_Up : Value} {fp_Up : Fp} {hd_DownFirst : Value} {fp_DownFirst : Fp} {hd_Down : Value} {fp_Down : Fp} {Node : List (Int)} {UpFirst : List (Int)} {Up : List (Int × Int × Int × Int)} {DownFirst : List (Int)} {Down : List (Int × Int × Int × Int)} {r : Int}
    (wf : WF H) (h_Node : Sq (encI .u32) 1 H hd_Node Node fp_Node) (h_UpFirst : Sq (encI .u32) 1 H hd_UpFirst UpFirst fp_UpFirst) (h_Up : Sq enc_u32_u64_u32_u32 4 H hd_Up Up fp_Up) (h_DownFirst : Sq (encI .u32) 1 H hd_DownFirst DownFirst fp_DownFirst) (h_Down : Sq enc_u32_u64_u32_u32 4 H hd_Down Down fp_Down) (hr : z_viaductref10_Count Node UpFirst Up DownFirst Down = some r) :
    ACalls Try.prog 89 #[.agg #[hd_Node, hd_UpFirst, hd_Up, hd_DownFirst, hd_Down]] H fun v H' => v = i_ r ∧ FrS [] H H' := by
 refine acalls_of_body mixed Try.func89 rfl (Nat.le_of_ble_eq_true rfl) ?_
 unfold z_viaductref10_Count at hr
 refine w_seqk fun _ k1 => g_' ?_
 refine s_rwl wf [hd_Node, hd_UpFirst, hd_Up, hd_DownFirst, hd_Down] (one_cons (h_Node.one1) (one_cons (h_UpFirst.one1) (one_cons (h_Up.one1) (one_cons (h_DownFirst.one1) (one_cons (h_Down.one1) (one_nil)))))) (by kernel_rfl) fun b2 H3 e4 hb5 r6 => ?_
 refine q_ (i_ 0) (s_nil (k1 _ _ (w_seqk fun _ k8 => g_' (q_ (pt_ b2 2) ?_))))
 refine l_' (hd_Up) (aL_ 79 (pt_ b2 2) H3) (r6.l_) ?_
 have u9 := (h_Up.ext e4)
 refine l_' (i_ (Up.length : Int)) (aLen Try.prog 79 hd_Up H3) (u9.lenb (by kernel_rfl)) ?_
 refine q_ (pt_ b2 4) ?_
 refine l_' (hd_Down) (aL_ 79 (pt_ b2 4) H3) (r6.l_) ?_
 have u10 := (h_Down.ext e4)
 refine l_' (i_ (Down.length : Int)) (aLen Try.prog 79 hd_Down H3) (u10.lenb (by kernel_rfl)) ?_
 obtain ⟨g11, r12⟩ := G_some hr
 refine w_' ((Up.length : Int) + (Down.length : Int)) (wrap64 g11) ?_
 refine q_ (i_ ((Up.length : Int) + (Down.length : Int))) (s_nil (k8 _ _ ?_))
 refine w_ret ?_
 refine b_ret (fn := Try.f89) (vs := [i_ ((Up.length : Int) + (Down.length : Int))]) (rt_ (rfl)) ?_
 obtain rfl := oi_ r12
 exact ⟨rfl, ((f0_ wf).extR e4)⟩
theorem c_viaductlaw10_great {H : AH} {hd_Node : Value} {fp_Node : Fp} {hd_UpFirst : Value} {fp_UpFirst : Fp} {hd_Up : Value} {fp_Up : Fp} {hd_DownFirst : Value} {fp_DownFirst : Fp} {hd_Down : Value} {fp_Down : Fp} {Node : List (Int)} {UpFirst : List (Int)} {Up : List (Int × Int × Int × Int)} {DownFirst : List (Int)} {Down : List (Int × Int × Int × Int)} {r : Bool}
    (wf : WF H) (h_Node : Sq (encI .u32) 1 H hd_Node Node fp_Node) (h_UpFirst : Sq (encI .u32) 1 H hd_UpFirst UpFirst fp_UpFirst) (h_Up : Sq enc_u32_u64_u32_u32 4 H hd_Up Up fp_Up) (h_DownFirst : Sq (encI .u32) 1 H hd_DownFirst DownFirst fp_DownFirst) (h_Down : Sq enc_u32_u64_u32_u32 4 H hd_Down Down fp_Down) (hr : z_viaductlaw10_great Node UpFirst Up DownFirst Down = some r) :
    ACalls Try.prog 35 #[.agg #[hd_Node, hd_UpFirst, hd_Up, hd_DownFirst, hd_Down]] H fun v H' => v = .bool r ∧ FrS [] H H' := by
 refine acalls_of_body mixed Try.func35 rfl (Nat.le_of_ble_eq_true rfl) ?_
 unfold z_viaductlaw10_great at hr
 refine w_seqk fun _ k1 => g_' ?_
 refine s_rwl wf [hd_Node, hd_UpFirst, hd_Up, hd_DownFirst, hd_Down] (one_cons (h_Node.one1) (one_cons (h_UpFirst.one1) (one_cons (h_Up.one1) (one_cons (h_DownFirst.one1) (one_cons (h_Down.one1) (one_nil)))))) (by kernel_rfl) fun b2 H3 e4 hb5 r6 => ?_
 refine q_ (.bool false) (s_nil (k1 _ _ (w_seqk fun _ k8 => g_' ?_)))
 refine l_' (.agg #[hd_Node, hd_UpFirst, hd_Up, hd_DownFirst, hd_Down]) (aL_ 81 (pt_ b2 0) H3) (r6.l_) ?_
 have u9 := (h_Node.ext e4)
 have u10 := (h_UpFirst.ext e4)
 have u11 := (h_Up.ext e4)
 have u12 := (h_DownFirst.ext e4)
 have u13 := (h_Down.ext e4)
 obtain ⟨y14, hy15, r16⟩ := bind_some hr
 refine s_ck 89 #[.agg #[hd_Node, hd_UpFirst, hd_Up, hd_DownFirst, hd_Down]] (by kernel_rfl) (c_viaductref10_Count e4.wf u9 u10 u11 u12 u13 hy15) ?_
 rintro _ H17 ⟨rfl, e18⟩
 refine s_b (y14 > 2000) (by kernel_rfl) (fun h19 => ?_) (fun h19 => ?_)
 ·have r20 := ite_t h19 r16
  refine q_ (.bool true) ?_
  have u21 := (r6.frS e18 Dj.nil_l)
  refine l_' (.agg #[hd_Node, hd_UpFirst, hd_Up, hd_DownFirst, hd_Down]) (aL_ 81 (pt_ b2 0) H17) (u21.l_) ?_
  have u22 := (u9.fr e18 Dj.nil_l)
  have u23 := (u10.fr e18 Dj.nil_l)
  have u24 := (u11.fr e18 Dj.nil_l)
  have u25 := (u12.fr e18 Dj.nil_l)
  have u26 := (u13.fr e18 Dj.nil_l)
  obtain ⟨y27, hy28, r29⟩ := bind_some r20
  refine s_ck 89 #[.agg #[hd_Node, hd_UpFirst, hd_Up, hd_DownFirst, hd_Down]] (by kernel_rfl) (c_viaductref10_Count e18.wf u22 u23 u24 u25 u26 hy28) ?_
  rintro _ H30 ⟨rfl, e31⟩
  refine q_ (.bool (decide (y27 ≤ 1048576))) (q_ (.bool (decide (y27 ≤ 1048576))) (q_ (.bool (decide (y27 ≤ 1048576))) (s_nil (k8 _ _ ?_))))
  refine w_ret ?_
  refine b_ret (fn := Try.f35) (vs := [.bool (decide (y27 ≤ 1048576))]) (rt_ (rfl)) ?_
  obtain rfl := oi_ r29
  exact ⟨rfl, (FrS.step wf (FrS.step wf ((f0_ wf).extR e4) e18 Inn.nil) e31 Inn.nil)⟩
 have r32 := ite_f h19 r16
 refine q_ (.bool false) (n_' (n_' (n_' (q_ (.bool false) (q_ (.bool false) (s_nil (k8 _ _ ?_)))))))
 refine w_ret ?_
 refine b_ret (fn := Try.f35) (vs := [.bool false]) (rt_ (rfl)) ?_
 obtain rfl := oi_ r32
 exact ⟨rfl, (FrS.step wf ((f0_ wf).extR e4) e18 Inn.nil)⟩
theorem c_viaductref10_Words {H : AH} {hd_l : Value} {fp_l : Fp} {l : List (Int)} {r : List (Int)}
    (wf : WF H) (h_l : Sq (encI .u32) 1 H hd_l l fp_l) (hr : z_viaductref10_Words l = some r) :
    ACalls Try.prog 90 #[hd_l] H fun v H' => ∃ (s3 : Value) (f4 : Fp), v = s3 ∧ FrS [] H H' ∧ Ow (encI .u32) 1 H' s3 r f4 ∧ Inn [] H f4 := by
 refine acalls_of_body mixed Try.func90 rfl (Nat.le_of_ble_eq_true rfl) ?_
 unfold z_viaductref10_Words at hr
 refine w_seqk fun _ k6 => g_' (q_ (.slice none 0 0) (s_nil (k6 _ _ (w_seqk fun _ k7 => g_' (q_ (.slice none 0 0) (s_nil (k7 _ _ (w_seqk fun _ k8 => w_seqk fun _ k9 => g_' (q_ (hd_l) ?_)))))))))
 refine l_' (i_ (l.length : Int)) (aLen Try.prog 78 hd_l H) (h_l.lenb (by kernel_rfl)) ?_
 refine q_ (i_ 0) (s_nil (k9 _ _ ?_))
 obtain ⟨o10, hx11, r12⟩ := bind_some hr
 refine w_mid (fun α H13 => ∃ (s17 : Value) (f18 : Fp), Has α [(3, s17)] ∧ FrS [] H H13 ∧ Ow (encI .u32) 1 H13 s17 o10 f18 ∧ Inn [] H f18) (fun _ k20 => ?_) (fun α H13 hM => ?_)
 ·refine w_block ?_
  obtain ⟨n22, hn23⟩ := loopO_iff.1 hx11
  refine w_loopn (fun n α H24 => ∃ (m0 : List (Int)), ∃ (i1 : Int), ∃ (s28 : Value), ∃ (f29 : Fp), iterO (fun zz_ => z_viaductref10_Words_l0 l zz_.1 zz_.2) n (m0, i1) = some o10 ∧ Has α [(3, s28), (6, hd_l), (7, i_ (l.length : Int)), (8, i_ i1)] ∧ FrS [] H H24 ∧ Ow (encI .u32) 1 H24 s28 m0 f29 ∧ Inn [] H f29) n22 ⟨[], 0, (.slice none 0 0), [], hn23, ha_, (f0_ wf), (Ow.nil (by decide)), Inn.nil⟩ ?_
  rintro n22 α H24 ⟨m0, i1, s28, f29, hi32, hh31, e25, m27, i30⟩ K37 k37
  obtain ⟨n33, z34, rfl, hz35, hn36⟩ := iter_succ hi32
  obtain ⟨β, rfl⟩ := has_ex hh31
  clear hh31
  replace hz35 : z_viaductref10_Words_l0 l m0 i1 = some z34 := hz35
  unfold z_viaductref10_Words_l0 at hz35
  obtain ⟨a38, n39, c40, rfl⟩ := m27.form
  refine w_seqk fun _ k41 => g_' (q_ (.bool (decide (i1 < (l.length : Int)))) (s_nil (k41 _ _ (w_seqk fun _ k42 => ?_))))
  refine w_condp (i1 < (l.length : Int)) (by kernel_rfl) rfl (fun h43 => ?_) (fun h43 => ?_)
  ·have r44 := ite_t h43 hz35
   refine w_skip (k42 _ _ (w_seqk fun _ k45 => w_block (w_seqk fun _ k46 => g_' ?_)))
   obtain ⟨g47, r48⟩ := G_some r44
   have u49 := (h_l.fr e25 Dj.nil_l)
   refine l_' (elp hd_l 1 i1.toNat 0) (aIndexAddr Try.prog 78 hd_l (i_ i1)) (u49.idxb (by kernel_rfl) g47 h43) ?_
   refine l_' (.int .u32 (gt l i1)) (aL_ 90 (elp hd_l 1 i1.toNat 0) H24) (u49.ld g47 h43 (by kernel_rfl)) ?_
   refine q_ (.int .u32 (gt l i1)) (s_nil (k46 _ _ (g_' (q_ (.slice a38 n39 c40) (q_ (.int .u32 (gt l i1)) ?_)))))
   refine s_owk (enc := (encI .u32)) (sz := 1) e25.wf [(gt l i1)] 1 (by decide) (fun _ _ => rfl) (fun _ _ => rfl) rfl (by kernel_rfl) fun s50 f51 H52 e53 hf54 hm55 => ?_
   obtain ⟨a56, n57, c58, rfl⟩ := hm55.form
   have u60 := (m27.ext e53)
   obtain ⟨g61, r62⟩ := G_some r48
   obtain ⟨s63, H64, f65, q69, e66, hm67, hf68⟩ := Ow.append (P := Try.prog) 4 e53.wf u60 hm55.sq (fun _ _ => rfl) (at_ := #[78, 78]) rfl rfl (by kernel_rfl) (by kernel_rfl) (by decide) (by have := g61; first | omega | (simp only [List.length_cons, List.length_nil] at this ⊢; omega) | (simp at this ⊢; omega))
   obtain ⟨a70, n71, c72, rfl⟩ := hm67.form
   refine s_ek (.slice a70 n71 c72) (by kernel_rfl) (q69) ?_
   refine q_ (.slice a70 n71 c72) (s_nil (k45 _ _ (g_' ?_)))
   obtain ⟨g74, r75⟩ := G_some r62
   refine w_' (i1 + 1) (wrap64 (by have := g74; omega)) ?_
   refine q_ (i_ (i1 + 1)) (s_nil ?_)
   obtain rfl := oi_ r75
   exact k37 n33 _ _ (Nat.lt_succ_self _) ⟨(m0 ++ [(gt l i1)]), (i1 + 1), (.slice a70 n71 c72), f65, hn36, ha_, (FrS.step wf ((FrS.step wf (f0_ wf) e25 Inn.nil).extR e53) e66 (i30.fresh (Nat.le_refl _))), hm67, (Inn.trans (i30.fresh (Nat.le_refl _)) (t_ e25.n e53.n) hf68)⟩
  have r76 := ite_f h43 hz35
  refine w_exit (th_exit (th_exit (bl_eq ?_)))
  obtain rfl := oi_ r76
  obtain rfl := it_inr hn36
  exact k20 _ _ ⟨(.slice a38 n39 c40), f29, ha_, (FrS.step wf (f0_ wf) e25 Inn.nil), m27, (i30.fresh (Nat.le_refl _))⟩
 obtain ⟨s17, f18, hh21, e14, m16, i19⟩ := hM
 obtain ⟨β, rfl⟩ := has_ex hh21
 clear hh21
 obtain ⟨a77, n78, c79, rfl⟩ := m16.form
 refine k8 _ _ (w_seqk fun _ k80 => g_' (q_ (.slice a77 n78 c79) (q_ (.slice a77 n78 c79) (s_nil (k80 _ _ ?_)))))
 refine w_ret ?_
 refine b_ret (fn := Try.f90) (vs := [.slice a77 n78 c79]) (rt_ (rfl)) ?_
 obtain rfl := oi_ r12
 exact ⟨(.slice a77 n78 c79), f18, rfl, (FrS.step wf (f0_ wf) e14 Inn.nil), m16, (i19.fresh (Nat.le_refl _))⟩
theorem c_viaductref10_Links {H : AH} {hd_l : Value} {fp_l : Fp} {l : List (Int × Int × Int × Int)} {r : List (Int × Int × Int × Int)}
    (wf : WF H) (h_l : Sq enc_u32_u64_u32_u32 4 H hd_l l fp_l) (hr : z_viaductref10_Links l = some r) :
    ACalls Try.prog 91 #[hd_l] H fun v H' => ∃ (s3 : Value) (f4 : Fp), v = s3 ∧ FrS [] H H' ∧ Ow enc_u32_u64_u32_u32 4 H' s3 r f4 ∧ Inn [] H f4 := by
 refine acalls_of_body mixed Try.func91 rfl (Nat.le_of_ble_eq_true rfl) ?_
 unfold z_viaductref10_Links at hr
 refine w_seqk fun _ k6 => g_' (q_ (.slice none 0 0) (s_nil (k6 _ _ (w_seqk fun _ k7 => g_' (q_ (.slice none 0 0) (s_nil (k7 _ _ (w_seqk fun _ k8 => w_seqk fun _ k9 => g_' (q_ (hd_l) ?_)))))))))
 refine l_' (i_ (l.length : Int)) (aLen Try.prog 79 hd_l H) (h_l.lenb (by kernel_rfl)) ?_
 refine q_ (i_ 0) (s_nil (k9 _ _ ?_))
 obtain ⟨o10, hx11, r12⟩ := bind_some hr
 refine w_mid (fun α H13 => ∃ (s17 : Value) (f18 : Fp), Has α [(3, s17)] ∧ FrS [] H H13 ∧ Ow enc_u32_u64_u32_u32 4 H13 s17 o10 f18 ∧ Inn [] H f18) (fun _ k20 => ?_) (fun α H13 hM => ?_)
 ·refine w_block ?_
  obtain ⟨n22, hn23⟩ := loopO_iff.1 hx11
  refine w_loopn (fun n α H24 => ∃ (m0 : List (Int × Int × Int × Int)), ∃ (i1 : Int), ∃ (s28 : Value), ∃ (f29 : Fp), iterO (fun zz_ => z_viaductref10_Links_l0 l zz_.1 zz_.2) n (m0, i1) = some o10 ∧ Has α [(3, s28), (6, hd_l), (7, i_ (l.length : Int)), (8, i_ i1)] ∧ FrS [] H H24 ∧ Ow enc_u32_u64_u32_u32 4 H24 s28 m0 f29 ∧ Inn [] H f29) n22 ⟨[], 0, (.slice none 0 0), [], hn23, ha_, (f0_ wf), (Ow.nil (by decide)), Inn.nil⟩ ?_
  rintro n22 α H24 ⟨m0, i1, s28, f29, hi32, hh31, e25, m27, i30⟩ K37 k37
  obtain ⟨n33, z34, rfl, hz35, hn36⟩ := iter_succ hi32
  obtain ⟨β, rfl⟩ := has_ex hh31
  clear hh31
  replace hz35 : z_viaductref10_Links_l0 l m0 i1 = some z34 := hz35
  unfold z_viaductref10_Links_l0 at hz35
  obtain ⟨a38, n39, c40, rfl⟩ := m27.form
  refine w_seqk fun _ k41 => g_' (q_ (.bool (decide (i1 < (l.length : Int)))) (s_nil (k41 _ _ (w_seqk fun _ k42 => ?_))))
  refine w_condp (i1 < (l.length : Int)) (by kernel_rfl) rfl (fun h43 => ?_) (fun h43 => ?_)
  ·have r44 := ite_t h43 hz35
   refine w_skip (k42 _ _ (w_seqk fun _ k45 => w_block (w_seqk fun _ k46 => g_' ?_)))
   obtain ⟨g47, r48⟩ := G_some r44
   have u49 := (h_l.fr e25 Dj.nil_l)
   refine l_' (elp hd_l 4 i1.toNat 0) (aIndexAddr Try.prog 79 hd_l (i_ i1)) (u49.idxb (by kernel_rfl) g47 h43) ?_
   refine l_' (.agg #[.int .u32 ((gt l i1).1), .int .u64 ((gt l i1).2.1), .int .u32 ((gt l i1).2.2.1), .int .u32 ((gt l i1).2.2.2)]) (aL_ 93 (elp hd_l 4 i1.toNat 0) H24) (u49.ld g47 h43 (by kernel_rfl)) ?_
   refine s_rwk e25.wf [.int .u32 0, .int .u64 0, .int .u32 0, .int .u32 0] (by kernel_rfl) fun b50 H51 e52 hb53 r54 => ?_
   obtain ⟨H56, q57, e58, r59⟩ := Row.store (P := Try.prog) (t := 93) (p := 0) e52.wf r54 (.agg #[.int .u32 ((gt l i1).1), .int .u64 ((gt l i1).2.1), .int .u32 ((gt l i1).2.2.1), .int .u32 ((gt l i1).2.2.2)]) [.int .u32 ((gt l i1).1), .int .u64 ((gt l i1).2.1), .int .u32 ((gt l i1).2.2.1), .int .u32 ((gt l i1).2.2.2)] (by kernel_rfl) (by kernel_rfl) (one_cons (rfl) (one_cons (rfl) (one_cons (rfl) (one_cons (rfl) (one_nil))))) (Nat.le_of_ble_eq_true (by kernel_rfl)) [.int .u32 ((gt l i1).1), .int .u64 ((gt l i1).2.1), .int .u32 ((gt l i1).2.2.1), .int .u32 ((gt l i1).2.2.2)] (by kernel_rfl)
   refine s_ek (undef) (by kernel_rfl) (map_ok q57) ?_
   refine s_nil (k46 _ _ (g_' (q_ (.slice a38 n39 c40) ?_)))
   refine l_' (.agg #[.int .u32 ((gt l i1).1), .int .u64 ((gt l i1).2.1), .int .u32 ((gt l i1).2.2.1), .int .u32 ((gt l i1).2.2.2)]) (aL_ 93 (pt_ b50 0) H56) (r59.l_) ?_
   refine s_owk (enc := enc_u32_u64_u32_u32) (sz := 4) e58.wf [((gt l i1).1, (gt l i1).2.1, (gt l i1).2.2.1, (gt l i1).2.2.2)] 1 (by decide) (fun _ _ => rfl) (fun _ _ => rfl) rfl (by kernel_rfl) fun s60 f61 H62 e63 hf64 hm65 => ?_
   obtain ⟨a66, n67, c68, rfl⟩ := hm65.form
   have u70 := (((m27.ext e52).fr e58 (hb53.djn m27.lt)).ext e63)
   obtain ⟨g71, r72⟩ := G_some r48
   obtain ⟨s73, H74, f75, q79, e76, hm77, hf78⟩ := Ow.append (P := Try.prog) 24 e63.wf u70 hm65.sq (fun _ _ => rfl) (at_ := #[79, 79]) rfl rfl (by kernel_rfl) (by kernel_rfl) (by decide) (by have := g71; first | omega | (simp only [List.length_cons, List.length_nil] at this ⊢; omega) | (simp at this ⊢; omega))
   obtain ⟨a80, n81, c82, rfl⟩ := hm77.form
   refine s_ek (.slice a80 n81 c82) (by kernel_rfl) (q79) ?_
   refine q_ (.slice a80 n81 c82) (s_nil (k45 _ _ (g_' ?_)))
   obtain ⟨g84, r85⟩ := G_some r72
   refine w_' (i1 + 1) (wrap64 (by have := g84; omega)) ?_
   refine q_ (i_ (i1 + 1)) (s_nil ?_)
   obtain rfl := oi_ r85
   exact k37 n33 _ _ (Nat.lt_succ_self _) ⟨(m0 ++ [((gt l i1).1, (gt l i1).2.1, (gt l i1).2.2.1, (gt l i1).2.2.2)]), (i1 + 1), (.slice a80 n81 c82), f75, hn36, ha_, (FrS.step wf ((FrS.step wf ((FrS.step wf (f0_ wf) e25 Inn.nil).extR e52) e58 (hb53.fresh e25.n)).extR e63) e76 (i30.fresh (Nat.le_refl _))), hm77, (Inn.trans (i30.fresh (Nat.le_refl _)) (t_ (t_ (t_ e25.n e52.n) e58.n) e63.n) hf78)⟩
  have r86 := ite_f h43 hz35
  refine w_exit (th_exit (th_exit (bl_eq ?_)))
  obtain rfl := oi_ r86
  obtain rfl := it_inr hn36
  exact k20 _ _ ⟨(.slice a38 n39 c40), f29, ha_, (FrS.step wf (f0_ wf) e25 Inn.nil), m27, (i30.fresh (Nat.le_refl _))⟩
 obtain ⟨s17, f18, hh21, e14, m16, i19⟩ := hM
 obtain ⟨β, rfl⟩ := has_ex hh21
 clear hh21
 obtain ⟨a87, n88, c89, rfl⟩ := m16.form
 refine k8 _ _ (w_seqk fun _ k90 => g_' (q_ (.slice a87 n88 c89) (q_ (.slice a87 n88 c89) (s_nil (k90 _ _ ?_)))))
 refine w_ret ?_
 refine b_ret (fn := Try.f91) (vs := [.slice a87 n88 c89]) (rt_ (rfl)) ?_
 obtain rfl := oi_ r12
 exact ⟨(.slice a87 n88 c89), f18, rfl, (FrS.step wf (f0_ wf) e14 Inn.nil), m16, (i19.fresh (Nat.le_refl _))⟩
theorem c_viaductref10_Twin {H : AH} {hd_Node : Value} {fp_Node : Fp} {hd_UpFirst : Value} {fp_UpFirst : Fp} {hd_Up : Value} {fp_Up : Fp} {hd_DownFirst : Value} {fp_DownFirst : Fp} {hd_Down : Value} {fp_Down : Fp} {Node : List (Int)} {UpFirst : List (Int)} {Up : List (Int × Int × Int × Int)} {DownFirst : List (Int)} {Down : List (Int × Int × Int × Int)} {r : List (Int) × List (Int) × List (Int × Int × Int × Int) × List (Int) × List (Int × Int × Int × Int)}
    (wf : WF H) (h_Node : Sq (encI .u32) 1 H hd_Node Node fp_Node) (h_UpFirst : Sq (encI .u32) 1 H hd_UpFirst UpFirst fp_UpFirst) (h_Up : Sq enc_u32_u64_u32_u32 4 H hd_Up Up fp_Up) (h_DownFirst : Sq (encI .u32) 1 H hd_DownFirst DownFirst fp_DownFirst) (h_Down : Sq enc_u32_u64_u32_u32 4 H hd_Down Down fp_Down) (hr : z_viaductref10_Twin Node UpFirst Up DownFirst Down = some r) :
    ACalls Try.prog 36 #[.agg #[hd_Node, hd_UpFirst, hd_Up, hd_DownFirst, hd_Down]] H fun v H' => ∃ (s3 : Value) (f4 : Fp) (s7 : Value) (f8 : Fp) (s11 : Value) (f12 : Fp) (s15 : Value) (f16 : Fp) (s19 : Value) (f20 : Fp), v = .agg #[s3, s7, s11, s15, s19] ∧ FrS [] H H' ∧ Ow (encI .u32) 1 H' s3 r.1 f4 ∧ Ow (encI .u32) 1 H' s7 r.2.1 f8 ∧ Ow enc_u32_u64_u32_u32 4 H' s11 r.2.2.1 f12 ∧ Ow (encI .u32) 1 H' s15 r.2.2.2.1 f16 ∧ Ow enc_u32_u64_u32_u32 4 H' s19 r.2.2.2.2 f20 ∧ Inn [] H f4 ∧ Inn [] H f8 ∧ Inn [] H f12 ∧ Inn [] H f16 ∧ Inn [] H f20 ∧ Dj f4 f8 ∧ Dj f4 f12 ∧ Dj f8 f12 ∧ Dj f4 f16 ∧ Dj f8 f16 ∧ Dj f12 f16 ∧ Dj f4 f20 ∧ Dj f8 f20 ∧ Dj f12 f20 ∧ Dj f16 f20 := by
 refine acalls_of_body mixed Try.func36 rfl (Nat.le_of_ble_eq_true rfl) ?_
 unfold z_viaductref10_Twin at hr
 refine w_seqk fun _ k36 => g_' ?_
 refine s_rwl wf [hd_Node, hd_UpFirst, hd_Up, hd_DownFirst, hd_Down] (one_cons (h_Node.one1) (one_cons (h_UpFirst.one1) (one_cons (h_Up.one1) (one_cons (h_DownFirst.one1) (one_cons (h_Down.one1) (one_nil)))))) (by kernel_rfl) fun b37 H38 e39 hb40 r41 => ?_
 refine s_rwk e39.wf [.slice none 0 0, .slice none 0 0, .slice none 0 0, .slice none 0 0, .slice none 0 0] (by kernel_rfl) fun b43 H44 e45 hb46 r47 => ?_
 refine s_nil (k36 _ _ (w_seqk fun _ k49 => ?_))
 refine w_draw [0, 1, 3, 4, 6, 7, 9, 10, 12, 13, 2, 5, 8, 11, 14, 15, 16] (by kernel_rfl) ?_
 refine e_' (pt_ b37 0) ?_
 have u50 := (r41.ext e45)
 refine m_' (hd_Node) (aL_ 78 (pt_ b37 0) H44) (u50.l_) ?_
 refine e_' (pt_ b37 1) ?_
 refine d_fl (hd_UpFirst) (x := aL_ 78 (pt_ b37 1) H44) (by kernel_rfl) (u50.l_) ?_
 refine e_' (pt_ b37 2) ?_
 refine d_fl (hd_Up) (x := aL_ 79 (pt_ b37 2) H44) (by kernel_rfl) (u50.l_) ?_
 refine e_' (pt_ b37 3) ?_
 refine d_fl (hd_DownFirst) (x := aL_ 78 (pt_ b37 3) H44) (by kernel_rfl) (u50.l_) ?_
 refine e_' (pt_ b37 4) ?_
 refine d_fl (hd_Down) (x := aL_ 79 (pt_ b37 4) H44) (by kernel_rfl) (u50.l_) ?_
 have u51 := ((h_Node.ext e39).ext e45)
 obtain ⟨y52, hy53, r54⟩ := bind_some hr
 refine d_ck 90 #[hd_Node] (by kernel_rfl) (c_viaductref10_Words e45.wf u51 hy53) ?_
 rintro s55 H57 ⟨_, f56, rfl, e58, m59, i60⟩
 obtain ⟨a62, n63, c64, rfl⟩ := m59.form
 have u65 := (u50.frS e58 Dj.nil_l)
 refine ⟨st_ql (y := aL_ 79 (pt_ b37 4) H57) (by kernel_rfl) (u65.l_) (st_ql (y := aL_ 78 (pt_ b37 3) H57) (by kernel_rfl) (u65.l_) (st_ql (y := aL_ 79 (pt_ b37 2) H57) (by kernel_rfl) (u65.l_) (st_ql (y := aL_ 78 (pt_ b37 1) H57) (by kernel_rfl) (u65.l_) (st_nil)))), ?_⟩
 have u66 := (((h_UpFirst.ext e39).ext e45).fr e58 Dj.nil_l)
 obtain ⟨y67, hy68, r69⟩ := bind_some r54
 refine d_ck 90 #[hd_UpFirst] (by kernel_rfl) (c_viaductref10_Words e58.wf u66 hy68) ?_
 rintro s70 H72 ⟨_, f71, rfl, e73, m74, i75⟩
 obtain ⟨a77, n78, c79, rfl⟩ := m74.form
 have u80 := (u65.frS e73 Dj.nil_l)
 refine ⟨st_ql (y := aL_ 79 (pt_ b37 4) H72) (by kernel_rfl) (u80.l_) (st_ql (y := aL_ 78 (pt_ b37 3) H72) (by kernel_rfl) (u80.l_) (st_ql (y := aL_ 79 (pt_ b37 2) H72) (by kernel_rfl) (u80.l_) (st_anc (by kernel_rfl) (st_nil)))), ?_⟩
 have u81 := ((((h_Up.ext e39).ext e45).fr e58 Dj.nil_l).fr e73 Dj.nil_l)
 obtain ⟨y82, hy83, r84⟩ := bind_some r69
 refine d_ck 91 #[hd_Up] (by kernel_rfl) (c_viaductref10_Links e73.wf u81 hy83) ?_
 rintro s85 H87 ⟨_, f86, rfl, e88, m89, i90⟩
 obtain ⟨a92, n93, c94, rfl⟩ := m89.form
 have u95 := (u80.frS e88 Dj.nil_l)
 refine ⟨st_ql (y := aL_ 79 (pt_ b37 4) H87) (by kernel_rfl) (u95.l_) (st_ql (y := aL_ 78 (pt_ b37 3) H87) (by kernel_rfl) (u95.l_) (st_anc (by kernel_rfl) (st_anc (by kernel_rfl) (st_nil)))), ?_⟩
 have u96 := (((((h_DownFirst.ext e39).ext e45).fr e58 Dj.nil_l).fr e73 Dj.nil_l).fr e88 Dj.nil_l)
 obtain ⟨y97, hy98, r99⟩ := bind_some r84
 refine d_ck 90 #[hd_DownFirst] (by kernel_rfl) (c_viaductref10_Words e88.wf u96 hy98) ?_
 rintro s100 H102 ⟨_, f101, rfl, e103, m104, i105⟩
 obtain ⟨a107, n108, c109, rfl⟩ := m104.form
 have u110 := (u95.frS e103 Dj.nil_l)
 refine ⟨st_ql (y := aL_ 79 (pt_ b37 4) H102) (by kernel_rfl) (u110.l_) (st_anc (by kernel_rfl) (st_anc (by kernel_rfl) (st_anc (by kernel_rfl) (st_nil)))), ?_⟩
 have u111 := ((((((h_Down.ext e39).ext e45).fr e58 Dj.nil_l).fr e73 Dj.nil_l).fr e88 Dj.nil_l).fr e103 Dj.nil_l)
 obtain ⟨y112, hy113, r114⟩ := bind_some r99
 refine d_ck 91 #[hd_Down] (by kernel_rfl) (c_viaductref10_Links e103.wf u111 hy113) ?_
 rintro s115 H117 ⟨_, f116, rfl, e118, m119, i120⟩
 obtain ⟨a122, n123, c124, rfl⟩ := m119.form
 refine ⟨st_anc (by kernel_rfl) (st_anc (by kernel_rfl) (st_anc (by kernel_rfl) (st_anc (by kernel_rfl) (st_nil)))), ?_⟩
 refine e_' (.agg #[.slice a62 n63 c64, .slice a77 n78 c79, .slice a92 n93 c94, .slice a107 n108 c109, .slice a122 n123 c124]) ?_
 have u129 := (((((r47.frS e58 Dj.nil_l).frS e73 Dj.nil_l).frS e88 Dj.nil_l).frS e103 Dj.nil_l).frS e118 Dj.nil_l)
 have u130 := (m104.fr e118 Dj.nil_l)
 have u131 := ((m89.fr e103 Dj.nil_l).fr e118 Dj.nil_l)
 have u132 := (((m74.fr e88 Dj.nil_l).fr e103 Dj.nil_l).fr e118 Dj.nil_l)
 have u133 := ((((m59.fr e73 Dj.nil_l).fr e88 Dj.nil_l).fr e103 Dj.nil_l).fr e118 Dj.nil_l)
 obtain ⟨H125, q126, e127, r128⟩ := Row.store (P := Try.prog) (t := 81) (p := 0) e118.wf u129 (.agg #[.slice a62 n63 c64, .slice a77 n78 c79, .slice a92 n93 c94, .slice a107 n108 c109, .slice a122 n123 c124]) [.slice a62 n63 c64, .slice a77 n78 c79, .slice a92 n93 c94, .slice a107 n108 c109, .slice a122 n123 c124] (by kernel_rfl) (by kernel_rfl) (one_cons (u133.one1) (one_cons (u132.one1) (one_cons (u131.one1) (one_cons (u130.one1) (one_cons (m119.one1) (one_nil)))))) (Nat.le_of_ble_eq_true (by kernel_rfl)) [.slice a62 n63 c64, .slice a77 n78 c79, .slice a92 n93 c94, .slice a107 n108 c109, .slice a122 n123 c124] (by kernel_rfl)
 refine d_ek (undef) (by kernel_rfl) (map_ok q126) (st_anc (by kernel_rfl) (st_anc (by kernel_rfl) (st_anc (by kernel_rfl) (st_anc (by kernel_rfl) (st_nil))))) ?_
 refine d_nil ?_
 refine k49 _ _ ?_
 refine w_ret ?_
 refine b_ret (fn := Try.f36) (vs := [.agg #[.slice a62 n63 c64, .slice a77 n78 c79, .slice a92 n93 c94, .slice a107 n108 c109, .slice a122 n123 c124]]) (aRes_cell (Eq.trans (b := aL_ 81 (pt_ b43 0) H125) (by kernel_rfl) (r128.l_)) (rfl)) ?_
 have u134 := (u133.fr e127 (Dj.symm (i60.djn r47.ltF)))
 have u135 := (u132.fr e127 (Dj.symm (i75.djn (r47.ltF.le e58.n))))
 have u136 := (u131.fr e127 (Dj.symm (i90.djn (r47.ltF.le (t_ e58.n e73.n)))))
 have u137 := (u130.fr e127 (Dj.symm (i105.djn (r47.ltF.le (t_ (t_ e58.n e73.n) e88.n)))))
 have u138 := (m119.fr e127 (Dj.symm (i120.djn (r47.ltF.le (t_ (t_ (t_ e58.n e73.n) e88.n) e103.n)))))
 obtain rfl := oi_ r114
 exact ⟨(.slice a62 n63 c64), f56, (.slice a77 n78 c79), f71, (.slice a92 n93 c94), f86, (.slice a107 n108 c109), f101, (.slice a122 n123 c124), f116, rfl, (FrS.step wf (FrS.step wf (FrS.step wf (FrS.step wf (FrS.step wf (FrS.step wf (((f0_ wf).extR e39).extR e45) e58 Inn.nil) e73 Inn.nil) e88 Inn.nil) e103 Inn.nil) e118 Inn.nil) e127 (hb46.fresh e39.n)), u134, u135, u136, u137, u138, (i60.fresh (t_ e39.n e45.n)), (i75.fresh (t_ (t_ e39.n e45.n) e58.n)), (i90.fresh (t_ (t_ (t_ e39.n e45.n) e58.n) e73.n)), (i105.fresh (t_ (t_ (t_ (t_ e39.n e45.n) e58.n) e73.n) e88.n)), (i120.fresh (t_ (t_ (t_ (t_ (t_ e39.n e45.n) e58.n) e73.n) e88.n) e103.n)), (Dj.symm (i75.djn m59.lt)), (Dj.symm (i90.djn (m59.lt.le e73.n))), (Dj.symm (i90.djn m74.lt)), (Dj.symm (i105.djn (m59.lt.le (t_ e73.n e88.n)))), (Dj.symm (i105.djn (m74.lt.le e88.n))), (Dj.symm (i105.djn m89.lt)), (Dj.symm (i120.djn (m59.lt.le (t_ (t_ e73.n e88.n) e103.n)))), (Dj.symm (i120.djn (m74.lt.le (t_ e88.n e103.n)))), (Dj.symm (i120.djn (m89.lt.le e103.n))), (Dj.symm (i120.djn m104.lt))⟩
theorem c_slices_Clone {H : AH} {hd_s : Value} {fp_s : Fp} {s : List (Int)} {r : List (Int)}
    (wf : WF H) (h_s : Sq (encI .u32) 1 H hd_s s fp_s) (hr : z_slices_Clone s = some r) :
    ACalls Try.prog 94 #[hd_s] H fun v H' => ∃ (s3 : Value) (f4 : Fp), v = s3 ∧ FrS [] H H' ∧ Ow (encI .u32) 1 H' s3 r f4 ∧ Inn [] H f4 := by
 refine acalls_of_body mixed Try.func94 rfl (Nat.le_of_ble_eq_true rfl) ?_
 unfold z_slices_Clone at hr
 refine w_seqk fun _ k6 => g_' (q_ (.slice none 0 0) (s_nil (k6 _ _ (w_seqk fun _ k7 => w_seqk fun _ k8 => g_' (q_ (hd_s) ?_)))))
 rcases Sq.nilOr h_s with ⟨rfl, rfl⟩ | ⟨a9, n10, c11, rfl⟩
 ·refine q_ (.bool true) (s_nil (k8 _ _ ?_))
  refine w_cond true (by kernel_rfl) rfl (fun _ => ?_) (fun h => by cases h)
  refine w_seqk fun _ k12 => g_' (q_ (.slice none 0 0) (s_nil (k12 _ _ ?_)))
  refine w_ret (th_ret ?_)
  refine b_ret (fn := Try.f94) (vs := [.slice none 0 0]) (rt_ (rfl)) ?_
  have hn_ : some ([] : List (Int)) = some r := by simpa [G] using hr
  obtain rfl := oi_ hn_
  exact ⟨(.slice none 0 0), [], rfl, (f0_ wf), (Ow.nil (by decide)), Inn.nil⟩
 refine q_ (.bool false) (s_nil (k8 _ _ ?_))
 refine w_cond false (by kernel_rfl) rfl (fun h => by cases h) (fun _ => ?_)
 refine w_skip (k7 _ _ (w_seqk fun _ k13 => g_' ?_))
 refine s_owk (enc := (encI .u32)) (sz := 1) wf ([] : List (Int)) 0 (by decide) (fun _ _ => rfl) (fun _ _ => rfl) rfl (by kernel_rfl) fun s14 f15 H16 e17 hf18 hm19 => ?_
 obtain ⟨a20, n21, c22, rfl⟩ := hm19.form
 refine q_ (.slice (some a9) n10 c11) ?_
 obtain ⟨g24, r25⟩ := G_some hr
 have u33 := (h_s.ext e17)
 obtain ⟨s26, H27, f28, q32, e29, hm30, hf31⟩ := Ow.append (P := Try.prog) 4 e17.wf hm19 u33 (fun _ _ => rfl) (at_ := #[78, 78]) rfl rfl (by kernel_rfl) (by kernel_rfl) (by decide) (by have := g24; first | omega | (simp only [List.length_cons, List.length_nil] at this ⊢; omega) | (simp at this ⊢; omega))
 obtain ⟨a34, n35, c36, rfl⟩ := hm30.form
 refine s_ek (.slice a34 n35 c36) (by kernel_rfl) (q32) ?_
 refine q_ (.slice a34 n35 c36) (s_nil (k13 _ _ ?_))
 refine w_ret ?_
 refine b_ret (fn := Try.f94) (vs := [.slice a34 n35 c36]) (rt_ (rfl)) ?_
 obtain rfl := oi_ r25
 exact ⟨(.slice a34 n35 c36), f28, rfl, (FrS.step wf ((f0_ wf).extR e17) e29 (hf18.fresh (Nat.le_refl _))), hm30, (Inn.trans (hf18.fresh (Nat.le_refl _)) e17.n hf31)⟩
theorem c_hier_Turn_1 {H : AH} {b_p : Nat} {b_p_ : Nat} {i : Int} {x : Int} {x_ : Int} {r : Int}
    (wf : WF H) (h_p : Row H b_p [.int .u32 x]) (h_p_ : Row H b_p_ [.int .u32 x_]) (hr : z_hier_Turn_1 i x x_ = some r) :
    ACalls Try.prog 92 #[.int .u32 i, pt_ b_p 0, pt_ b_p_ 0] H fun v H' => v = .int .u32 r ∧ H = H' := by
 refine acalls_of_body mixed Try.func92 rfl (Nat.le_of_ble_eq_true rfl) ?_
 unfold z_hier_Turn_1 at hr
 refine w_seqk fun _ k1 => g_' (q_ (.int .u32 0) (s_nil (k1 _ _ (w_seqk fun _ k2 => w_block (w_seqk fun _ k3 => g_' (q_ (.int .u32 i) (q_ (.bool (decide (i = 4294967295))) (q_ (.bool (decide (i = 4294967295))) (s_nil (k3 _ _ ?_))))))))))
 refine w_condp (i = 4294967295) (by kernel_rfl) rfl (fun h4 => ?_) (fun h4 => ?_)
 ·have r5 := ite_t h4 hr
  refine w_seqk fun _ k6 => g_' (q_ (.int .u32 i) (q_ (.int .u32 i) (s_nil (k6 _ _ ?_))))
  refine w_ret (bl_ret (th_ret ?_))
  refine b_ret (fn := Try.f92) (vs := [.int .u32 i]) (rt_ (rfl)) ?_
  obtain rfl := oi_ r5
  exact ⟨rfl, rfl⟩
 have r7 := ite_f h4 hr
 refine w_seqk fun _ k8 => g_' (q_ (.int .u32 i) ?_)
 refine l_' (.int .u32 x) (aL_ 90 (pt_ b_p 0) H) (h_p.l_) ?_
 refine q_ (.bool (decide (i < x))) (q_ (.bool (decide (i < x))) (s_nil (k8 _ _ ?_)))
 refine w_condp (i < x) (by kernel_rfl) rfl (fun h9 => ?_) (fun h9 => ?_)
 ·have r10 := ite_t h9 r7
  refine w_seqk fun _ k11 => g_' (q_ (.int .u32 i) ?_)
  refine l_' (.int .u32 x_) (aL_ 90 (pt_ b_p_ 0) H) (h_p_.l_) ?_
  obtain ⟨g12, r13⟩ := G_some r10
  refine s_w ((i + x_)) (k := .u32) (x := (i + x_)) (by kernel_rfl) (wrapu32 g12) ?_
  refine q_ (.int .u32 (i + x_)) (s_nil (k11 _ _ ?_))
  refine w_ret (bl_ret (th_ret ?_))
  refine b_ret (fn := Try.f92) (vs := [.int .u32 (i + x_)]) (rt_ (rfl)) ?_
  obtain rfl := oi_ r13
  exact ⟨rfl, rfl⟩
 have r14 := ite_f h9 r7
 refine w_skip (k2 _ _ (w_seqk fun _ k15 => g_' (q_ (.int .u32 i) ?_)))
 refine l_' (.int .u32 x) (aL_ 90 (pt_ b_p 0) H) (h_p.l_) ?_
 obtain ⟨g16, r17⟩ := G_some r14
 refine s_w ((i - x)) (k := .u32) (x := (i - x)) (by kernel_rfl) (wrapu32 g16) ?_
 refine q_ (.int .u32 (i - x)) (s_nil (k15 _ _ ?_))
 refine w_ret ?_
 refine b_ret (fn := Try.f92) (vs := [.int .u32 (i - x)]) (rt_ (rfl)) ?_
 obtain rfl := oi_ r17
 exact ⟨rfl, rfl⟩
end Go.Vd
