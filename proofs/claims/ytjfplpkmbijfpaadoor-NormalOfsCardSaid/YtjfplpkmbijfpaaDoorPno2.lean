/- The walks of the functions (printed by a program of ours). -/
import Derived.Test.YtjfplpkmbijfpaaDoorPno1
import Derived.Test.YtjfplpkmbijfpaaDoorINo
import Derived.Test.YtjfplpkmbijfpaaDoorSoA
import Derived.Test.YtjfplpkmbijfpaaDoorVeV
set_option linter.unusedVariables false
set_option linter.unusedSimpArgs false
set_option linter.unusedSectionVars false
/-! (KNo0) -/

set_option maxRecDepth 100000
set_option maxHeartbeats 4000000
set_option linter.unusedVariables false
namespace Go.Vd
open Go.Proofs
attribute [local irreducible] wpSeq wpOrd aWp
set_option linter.unusedSimpArgs false
theorem e_pure {α : Type} (P : Program) (a : α) : pr P (pure a : Sem α) = some a := rfl
theorem e_prog {P : Program} : pr P (program : Sem Program) = some P := rfl
theorem e_und {P : Program} {t : TypeId} {d : TypeDesc} (h : P.underlying t = some d) : pr P (underlying t) = some d := by
 simp only [underlying, pr_bind]
 show ((pr P (program : Sem Program)).bind _) = _
 simp [show pr P (program : Sem Program) = some P from rfl, h]
 rfl
theorem e_int {P : Program} (d : Nat) (t : TypeId) (k : IntKind) (h : P.underlying t = some (.int k)) (a c : Int) : pr P (Op.equalIn (d+1) t (.int k a) (.int k c)) = some (a == c) := by
 simp only [Op.equalIn, pr_bind, e_und h]
 simp [e_pure]
theorem e_bool {P : Program} (d : Nat) (t : TypeId) (h : P.underlying t = some .bool) (a c : Bool) : pr P (Op.equalIn (d+1) t (.bool a) (.bool c)) = some (a == c) := by
 simp only [Op.equalIn, pr_bind, e_und h]
 simp [e_pure]

theorem e51_p0 (a0 : Int) (a1 : Int) (a2 : Int) : pr Tryd.prog (part 3 #[.int .i64 a0, .int .i64 a1, .int .i64 a2] 0) = some (.int .i64 a0) := by kernel_rfl
theorem e51_q0 (a c : Int) : pr Tryd.prog (Op.equalIn 9999 3 (.int .i64 a) (.int .i64 c)) = some (a == c) := e_int 9998 3 .i64 Go.Proofs.Tryd.underlying3 a c
theorem e51_p1 (a0 : Int) (a1 : Int) (a2 : Int) : pr Tryd.prog (part 3 #[.int .i64 a0, .int .i64 a1, .int .i64 a2] 1) = some (.int .i64 a1) := by kernel_rfl
theorem e51_q1 (a c : Int) : pr Tryd.prog (Op.equalIn 9999 3 (.int .i64 a) (.int .i64 c)) = some (a == c) := e_int 9998 3 .i64 Go.Proofs.Tryd.underlying3 a c
theorem e51_p2 (a0 : Int) (a1 : Int) (a2 : Int) : pr Tryd.prog (part 3 #[.int .i64 a0, .int .i64 a1, .int .i64 a2] 2) = some (.int .i64 a2) := by kernel_rfl
theorem e51_q2 (a c : Int) : pr Tryd.prog (Op.equalIn 9999 3 (.int .i64 a) (.int .i64 c)) = some (a == c) := e_int 9998 3 .i64 Go.Proofs.Tryd.underlying3 a c
theorem e51_stood : Tryd.prog.stoodInHeld 51 = false := by kernel_rfl
theorem e51_eq (a0 : Int) (a1 : Int) (a2 : Int) (c0 : Int) (c1 : Int) (c2 : Int) : pr Tryd.prog (Op.equalIn Op.maxDepth 51 (.agg #[.int .i64 a0, .int .i64 a1, .int .i64 a2]) (.agg #[.int .i64 c0, .int .i64 c1, .int .i64 c2])) = some (a0 == c0 && a1 == c1 && a2 == c2) := by
 rw [show Op.maxDepth = 9998 + 1 + 1 from rfl, Op.equalIn]
 rw [pr_bind, e_und Go.Proofs.Tryd.underlying51]
 simp only [Option.bind_some, pr_bind, e_prog, e51_stood, Bool.false_eq_true, if_false]
 simp [pr_bind, e51_p0, e51_p1, e51_p2, e51_q0, e51_q1, e51_q2]
 by_cases h0 : a0 = c0
 ·subst h0
  by_cases h1 : a1 = c1
  ·subst h1
   by_cases h2 : a2 = c2
   ·subst h2
    simp [e_pure, pr_bind, e51_p0, e51_p1, e51_p2, e51_q0, e51_q1, e51_q2]
   ·simp [e_pure, pr_bind, e51_p0, e51_p1, e51_p2, e51_q0, e51_q1, e51_q2, h2]
  ·simp [e_pure, pr_bind, e51_p0, e51_p1, e51_p2, e51_q0, e51_q1, e51_q2, h1]
 ·simp [e_pure, pr_bind, e51_p0, e51_p1, e51_p2, e51_q0, e51_q1, e51_q2, h0]
theorem e51_gneq (x y : Operand) (a0 : Int) (a1 : Int) (a2 : Int) (c0 : Int) (c1 : Int) (c2 : Int) : pr Tryd.prog (eqGuard .neq 51 x y (.agg #[.int .i64 a0, .int .i64 a1, .int .i64 a2]) (.agg #[.int .i64 c0, .int .i64 c1, .int .i64 c2])) = some () := by kernel_rfl
theorem aBin_neq51 (x y : Operand) (a0 : Int) (a1 : Int) (a2 : Int) (c0 : Int) (c1 : Int) (c2 : Int) : aBin Tryd.prog .neq 51 x y (.agg #[.int .i64 a0, .int .i64 a1, .int .i64 a2]) (.agg #[.int .i64 c0, .int .i64 c1, .int .i64 c2]) = some (.bool (!decide (a0 = c0 ∧ a1 = c1 ∧ a2 = c2))) := by
 unfold aBin
 rw [if_pos (show (plain (.agg #[.int .i64 a0, .int .i64 a1, .int .i64 a2]) && plain (.agg #[.int .i64 c0, .int .i64 c1, .int .i64 c2])) = true from rfl), pr_bind, e51_gneq]
 have : pr Tryd.prog (binOp .neq 51 (.agg #[.int .i64 a0, .int .i64 a1, .int .i64 a2]) (.agg #[.int .i64 c0, .int .i64 c1, .int .i64 c2])) = some (.bool (!decide (a0 = c0 ∧ a1 = c1 ∧ a2 = c2))) := by
  simp only [binOp, Op.equal, pr_bind, e51_eq]
  by_cases g0 : a0 = c0 <;> by_cases g1 : a1 = c1 <;> by_cases g2 : a2 = c2 <;> simp [e_pure, g0, g1, g2]
 simp only [Option.bind_some, this]
 rfl
theorem e51_geql (x y : Operand) (a0 : Int) (a1 : Int) (a2 : Int) (c0 : Int) (c1 : Int) (c2 : Int) : pr Tryd.prog (eqGuard .eql 51 x y (.agg #[.int .i64 a0, .int .i64 a1, .int .i64 a2]) (.agg #[.int .i64 c0, .int .i64 c1, .int .i64 c2])) = some () := by kernel_rfl
theorem aBin_eql51 (x y : Operand) (a0 : Int) (a1 : Int) (a2 : Int) (c0 : Int) (c1 : Int) (c2 : Int) : aBin Tryd.prog .eql 51 x y (.agg #[.int .i64 a0, .int .i64 a1, .int .i64 a2]) (.agg #[.int .i64 c0, .int .i64 c1, .int .i64 c2]) = some (.bool (decide (a0 = c0 ∧ a1 = c1 ∧ a2 = c2))) := by
 unfold aBin
 rw [if_pos (show (plain (.agg #[.int .i64 a0, .int .i64 a1, .int .i64 a2]) && plain (.agg #[.int .i64 c0, .int .i64 c1, .int .i64 c2])) = true from rfl), pr_bind, e51_geql]
 have : pr Tryd.prog (binOp .eql 51 (.agg #[.int .i64 a0, .int .i64 a1, .int .i64 a2]) (.agg #[.int .i64 c0, .int .i64 c1, .int .i64 c2])) = some (.bool (decide (a0 = c0 ∧ a1 = c1 ∧ a2 = c2))) := by
  simp only [binOp, Op.equal, pr_bind, e51_eq]
  by_cases g0 : a0 = c0 <;> by_cases g1 : a1 = c1 <;> by_cases g2 : a2 = c2 <;> simp [e_pure, g0, g1, g2]
 simp only [Option.bind_some, this]
 rfl
theorem e89_p0 (a0 : Int) (a1 : Int) : pr Tryd.prog (part 55 #[.int .i64 a0, .int .i64 a1] 0) = some (.int .i64 a0) := by kernel_rfl
theorem e89_q0 (a c : Int) : pr Tryd.prog (Op.equalIn 9999 55 (.int .i64 a) (.int .i64 c)) = some (a == c) := e_int 9998 55 .i64 Go.Proofs.Tryd.underlying55 a c
theorem e89_p1 (a0 : Int) (a1 : Int) : pr Tryd.prog (part 3 #[.int .i64 a0, .int .i64 a1] 1) = some (.int .i64 a1) := by kernel_rfl
theorem e89_q1 (a c : Int) : pr Tryd.prog (Op.equalIn 9999 3 (.int .i64 a) (.int .i64 c)) = some (a == c) := e_int 9998 3 .i64 Go.Proofs.Tryd.underlying3 a c
theorem e89_stood : Tryd.prog.stoodInHeld 89 = false := by kernel_rfl
theorem e89_eq (a0 : Int) (a1 : Int) (c0 : Int) (c1 : Int) : pr Tryd.prog (Op.equalIn Op.maxDepth 89 (.agg #[.int .i64 a0, .int .i64 a1]) (.agg #[.int .i64 c0, .int .i64 c1])) = some (a0 == c0 && a1 == c1) := by
 rw [show Op.maxDepth = 9998 + 1 + 1 from rfl, Op.equalIn]
 rw [pr_bind, e_und Go.Proofs.Tryd.underlying89]
 simp only [Option.bind_some, pr_bind, e_prog, e89_stood, Bool.false_eq_true, if_false]
 simp [pr_bind, e89_p0, e89_p1, e89_q0, e89_q1]
 by_cases h0 : a0 = c0
 ·subst h0
  by_cases h1 : a1 = c1
  ·subst h1
   simp [e_pure, pr_bind, e89_p0, e89_p1, e89_q0, e89_q1]
  ·simp [e_pure, pr_bind, e89_p0, e89_p1, e89_q0, e89_q1, h1]
 ·simp [e_pure, pr_bind, e89_p0, e89_p1, e89_q0, e89_q1, h0]
theorem e89_gneq (x y : Operand) (a0 : Int) (a1 : Int) (c0 : Int) (c1 : Int) : pr Tryd.prog (eqGuard .neq 89 x y (.agg #[.int .i64 a0, .int .i64 a1]) (.agg #[.int .i64 c0, .int .i64 c1])) = some () := by kernel_rfl
theorem aBin_neq89 (x y : Operand) (a0 : Int) (a1 : Int) (c0 : Int) (c1 : Int) : aBin Tryd.prog .neq 89 x y (.agg #[.int .i64 a0, .int .i64 a1]) (.agg #[.int .i64 c0, .int .i64 c1]) = some (.bool (!decide (a0 = c0 ∧ a1 = c1))) := by
 unfold aBin
 rw [if_pos (show (plain (.agg #[.int .i64 a0, .int .i64 a1]) && plain (.agg #[.int .i64 c0, .int .i64 c1])) = true from rfl), pr_bind, e89_gneq]
 have : pr Tryd.prog (binOp .neq 89 (.agg #[.int .i64 a0, .int .i64 a1]) (.agg #[.int .i64 c0, .int .i64 c1])) = some (.bool (!decide (a0 = c0 ∧ a1 = c1))) := by
  simp only [binOp, Op.equal, pr_bind, e89_eq]
  by_cases g0 : a0 = c0 <;> by_cases g1 : a1 = c1 <;> simp [e_pure, g0, g1]
 simp only [Option.bind_some, this]
 rfl
theorem e89_geql (x y : Operand) (a0 : Int) (a1 : Int) (c0 : Int) (c1 : Int) : pr Tryd.prog (eqGuard .eql 89 x y (.agg #[.int .i64 a0, .int .i64 a1]) (.agg #[.int .i64 c0, .int .i64 c1])) = some () := by kernel_rfl
theorem aBin_eql89 (x y : Operand) (a0 : Int) (a1 : Int) (c0 : Int) (c1 : Int) : aBin Tryd.prog .eql 89 x y (.agg #[.int .i64 a0, .int .i64 a1]) (.agg #[.int .i64 c0, .int .i64 c1]) = some (.bool (decide (a0 = c0 ∧ a1 = c1))) := by
 unfold aBin
 rw [if_pos (show (plain (.agg #[.int .i64 a0, .int .i64 a1]) && plain (.agg #[.int .i64 c0, .int .i64 c1])) = true from rfl), pr_bind, e89_geql]
 have : pr Tryd.prog (binOp .eql 89 (.agg #[.int .i64 a0, .int .i64 a1]) (.agg #[.int .i64 c0, .int .i64 c1])) = some (.bool (decide (a0 = c0 ∧ a1 = c1))) := by
  simp only [binOp, Op.equal, pr_bind, e89_eq]
  by_cases g0 : a0 = c0 <;> by_cases g1 : a1 = c1 <;> simp [e_pure, g0, g1]
 simp only [Option.bind_some, this]
 rfl
theorem c_viaductlaw04_awake_ev : evB Tryd.prog 100000 11 #[] = some true := by kernel_rfl
theorem c_viaductlaw04_awake {H : AH} : ACalls Tryd.prog 11 #[] H fun v H' => H = H' ∧ v = .bool true :=
 (acalls_evB mixed c_viaductlaw04_awake_ev rfl H).mono fun _ _ ⟨a, b⟩ => ⟨b.symm, a⟩

theorem c_viaductlaw04_great {H : AH} {hd_Arcs : Value} {fp_Arcs : Fp} {N_ : Int} {Arcs : List (Int × Int × Int)} {r : Bool}
  (wf : WF H) (h_Arcs : Sq enc_i64_i64_i64 3 H hd_Arcs Arcs fp_Arcs) (hr : z_viaductlaw04_great N_ Arcs = some r) :
  ACalls Tryd.prog 12 #[.agg #[.int .i64 N_, hd_Arcs]] H fun v H' => v = .bool r ∧ FrS [] H H' := by
 refine acalls_of_body mixed Tryd.func12 rfl (Nat.le_of_ble_eq_true rfl) ?_
 unfold z_viaductlaw04_great at hr
 refine w_seqk fun K1 k1 => ?_
 refine w_reg (by kernel_rfl) ?_
 refine s_rwl wf [.int .i64 N_, hd_Arcs] (one_cons (rfl) (one_cons (h_Arcs.one1) (one_nil))) (by kernel_rfl) fun b2 H3 e4 hb5 r6 => ?_
 refine s_qk (.bool false) (by kernel_rfl) ?_
 refine s_nil ?_
 refine k1 _ _ ?_
 refine w_seqk fun K8 k8 => ?_
 refine w_reg (by kernel_rfl) ?_
 refine s_qk (.pointer (some ⟨b2, 1, none⟩)) (by kernel_rfl) ?_
 refine s_ql (hd_Arcs) (x := aLoad Tryd.prog 22 (.pointer (some ⟨b2, 1, none⟩)) H3) (by kernel_rfl) (r6.ld (by kernel_rfl)) ?_
 have u9 := (h_Arcs.ext e4)
 refine s_ql (.int .i64 (Arcs.length : Int)) (x := aLen Tryd.prog 22 hd_Arcs H3) (by kernel_rfl) (u9.lenb (by kernel_rfl)) ?_
 refine s_b ((Arcs.length : Int) > 3000) (by kernel_rfl) (fun h10 => ?_) (fun h10 => ?_)
 ·have r11 := ite_t h10 hr
  refine s_qk (.bool true) (by kernel_rfl) ?_
  refine s_qk (.pointer (some ⟨b2, 1, none⟩)) (by kernel_rfl) ?_
  refine s_ql (hd_Arcs) (x := aLoad Tryd.prog 22 (.pointer (some ⟨b2, 1, none⟩)) H3) (by kernel_rfl) (r6.ld (by kernel_rfl)) ?_
  refine s_ql (.int .i64 (Arcs.length : Int)) (x := aLen Tryd.prog 22 hd_Arcs H3) (by kernel_rfl) (u9.lenb (by kernel_rfl)) ?_
  refine s_qk (.bool (decide ((Arcs.length : Int) ≤ 262144))) (by kernel_rfl) ?_
  refine s_qk (.bool (decide ((Arcs.length : Int) ≤ 262144))) (by kernel_rfl) ?_
  refine s_qk (.bool (decide ((Arcs.length : Int) ≤ 262144))) (by kernel_rfl) ?_
  refine s_nil ?_
  refine k8 _ _ ?_
  refine w_ret ?_
  refine b_ret (fn := Tryd.f12) (vs := [.bool (decide ((Arcs.length : Int) ≤ 262144))]) (aRes_tmp (by kernel_rfl) (rfl)) ?_
  obtain rfl := Option.some.inj r11
  exact ⟨rfl, ((FrS.refl (W := []) wf).extR e4)⟩
 ·have r12 := ite_f h10 hr
  refine s_qk (.bool false) (by kernel_rfl) ?_
  refine s_no (by kernel_rfl) ?_
  refine s_no (by kernel_rfl) ?_
  refine s_no (by kernel_rfl) ?_
  refine s_no (by kernel_rfl) ?_
  refine s_qk (.bool false) (by kernel_rfl) ?_
  refine s_qk (.bool false) (by kernel_rfl) ?_
  refine s_nil ?_
  refine k8 _ _ ?_
  refine w_ret ?_
  refine b_ret (fn := Tryd.f12) (vs := [.bool false]) (aRes_tmp (by kernel_rfl) (rfl)) ?_
  obtain rfl := Option.some.inj r12
  exact ⟨rfl, ((FrS.refl (W := []) wf).extR e4)⟩

theorem c_gtext_within {H : AH} {x : Int} {n_ : Int} {r : Bool}
  (wf : WF H) (hr : z_gtext_within x n_ = some r) :
  ACalls Tryd.prog 88 #[.int .i64 x, .int .i64 n_] H fun v H' => v = .bool r ∧ H = H' := by
 refine acalls_of_body mixed Tryd.func88 rfl (Nat.le_of_ble_eq_true rfl) ?_
 unfold z_gtext_within at hr
 refine w_seqk fun K1 k1 => ?_
 refine w_reg (by kernel_rfl) ?_
 refine s_qk (.bool false) (by kernel_rfl) ?_
 refine s_nil ?_
 refine k1 _ _ ?_
 refine w_seqk fun K2 k2 => ?_
 refine w_reg (by kernel_rfl) ?_
 refine s_qk (.int .i64 x) (by kernel_rfl) ?_
 refine s_b (x ≥ 0) (by kernel_rfl) (fun h3 => ?_) (fun h3 => ?_)
 ·have r4 := ite_t h3 hr
  refine s_qk (.bool true) (by kernel_rfl) ?_
  refine s_qk (.int .i64 x) (by kernel_rfl) ?_
  refine s_qk (.int .i64 n_) (by kernel_rfl) ?_
  refine s_qk (.bool (decide (x < n_))) (by kernel_rfl) ?_
  refine s_qk (.bool (decide (x < n_))) (by kernel_rfl) ?_
  refine s_qk (.bool (decide (x < n_))) (by kernel_rfl) ?_
  refine s_nil ?_
  refine k2 _ _ ?_
  refine w_ret ?_
  refine b_ret (fn := Tryd.f88) (vs := [.bool (decide (x < n_))]) (aRes_tmp (by kernel_rfl) (rfl)) ?_
  obtain rfl := Option.some.inj r4
  exact ⟨rfl, rfl⟩
 ·have r5 := ite_f h3 hr
  refine s_qk (.bool false) (by kernel_rfl) ?_
  refine s_no (by kernel_rfl) ?_
  refine s_no (by kernel_rfl) ?_
  refine s_no (by kernel_rfl) ?_
  refine s_qk (.bool false) (by kernel_rfl) ?_
  refine s_qk (.bool false) (by kernel_rfl) ?_
  refine s_nil ?_
  refine k2 _ _ ?_
  refine w_ret ?_
  refine b_ret (fn := Tryd.f88) (vs := [.bool false]) (aRes_tmp (by kernel_rfl) (rfl)) ?_
  obtain rfl := Option.some.inj r5
  exact ⟨rfl, rfl⟩

theorem c_gtext_arc {H : AH} {From : Int} {To : Int} {Weight : Int} {n_ : Int} {r : Er}
  (wf : WF H) (hr : z_gtext_arc From To Weight n_ = some r) :
  ACalls Tryd.prog 74 #[.agg #[.int .i64 From, .int .i64 To, .int .i64 Weight], .int .i64 n_] H fun v H' => ∃ (v3 : Value) (f4 : Fp), v = v3 ∧ FrS [] H H' ∧ Ev 53 90 H' v3 r f4 ∧ Inn [] H f4 := by
 refine acalls_of_body mixed Tryd.func74 rfl (Nat.le_of_ble_eq_true rfl) ?_
 unfold z_gtext_arc at hr
 refine w_seqk fun K6 k6 => ?_
 refine w_reg (by kernel_rfl) ?_
 refine s_rwl wf [.int .i64 From, .int .i64 To, .int .i64 Weight] (one_cons (rfl) (one_cons (rfl) (one_cons (rfl) (one_nil)))) (by kernel_rfl) fun b7 H8 e9 hb10 r11 => ?_
 refine s_qk (.nilIface) (by kernel_rfl) ?_
 refine s_nil ?_
 refine k6 _ _ ?_
 refine w_seqk fun K13 k13 => ?_
 refine w_block ?_
 refine w_seqk fun K14 k14 => ?_
 obtain ⟨o15, hx16, r17⟩ := bind_some hr
 refine w_mid (fun α H18 => Has α [(2, .pointer (some ⟨b7, 0, none⟩)), (5, .bool o15)] ∧ H8 = H18) (fun K20 k20 => ?_) (fun α H18 hM => ?_)
 ·refine w_reg (by kernel_rfl) ?_
  refine s_qk (.pointer (some ⟨b7, 0, none⟩)) (by kernel_rfl) ?_
  refine s_ql (.int .i64 From) (x := aLoad Tryd.prog 3 (.pointer (some ⟨b7, 0, none⟩)) H8) (by kernel_rfl) (r11.ld (by kernel_rfl)) ?_
  refine s_qk (.int .i64 n_) (by kernel_rfl) ?_
  obtain ⟨y22, hy23, r24⟩ := bind_some hx16
  refine s_ck 88 #[.int .i64 From, .int .i64 n_] (by kernel_rfl) (c_gtext_within e9.wf hy23) ?_
  rintro _ _ ⟨rfl, rfl⟩
  by_cases h27 : y22 = true
  ·have r28 := ite_t h27 r24
   rw [h27]
   refine s_qk (.bool false) (by kernel_rfl) ?_
   refine s_qk (.bool false) (by kernel_rfl) ?_
   refine s_qk (.pointer (some ⟨b7, 1, none⟩)) (by kernel_rfl) ?_
   refine s_ql (.int .i64 To) (x := aLoad Tryd.prog 3 (.pointer (some ⟨b7, 1, none⟩)) H8) (by kernel_rfl) (r11.ld (by kernel_rfl)) ?_
   refine s_qk (.int .i64 n_) (by kernel_rfl) ?_
   obtain ⟨y30, hy31, r32⟩ := bind_some r28
   refine s_ck 88 #[.int .i64 To, .int .i64 n_] (by kernel_rfl) (c_gtext_within e9.wf hy31) ?_
   rintro _ _ ⟨rfl, rfl⟩
   refine s_qk (.bool (!y30)) (by kernel_rfl) ?_
   refine s_qk (.bool (!y30)) (by kernel_rfl) ?_
   refine s_qk (.bool (!y30)) (by kernel_rfl) ?_
   refine s_nil ?_
   obtain rfl := Option.some.inj r32
   exact k20 _ _ ⟨⟨by kernel_rfl, by kernel_rfl, trivial⟩, rfl⟩
  ·have r35 := ite_f h27 r24
   rw [nb h27]
   refine s_qk (.bool true) (by kernel_rfl) ?_
   refine s_qk (.bool true) (by kernel_rfl) ?_
   refine s_no (by kernel_rfl) ?_
   refine s_no (by kernel_rfl) ?_
   refine s_no (by kernel_rfl) ?_
   refine s_no (by kernel_rfl) ?_
   refine s_no (by kernel_rfl) ?_
   refine s_qk (.bool true) (by kernel_rfl) ?_
   refine s_qk (.bool true) (by kernel_rfl) ?_
   refine s_nil ?_
   obtain rfl := Option.some.inj r35
   exact k20 _ _ ⟨⟨by kernel_rfl, by kernel_rfl, trivial⟩, rfl⟩
 ·obtain ⟨hh21, rfl⟩ := hM
  obtain ⟨β, rfl⟩ := has_ex hh21
  clear hh21
  refine k14 _ _ ?_
  refine w_cond (o15) (by kernel_rfl) rfl (fun h37 => ?_) (fun h37 => ?_)
  ·have r38 := ite_t h37 r17
   refine w_seqk fun K39 k39 => ?_
   refine w_reg (by kernel_rfl) ?_
   refine s_qk (.iface 53 (.int .i64 7)) (by kernel_rfl) ?_
   refine s_qk (.iface 53 (.int .i64 7)) (by kernel_rfl) ?_
   refine s_nil ?_
   refine k39 _ _ ?_
   refine w_ret (bl_ret (th_ret ?_))
   refine b_ret (fn := Tryd.f74) (vs := [.iface 53 (.int .i64 7)]) (aRes_tmp (by kernel_rfl) (rfl)) ?_
   obtain rfl := Option.some.inj r38
   exact ⟨(.iface 53 (.int .i64 7)), [], rfl, ((FrS.refl (W := []) wf).extR e9), Ev.no, Inn.nil⟩
  ·have r40 := ite_bf h37 r17
   refine w_seqk fun K41 k41 => ?_
   refine w_reg (by kernel_rfl) ?_
   refine s_qk (.pointer (some ⟨b7, 2, none⟩)) (by kernel_rfl) ?_
   refine s_ql (.int .i64 Weight) (x := aLoad Tryd.prog 3 (.pointer (some ⟨b7, 2, none⟩)) H8) (by kernel_rfl) (r11.ld (by kernel_rfl)) ?_
   refine s_b (Weight < 0) (by kernel_rfl) (fun h42 => ?_) (fun h42 => ?_)
   ·have r43 := ite_t h42 r40
    refine s_qk (.bool true) (by kernel_rfl) ?_
    refine s_no (by kernel_rfl) ?_
    refine s_no (by kernel_rfl) ?_
    refine s_no (by kernel_rfl) ?_
    refine s_qk (.bool true) (by kernel_rfl) ?_
    refine s_qk (.bool true) (by kernel_rfl) ?_
    refine s_nil ?_
    refine k41 _ _ ?_
    refine w_cond true (by kernel_rfl) rfl (fun _ => ?_) (fun h => by cases h)
    refine w_seqk fun K44 k44 => ?_
    refine w_reg (by kernel_rfl) ?_
    refine s_qk (.iface 53 (.int .i64 8)) (by kernel_rfl) ?_
    refine s_qk (.iface 53 (.int .i64 8)) (by kernel_rfl) ?_
    refine s_nil ?_
    refine k44 _ _ ?_
    refine w_ret (bl_ret (th_ret ?_))
    refine b_ret (fn := Tryd.f74) (vs := [.iface 53 (.int .i64 8)]) (aRes_tmp (by kernel_rfl) (rfl)) ?_
    obtain rfl := Option.some.inj r43
    exact ⟨(.iface 53 (.int .i64 8)), [], rfl, ((FrS.refl (W := []) wf).extR e9), Ev.no, Inn.nil⟩
   ·have r45 := ite_f h42 r40
    refine s_qk (.bool false) (by kernel_rfl) ?_
    refine s_qk (.pointer (some ⟨b7, 2, none⟩)) (by kernel_rfl) ?_
    refine s_ql (.int .i64 Weight) (x := aLoad Tryd.prog 3 (.pointer (some ⟨b7, 2, none⟩)) H8) (by kernel_rfl) (r11.ld (by kernel_rfl)) ?_
    refine s_qk (.bool (decide (Weight > 2147483647))) (by kernel_rfl) ?_
    refine s_qk (.bool (decide (Weight > 2147483647))) (by kernel_rfl) ?_
    refine s_qk (.bool (decide (Weight > 2147483647))) (by kernel_rfl) ?_
    refine s_nil ?_
    refine k41 _ _ ?_
    refine w_condp (Weight > 2147483647) (by kernel_rfl) rfl (fun h46 => ?_) (fun h46 => ?_)
    ·have r47 := ite_t h46 r45
     refine w_seqk fun K48 k48 => ?_
     refine w_reg (by kernel_rfl) ?_
     refine s_qk (.iface 53 (.int .i64 8)) (by kernel_rfl) ?_
     refine s_qk (.iface 53 (.int .i64 8)) (by kernel_rfl) ?_
     refine s_nil ?_
     refine k48 _ _ ?_
     refine w_ret (bl_ret (th_ret ?_))
     refine b_ret (fn := Tryd.f74) (vs := [.iface 53 (.int .i64 8)]) (aRes_tmp (by kernel_rfl) (rfl)) ?_
     obtain rfl := Option.some.inj r47
     exact ⟨(.iface 53 (.int .i64 8)), [], rfl, ((FrS.refl (W := []) wf).extR e9), Ev.no, Inn.nil⟩
    ·have r49 := ite_f h46 r45
     refine w_skip ?_
     refine k13 _ _ ?_
     refine w_seqk fun K50 k50 => ?_
     refine w_reg (by kernel_rfl) ?_
     refine s_qk (.nilIface) (by kernel_rfl) ?_
     refine s_nil ?_
     refine k50 _ _ ?_
     refine w_ret ?_
     refine b_ret (fn := Tryd.f74) (vs := [.nilIface]) (aRes_tmp (by kernel_rfl) (rfl)) ?_
     obtain rfl := Option.some.inj r49
     exact ⟨(.nilIface), [], rfl, ((FrS.refl (W := []) wf).extR e9), Ev.nil, Inn.nil⟩

theorem c_fault_At {H : AH} {ev_err : Value} {fp_err : Fp} {kind : Int} {at_ : Int} {err : Er} {r : Er}
  (wf : WF H) (h_err : Ev 53 90 H ev_err err fp_err) (hr : z_fault_At kind at_ err = some r) :
  ACalls Tryd.prog 63 #[.int .i64 kind, .int .i64 at_, ev_err] H fun v H' => ∃ (v3 : Value) (f4 : Fp), v = v3 ∧ FrS [] H H' ∧ Ev 53 90 H' v3 r f4 ∧ Inn fp_err H f4 := by
 refine acalls_of_body mixed Tryd.func63 rfl (Nat.le_of_ble_eq_true rfl) ?_
 unfold z_fault_At at hr
 refine w_seqk fun K6 k6 => ?_
 refine w_reg (by kernel_rfl) ?_
 refine s_qk (.nilIface) (by kernel_rfl) ?_
 refine s_nil ?_
 refine k6 _ _ ?_
 refine w_seqk fun K7 k7 => ?_
 refine w_seqk fun K8 k8 => ?_
 refine w_reg (by kernel_rfl) ?_
 refine s_qk (ev_err) (by kernel_rfl) ?_
 rcases (h_err).cases with ⟨h9, rfl⟩ | ⟨h9, t10, x11, rfl⟩
 ·have r12 := ite_t h9 hr
  refine s_qk (.bool true) (by kernel_rfl) ?_
  refine s_nil ?_
  refine k8 _ _ ?_
  refine w_cond true (by kernel_rfl) rfl (fun _ => ?_) (fun h => by cases h)
  refine w_seqk fun K13 k13 => ?_
  refine w_reg (by kernel_rfl) ?_
  refine s_qk (.nilIface) (by kernel_rfl) ?_
  refine s_nil ?_
  refine k13 _ _ ?_
  refine w_ret (th_ret ?_)
  refine b_ret (fn := Tryd.f63) (vs := [.nilIface]) (aRes_tmp (by kernel_rfl) (rfl)) ?_
  obtain rfl := Option.some.inj r12
  exact ⟨(.nilIface), [], rfl, (FrS.refl (W := []) wf), Ev.nil, Inn.nil⟩
 ·have r14 := ite_f h9 hr
  refine s_ql (.bool false) (x := aBin Tryd.prog .eql 28 (.tmp 7) (.const .nilIface) (.iface t10 x11) .nilIface) (by kernel_rfl) (aBin_nil (by kernel_rfl)) ?_
  refine s_nil ?_
  refine k8 _ _ ?_
  refine w_cond false (by kernel_rfl) rfl (fun h => by cases h) (fun _ => ?_)
  refine w_skip ?_
  refine k7 _ _ ?_
  refine w_seqk fun K15 k15 => ?_
  refine w_reg (by kernel_rfl) ?_
  refine s_qk (.int .i64 kind) (by kernel_rfl) ?_
  refine s_qk (.int .i64 at_) (by kernel_rfl) ?_
  refine s_qk (.agg #[.int .i64 kind, .int .i64 at_]) (by kernel_rfl) ?_
  refine s_qk (.iface t10 x11) (by kernel_rfl) ?_
  refine s_qk (.agg #[.int .i64 kind, .int .i64 at_, .iface t10 x11]) (by kernel_rfl) ?_
  refine s_rwl wf [.int .i64 kind, .int .i64 at_, .iface t10 x11] (one_cons (rfl) (one_cons (rfl) (one_cons (h_err.one1) (one_nil)))) (by kernel_rfl) fun b16 H17 e18 hb19 r20 => ?_
  have u22 := (h_err.ext e18)
  obtain ⟨fq23, he24, hi25⟩ := Ev.at r20 u22 hb19
  refine s_qk (.iface 90 (.pointer (some ⟨b16, 0, none⟩))) (by kernel_rfl) ?_
  refine s_qk (.iface 90 (.pointer (some ⟨b16, 0, none⟩))) (by kernel_rfl) ?_
  refine s_nil ?_
  refine k15 _ _ ?_
  refine w_ret ?_
  refine b_ret (fn := Tryd.f63) (vs := [.iface 90 (.pointer (some ⟨b16, 0, none⟩))]) (aRes_tmp (by kernel_rfl) (rfl)) ?_
  obtain rfl := Option.some.inj r14
  exact ⟨(.iface 90 (.pointer (some ⟨b16, 0, none⟩))), fq23, rfl, ((FrS.refl (W := []) wf).extR e18), he24, (Inn.trans Inn.refl' (Nat.le_refl _) hi25)⟩

theorem c_gtext_Check {H : AH} {hd_Arcs : Value} {fp_Arcs : Fp} {N_ : Int} {Arcs : List (Int × Int × Int)} {r : Er}
  (wf : WF H) (h_Arcs : Sq enc_i64_i64_i64 3 H hd_Arcs Arcs fp_Arcs) (hr : z_gtext_Check N_ Arcs = some r) :
  ACalls Tryd.prog 47 #[.agg #[.int .i64 N_, hd_Arcs]] H fun v H' => ∃ (v3 : Value) (f4 : Fp), v = v3 ∧ FrS [] H H' ∧ Ev 53 90 H' v3 r f4 ∧ Inn [] H f4 := by
 refine acalls_of_body mixed Tryd.func47 rfl (Nat.le_of_ble_eq_true rfl) ?_
 unfold z_gtext_Check at hr
 refine w_seqk fun K6 k6 => ?_
 refine w_reg (by kernel_rfl) ?_
 refine s_rwl wf [.int .i64 N_, hd_Arcs] (one_cons (rfl) (one_cons (h_Arcs.one1) (one_nil))) (by kernel_rfl) fun b7 H8 e9 hb10 r11 => ?_
 refine s_qk (.nilIface) (by kernel_rfl) ?_
 refine s_nil ?_
 refine k6 _ _ ?_
 refine w_seqk fun K13 k13 => ?_
 refine w_seqk fun K14 k14 => ?_
 obtain ⟨o15, hx16, r17⟩ := bind_some hr
 refine w_mid (fun α H18 => Has α [(1, .pointer (some ⟨b7, 0, none⟩)), (19, .bool o15)] ∧ H8 = H18) (fun K20 k20 => ?_) (fun α H18 hM => ?_)
 ·refine w_reg (by kernel_rfl) ?_
  refine s_qk (.pointer (some ⟨b7, 0, none⟩)) (by kernel_rfl) ?_
  refine s_ql (.int .i64 N_) (x := aLoad Tryd.prog 3 (.pointer (some ⟨b7, 0, none⟩)) H8) (by kernel_rfl) (r11.ld (by kernel_rfl)) ?_
  refine s_b (N_ < 0) (by kernel_rfl) (fun h22 => ?_) (fun h22 => ?_)
  ·have r23 := ite_t h22 hx16
   refine s_qk (.bool true) (by kernel_rfl) ?_
   refine s_no (by kernel_rfl) ?_
   refine s_no (by kernel_rfl) ?_
   refine s_no (by kernel_rfl) ?_
   refine s_qk (.bool true) (by kernel_rfl) ?_
   refine s_qk (.bool true) (by kernel_rfl) ?_
   refine s_no (by kernel_rfl) ?_
   refine s_no (by kernel_rfl) ?_
   refine s_no (by kernel_rfl) ?_
   refine s_no (by kernel_rfl) ?_
   refine s_qk (.bool true) (by kernel_rfl) ?_
   refine s_nil ?_
   obtain rfl := Option.some.inj r23
   exact k20 _ _ ⟨⟨by kernel_rfl, by kernel_rfl, trivial⟩, rfl⟩
  ·have r24 := ite_f h22 hx16
   refine s_qk (.bool false) (by kernel_rfl) ?_
   refine s_qk (.pointer (some ⟨b7, 0, none⟩)) (by kernel_rfl) ?_
   refine s_ql (.int .i64 N_) (x := aLoad Tryd.prog 3 (.pointer (some ⟨b7, 0, none⟩)) H8) (by kernel_rfl) (r11.ld (by kernel_rfl)) ?_
   refine s_b (N_ > 65536) (by kernel_rfl) (fun h25 => ?_) (fun h25 => ?_)
   ·have r26 := ite_t h25 r24
    refine s_qk (.bool true) (by kernel_rfl) ?_
    refine s_qk (.bool true) (by kernel_rfl) ?_
    refine s_no (by kernel_rfl) ?_
    refine s_no (by kernel_rfl) ?_
    refine s_no (by kernel_rfl) ?_
    refine s_no (by kernel_rfl) ?_
    refine s_qk (.bool true) (by kernel_rfl) ?_
    refine s_nil ?_
    obtain rfl := Option.some.inj r26
    exact k20 _ _ ⟨⟨by kernel_rfl, by kernel_rfl, trivial⟩, rfl⟩
   ·have r27 := ite_f h25 r24
    refine s_qk (.bool false) (by kernel_rfl) ?_
    refine s_qk (.bool false) (by kernel_rfl) ?_
    refine s_qk (.pointer (some ⟨b7, 1, none⟩)) (by kernel_rfl) ?_
    refine s_ql (hd_Arcs) (x := aLoad Tryd.prog 22 (.pointer (some ⟨b7, 1, none⟩)) H8) (by kernel_rfl) (r11.ld (by kernel_rfl)) ?_
    have u28 := (h_Arcs.ext e9)
    refine s_ql (.int .i64 (Arcs.length : Int)) (x := aLen Tryd.prog 22 hd_Arcs H8) (by kernel_rfl) (u28.lenb (by kernel_rfl)) ?_
    refine s_qk (.bool (decide ((Arcs.length : Int) > 262144))) (by kernel_rfl) ?_
    refine s_qk (.bool (decide ((Arcs.length : Int) > 262144))) (by kernel_rfl) ?_
    refine s_nil ?_
    obtain rfl := Option.some.inj r27
    exact k20 _ _ ⟨⟨by kernel_rfl, by kernel_rfl, trivial⟩, rfl⟩
 ·obtain ⟨hh21, rfl⟩ := hM
  obtain ⟨β, rfl⟩ := has_ex hh21
  clear hh21
  refine k14 _ _ ?_
  refine w_cond (o15) (by kernel_rfl) rfl (fun h29 => ?_) (fun h29 => ?_)
  ·have r30 := ite_t h29 r17
   refine w_seqk fun K31 k31 => ?_
   refine w_reg (by kernel_rfl) ?_
   refine s_qk (.iface 53 (.int .i64 9)) (by kernel_rfl) ?_
   refine s_qk (.iface 53 (.int .i64 9)) (by kernel_rfl) ?_
   refine s_nil ?_
   refine k31 _ _ ?_
   refine w_ret (th_ret ?_)
   refine b_ret (fn := Tryd.f47) (vs := [.iface 53 (.int .i64 9)]) (aRes_tmp (by kernel_rfl) (rfl)) ?_
   obtain rfl := Option.some.inj r30
   exact ⟨(.iface 53 (.int .i64 9)), [], rfl, ((FrS.refl (W := []) wf).extR e9), Ev.no, Inn.nil⟩
  ·have r32 := ite_bf h29 r17
   refine w_skip ?_
   refine k13 _ _ ?_
   refine w_seqk fun K33 k33 => ?_
   refine w_seqk fun K34 k34 => ?_
   refine w_reg (by kernel_rfl) ?_
   refine s_qk (.pointer (some ⟨b7, 1, none⟩)) (by kernel_rfl) ?_
   refine s_ql (hd_Arcs) (x := aLoad Tryd.prog 22 (.pointer (some ⟨b7, 1, none⟩)) H8) (by kernel_rfl) (r11.ld (by kernel_rfl)) ?_
   have u35 := (h_Arcs.ext e9)
   refine s_ql (.int .i64 (Arcs.length : Int)) (x := aLen Tryd.prog 22 hd_Arcs H8) (by kernel_rfl) (u35.lenb (by kernel_rfl)) ?_
   refine s_qk (.int .i64 0) (by kernel_rfl) ?_
   refine s_nil ?_
   refine k34 _ _ ?_
   obtain ⟨z39, hx37, r38⟩ := bind_some r32
   refine w_mid (fun α H40 => ∃ o36, z39 = Sum.inr o36 ∧ Has α [] ∧ FrS [] H8 H40) (fun K42 k42 => ?_) (fun α H40 hM => ?_)
   ·refine w_block ?_
    obtain ⟨n44, hn45⟩ := loopO_iff.1 hx37
    refine w_loopn (fun n α H46 => ∃ (i0 : Int), iterO (fun zz_ => z_gtext_Check_l0 N_ Arcs zz_) n i0 = some z39 ∧ Has α [(1, .pointer (some ⟨b7, 0, none⟩)), (22, hd_Arcs), (23, .int .i64 (Arcs.length : Int)), (24, .int .i64 i0)] ∧ FrS [] H8 H46) n44 ⟨0, hn45, ⟨by kernel_rfl, by kernel_rfl, by kernel_rfl, by kernel_rfl, trivial⟩, (FrS.refl (W := []) e9.wf)⟩ ?_
    rintro n44 α H46 ⟨i0, hi49, hh48, e47⟩ K54 k54
    obtain ⟨n50, z51, rfl, hz52, hn53⟩ := iter_succ hi49
    obtain ⟨β, rfl⟩ := has_ex hh48
    clear hh48
    replace hz52 : z_gtext_Check_l0 N_ Arcs i0 = some z51 := hz52
    unfold z_gtext_Check_l0 at hz52
    refine w_seqk fun K55 k55 => ?_
    refine w_reg (by kernel_rfl) ?_
    refine s_qk (.bool (decide (i0 < (Arcs.length : Int)))) (by kernel_rfl) ?_
    refine s_nil ?_
    refine k55 _ _ ?_
    refine w_seqk fun K56 k56 => ?_
    refine w_condp (i0 < (Arcs.length : Int)) (by kernel_rfl) rfl (fun h57 => ?_) (fun h57 => ?_)
    ·have r58 := ite_t h57 hz52
     refine w_skip ?_
     refine k56 _ _ ?_
     refine w_seqk fun K59 k59 => ?_
     refine w_block ?_
     refine w_seqk fun K60 k60 => ?_
     refine w_reg (by kernel_rfl) ?_
     refine s_qk (.int .i64 i0) (by kernel_rfl) ?_
     obtain ⟨g61, r62⟩ := G_some r58
     have u63 := (u35.fr e47 Dj.nil_l)
     refine s_ql (elp hd_Arcs 3 i0.toNat 0) (x := aIndexAddr Tryd.prog 22 hd_Arcs (.int .i64 i0)) (by kernel_rfl) (u63.idxb (by kernel_rfl) g61 h57) ?_
     refine s_ql (.agg #[.int .i64 ((gt Arcs i0).1), .int .i64 ((gt Arcs i0).2.1), .int .i64 ((gt Arcs i0).2.2)]) (x := aLoad Tryd.prog 51 (elp hd_Arcs 3 i0.toNat 0) H46) (by kernel_rfl) (u63.ld g61 h57 (by kernel_rfl)) ?_
     refine s_rwk e47.wf [.int .i64 0, .int .i64 0, .int .i64 0] (by kernel_rfl) fun b64 H65 e66 hb67 r68 => ?_
     refine s_qk (.int .i64 i0) (by kernel_rfl) ?_
     obtain ⟨H70, q71, e72, r73⟩ := Row.store (P := Tryd.prog) (t := 51) (p := 0) e66.wf r68 (.agg #[.int .i64 ((gt Arcs i0).1), .int .i64 ((gt Arcs i0).2.1), .int .i64 ((gt Arcs i0).2.2)]) [.int .i64 ((gt Arcs i0).1), .int .i64 ((gt Arcs i0).2.1), .int .i64 ((gt Arcs i0).2.2)] (by kernel_rfl) (by kernel_rfl) (one_cons (rfl) (one_cons (rfl) (one_cons (rfl) (one_nil)))) (Nat.le_of_ble_eq_true (by kernel_rfl)) [.int .i64 ((gt Arcs i0).1), .int .i64 ((gt Arcs i0).2.1), .int .i64 ((gt Arcs i0).2.2)] (by kernel_rfl)
     refine s_ek (undef) (by kernel_rfl) (map_ok q71) ?_
     refine s_nil ?_
     refine k60 _ _ ?_
     refine w_seqk fun K74 k74 => ?_
     refine w_reg (by kernel_rfl) ?_
     refine s_ql (.agg #[.int .i64 ((gt Arcs i0).1), .int .i64 ((gt Arcs i0).2.1), .int .i64 ((gt Arcs i0).2.2)]) (x := aLoad Tryd.prog 51 (.pointer (some ⟨b64, 0, none⟩)) H70) (by kernel_rfl) (r73.ld (by kernel_rfl)) ?_
     refine s_qk (.pointer (some ⟨b7, 0, none⟩)) (by kernel_rfl) ?_
     have u75 := (((r11.frS e47 Dj.nil_l).ext e66).frS e72 (hb67.djn (r11.ltF.le e47.next)))
     refine s_ql (.int .i64 N_) (x := aLoad Tryd.prog 3 (.pointer (some ⟨b7, 0, none⟩)) H70) (by kernel_rfl) (u75.ld (by kernel_rfl)) ?_
     obtain ⟨y76, hy77, r78⟩ := bind_some r62
     refine s_ck 74 #[.agg #[.int .i64 ((gt Arcs i0).1), .int .i64 ((gt Arcs i0).2.1), .int .i64 ((gt Arcs i0).2.2)], .int .i64 N_] (by kernel_rfl) (c_gtext_arc e72.wf hy77) ?_
     rintro v79 H81 ⟨_, f80, rfl, e82, m83, i84⟩
     refine s_qk (v79) (by kernel_rfl) ?_
     refine s_nil ?_
     refine k74 _ _ ?_
     refine w_seqk fun K86 k86 => ?_
     refine w_reg (by kernel_rfl) ?_
     refine s_qk (v79) (by kernel_rfl) ?_
     rcases (m83).cases with ⟨h87, rfl⟩ | ⟨h87, t88, x89, rfl⟩
     ·have r90 := ite_t h87 r78
      refine s_qk (.bool false) (by kernel_rfl) ?_
      refine s_nil ?_
      refine k86 _ _ ?_
      refine w_cond false (by kernel_rfl) rfl (fun h => by cases h) (fun _ => ?_)
      refine w_skip ?_
      refine k59 _ _ ?_
      refine w_reg (by kernel_rfl) ?_
      obtain ⟨g91, r92⟩ := G_some r90
      refine s_w ((i0 + 1)) (k := .i64) (x := (i0 + 1)) (by kernel_rfl) (wrap64 (by have := g91; omega)) ?_
      refine s_qk (.int .i64 (i0 + 1)) (by kernel_rfl) ?_
      refine s_nil ?_
      obtain rfl := Option.some.inj r92
      exact k54 n50 _ _ (Nat.lt_succ_self _) ⟨(i0 + 1), hn53, ⟨by kernel_rfl, by kernel_rfl, by kernel_rfl, by kernel_rfl, trivial⟩, (FrS.step e9.wf (FrS.step e9.wf ((FrS.step e9.wf (FrS.refl (W := []) e9.wf) e47 Inn.nil).extR e66) e72 (hb67.fresh e47.next)) e82 Inn.nil)⟩
     ·have r93 := ite_f h87 r78
      refine s_ql (.bool true) (x := aBin Tryd.prog .neq 28 (.tmp 33) (.const .nilIface) (.iface t88 x89) .nilIface) (by kernel_rfl) (aBin_nnil (by kernel_rfl)) ?_
      refine s_nil ?_
      refine k86 _ _ ?_
      refine w_cond true (by kernel_rfl) rfl (fun _ => ?_) (fun h => by cases h)
      refine w_seqk fun K94 k94 => ?_
      refine w_reg (by kernel_rfl) ?_
      refine s_qk (.int .i64 i0) (by kernel_rfl) ?_
      refine s_qk (.iface t88 x89) (by kernel_rfl) ?_
      obtain ⟨y95, hy96, r97⟩ := bind_some r93
      refine s_ck 63 #[.int .i64 4, .int .i64 i0, .iface t88 x89] (by kernel_rfl) (c_fault_At e82.wf m83 hy96) ?_
      rintro v98 H100 ⟨_, f99, rfl, e101, m102, i103⟩
      refine s_qk (v98) (by kernel_rfl) ?_
      refine s_nil ?_
      refine k94 _ _ ?_
      refine w_ret (bl_ret (th_ret (th_ret (bl_ret (th_ret (th_ret ?_))))))
      obtain ⟨v105, hv106, hz107⟩ := map_some r97
      subst hz107
      obtain rfl := it_inr hn53
      have hq108 := elim_inl r38
      rw [hq108] at hv106
      refine b_ret (fn := Tryd.f47) (vs := [v98]) (aRes_tmp (by kernel_rfl) (rfl)) ?_
      obtain rfl := Option.some.inj hv106
      exact ⟨(v98), f99, rfl, (FrS.step wf (FrS.step wf (FrS.step wf ((FrS.step wf ((FrS.refl (W := []) wf).extR e9) e47 Inn.nil).extR e66) e72 (hb67.fresh (ntr e9.next e47.next))) e82 Inn.nil) e101 Inn.nil), m102, (Inn.trans (i84.fresh (ntr (ntr (ntr e9.next e47.next) e66.next) e72.next)) (ntr (ntr (ntr (ntr e9.next e47.next) e66.next) e72.next) e82.next) i103)⟩
    ·have r109 := ite_f h57 hz52
     refine w_exit (th_exit (th_exit (bl_eq ?_)))
     obtain rfl := Option.some.inj r109
     obtain rfl := it_inr hn53
     exact k42 _ _ ⟨_, rfl, trivial, (FrS.step e9.wf (FrS.refl (W := []) e9.wf) e47 Inn.nil)⟩
   ·obtain ⟨o36, rfl, hh43, e41⟩ := hM
    have r110 := elim_inr r38
    obtain ⟨β, rfl⟩ := has_ex hh43
    clear hh43
    refine k33 _ _ ?_
    refine w_seqk fun K111 k111 => ?_
    refine w_reg (by kernel_rfl) ?_
    refine s_qk (.nilIface) (by kernel_rfl) ?_
    refine s_nil ?_
    refine k111 _ _ ?_
    refine w_ret ?_
    refine b_ret (fn := Tryd.f47) (vs := [.nilIface]) (aRes_tmp (by kernel_rfl) (rfl)) ?_
    obtain rfl := Option.some.inj r110
    exact ⟨(.nilIface), [], rfl, (FrS.step wf ((FrS.refl (W := []) wf).extR e9) e41 Inn.nil), Ev.nil, Inn.nil⟩

theorem c_cmp_isNaN {H : AH} {x : Int} {r : Bool}
  (wf : WF H) (hr : z_cmp_isNaN x = some r) :
  ACalls Tryd.prog 99 #[.int .i64 x] H fun v H' => v = .bool r ∧ H = H' := by
 refine acalls_of_body mixed Tryd.func99 rfl (Nat.le_of_ble_eq_true rfl) ?_
 unfold z_cmp_isNaN at hr
 refine w_seqk fun K1 k1 => ?_
 refine w_reg (by kernel_rfl) ?_
 refine s_qk (.bool false) (by kernel_rfl) ?_
 refine s_nil ?_
 refine k1 _ _ ?_
 refine w_seqk fun K2 k2 => ?_
 refine w_reg (by kernel_rfl) ?_
 refine s_qk (.int .i64 x) (by kernel_rfl) ?_
 refine s_qk (.int .i64 x) (by kernel_rfl) ?_
 refine s_qk (.bool (!decide (x = x))) (by kernel_rfl) ?_
 refine s_qk (.bool (!decide (x = x))) (by kernel_rfl) ?_
 refine s_nil ?_
 refine k2 _ _ ?_
 refine w_ret ?_
 refine b_ret (fn := Tryd.f99) (vs := [.bool (!decide (x = x))]) (aRes_tmp (by kernel_rfl) (rfl)) ?_
 obtain rfl := Option.some.inj hr
 exact ⟨rfl, rfl⟩

theorem c_cmp_Compare {H : AH} {x : Int} {y : Int} {r : Int}
  (wf : WF H) (hr : z_cmp_Compare x y = some r) :
  ACalls Tryd.prog 78 #[.int .i64 x, .int .i64 y] H fun v H' => v = .int .i64 r ∧ H = H' := by
 refine acalls_of_body mixed Tryd.func78 rfl (Nat.le_of_ble_eq_true rfl) ?_
 unfold z_cmp_Compare at hr
 refine w_seqk fun K1 k1 => ?_
 refine w_reg (by kernel_rfl) ?_
 refine s_qk (.int .i64 0) (by kernel_rfl) ?_
 refine s_nil ?_
 refine k1 _ _ ?_
 refine w_seqk fun K2 k2 => ?_
 refine w_reg (by kernel_rfl) ?_
 refine s_qk (.int .i64 x) (by kernel_rfl) ?_
 obtain ⟨y3, hy4, r5⟩ := bind_some hr
 refine s_ck 99 #[.int .i64 x] (by kernel_rfl) (c_cmp_isNaN wf hy4) ?_
 rintro _ _ ⟨rfl, rfl⟩
 refine s_qk (.bool y3) (by kernel_rfl) ?_
 refine s_nil ?_
 refine k2 _ _ ?_
 refine w_seqk fun K8 k8 => ?_
 refine w_reg (by kernel_rfl) ?_
 refine s_qk (.int .i64 y) (by kernel_rfl) ?_
 obtain ⟨y9, hy10, r11⟩ := bind_some r5
 refine s_ck 99 #[.int .i64 y] (by kernel_rfl) (c_cmp_isNaN wf hy10) ?_
 rintro _ _ ⟨rfl, rfl⟩
 refine s_qk (.bool y9) (by kernel_rfl) ?_
 refine s_nil ?_
 refine k8 _ _ ?_
 refine w_seqk fun K14 k14 => ?_
 refine w_seqk fun K15 k15 => ?_
 refine w_reg (by kernel_rfl) ?_
 refine s_qk (.bool y3) (by kernel_rfl) ?_
 refine s_nil ?_
 refine k15 _ _ ?_
 refine w_cond (y3) (by kernel_rfl) rfl (fun h16 => ?_) (fun h16 => ?_)
 ·have r17 := ite_t h16 r11
  refine w_seqk fun K18 k18 => ?_
  refine w_seqk fun K19 k19 => ?_
  refine w_reg (by kernel_rfl) ?_
  refine s_qk (.bool y9) (by kernel_rfl) ?_
  refine s_nil ?_
  refine k19 _ _ ?_
  refine w_cond (y9) (by kernel_rfl) rfl (fun h20 => ?_) (fun h20 => ?_)
  ·have r21 := ite_t h20 r17
   refine w_seqk fun K22 k22 => ?_
   refine w_reg (by kernel_rfl) ?_
   refine s_qk (.int .i64 0) (by kernel_rfl) ?_
   refine s_nil ?_
   refine k22 _ _ ?_
   refine w_ret (th_ret (th_ret ?_))
   refine b_ret (fn := Tryd.f78) (vs := [.int .i64 0]) (aRes_tmp (by kernel_rfl) (rfl)) ?_
   obtain rfl := Option.some.inj r21
   exact ⟨rfl, rfl⟩
  ·have r23 := ite_bf h20 r17
   refine w_skip ?_
   refine k18 _ _ ?_
   refine w_seqk fun K24 k24 => ?_
   refine w_reg (by kernel_rfl) ?_
   refine s_qk (.int .i64 (-1)) (by kernel_rfl) ?_
   refine s_nil ?_
   refine k24 _ _ ?_
   refine w_ret (th_ret ?_)
   refine b_ret (fn := Tryd.f78) (vs := [.int .i64 (-1)]) (aRes_tmp (by kernel_rfl) (rfl)) ?_
   obtain rfl := Option.some.inj r23
   exact ⟨rfl, rfl⟩
 ·have r25 := ite_bf h16 r11
  refine w_skip ?_
  refine k14 _ _ ?_
  refine w_seqk fun K26 k26 => ?_
  refine w_seqk fun K27 k27 => ?_
  refine w_reg (by kernel_rfl) ?_
  refine s_qk (.bool y9) (by kernel_rfl) ?_
  refine s_nil ?_
  refine k27 _ _ ?_
  refine w_cond (y9) (by kernel_rfl) rfl (fun h28 => ?_) (fun h28 => ?_)
  ·have r29 := ite_t h28 r25
   refine w_seqk fun K30 k30 => ?_
   refine w_reg (by kernel_rfl) ?_
   refine s_qk (.int .i64 1) (by kernel_rfl) ?_
   refine s_nil ?_
   refine k30 _ _ ?_
   refine w_ret (th_ret ?_)
   refine b_ret (fn := Tryd.f78) (vs := [.int .i64 1]) (aRes_tmp (by kernel_rfl) (rfl)) ?_
   obtain rfl := Option.some.inj r29
   exact ⟨rfl, rfl⟩
  ·have r31 := ite_bf h28 r25
   refine w_skip ?_
   refine k26 _ _ ?_
   refine w_seqk fun K32 k32 => ?_
   refine w_seqk fun K33 k33 => ?_
   refine w_reg (by kernel_rfl) ?_
   refine s_qk (.int .i64 x) (by kernel_rfl) ?_
   refine s_qk (.int .i64 y) (by kernel_rfl) ?_
   refine s_qk (.bool (decide (x < y))) (by kernel_rfl) ?_
   refine s_nil ?_
   refine k33 _ _ ?_
   refine w_condp (x < y) (by kernel_rfl) rfl (fun h34 => ?_) (fun h34 => ?_)
   ·have r35 := ite_t h34 r31
    refine w_seqk fun K36 k36 => ?_
    refine w_reg (by kernel_rfl) ?_
    refine s_qk (.int .i64 (-1)) (by kernel_rfl) ?_
    refine s_nil ?_
    refine k36 _ _ ?_
    refine w_ret (th_ret ?_)
    refine b_ret (fn := Tryd.f78) (vs := [.int .i64 (-1)]) (aRes_tmp (by kernel_rfl) (rfl)) ?_
    obtain rfl := Option.some.inj r35
    exact ⟨rfl, rfl⟩
   ·have r37 := ite_f h34 r31
    refine w_skip ?_
    refine k32 _ _ ?_
    refine w_seqk fun K38 k38 => ?_
    refine w_seqk fun K39 k39 => ?_
    refine w_reg (by kernel_rfl) ?_
    refine s_qk (.int .i64 x) (by kernel_rfl) ?_
    refine s_qk (.int .i64 y) (by kernel_rfl) ?_
    refine s_qk (.bool (decide (x > y))) (by kernel_rfl) ?_
    refine s_nil ?_
    refine k39 _ _ ?_
    refine w_condp (x > y) (by kernel_rfl) rfl (fun h40 => ?_) (fun h40 => ?_)
    ·have r41 := ite_t h40 r37
     refine w_seqk fun K42 k42 => ?_
     refine w_reg (by kernel_rfl) ?_
     refine s_qk (.int .i64 1) (by kernel_rfl) ?_
     refine s_nil ?_
     refine k42 _ _ ?_
     refine w_ret (th_ret ?_)
     refine b_ret (fn := Tryd.f78) (vs := [.int .i64 1]) (aRes_tmp (by kernel_rfl) (rfl)) ?_
     obtain rfl := Option.some.inj r41
     exact ⟨rfl, rfl⟩
    ·have r43 := ite_f h40 r37
     refine w_skip ?_
     refine k38 _ _ ?_
     refine w_seqk fun K44 k44 => ?_
     refine w_reg (by kernel_rfl) ?_
     refine s_qk (.int .i64 0) (by kernel_rfl) ?_
     refine s_nil ?_
     refine k44 _ _ ?_
     refine w_ret ?_
     refine b_ret (fn := Tryd.f78) (vs := [.int .i64 0]) (aRes_tmp (by kernel_rfl) (rfl)) ?_
     obtain rfl := Option.some.inj r43
     exact ⟨rfl, rfl⟩

theorem c_cmp_Or {H : AH} {hd_vals : Value} {fp_vals : Fp} {vals : List (Int)} {r : Int}
  (wf : WF H) (h_vals : Sq (encI .i64) 1 H hd_vals vals fp_vals) (hr : z_cmp_Or vals = some r) :
  ACalls Tryd.prog 77 #[hd_vals] H fun v H' => v = .int .i64 r ∧ H = H' := by
 refine acalls_of_body mixed Tryd.func77 rfl (Nat.le_of_ble_eq_true rfl) ?_
 unfold z_cmp_Or at hr
 refine w_seqk fun K1 k1 => ?_
 refine w_reg (by kernel_rfl) ?_
 refine s_qk (.int .i64 0) (by kernel_rfl) ?_
 refine s_nil ?_
 refine k1 _ _ ?_
 refine w_seqk fun K2 k2 => ?_
 refine w_reg (by kernel_rfl) ?_
 refine s_qk (.int .i64 0) (by kernel_rfl) ?_
 refine s_nil ?_
 refine k2 _ _ ?_
 refine w_seqk fun K3 k3 => ?_
 refine w_seqk fun K4 k4 => ?_
 refine w_reg (by kernel_rfl) ?_
 refine s_qk (hd_vals) (by kernel_rfl) ?_
 refine s_ql (.int .i64 (vals.length : Int)) (x := aLen Tryd.prog 42 hd_vals H) (by kernel_rfl) (h_vals.lenb (by kernel_rfl)) ?_
 refine s_qk (.int .i64 0) (by kernel_rfl) ?_
 refine s_nil ?_
 refine k4 _ _ ?_
 obtain ⟨z8, hx6, r7⟩ := bind_some hr
 refine w_mid (fun α H9 => ∃ o5, z8 = Sum.inr o5 ∧ Has α [(3, .int .i64 0)] ∧ H = H9) (fun K11 k11 => ?_) (fun α H9 hM => ?_)
 ·refine w_block ?_
  obtain ⟨n13, hn14⟩ := loopO_iff.1 hx6
  refine w_loopn (fun n α H15 => ∃ (i0 : Int), iterO (fun zz_ => z_cmp_Or_l0 vals zz_) n i0 = some z8 ∧ Has α [(3, .int .i64 0), (6, hd_vals), (7, .int .i64 (vals.length : Int)), (8, .int .i64 i0)] ∧ H = H15) n13 ⟨0, hn14, ⟨by kernel_rfl, by kernel_rfl, by kernel_rfl, by kernel_rfl, trivial⟩, rfl⟩ ?_
  rintro n13 α H15 ⟨i0, hi18, hh17, rfl⟩ K23 k23
  obtain ⟨n19, z20, rfl, hz21, hn22⟩ := iter_succ hi18
  obtain ⟨β, rfl⟩ := has_ex hh17
  clear hh17
  replace hz21 : z_cmp_Or_l0 vals i0 = some z20 := hz21
  unfold z_cmp_Or_l0 at hz21
  refine w_seqk fun K24 k24 => ?_
  refine w_reg (by kernel_rfl) ?_
  refine s_qk (.bool (decide (i0 < (vals.length : Int)))) (by kernel_rfl) ?_
  refine s_nil ?_
  refine k24 _ _ ?_
  refine w_seqk fun K25 k25 => ?_
  refine w_condp (i0 < (vals.length : Int)) (by kernel_rfl) rfl (fun h26 => ?_) (fun h26 => ?_)
  ·have r27 := ite_t h26 hz21
   refine w_skip ?_
   refine k25 _ _ ?_
   refine w_seqk fun K28 k28 => ?_
   refine w_block ?_
   refine w_seqk fun K29 k29 => ?_
   refine w_reg (by kernel_rfl) ?_
   obtain ⟨g30, r31⟩ := G_some r27
   refine s_ql (elp hd_vals 1 i0.toNat 0) (x := aIndexAddr Tryd.prog 42 hd_vals (.int .i64 i0)) (by kernel_rfl) (h_vals.idxb (by kernel_rfl) g30 h26) ?_
   refine s_ql (.int .i64 (gt vals i0)) (x := aLoad Tryd.prog 3 (elp hd_vals 1 i0.toNat 0) H) (by kernel_rfl) (h_vals.ld g30 h26 (by kernel_rfl)) ?_
   refine s_qk (.int .i64 (gt vals i0)) (by kernel_rfl) ?_
   refine s_nil ?_
   refine k29 _ _ ?_
   refine w_seqk fun K32 k32 => ?_
   refine w_reg (by kernel_rfl) ?_
   refine s_qk (.int .i64 (gt vals i0)) (by kernel_rfl) ?_
   refine s_qk (.int .i64 0) (by kernel_rfl) ?_
   refine s_qk (.bool (!decide ((gt vals i0) = 0))) (by kernel_rfl) ?_
   refine s_nil ?_
   refine k32 _ _ ?_
   refine w_condn ((gt vals i0) = 0) (by kernel_rfl) rfl (fun h33 => ?_) (fun h33 => ?_)
   ·have r34 := ite_f h33 r31
    refine w_seqk fun K35 k35 => ?_
    refine w_reg (by kernel_rfl) ?_
    refine s_qk (.int .i64 (gt vals i0)) (by kernel_rfl) ?_
    refine s_qk (.int .i64 (gt vals i0)) (by kernel_rfl) ?_
    refine s_nil ?_
    refine k35 _ _ ?_
    refine w_ret (bl_ret (th_ret (th_ret (bl_ret (th_ret (th_ret ?_))))))
    obtain ⟨v36, hv37, hz38⟩ := map_some r34
    subst hz38
    obtain rfl := it_inr hn22
    have hq39 := elim_inl r7
    rw [hq39] at hv37
    refine b_ret (fn := Tryd.f77) (vs := [.int .i64 (gt vals i0)]) (aRes_tmp (by kernel_rfl) (rfl)) ?_
    obtain rfl := Option.some.inj hv37
    exact ⟨rfl, rfl⟩
   ·have r40 := ite_t h33 r31
    refine w_skip ?_
    refine k28 _ _ ?_
    refine w_reg (by kernel_rfl) ?_
    obtain ⟨g41, r42⟩ := G_some r40
    refine s_w ((i0 + 1)) (k := .i64) (x := (i0 + 1)) (by kernel_rfl) (wrap64 (by have := g41; omega)) ?_
    refine s_qk (.int .i64 (i0 + 1)) (by kernel_rfl) ?_
    refine s_nil ?_
    obtain rfl := Option.some.inj r42
    exact k23 n19 _ _ (Nat.lt_succ_self _) ⟨(i0 + 1), hn22, ⟨by kernel_rfl, by kernel_rfl, by kernel_rfl, by kernel_rfl, trivial⟩, rfl⟩
  ·have r43 := ite_f h26 hz21
   refine w_exit (th_exit (th_exit (bl_eq ?_)))
   obtain rfl := Option.some.inj r43
   obtain rfl := it_inr hn22
   exact k11 _ _ ⟨_, rfl, ⟨by kernel_rfl, trivial⟩, rfl⟩
 ·obtain ⟨o5, rfl, hh12, rfl⟩ := hM
  have r44 := elim_inr r7
  obtain ⟨β, rfl⟩ := has_ex hh12
  clear hh12
  refine k3 _ _ ?_
  refine w_seqk fun K45 k45 => ?_
  refine w_reg (by kernel_rfl) ?_
  refine s_qk (.int .i64 0) (by kernel_rfl) ?_
  refine s_qk (.int .i64 0) (by kernel_rfl) ?_
  refine s_nil ?_
  refine k45 _ _ ?_
  refine w_ret ?_
  refine b_ret (fn := Tryd.f77) (vs := [.int .i64 0]) (aRes_tmp (by kernel_rfl) (rfl)) ?_
  obtain rfl := Option.some.inj r44
  exact ⟨rfl, rfl⟩

theorem c_normal_order {H : AH} {From : Int} {To : Int} {Weight : Int} {From_ : Int} {To_ : Int} {Weight_ : Int} {r : Int}
  (wf : WF H) (hr : z_normal_order From To Weight From_ To_ Weight_ = some r) :
  ACalls Tryd.prog 49 #[.agg #[.int .i64 From, .int .i64 To, .int .i64 Weight], .agg #[.int .i64 From_, .int .i64 To_, .int .i64 Weight_]] H fun v H' => v = .int .i64 r ∧ FrS [] H H' := by
 refine acalls_of_body mixed Tryd.func49 rfl (Nat.le_of_ble_eq_true rfl) ?_
 unfold z_normal_order at hr
 refine w_seqk fun K1 k1 => ?_
 refine w_reg (by kernel_rfl) ?_
 refine s_rwl wf [.int .i64 From, .int .i64 To, .int .i64 Weight] (one_cons (rfl) (one_cons (rfl) (one_cons (rfl) (one_nil)))) (by kernel_rfl) fun b2 H3 e4 hb5 r6 => ?_
 refine s_rwl e4.wf [.int .i64 From_, .int .i64 To_, .int .i64 Weight_] (one_cons (rfl) (one_cons (rfl) (one_cons (rfl) (one_nil)))) (by kernel_rfl) fun b8 H9 e10 hb11 r12 => ?_
 refine s_qk (.int .i64 0) (by kernel_rfl) ?_
 refine s_nil ?_
 refine k1 _ _ ?_
 refine w_seqk fun K14 k14 => ?_
 refine w_draw [0, 1, 2, 3, 5, 6, 7, 8, 10, 11, 12, 13, 4, 9, 14, 15, 16, 17] (by kernel_rfl) ?_
 refine d_qk (.pointer (some ⟨b2, 0, none⟩)) (by kernel_rfl) ?_
 have u15 := (r6.ext e10)
 refine d_ql (.int .i64 From) (x := aLoad Tryd.prog 3 (.pointer (some ⟨b2, 0, none⟩)) H9) (by kernel_rfl) (u15.ld (by kernel_rfl)) ?_
 refine d_qk (.pointer (some ⟨b8, 0, none⟩)) (by kernel_rfl) ?_
 refine d_ql (.int .i64 From_) (x := aLoad Tryd.prog 3 (.pointer (some ⟨b8, 0, none⟩)) H9) (by kernel_rfl) (r12.ld (by kernel_rfl)) ?_
 refine d_qk (.pointer (some ⟨b2, 1, none⟩)) (by kernel_rfl) ?_
 refine d_fl (.int .i64 To) (x := aLoad Tryd.prog 3 (.pointer (some ⟨b2, 1, none⟩)) H9) (by kernel_rfl) (u15.ld (by kernel_rfl)) ?_
 refine d_qk (.pointer (some ⟨b8, 1, none⟩)) (by kernel_rfl) ?_
 refine d_fl (.int .i64 To_) (x := aLoad Tryd.prog 3 (.pointer (some ⟨b8, 1, none⟩)) H9) (by kernel_rfl) (r12.ld (by kernel_rfl)) ?_
 refine d_qk (.pointer (some ⟨b2, 2, none⟩)) (by kernel_rfl) ?_
 refine d_fl (.int .i64 Weight) (x := aLoad Tryd.prog 3 (.pointer (some ⟨b2, 2, none⟩)) H9) (by kernel_rfl) (u15.ld (by kernel_rfl)) ?_
 refine d_qk (.pointer (some ⟨b8, 2, none⟩)) (by kernel_rfl) ?_
 refine d_fl (.int .i64 Weight_) (x := aLoad Tryd.prog 3 (.pointer (some ⟨b8, 2, none⟩)) H9) (by kernel_rfl) (r12.ld (by kernel_rfl)) ?_
 obtain ⟨y16, hy17, r18⟩ := bind_some hr
 refine d_ck 78 #[.int .i64 From, .int .i64 From_] (by kernel_rfl) (c_cmp_Compare e10.wf hy17) ?_
 rintro _ _ ⟨rfl, rfl⟩
 refine ⟨st_ql (y := aLoad Tryd.prog 3 (.pointer (some ⟨b8, 2, none⟩)) H9) (by kernel_rfl) (r12.ld (by kernel_rfl)) (st_ql (y := aLoad Tryd.prog 3 (.pointer (some ⟨b2, 2, none⟩)) H9) (by kernel_rfl) (u15.ld (by kernel_rfl)) (st_ql (y := aLoad Tryd.prog 3 (.pointer (some ⟨b8, 1, none⟩)) H9) (by kernel_rfl) (r12.ld (by kernel_rfl)) (st_ql (y := aLoad Tryd.prog 3 (.pointer (some ⟨b2, 1, none⟩)) H9) (by kernel_rfl) (u15.ld (by kernel_rfl)) (st_nil)))), ?_⟩
 obtain ⟨y21, hy22, r23⟩ := bind_some r18
 refine d_ck 78 #[.int .i64 To, .int .i64 To_] (by kernel_rfl) (c_cmp_Compare e10.wf hy22) ?_
 rintro _ _ ⟨rfl, rfl⟩
 refine ⟨st_ql (y := aLoad Tryd.prog 3 (.pointer (some ⟨b8, 2, none⟩)) H9) (by kernel_rfl) (r12.ld (by kernel_rfl)) (st_ql (y := aLoad Tryd.prog 3 (.pointer (some ⟨b2, 2, none⟩)) H9) (by kernel_rfl) (u15.ld (by kernel_rfl)) (st_anc (by kernel_rfl) (st_anc (by kernel_rfl) (st_nil)))), ?_⟩
 obtain ⟨y26, hy27, r28⟩ := bind_some r23
 refine d_ck 78 #[.int .i64 Weight, .int .i64 Weight_] (by kernel_rfl) (c_cmp_Compare e10.wf hy27) ?_
 rintro _ _ ⟨rfl, rfl⟩
 refine ⟨st_anc (by kernel_rfl) (st_anc (by kernel_rfl) (st_anc (by kernel_rfl) (st_anc (by kernel_rfl) (st_nil)))), ?_⟩
 refine d_owk (enc := (encI .i64)) (sz := 1) e10.wf [y16, y21, y26] 3 (by decide) (fun _ _ => rfl) (fun _ _ => rfl) rfl (by kernel_rfl) fun s31 f32 H33 e34 hf35 hm36 => ?_
 obtain ⟨a37, n38, c39, rfl⟩ := hm36.form
 obtain ⟨y41, hy42, r43⟩ := bind_some r28
 refine d_ck 77 #[.slice a37 n38 c39] (by kernel_rfl) (c_cmp_Or e34.wf hm36.sq hy42) ?_
 rintro _ _ ⟨rfl, rfl⟩
 refine ⟨st_anc (by kernel_rfl) (st_anc (by kernel_rfl) (st_anc (by kernel_rfl) (st_anc (by kernel_rfl) (st_nil)))), ?_⟩
 refine d_qk (.int .i64 y41) (by kernel_rfl) ?_
 refine d_nil ?_
 refine k14 _ _ ?_
 refine w_ret ?_
 refine b_ret (fn := Tryd.f49) (vs := [.int .i64 y41]) (aRes_tmp (by kernel_rfl) (rfl)) ?_
 obtain rfl := Option.some.inj r43
 exact ⟨rfl, ((((FrS.refl (W := []) wf).extR e4).extR e10).extR e34)⟩

theorem c_normal_Of_1 {H : AH} {From : Int} {To : Int} {Weight : Int} {From_ : Int} {To_ : Int} {Weight_ : Int} {r : Bool}
  (wf : WF H) (hr : z_normal_Of_1 From To Weight From_ To_ Weight_ = some r) :
  ACalls Tryd.prog 51 #[.agg #[.int .i64 From, .int .i64 To, .int .i64 Weight], .agg #[.int .i64 From_, .int .i64 To_, .int .i64 Weight_]] H fun v H' => v = .bool r ∧ FrS [] H H' := by
 refine acalls_of_body mixed Tryd.func51 rfl (Nat.le_of_ble_eq_true rfl) ?_
 unfold z_normal_Of_1 at hr
 refine w_seqk fun K1 k1 => ?_
 refine w_reg (by kernel_rfl) ?_
 refine s_rwl wf [.int .i64 From, .int .i64 To, .int .i64 Weight] (one_cons (rfl) (one_cons (rfl) (one_cons (rfl) (one_nil)))) (by kernel_rfl) fun b2 H3 e4 hb5 r6 => ?_
 refine s_rwl e4.wf [.int .i64 From_, .int .i64 To_, .int .i64 Weight_] (one_cons (rfl) (one_cons (rfl) (one_cons (rfl) (one_nil)))) (by kernel_rfl) fun b8 H9 e10 hb11 r12 => ?_
 refine s_qk (.bool false) (by kernel_rfl) ?_
 refine s_nil ?_
 refine k1 _ _ ?_
 refine w_seqk fun K14 k14 => ?_
 refine w_reg (by kernel_rfl) ?_
 refine s_qk (.pointer (some ⟨b2, 0, none⟩)) (by kernel_rfl) ?_
 have u15 := (r6.ext e10)
 refine s_ql (.int .i64 From) (x := aLoad Tryd.prog 3 (.pointer (some ⟨b2, 0, none⟩)) H9) (by kernel_rfl) (u15.ld (by kernel_rfl)) ?_
 refine s_qk (.pointer (some ⟨b8, 0, none⟩)) (by kernel_rfl) ?_
 refine s_ql (.int .i64 From_) (x := aLoad Tryd.prog 3 (.pointer (some ⟨b8, 0, none⟩)) H9) (by kernel_rfl) (r12.ld (by kernel_rfl)) ?_
 refine s_b (From = From_) (by kernel_rfl) (fun h16 => ?_) (fun h16 => ?_)
 ·have r17 := ite_t h16 hr
  refine s_qk (.bool true) (by kernel_rfl) ?_
  refine s_qk (.pointer (some ⟨b2, 1, none⟩)) (by kernel_rfl) ?_
  refine s_ql (.int .i64 To) (x := aLoad Tryd.prog 3 (.pointer (some ⟨b2, 1, none⟩)) H9) (by kernel_rfl) (u15.ld (by kernel_rfl)) ?_
  refine s_qk (.pointer (some ⟨b8, 1, none⟩)) (by kernel_rfl) ?_
  refine s_ql (.int .i64 To_) (x := aLoad Tryd.prog 3 (.pointer (some ⟨b8, 1, none⟩)) H9) (by kernel_rfl) (r12.ld (by kernel_rfl)) ?_
  refine s_qk (.bool (decide (To = To_))) (by kernel_rfl) ?_
  refine s_qk (.bool (decide (To = To_))) (by kernel_rfl) ?_
  refine s_qk (.bool (decide (To = To_))) (by kernel_rfl) ?_
  refine s_nil ?_
  refine k14 _ _ ?_
  refine w_ret ?_
  refine b_ret (fn := Tryd.f51) (vs := [.bool (decide (To = To_))]) (aRes_tmp (by kernel_rfl) (rfl)) ?_
  obtain rfl := Option.some.inj r17
  exact ⟨rfl, (((FrS.refl (W := []) wf).extR e4).extR e10)⟩
 ·have r18 := ite_f h16 hr
  refine s_qk (.bool false) (by kernel_rfl) ?_
  refine s_no (by kernel_rfl) ?_
  refine s_no (by kernel_rfl) ?_
  refine s_no (by kernel_rfl) ?_
  refine s_no (by kernel_rfl) ?_
  refine s_no (by kernel_rfl) ?_
  refine s_qk (.bool false) (by kernel_rfl) ?_
  refine s_qk (.bool false) (by kernel_rfl) ?_
  refine s_nil ?_
  refine k14 _ _ ?_
  refine w_ret ?_
  refine b_ret (fn := Tryd.f51) (vs := [.bool false]) (aRes_tmp (by kernel_rfl) (rfl)) ?_
  obtain rfl := Option.some.inj r18
  exact ⟨rfl, (((FrS.refl (W := []) wf).extR e4).extR e10)⟩

theorem c_slices_CompactFunc {H : AH} {hd_s : Value} {fp_s : Fp} {s : List (Int × Int × Int)} {r : List (Int × Int × Int) × List (Int × Int × Int)}
  (wf : WF H) (h_s : Ow enc_i64_i64_i64 3 H hd_s s fp_s) (hr : z_slices_CompactFunc s = some r) :
  ACalls Tryd.prog 50 #[hd_s, .func (.func 51) #[] #[]] H fun v H' => ∃ (s3 : Value), v = s3 ∧ FrS fp_s H H' ∧ Ow enc_i64_i64_i64 3 H' s3 r.1 fp_s ∧ Ow enc_i64_i64_i64 3 H' hd_s r.2 fp_s := by
 refine acalls_of_body mixed Tryd.func50 rfl (Nat.le_of_ble_eq_true rfl) ?_
 unfold z_slices_CompactFunc at hr
 refine w_seqk fun K6 k6 => ?_
 refine w_reg (by kernel_rfl) ?_
 refine s_qk (.slice none 0 0) (by kernel_rfl) ?_
 refine s_nil ?_
 refine k6 _ _ ?_
 refine w_seqk fun K7 k7 => ?_
 refine w_seqk fun K8 k8 => ?_
 refine w_reg (by kernel_rfl) ?_
 refine s_qk (hd_s) (by kernel_rfl) ?_
 refine s_ql (.int .i64 (s.length : Int)) (x := aLen Tryd.prog 22 hd_s H) (by kernel_rfl) (h_s.sq.lenb (by kernel_rfl)) ?_
 refine s_qk (.bool (decide ((s.length : Int) < 2))) (by kernel_rfl) ?_
 refine s_nil ?_
 refine k8 _ _ ?_
 refine w_condp ((s.length : Int) < 2) (by kernel_rfl) rfl (fun h9 => ?_) (fun h9 => ?_)
 ·have r10 := ite_t h9 hr
  refine w_seqk fun K11 k11 => ?_
  refine w_reg (by kernel_rfl) ?_
  refine s_qk (hd_s) (by kernel_rfl) ?_
  refine s_qk (hd_s) (by kernel_rfl) ?_
  refine s_nil ?_
  refine k11 _ _ ?_
  refine w_ret (th_ret ?_)
  refine b_ret (fn := Tryd.f50) (vs := [hd_s]) (aRes_tmp (by kernel_rfl) (rfl)) ?_
  obtain rfl := Option.some.inj r10
  exact ⟨(hd_s), rfl, (FrS.refl (W := fp_s) wf), h_s, h_s⟩
 ·have r12 := ite_f h9 hr
  refine w_skip ?_
  refine k7 _ _ ?_
  refine w_seqk fun K13 k13 => ?_
  refine w_seqk fun K14 k14 => ?_
  refine w_reg (by kernel_rfl) ?_
  refine s_qk (.int .i64 1) (by kernel_rfl) ?_
  refine s_nil ?_
  refine k14 _ _ ?_
  obtain ⟨z18, hx16, r17⟩ := bind_some r12
  refine w_mid (fun α H19 => ∃ o15, z18 = Sum.inr o15 ∧ Has α [(0, hd_s)] ∧ FrS [] H H19) (fun K21 k21 => ?_) (fun α H19 hM => ?_)
  ·refine w_block ?_
   obtain ⟨n23, hn24⟩ := loopO_iff.1 hx16
   refine w_loopn (fun n α H25 => ∃ (k3 : Int), iterO (fun zz_ => z_slices_CompactFunc_l1 s zz_) n k3 = some z18 ∧ Has α [(0, hd_s), (1, .func (.func 51) #[] #[]), (5, .int .i64 k3)] ∧ FrS [] H H25) n23 ⟨1, hn24, ⟨by kernel_rfl, by kernel_rfl, by kernel_rfl, trivial⟩, (FrS.refl (W := []) wf)⟩ ?_
   rintro n23 α H25 ⟨k3, hi28, hh27, e26⟩ K33 k33
   obtain ⟨n29, z30, rfl, hz31, hn32⟩ := iter_succ hi28
   obtain ⟨β, rfl⟩ := has_ex hh27
   clear hh27
   replace hz31 : z_slices_CompactFunc_l1 s k3 = some z30 := hz31
   unfold z_slices_CompactFunc_l1 at hz31
   refine w_seqk fun K34 k34 => ?_
   refine w_seqk fun K35 k35 => ?_
   refine w_reg (by kernel_rfl) ?_
   refine s_qk (.int .i64 k3) (by kernel_rfl) ?_
   refine s_qk (hd_s) (by kernel_rfl) ?_
   have u36 := (h_s.fr e26 Dj.nil_l)
   refine s_ql (.int .i64 (s.length : Int)) (x := aLen Tryd.prog 22 hd_s H25) (by kernel_rfl) (u36.sq.lenb (by kernel_rfl)) ?_
   refine s_qk (.bool (decide (k3 < (s.length : Int)))) (by kernel_rfl) ?_
   refine s_nil ?_
   refine k35 _ _ ?_
   refine w_condp (k3 < (s.length : Int)) (by kernel_rfl) rfl (fun h37 => ?_) (fun h37 => ?_)
   ·have r38 := ite_t h37 hz31
    refine w_skip ?_
    refine k34 _ _ ?_
    refine w_seqk fun K39 k39 => ?_
    refine w_block ?_
    refine w_seqk fun K40 k40 => ?_
    refine w_draw [0, 1, 2, 3, 4, 5, 6, 7, 8, 9, 10] (by kernel_rfl) ?_
    refine d_qk (.func (.func 51) #[] #[]) (by kernel_rfl) ?_
    refine d_qk (hd_s) (by kernel_rfl) ?_
    refine d_qk (.int .i64 k3) (by kernel_rfl) ?_
    obtain ⟨g41, r42⟩ := G_some r38
    refine d_ql (elp hd_s 3 k3.toNat 0) (x := aIndexAddr Tryd.prog 22 hd_s (.int .i64 k3)) (by kernel_rfl) (u36.sq.idxb (by kernel_rfl) g41 h37) ?_
    refine d_ql (.agg #[.int .i64 ((gt s k3).1), .int .i64 ((gt s k3).2.1), .int .i64 ((gt s k3).2.2)]) (x := aLoad Tryd.prog 51 (elp hd_s 3 k3.toNat 0) H25) (by kernel_rfl) (u36.sq.ld g41 h37 (by kernel_rfl)) ?_
    refine d_qk (hd_s) (by kernel_rfl) ?_
    refine d_qk (.int .i64 k3) (by kernel_rfl) ?_
    obtain ⟨g43, r44⟩ := G_some r42
    refine d_w ((k3 - 1)) (k := .i64) (x := (k3 - 1)) (by kernel_rfl) (wrap64 g43) ?_
    obtain ⟨g45, r46⟩ := G_some r44
    refine d_ql (elp hd_s 3 (k3 - 1).toNat 0) (x := aIndexAddr Tryd.prog 22 hd_s (.int .i64 (k3 - 1))) (by kernel_rfl) (u36.sq.idxb (by kernel_rfl) g45.1 g45.2) ?_
    refine d_ql (.agg #[.int .i64 ((gt s (k3 - 1)).1), .int .i64 ((gt s (k3 - 1)).2.1), .int .i64 ((gt s (k3 - 1)).2.2)]) (x := aLoad Tryd.prog 51 (elp hd_s 3 (k3 - 1).toNat 0) H25) (by kernel_rfl) (u36.sq.ld g45.1 g45.2 (by kernel_rfl)) ?_
    obtain ⟨y47, hy48, r49⟩ := bind_some r46
    refine d_ck 51 #[.agg #[.int .i64 ((gt s k3).1), .int .i64 ((gt s k3).2.1), .int .i64 ((gt s k3).2.2)], .agg #[.int .i64 ((gt s (k3 - 1)).1), .int .i64 ((gt s (k3 - 1)).2.1), .int .i64 ((gt s (k3 - 1)).2.2)]] (by kernel_rfl) (c_normal_Of_1 e26.wf hy48) ?_
    rintro _ H50 ⟨rfl, e51⟩
    refine ⟨st_nil, ?_⟩
    refine d_nil ?_
    refine k40 _ _ ?_
    refine w_cond (y47) (by kernel_rfl) rfl (fun h52 => ?_) (fun h52 => ?_)
    ·have r53 := ite_t h52 r49
     refine w_seqk fun K54 k54 => ?_
     refine w_reg (by kernel_rfl) ?_
     refine s_qk (hd_s) (by kernel_rfl) ?_
     refine s_qk (.int .i64 k3) (by kernel_rfl) ?_
     obtain ⟨g55, r56⟩ := G_some r53
     have u60 := (u36.fr e51 Dj.nil_l)
     obtain ⟨s57, q58, vw59⟩ := Ow.view (P := Tryd.prog) u60 (t := 22) (by kernel_rfl) (lo := some (.int .i64 k3)) (l := k3.toNat) (aBound_int _ (by have := g55; omega)) (by have := g55; omega)
     obtain ⟨a61, n62, c63, rfl⟩ := vw59.form
     refine s_ql (.slice a61 n62 c63) (by kernel_rfl) q58 ?_
     refine s_qk (.slice a61 n62 c63) (by kernel_rfl) ?_
     refine s_nil ?_
     refine k54 _ _ ?_
     refine w_seqk fun K64 k64 => ?_
     refine w_seqk fun K65 k65 => ?_
     refine w_reg (by kernel_rfl) ?_
     refine s_qk (.int .i64 1) (by kernel_rfl) ?_
     refine s_nil ?_
     refine k65 _ _ ?_
     obtain ⟨o66, hx67, r68⟩ := bind_some r56
     refine w_mid (fun α H69 => Has α [(0, hd_s), (5, .int .i64 o66.2)] ∧ FrS fp_s H50 H69 ∧ Ow enc_i64_i64_i64 3 H69 hd_s o66.1 fp_s) (fun K73 k73 => ?_) (fun α H69 hM => ?_)
     ·refine w_block ?_
      obtain ⟨n75, hn76⟩ := loopO_iff.1 hx67
      refine w_loopn (fun n α H77 => ∃ (s0 : List (Int × Int × Int)), ∃ (k1 : Int), ∃ (k22 : Int), iterO (fun zz_ => z_slices_CompactFunc_l0 k3 zz_.1 zz_.2.1 zz_.2.2) n (s0, k1, k22) = some o66 ∧ Has α [(0, hd_s), (1, .func (.func 51) #[] #[]), (5, .int .i64 k1), (6, .slice a61 n62 c63), (7, .int .i64 k22)] ∧ FrS fp_s H50 H77 ∧ Ow enc_i64_i64_i64 3 H77 hd_s s0 fp_s) n75 ⟨s, k3, 1, hn76, ⟨by kernel_rfl, by kernel_rfl, by kernel_rfl, by kernel_rfl, by kernel_rfl, trivial⟩, (FrS.refl (W := fp_s) e51.wf), u60⟩ ?_
      rintro n75 α H77 ⟨s0, k1, k22, hi82, hh81, e78, m80⟩ K87 k87
      obtain ⟨n83, z84, rfl, hz85, hn86⟩ := iter_succ hi82
      obtain ⟨β, rfl⟩ := has_ex hh81
      clear hh81
      replace hz85 : z_slices_CompactFunc_l0 k3 s0 k1 k22 = some z84 := hz85
      unfold z_slices_CompactFunc_l0 at hz85
      refine w_seqk fun K88 k88 => ?_
      refine w_seqk fun K89 k89 => ?_
      refine w_reg (by kernel_rfl) ?_
      refine s_qk (.int .i64 k22) (by kernel_rfl) ?_
      refine s_qk (.slice a61 n62 c63) (by kernel_rfl) ?_
      obtain ⟨hs90, hl91⟩ := vw59.sq m80
      refine s_ql (.int .i64 ((s0.drop k3.toNat).length : Int)) (x := aLen Tryd.prog 22 (.slice a61 n62 c63) H77) (by kernel_rfl) (hs90.lenb (by kernel_rfl)) ?_
      refine s_qk (.bool (decide (k22 < ((s0.drop k3.toNat).length : Int)))) (by kernel_rfl) ?_
      refine s_nil ?_
      refine k89 _ _ ?_
      refine w_condp (k22 < ((s0.drop k3.toNat).length : Int)) (by kernel_rfl) rfl (fun h93 => ?_) (fun h93 => ?_)
      ·have r94 := ite_t h93 hz85
       refine w_skip ?_
       refine k88 _ _ ?_
       refine w_seqk fun K95 k95 => ?_
       refine w_block ?_
       refine w_seqk fun K96 k96 => ?_
       refine w_draw [0, 1, 2, 3, 4, 5, 6, 7, 8, 9, 10, 11] (by kernel_rfl) ?_
       refine d_qk (.func (.func 51) #[] #[]) (by kernel_rfl) ?_
       refine d_qk (.slice a61 n62 c63) (by kernel_rfl) ?_
       refine d_qk (.int .i64 k22) (by kernel_rfl) ?_
       obtain ⟨hs97, hl98⟩ := vw59.sq m80
       obtain ⟨g100, r101⟩ := G_some r94
       refine d_ql (elp (.slice a61 n62 c63) 3 k22.toNat 0) (x := aIndexAddr Tryd.prog 22 (.slice a61 n62 c63) (.int .i64 k22)) (by kernel_rfl) (hs97.idxb (by kernel_rfl) g100 h93) ?_
       refine d_ql (.agg #[.int .i64 ((gt (s0.drop k3.toNat) k22).1), .int .i64 ((gt (s0.drop k3.toNat) k22).2.1), .int .i64 ((gt (s0.drop k3.toNat) k22).2.2)]) (x := aLoad Tryd.prog 51 (elp (.slice a61 n62 c63) 3 k22.toNat 0) H77) (by kernel_rfl) (hs97.ld g100 h93 (by kernel_rfl)) ?_
       refine d_qk (.slice a61 n62 c63) (by kernel_rfl) ?_
       refine d_qk (.int .i64 k22) (by kernel_rfl) ?_
       obtain ⟨g102, r103⟩ := G_some r101
       refine d_w ((k22 - 1)) (k := .i64) (x := (k22 - 1)) (by kernel_rfl) (wrap64 g102) ?_
       obtain ⟨hs104, hl105⟩ := vw59.sq m80
       obtain ⟨g107, r108⟩ := G_some r103
       refine d_ql (elp (.slice a61 n62 c63) 3 (k22 - 1).toNat 0) (x := aIndexAddr Tryd.prog 22 (.slice a61 n62 c63) (.int .i64 (k22 - 1))) (by kernel_rfl) (hs104.idxb (by kernel_rfl) g107.1 g107.2) ?_
       refine d_ql (.agg #[.int .i64 ((gt (s0.drop k3.toNat) (k22 - 1)).1), .int .i64 ((gt (s0.drop k3.toNat) (k22 - 1)).2.1), .int .i64 ((gt (s0.drop k3.toNat) (k22 - 1)).2.2)]) (x := aLoad Tryd.prog 51 (elp (.slice a61 n62 c63) 3 (k22 - 1).toNat 0) H77) (by kernel_rfl) (hs104.ld g107.1 g107.2 (by kernel_rfl)) ?_
       obtain ⟨y109, hy110, r111⟩ := bind_some r108
       refine d_ck 51 #[.agg #[.int .i64 ((gt (s0.drop k3.toNat) k22).1), .int .i64 ((gt (s0.drop k3.toNat) k22).2.1), .int .i64 ((gt (s0.drop k3.toNat) k22).2.2)], .agg #[.int .i64 ((gt (s0.drop k3.toNat) (k22 - 1)).1), .int .i64 ((gt (s0.drop k3.toNat) (k22 - 1)).2.1), .int .i64 ((gt (s0.drop k3.toNat) (k22 - 1)).2.2)]] (by kernel_rfl) (c_normal_Of_1 e78.wf hy110) ?_
       rintro _ H112 ⟨rfl, e113⟩
       refine ⟨st_nil, ?_⟩
       refine d_qk (.bool (!y109)) (by kernel_rfl) ?_
       refine d_nil ?_
       refine k96 _ _ ?_
       refine w_cond ((!y109)) (by kernel_rfl) rfl (fun h114 => ?_) (fun h114 => ?_)
       ·have r115 := ite_t h114 r111
        refine w_seqk fun K116 k116 => ?_
        refine w_reg (by kernel_rfl) ?_
        refine s_qk (hd_s) (by kernel_rfl) ?_
        refine s_qk (.int .i64 k1) (by kernel_rfl) ?_
        refine s_qk (.slice a61 n62 c63) (by kernel_rfl) ?_
        refine s_qk (.int .i64 k22) (by kernel_rfl) ?_
        have u119 := (m80.fr e113 Dj.nil_l)
        obtain ⟨hs117, hl118⟩ := vw59.sq u119
        refine s_ql (elp (.slice a61 n62 c63) 3 k22.toNat 0) (x := aIndexAddr Tryd.prog 22 (.slice a61 n62 c63) (.int .i64 k22)) (by kernel_rfl) (hs117.idxb (by kernel_rfl) g100 h93) ?_
        refine s_ql (.agg #[.int .i64 ((gt (s0.drop k3.toNat) k22).1), .int .i64 ((gt (s0.drop k3.toNat) k22).2.1), .int .i64 ((gt (s0.drop k3.toNat) k22).2.2)]) (x := aLoad Tryd.prog 51 (elp (.slice a61 n62 c63) 3 k22.toNat 0) H112) (by kernel_rfl) (hs117.ld g100 h93 (by kernel_rfl)) ?_
        obtain ⟨g121, r122⟩ := G_some r115
        refine s_ql (elp hd_s 3 k1.toNat 0) (x := aIndexAddr Tryd.prog 22 hd_s (.int .i64 k1)) (by kernel_rfl) (u119.sq.idxb (by kernel_rfl) g121.1 g121.2) ?_
        obtain ⟨H123, q124, e125, hm126⟩ := Ow.store (P := Tryd.prog) (t := 51) (off := 0) e113.wf u119 g121.1 g121.2 (.agg #[.int .i64 ((gt (s0.drop k3.toNat) k22).1), .int .i64 ((gt (s0.drop k3.toNat) k22).2.1), .int .i64 ((gt (s0.drop k3.toNat) k22).2.2)]) [.int .i64 ((gt (s0.drop k3.toNat) k22).1), .int .i64 ((gt (s0.drop k3.toNat) k22).2.1), .int .i64 ((gt (s0.drop k3.toNat) k22).2.2)] (by kernel_rfl) (by kernel_rfl) rfl ((gt (s0.drop k3.toNat) k22).1, (gt (s0.drop k3.toNat) k22).2.1, (gt (s0.drop k3.toNat) k22).2.2) (Nat.le_of_ble_eq_true rfl) (by kernel_rfl)
        refine s_ek (undef) (by kernel_rfl) (map_ok q124) ?_
        refine s_nil ?_
        refine k116 _ _ ?_
        refine w_reg (by kernel_rfl) ?_
        refine s_qk (.int .i64 k1) (by kernel_rfl) ?_
        obtain ⟨g127, r128⟩ := G_some r122
        refine s_w ((k1 + 1)) (k := .i64) (x := (k1 + 1)) (by kernel_rfl) (wrap64 (by have := g127; omega)) ?_
        refine s_qk (.int .i64 (k1 + 1)) (by kernel_rfl) ?_
        refine s_nil ?_
        refine k95 _ _ ?_
        refine w_reg (by kernel_rfl) ?_
        refine s_qk (.int .i64 k22) (by kernel_rfl) ?_
        obtain ⟨g129, r130⟩ := G_some r128
        refine s_w ((k22 + 1)) (k := .i64) (x := (k22 + 1)) (by kernel_rfl) (wrap64 (by have := g129; omega)) ?_
        refine s_qk (.int .i64 (k22 + 1)) (by kernel_rfl) ?_
        refine s_nil ?_
        obtain rfl := Option.some.inj r130
        exact k87 n83 _ _ (Nat.lt_succ_self _) ⟨(s0.set k1.toNat ((gt (s0.drop k3.toNat) k22).1, (gt (s0.drop k3.toNat) k22).2.1, (gt (s0.drop k3.toNat) k22).2.2)), (k1 + 1), (k22 + 1), hn86, ⟨by kernel_rfl, by kernel_rfl, by kernel_rfl, by kernel_rfl, by kernel_rfl, trivial⟩, (FrS.step e51.wf (FrS.step e51.wf (FrS.step e51.wf (FrS.refl (W := fp_s) e51.wf) e78 Inn.refl') e113 Inn.nil) e125 Inn.refl'), hm126⟩
       ·have r131 := ite_bf h114 r111
        refine w_skip ?_
        refine k95 _ _ ?_
        refine w_reg (by kernel_rfl) ?_
        refine s_qk (.int .i64 k22) (by kernel_rfl) ?_
        obtain ⟨g132, r133⟩ := G_some r131
        refine s_w ((k22 + 1)) (k := .i64) (x := (k22 + 1)) (by kernel_rfl) (wrap64 (by have := g132; omega)) ?_
        refine s_qk (.int .i64 (k22 + 1)) (by kernel_rfl) ?_
        refine s_nil ?_
        have u134 := (m80.fr e113 Dj.nil_l)
        obtain rfl := Option.some.inj r133
        exact k87 n83 _ _ (Nat.lt_succ_self _) ⟨s0, k1, (k22 + 1), hn86, ⟨by kernel_rfl, by kernel_rfl, by kernel_rfl, by kernel_rfl, by kernel_rfl, trivial⟩, (FrS.step e51.wf (FrS.step e51.wf (FrS.refl (W := fp_s) e51.wf) e78 Inn.refl') e113 Inn.nil), u134⟩
      ·have r135 := ite_f h93 hz85
       refine w_exit (th_exit (th_exit (bl_eq ?_)))
       obtain rfl := Option.some.inj r135
       obtain rfl := it_inr hn86
       exact k73 _ _ ⟨⟨by kernel_rfl, by kernel_rfl, trivial⟩, (FrS.step e51.wf (FrS.refl (W := fp_s) e51.wf) e78 Inn.refl'), m80⟩
     ·obtain ⟨hh74, e70, m72⟩ := hM
      obtain ⟨β, rfl⟩ := has_ex hh74
      clear hh74
      refine k64 _ _ ?_
      refine w_seqk fun K136 k136 => ?_
      refine w_reg (by kernel_rfl) ?_
      refine s_qk (hd_s) (by kernel_rfl) ?_
      refine s_qk (.int .i64 o66.2) (by kernel_rfl) ?_
      obtain ⟨g137, r138⟩ := G_some r68
      obtain ⟨s139, q140, vw141⟩ := Ow.view (P := Tryd.prog) m72 (t := 22) (by kernel_rfl) (lo := some (.int .i64 o66.2)) (l := o66.2.toNat) (aBound_int _ (by have := g137; omega)) (by have := g137; omega)
      obtain ⟨a142, n143, c144, rfl⟩ := vw141.form
      refine s_ql (.slice a142 n143 c144) (by kernel_rfl) q140 ?_
      obtain ⟨g145, r146⟩ := G_some r138
      obtain ⟨H147, q148, e149, hm150⟩ := View.clear (P := Tryd.prog) (m := 24) (at_ := #[22]) vw141 (0, 0, 0) e70.wf m72 g145 rfl (by kernel_rfl)
      refine s_ek (.tuple #[]) (by kernel_rfl) (map_ok q148) ?_
      refine s_nil ?_
      refine k136 _ _ ?_
      refine w_seqk fun K151 k151 => ?_
      refine w_reg (by kernel_rfl) ?_
      refine s_qk (hd_s) (by kernel_rfl) ?_
      refine s_qk (.int .i64 o66.2) (by kernel_rfl) ?_
      obtain ⟨g152, r153⟩ := G_some r146
      obtain ⟨s154, q155, hs156⟩ := Ow.head (P := Tryd.prog) hm150 (t := 22) (by kernel_rfl) (hi := (some (.int .i64 o66.2))) (r := o66.2.toNat) (aBound_int _ (by have := g152; omega)) (by have := g152; omega)
      obtain ⟨a157, n158, c159, rfl⟩ := hs156.form
      refine s_ql (.slice a157 n158 c159) (by kernel_rfl) q155 ?_
      refine s_qk (.slice a157 n158 c159) (by kernel_rfl) ?_
      refine s_nil ?_
      refine k151 _ _ ?_
      refine w_ret (bl_ret (th_ret (th_ret (bl_ret (th_ret (th_ret ?_))))))
      obtain ⟨v161, hv162, hz163⟩ := map_some r153
      subst hz163
      obtain rfl := it_inr hn32
      have hq164 := elim_inl r17
      rw [hq164] at hv162
      refine b_ret (fn := Tryd.f50) (vs := [.slice a157 n158 c159]) (aRes_tmp (by kernel_rfl) (rfl)) ?_
      obtain rfl := Option.some.inj hv162
      exact ⟨(.slice a157 n158 c159), rfl, (FrS.step wf (FrS.step wf (FrS.step wf (FrS.step wf (FrS.refl (W := fp_s) wf) e26 Inn.nil) e51 Inn.nil) e70 Inn.refl') e149 Inn.refl'), hs156, hm150⟩
    ·have r165 := ite_bf h52 r49
     refine w_skip ?_
     refine k39 _ _ ?_
     refine w_reg (by kernel_rfl) ?_
     refine s_qk (.int .i64 k3) (by kernel_rfl) ?_
     obtain ⟨g166, r167⟩ := G_some r165
     refine s_w ((k3 + 1)) (k := .i64) (x := (k3 + 1)) (by kernel_rfl) (wrap64 (by have := g166; omega)) ?_
     refine s_qk (.int .i64 (k3 + 1)) (by kernel_rfl) ?_
     refine s_nil ?_
     obtain rfl := Option.some.inj r167
     exact k33 n29 _ _ (Nat.lt_succ_self _) ⟨(k3 + 1), hn32, ⟨by kernel_rfl, by kernel_rfl, by kernel_rfl, trivial⟩, (FrS.step wf (FrS.step wf (FrS.refl (W := []) wf) e26 Inn.nil) e51 Inn.nil)⟩
   ·have r168 := ite_f h37 hz31
    refine w_exit (th_exit (th_exit (bl_eq ?_)))
    obtain rfl := Option.some.inj r168
    obtain rfl := it_inr hn32
    exact k21 _ _ ⟨_, rfl, ⟨by kernel_rfl, trivial⟩, (FrS.step wf (FrS.refl (W := []) wf) e26 Inn.nil)⟩
  ·obtain ⟨o15, rfl, hh22, e20⟩ := hM
   have r169 := elim_inr r17
   obtain ⟨β, rfl⟩ := has_ex hh22
   clear hh22
   refine k13 _ _ ?_
   refine w_seqk fun K170 k170 => ?_
   refine w_reg (by kernel_rfl) ?_
   refine s_qk (hd_s) (by kernel_rfl) ?_
   refine s_qk (hd_s) (by kernel_rfl) ?_
   refine s_nil ?_
   refine k170 _ _ ?_
   refine w_ret ?_
   refine b_ret (fn := Tryd.f50) (vs := [hd_s]) (aRes_tmp (by kernel_rfl) (rfl)) ?_
   have u171 := (h_s.fr e20 Dj.nil_l)
   obtain rfl := Option.some.inj r169
   exact ⟨(hd_s), rfl, (FrS.step wf (FrS.refl (W := fp_s) wf) e20 Inn.nil), u171, u171⟩

theorem c_normal_Of {H : AH} {hd_Arcs : Value} {fp_Arcs : Fp} {N_ : Int} {Arcs : List (Int × Int × Int)} {r : Int × List (Int × Int × Int) × Er}
  (wf : WF H) (h_Arcs : Sq enc_i64_i64_i64 3 H hd_Arcs Arcs fp_Arcs) (hr : z_normal_Of N_ Arcs = some r) :
  ACalls Tryd.prog 13 #[.agg #[.int .i64 N_, hd_Arcs]] H fun v H' => ∃ (s3 : Value) (f4 : Fp) (v7 : Value) (f8 : Fp), v = .tuple #[.agg #[.int .i64 r.1, s3], v7] ∧ FrS [] H H' ∧ Ow enc_i64_i64_i64 3 H' s3 r.2.1 f4 ∧ Ev 53 90 H' v7 r.2.2 f8 ∧ Inn [] H f4 ∧ Inn [] H f8 ∧ Dj f4 f8 := by
 refine acalls_of_body mixed Tryd.func13 rfl (Nat.le_of_ble_eq_true rfl) ?_
 unfold z_normal_Of at hr
 refine w_seqk fun K12 k12 => ?_
 refine w_reg (by kernel_rfl) ?_
 refine s_rwl wf [.int .i64 N_, hd_Arcs] (one_cons (rfl) (one_cons (h_Arcs.one1) (one_nil))) (by kernel_rfl) fun b13 H14 e15 hb16 r17 => ?_
 refine s_rwk e15.wf [.int .i64 0, .slice none 0 0] (by kernel_rfl) fun b19 H20 e21 hb22 r23 => ?_
 refine s_qk (.nilIface) (by kernel_rfl) ?_
 refine s_nil ?_
 refine k12 _ _ ?_
 refine w_seqk fun K25 k25 => ?_
 refine w_seqk fun K26 k26 => ?_
 refine w_reg (by kernel_rfl) ?_
 have u27 := (r17.ext e21)
 refine s_ql (.agg #[.int .i64 N_, hd_Arcs]) (x := aLoad Tryd.prog 24 (.pointer (some ⟨b13, 0, none⟩)) H20) (by kernel_rfl) (u27.ld (by kernel_rfl)) ?_
 have u28 := ((h_Arcs.ext e15).ext e21)
 obtain ⟨y29, hy30, r31⟩ := bind_some hr
 refine s_ck 47 #[.agg #[.int .i64 N_, hd_Arcs]] (by kernel_rfl) (c_gtext_Check e21.wf u28 hy30) ?_
 rintro v32 H34 ⟨_, f33, rfl, e35, m36, i37⟩
 refine s_qk (v32) (by kernel_rfl) ?_
 refine s_nil ?_
 refine k26 _ _ ?_
 refine w_seqk fun K39 k39 => ?_
 refine w_reg (by kernel_rfl) ?_
 refine s_qk (v32) (by kernel_rfl) ?_
 rcases (m36).cases with ⟨h40, rfl⟩ | ⟨h40, t41, x42, rfl⟩
 ·have r43 := ite_t h40 r31
  refine s_qk (.bool false) (by kernel_rfl) ?_
  refine s_nil ?_
  refine k39 _ _ ?_
  refine w_cond false (by kernel_rfl) rfl (fun h => by cases h) (fun _ => ?_)
  refine w_skip ?_
  refine k25 _ _ ?_
  refine w_seqk fun K44 k44 => ?_
  refine w_reg (by kernel_rfl) ?_
  refine s_qk (.pointer (some ⟨b13, 0, none⟩)) (by kernel_rfl) ?_
  have u45 := (u27.frS e35 Dj.nil_l)
  refine s_ql (.int .i64 N_) (x := aLoad Tryd.prog 3 (.pointer (some ⟨b13, 0, none⟩)) H34) (by kernel_rfl) (u45.ld (by kernel_rfl)) ?_
  refine s_qk (.agg #[.int .i64 N_, .slice none 0 0]) (by kernel_rfl) ?_
  refine s_rwk e35.wf [.int .i64 0, .slice none 0 0] (by kernel_rfl) fun b46 H47 e48 hb49 r50 => ?_
  obtain ⟨H52, q53, e54, r55⟩ := Row.store (P := Tryd.prog) (t := 24) (p := 0) e48.wf r50 (.agg #[.int .i64 N_, .slice none 0 0]) [.int .i64 N_, .slice none 0 0] (by kernel_rfl) (by kernel_rfl) (one_cons (rfl) (one_cons (rfl) (one_nil))) (Nat.le_of_ble_eq_true (by kernel_rfl)) [.int .i64 N_, .slice none 0 0] (by kernel_rfl)
  refine s_ek (undef) (by kernel_rfl) (map_ok q53) ?_
  refine s_nil ?_
  refine k44 _ _ ?_
  refine w_seqk fun K56 k56 => ?_
  refine w_seqk fun K57 k57 => ?_
  refine w_reg (by kernel_rfl) ?_
  refine s_qk (.pointer (some ⟨b13, 1, none⟩)) (by kernel_rfl) ?_
  have u58 := ((u45.ext e48).frS e54 (hb49.djn (r17.ltF.le (ntr e21.next e35.next))))
  refine s_ql (hd_Arcs) (x := aLoad Tryd.prog 22 (.pointer (some ⟨b13, 1, none⟩)) H52) (by kernel_rfl) (u58.ld (by kernel_rfl)) ?_
  have u59 := (((u28.fr e35 Dj.nil_l).ext e48).fr e54 (hb49.djn (h_Arcs.lt.le (ntr (ntr e15.next e21.next) e35.next))))
  refine s_ql (.int .i64 (Arcs.length : Int)) (x := aLen Tryd.prog 22 hd_Arcs H52) (by kernel_rfl) (u59.lenb (by kernel_rfl)) ?_
  refine s_qk (.int .i64 0) (by kernel_rfl) ?_
  refine s_nil ?_
  refine k57 _ _ ?_
  obtain ⟨o60, hx61, r62⟩ := bind_some r43
  refine w_mid (fun α H63 => ∃ (s67 : Value) (f68 : Fp), Has α [(2, .pointer (some ⟨b19, 0, none⟩)), (5, .pointer (some ⟨b46, 0, none⟩))] ∧ FrS [b46] H52 H63 ∧ Ow enc_i64_i64_i64 3 H63 s67 o60 f68 ∧ Row H63 b46 [.int .i64 N_, s67] ∧ Inn [] H52 f68) (fun K72 k72 => ?_) (fun α H63 hM => ?_)
  ·refine w_block ?_
   obtain ⟨n74, hn75⟩ := loopO_iff.1 hx61
   refine w_loopn (fun n α H76 => ∃ (i0 : Int), ∃ (c1 : List (Int × Int × Int)), ∃ (s80 : Value), ∃ (f81 : Fp), iterO (fun zz_ => z_normal_Of_l0 Arcs zz_.1 zz_.2) n (i0, c1) = some o60 ∧ Has α [(2, .pointer (some ⟨b19, 0, none⟩)), (5, .pointer (some ⟨b46, 0, none⟩)), (18, hd_Arcs), (19, .int .i64 (Arcs.length : Int)), (20, .int .i64 i0)] ∧ FrS [b46] H52 H76 ∧ Ow enc_i64_i64_i64 3 H76 s80 c1 f81 ∧ Row H76 b46 [.int .i64 N_, s80] ∧ Inn [] H52 f81) n74 ⟨0, [], (.slice none 0 0), [], hn75, ⟨by kernel_rfl, by kernel_rfl, by kernel_rfl, by kernel_rfl, by kernel_rfl, trivial⟩, (FrS.refl (W := [b46]) e54.wf), (Ow.nil (by decide)), r55, Inn.nil⟩ ?_
   rintro n74 α H76 ⟨i0, c1, s80, f81, hi86, hh85, e77, m79, m83, i84⟩ K91 k91
   obtain ⟨n87, z88, rfl, hz89, hn90⟩ := iter_succ hi86
   obtain ⟨β, rfl⟩ := has_ex hh85
   clear hh85
   replace hz89 : z_normal_Of_l0 Arcs i0 c1 = some z88 := hz89
   unfold z_normal_Of_l0 at hz89
   obtain ⟨a92, n93, c94, rfl⟩ := m79.form
   refine w_seqk fun K95 k95 => ?_
   refine w_reg (by kernel_rfl) ?_
   refine s_qk (.bool (decide (i0 < (Arcs.length : Int)))) (by kernel_rfl) ?_
   refine s_nil ?_
   refine k95 _ _ ?_
   refine w_seqk fun K96 k96 => ?_
   refine w_condp (i0 < (Arcs.length : Int)) (by kernel_rfl) rfl (fun h97 => ?_) (fun h97 => ?_)
   ·have r98 := ite_t h97 hz89
    refine w_skip ?_
    refine k96 _ _ ?_
    refine w_seqk fun K99 k99 => ?_
    refine w_block ?_
    refine w_seqk fun K100 k100 => ?_
    refine w_reg (by kernel_rfl) ?_
    obtain ⟨g101, r102⟩ := G_some r98
    have u103 := (u59.fr e77 (hb49.djn (h_Arcs.lt.le (ntr (ntr e15.next e21.next) e35.next))))
    refine s_ql (elp hd_Arcs 3 i0.toNat 0) (x := aIndexAddr Tryd.prog 22 hd_Arcs (.int .i64 i0)) (by kernel_rfl) (u103.idxb (by kernel_rfl) g101 h97) ?_
    refine s_ql (.agg #[.int .i64 ((gt Arcs i0).1), .int .i64 ((gt Arcs i0).2.1), .int .i64 ((gt Arcs i0).2.2)]) (x := aLoad Tryd.prog 51 (elp hd_Arcs 3 i0.toNat 0) H76) (by kernel_rfl) (u103.ld g101 h97 (by kernel_rfl)) ?_
    refine s_rwk e77.wf [.int .i64 0, .int .i64 0, .int .i64 0] (by kernel_rfl) fun b104 H105 e106 hb107 r108 => ?_
    obtain ⟨H110, q111, e112, r113⟩ := Row.store (P := Tryd.prog) (t := 51) (p := 0) e106.wf r108 (.agg #[.int .i64 ((gt Arcs i0).1), .int .i64 ((gt Arcs i0).2.1), .int .i64 ((gt Arcs i0).2.2)]) [.int .i64 ((gt Arcs i0).1), .int .i64 ((gt Arcs i0).2.1), .int .i64 ((gt Arcs i0).2.2)] (by kernel_rfl) (by kernel_rfl) (one_cons (rfl) (one_cons (rfl) (one_cons (rfl) (one_nil)))) (Nat.le_of_ble_eq_true (by kernel_rfl)) [.int .i64 ((gt Arcs i0).1), .int .i64 ((gt Arcs i0).2.1), .int .i64 ((gt Arcs i0).2.2)] (by kernel_rfl)
    refine s_ek (undef) (by kernel_rfl) (map_ok q111) ?_
    refine s_nil ?_
    refine k100 _ _ ?_
    refine w_seqk fun K114 k114 => ?_
    refine w_reg (by kernel_rfl) ?_
    refine s_qk (.pointer (some ⟨b104, 0, none⟩)) (by kernel_rfl) ?_
    refine s_ql (.int .i64 ((gt Arcs i0).1)) (x := aLoad Tryd.prog 3 (.pointer (some ⟨b104, 0, none⟩)) H110) (by kernel_rfl) (r113.ld (by kernel_rfl)) ?_
    refine s_qk (.pointer (some ⟨b104, 1, none⟩)) (by kernel_rfl) ?_
    refine s_ql (.int .i64 ((gt Arcs i0).2.1)) (x := aLoad Tryd.prog 3 (.pointer (some ⟨b104, 1, none⟩)) H110) (by kernel_rfl) (r113.ld (by kernel_rfl)) ?_
    refine s_qk (.bool (!decide (((gt Arcs i0).1) = ((gt Arcs i0).2.1)))) (by kernel_rfl) ?_
    refine s_nil ?_
    refine k114 _ _ ?_
    refine w_condn (((gt Arcs i0).1) = ((gt Arcs i0).2.1)) (by kernel_rfl) rfl (fun h115 => ?_) (fun h115 => ?_)
    ·have r116 := ite_f h115 r102
     refine w_reg (by kernel_rfl) ?_
     refine s_qk (.pointer (some ⟨b46, 1, none⟩)) (by kernel_rfl) ?_
     have u117 := ((m83.ext e106).frS e112 (hb107.djn (r50.ltF.le (ntr e54.next e77.next))))
     refine s_ql (.slice a92 n93 c94) (x := aLoad Tryd.prog 22 (.pointer (some ⟨b46, 1, none⟩)) H110) (by kernel_rfl) (u117.ld (by kernel_rfl)) ?_
     refine s_ql (.agg #[.int .i64 ((gt Arcs i0).1), .int .i64 ((gt Arcs i0).2.1), .int .i64 ((gt Arcs i0).2.2)]) (x := aLoad Tryd.prog 51 (.pointer (some ⟨b104, 0, none⟩)) H110) (by kernel_rfl) (r113.ld (by kernel_rfl)) ?_
     refine s_owk (enc := enc_i64_i64_i64) (sz := 3) e112.wf [((gt Arcs i0).1, (gt Arcs i0).2.1, (gt Arcs i0).2.2)] 1 (by decide) (fun _ _ => rfl) (fun _ _ => rfl) rfl (by kernel_rfl) fun s118 f119 H120 e121 hf122 hm123 => ?_
     obtain ⟨a124, n125, c126, rfl⟩ := hm123.form
     have u128 := (((m79.ext e106).fr e112 (hb107.djn m79.lt)).ext e121)
     obtain ⟨g129, r130⟩ := G_some r116
     obtain ⟨s131, H132, f133, q137, e134, hm135, hf136⟩ := Ow.append (P := Tryd.prog) 24 e121.wf u128 hm123.sq (fun _ _ => rfl) (at_ := #[22, 22]) rfl rfl (by kernel_rfl) (by kernel_rfl) (by decide) (by have := g129; first | omega | (simp only [List.length_cons, List.length_nil] at this ⊢; omega) | (simp at this ⊢; omega))
     obtain ⟨a138, n139, c140, rfl⟩ := hm135.form
     refine s_ek (.slice a138 n139 c140) (by kernel_rfl) (q137) ?_
     refine s_qk (.pointer (some ⟨b46, 1, none⟩)) (by kernel_rfl) ?_
     have u146 := ((u117.ext e121).frS e134 (i84.djn (r50.ltF.le e54.next)))
     obtain ⟨H142, q143, e144, r145⟩ := Row.store (P := Tryd.prog) (t := 22) (p := 1) e134.wf u146 (.slice a138 n139 c140) [.slice a138 n139 c140] (by kernel_rfl) (by kernel_rfl) (one_cons (hm135.one1) (one_nil)) (Nat.le_of_ble_eq_true (by kernel_rfl)) [.int .i64 N_, .slice a138 n139 c140] (by kernel_rfl)
     refine s_ek (undef) (by kernel_rfl) (map_ok q143) ?_
     refine s_nil ?_
     refine k99 _ _ ?_
     refine w_reg (by kernel_rfl) ?_
     obtain ⟨g147, r148⟩ := G_some r130
     refine s_w ((i0 + 1)) (k := .i64) (x := (i0 + 1)) (by kernel_rfl) (wrap64 (by have := g147; omega)) ?_
     refine s_qk (.int .i64 (i0 + 1)) (by kernel_rfl) ?_
     refine s_nil ?_
     have u149 := (hm135.fr e144 (Dj.symm (hf136.dj (i84.djn (r50.ltF.le e54.next)) (r50.ltF.le (ntr (ntr (ntr (ntr e54.next e77.next) e106.next) e112.next) e121.next)))))
     obtain rfl := Option.some.inj r148
     exact k91 n87 _ _ (Nat.lt_succ_self _) ⟨(i0 + 1), (c1 ++ [((gt Arcs i0).1, (gt Arcs i0).2.1, (gt Arcs i0).2.2)]), (.slice a138 n139 c140), f133, hn90, ⟨by kernel_rfl, by kernel_rfl, by kernel_rfl, by kernel_rfl, by kernel_rfl, trivial⟩, (FrS.step e54.wf (FrS.step e54.wf ((FrS.step e54.wf ((FrS.step e54.wf (FrS.refl (W := [b46]) e54.wf) e77 Inn.refl').extR e106) e112 (hb107.fresh e77.next)).extR e121) e134 (i84.fresh (Nat.le_refl _))) e144 Inn.refl'), u149, r145, (Inn.trans (i84.fresh (Nat.le_refl _)) (ntr (ntr (ntr e77.next e106.next) e112.next) e121.next) hf136)⟩
    ·have r150 := ite_t h115 r102
     refine w_skip ?_
     refine k99 _ _ ?_
     refine w_reg (by kernel_rfl) ?_
     obtain ⟨g151, r152⟩ := G_some r150
     refine s_w ((i0 + 1)) (k := .i64) (x := (i0 + 1)) (by kernel_rfl) (wrap64 (by have := g151; omega)) ?_
     refine s_qk (.int .i64 (i0 + 1)) (by kernel_rfl) ?_
     refine s_nil ?_
     have u153 := ((m79.ext e106).fr e112 (hb107.djn m79.lt))
     have u154 := ((m83.ext e106).frS e112 (hb107.djn (r50.ltF.le (ntr e54.next e77.next))))
     obtain rfl := Option.some.inj r152
     exact k91 n87 _ _ (Nat.lt_succ_self _) ⟨(i0 + 1), c1, (.slice a92 n93 c94), f81, hn90, ⟨by kernel_rfl, by kernel_rfl, by kernel_rfl, by kernel_rfl, by kernel_rfl, trivial⟩, (FrS.step e54.wf ((FrS.step e54.wf (FrS.refl (W := [b46]) e54.wf) e77 Inn.refl').extR e106) e112 (hb107.fresh e77.next)), u153, u154, (i84.fresh (Nat.le_refl _))⟩
   ·have r155 := ite_f h97 hz89
    refine w_exit (th_exit (th_exit (bl_eq ?_)))
    obtain rfl := Option.some.inj r155
    obtain rfl := it_inr hn90
    exact k72 _ _ ⟨(.slice a92 n93 c94), f81, ⟨by kernel_rfl, by kernel_rfl, trivial⟩, (FrS.step e54.wf (FrS.refl (W := [b46]) e54.wf) e77 Inn.refl'), m79, m83, (i84.fresh (Nat.le_refl _))⟩
  ·obtain ⟨s67, f68, hh73, e64, m66, m70, i71⟩ := hM
   obtain ⟨β, rfl⟩ := has_ex hh73
   clear hh73
   obtain ⟨a156, n157, c158, rfl⟩ := m66.form
   refine k56 _ _ ?_
   refine w_seqk fun K159 k159 => ?_
   refine w_reg (by kernel_rfl) ?_
   refine s_qk (.pointer (some ⟨b46, 1, none⟩)) (by kernel_rfl) ?_
   refine s_ql (.slice a156 n157 c158) (x := aLoad Tryd.prog 22 (.pointer (some ⟨b46, 1, none⟩)) H63) (by kernel_rfl) (m70.ld (by kernel_rfl)) ?_
   obtain ⟨g160, r161⟩ := G_some r62
   obtain ⟨y162, hy163, r164⟩ := bind_some r161
   refine s_ck 48 #[.slice a156 n157 c158, .func (.func 49) #[] #[]] (by kernel_rfl) (a_sortO (enc := enc_i64_i64_i64) (fun _ => rfl) (by intro x v hv; simp only [enc_i64_i64_i64, List.mem_cons, List.not_mem_nil, or_false] at hv; rcases hv with rfl | rfl | rfl <;> rfl) (by intro x v hv; simp only [enc_i64_i64_i64, List.mem_cons, List.not_mem_nil, or_false] at hv; rcases hv with rfl | rfl | rfl <;> rfl) (c := (fun (a_ b_ : Int × Int × Int) => z_normal_order a_.1 a_.2.1 a_.2.2 b_.1 b_.2.1 b_.2.2)) (Go.Proofs.enters_of Tryd.func49 (by kernel_rfl) rfl) (fun x y r hr => (c_normal_order aNil_wf hr).mono fun v H' h => h.1) e64.wf m66 g160 hy163) ?_
   rintro _ H165 ⟨rfl, e166, hm167⟩
   refine s_nil ?_
   refine k159 _ _ ?_
   refine w_seqk fun K168 k168 => ?_
   refine w_reg (by kernel_rfl) ?_
   refine s_qk (.pointer (some ⟨b46, 1, none⟩)) (by kernel_rfl) ?_
   have u169 := (m70.frS e166 (i71.djn (r50.ltF.le e54.next)))
   refine s_ql (.slice a156 n157 c158) (x := aLoad Tryd.prog 22 (.pointer (some ⟨b46, 1, none⟩)) H165) (by kernel_rfl) (u169.ld (by kernel_rfl)) ?_
   obtain ⟨y170, hy171, r172⟩ := bind_some r164
   refine s_ck 50 #[.slice a156 n157 c158, .func (.func 51) #[] #[]] (by kernel_rfl) (c_slices_CompactFunc e166.wf hm167 hy171) ?_
   rintro s173 H174 ⟨_, rfl, e175, m176, m177⟩
   obtain ⟨a179, n180, c181, rfl⟩ := m176.form
   refine s_qk (.pointer (some ⟨b46, 1, none⟩)) (by kernel_rfl) ?_
   have u186 := (u169.frS e175 (i71.djn (r50.ltF.le e54.next)))
   obtain ⟨H182, q183, e184, r185⟩ := Row.store (P := Tryd.prog) (t := 22) (p := 1) e175.wf u186 (.slice a179 n180 c181) [.slice a179 n180 c181] (by kernel_rfl) (by kernel_rfl) (one_cons (m176.one1) (one_nil)) (Nat.le_of_ble_eq_true (by kernel_rfl)) [.int .i64 N_, .slice a179 n180 c181] (by kernel_rfl)
   refine s_ek (undef) (by kernel_rfl) (map_ok q183) ?_
   refine s_nil ?_
   refine k168 _ _ ?_
   refine w_seqk fun K187 k187 => ?_
   refine w_reg (by kernel_rfl) ?_
   refine s_ql (.agg #[.int .i64 N_, .slice a179 n180 c181]) (x := aLoad Tryd.prog 24 (.pointer (some ⟨b46, 0, none⟩)) H182) (by kernel_rfl) (r185.ld (by kernel_rfl)) ?_
   have u192 := (((((((r23.frS e35 Dj.nil_l).ext e48).frS e54 (hb49.djn (r23.ltF.le e35.next))).frS e64 (hb49.djn (r23.ltF.le e35.next))).frS e166 (i71.djn (r23.ltF.le (ntr (ntr e35.next e48.next) e54.next)))).frS e175 (i71.djn (r23.ltF.le (ntr (ntr e35.next e48.next) e54.next)))).frS e184 (hb49.djn (r23.ltF.le e35.next)))
   have u193 := (m176.fr e184 (Dj.symm (i71.djn (r50.ltF.le e54.next))))
   obtain ⟨H188, q189, e190, r191⟩ := Row.store (P := Tryd.prog) (t := 24) (p := 0) e184.wf u192 (.agg #[.int .i64 N_, .slice a179 n180 c181]) [.int .i64 N_, .slice a179 n180 c181] (by kernel_rfl) (by kernel_rfl) (one_cons (rfl) (one_cons (u193.one1) (one_nil))) (Nat.le_of_ble_eq_true (by kernel_rfl)) [.int .i64 N_, .slice a179 n180 c181] (by kernel_rfl)
   refine s_ek (undef) (by kernel_rfl) (map_ok q189) ?_
   refine s_qk (.nilIface) (by kernel_rfl) ?_
   refine s_nil ?_
   refine k187 _ _ ?_
   refine w_ret ?_
   refine b_ret (fn := Tryd.f13) (vs := [.agg #[.int .i64 N_, .slice a179 n180 c181], .nilIface]) (aRes_cell (Eq.trans (b := aLoad Tryd.prog 24 (.pointer (some ⟨b19, 0, none⟩)) H188) (by kernel_rfl) (r191.ld (by kernel_rfl))) (aRes_tmp (by kernel_rfl) (rfl))) ?_
   have u194 := (u193.fr e190 (Dj.symm (i71.djn (r23.ltF.le (ntr (ntr e35.next e48.next) e54.next)))))
   obtain rfl := Option.some.inj r172
   exact ⟨(.slice a179 n180 c181), f68, (.nilIface), [], rfl, (FrS.step wf (FrS.step wf (FrS.step wf (FrS.step wf (FrS.step wf (FrS.step wf ((FrS.step wf (((FrS.refl (W := []) wf).extR e15).extR e21) e35 Inn.nil).extR e48) e54 (hb49.fresh (ntr (ntr e15.next e21.next) e35.next))) e64 (hb49.fresh (ntr (ntr e15.next e21.next) e35.next))) e166 (i71.fresh (ntr (ntr (ntr (ntr e15.next e21.next) e35.next) e48.next) e54.next))) e175 (i71.fresh (ntr (ntr (ntr (ntr e15.next e21.next) e35.next) e48.next) e54.next))) e184 (hb49.fresh (ntr (ntr e15.next e21.next) e35.next))) e190 (hb22.fresh e15.next)), u194, Ev.nil, (i71.fresh (ntr (ntr (ntr (ntr e15.next e21.next) e35.next) e48.next) e54.next)), Inn.nil, Dj.nil_r⟩
 ·have r195 := ite_f h40 r31
  refine s_ql (.bool true) (x := aBin Tryd.prog .neq 28 (.tmp 10) (.const .nilIface) (.iface t41 x42) .nilIface) (by kernel_rfl) (aBin_nnil (by kernel_rfl)) ?_
  refine s_nil ?_
  refine k39 _ _ ?_
  refine w_cond true (by kernel_rfl) rfl (fun _ => ?_) (fun h => by cases h)
  refine w_seqk fun K196 k196 => ?_
  refine w_reg (by kernel_rfl) ?_
  refine s_qk (.agg #[.int .i64 0, .slice none 0 0]) (by kernel_rfl) ?_
  refine s_qk (.iface t41 x42) (by kernel_rfl) ?_
  have u201 := (r23.frS e35 Dj.nil_l)
  obtain ⟨H197, q198, e199, r200⟩ := Row.store (P := Tryd.prog) (t := 24) (p := 0) e35.wf u201 (.agg #[.int .i64 0, .slice none 0 0]) [.int .i64 0, .slice none 0 0] (by kernel_rfl) (by kernel_rfl) (one_cons (rfl) (one_cons (rfl) (one_nil))) (Nat.le_of_ble_eq_true (by kernel_rfl)) [.int .i64 0, .slice none 0 0] (by kernel_rfl)
  refine s_ek (undef) (by kernel_rfl) (map_ok q198) ?_
  refine s_qk (.iface t41 x42) (by kernel_rfl) ?_
  refine s_nil ?_
  refine k196 _ _ ?_
  refine w_ret (th_ret ?_)
  refine b_ret (fn := Tryd.f13) (vs := [.agg #[.int .i64 0, .slice none 0 0], .iface t41 x42]) (aRes_cell (Eq.trans (b := aLoad Tryd.prog 24 (.pointer (some ⟨b19, 0, none⟩)) H197) (by kernel_rfl) (r200.ld (by kernel_rfl))) (aRes_tmp (by kernel_rfl) (rfl))) ?_
  have u202 := (m36.fr e199 (Dj.symm (i37.djn r23.ltF)))
  obtain rfl := Option.some.inj r195
  exact ⟨(.slice none 0 0), [], (.iface t41 x42), f33, rfl, (FrS.step wf (FrS.step wf (((FrS.refl (W := []) wf).extR e15).extR e21) e35 Inn.nil) e199 (hb22.fresh e15.next)), (Ow.nil (by decide)), u202, Inn.nil, (i37.fresh (ntr e15.next e21.next)), Dj.nil_l⟩

theorem c_viaductref01_E {H : AH} {n_ : Int} {r : Int}
  (wf : WF H) (hr : z_viaductref01_E n_ = some r) :
  ACalls Tryd.prog 26 #[.int .i64 n_] H fun v H' => v = .agg #[.int .i64 r, .slice none 0 0] ∧ FrS [] H H' := by
 refine acalls_of_body mixed Tryd.func26 rfl (Nat.le_of_ble_eq_true rfl) ?_
 unfold z_viaductref01_E at hr
 refine w_seqk fun K1 k1 => ?_
 refine w_reg (by kernel_rfl) ?_
 refine s_rwk wf [.int .i64 0, .slice none 0 0] (by kernel_rfl) fun b2 H3 e4 hb5 r6 => ?_
 refine s_nil ?_
 refine k1 _ _ ?_
 refine w_seqk fun K8 k8 => ?_
 refine w_reg (by kernel_rfl) ?_
 refine s_qk (.int .i64 n_) (by kernel_rfl) ?_
 refine s_qk (.agg #[.int .i64 n_, .slice none 0 0]) (by kernel_rfl) ?_
 obtain ⟨H9, q10, e11, r12⟩ := Row.store (P := Tryd.prog) (t := 33) (p := 0) e4.wf r6 (.agg #[.int .i64 n_, .slice none 0 0]) [.int .i64 n_, .slice none 0 0] (by kernel_rfl) (by kernel_rfl) (one_cons (rfl) (one_cons (rfl) (one_nil))) (Nat.le_of_ble_eq_true (by kernel_rfl)) [.int .i64 n_, .slice none 0 0] (by kernel_rfl)
 refine s_ek (undef) (by kernel_rfl) (map_ok q10) ?_
 refine s_nil ?_
 refine k8 _ _ ?_
 refine w_ret ?_
 refine b_ret (fn := Tryd.f26) (vs := [.agg #[.int .i64 n_, .slice none 0 0]]) (aRes_cell (Eq.trans (b := aLoad Tryd.prog 33 (.pointer (some ⟨b2, 0, none⟩)) H9) (by kernel_rfl) (r12.ld (by kernel_rfl))) (rfl)) ?_
 obtain rfl := Option.some.inj hr
 exact ⟨rfl, (FrS.step wf ((FrS.refl (W := []) wf).extR e4) e11 (hb5.fresh (Nat.le_refl _)))⟩


end Go.Vd

/-! (KNo1) -/

set_option maxRecDepth 100000
set_option maxHeartbeats 4000000
set_option linter.unusedVariables false
namespace Go.Vd
open Go.Proofs
attribute [local irreducible] wpSeq wpOrd aWp
theorem c_viaductref01_At {H : AH} {hd_Places : Value} {fp_Places : Fp} {kind : Int} {at_ : Int} {Code : Int} {Places : List (Int × Int)} {r : Int × List (Int × Int)}
  (wf : WF H) (h_Places : Sq enc_i64_i64 2 H hd_Places Places fp_Places) (hr : z_viaductref01_At kind at_ Code Places = some r) :
  ACalls Tryd.prog 27 #[.int .i64 kind, .int .i64 at_, .agg #[.int .i64 Code, hd_Places]] H fun v H' => ∃ (s3 : Value) (f4 : Fp), v = .agg #[.int .i64 r.1, s3] ∧ FrS [] H H' ∧ Ow enc_i64_i64 2 H' s3 r.2 f4 ∧ Inn [] H f4 := by
 refine acalls_of_body mixed Tryd.func27 rfl (Nat.le_of_ble_eq_true rfl) ?_
 unfold z_viaductref01_At at hr
 refine w_seqk fun K6 k6 => ?_
 refine w_reg (by kernel_rfl) ?_
 refine s_rwl wf [.int .i64 Code, hd_Places] (one_cons (rfl) (one_cons (h_Places.one1) (one_nil))) (by kernel_rfl) fun b7 H8 e9 hb10 r11 => ?_
 refine s_rwk e9.wf [.int .i64 0, .slice none 0 0] (by kernel_rfl) fun b13 H14 e15 hb16 r17 => ?_
 refine s_nil ?_
 refine k6 _ _ ?_
 refine w_seqk fun K19 k19 => ?_
 refine w_reg (by kernel_rfl) ?_
 refine s_qk (.int .i64 kind) (by kernel_rfl) ?_
 refine s_qk (.int .i64 at_) (by kernel_rfl) ?_
 refine s_qk (.agg #[.int .i64 kind, .int .i64 at_]) (by kernel_rfl) ?_
 refine s_owk (enc := enc_i64_i64) (sz := 2) e15.wf [(kind, at_)] 1 (by decide) (fun _ _ => rfl) (fun _ _ => rfl) rfl (by kernel_rfl) fun s20 f21 H22 e23 hf24 hm25 => ?_
 obtain ⟨a26, n27, c28, rfl⟩ := hm25.form
 refine s_qk (.slice a26 n27 c28) (by kernel_rfl) ?_
 refine s_nil ?_
 refine k19 _ _ ?_
 refine w_seqk fun K30 k30 => ?_
 refine w_reg (by kernel_rfl) ?_
 refine s_qk (.slice a26 n27 c28) (by kernel_rfl) ?_
 refine s_qk (.pointer (some ⟨b7, 1, none⟩)) (by kernel_rfl) ?_
 have u31 := ((r11.ext e15).ext e23)
 refine s_ql (hd_Places) (x := aLoad Tryd.prog 31 (.pointer (some ⟨b7, 1, none⟩)) H22) (by kernel_rfl) (u31.ld (by kernel_rfl)) ?_
 obtain ⟨g32, r33⟩ := G_some hr
 have u41 := (((h_Places.ext e9).ext e15).ext e23)
 obtain ⟨s34, H35, f36, q40, e37, hm38, hf39⟩ := Ow.append (P := Tryd.prog) 16 e23.wf hm25 u41 (fun _ _ => rfl) (at_ := #[31, 31]) rfl rfl (by kernel_rfl) (by kernel_rfl) (by decide) (by have := g32; first | omega | (simp only [List.length_cons, List.length_nil] at this ⊢; omega) | (simp at this ⊢; omega))
 obtain ⟨a42, n43, c44, rfl⟩ := hm38.form
 refine s_ek (.slice a42 n43 c44) (by kernel_rfl) (q40) ?_
 refine s_qk (.slice a42 n43 c44) (by kernel_rfl) ?_
 refine s_nil ?_
 refine k30 _ _ ?_
 refine w_seqk fun K46 k46 => ?_
 refine w_reg (by kernel_rfl) ?_
 refine s_qk (.pointer (some ⟨b7, 0, none⟩)) (by kernel_rfl) ?_
 have u47 := (u31.frS e37 (hf24.djn (r11.ltF.le e15.next)))
 refine s_ql (.int .i64 Code) (x := aLoad Tryd.prog 3 (.pointer (some ⟨b7, 0, none⟩)) H35) (by kernel_rfl) (u47.ld (by kernel_rfl)) ?_
 refine s_qk (.slice a42 n43 c44) (by kernel_rfl) ?_
 refine s_qk (.agg #[.int .i64 Code, .slice a42 n43 c44]) (by kernel_rfl) ?_
 have u52 := ((r17.ext e23).frS e37 (hf24.djn r17.ltF))
 obtain ⟨H48, q49, e50, r51⟩ := Row.store (P := Tryd.prog) (t := 33) (p := 0) e37.wf u52 (.agg #[.int .i64 Code, .slice a42 n43 c44]) [.int .i64 Code, .slice a42 n43 c44] (by kernel_rfl) (by kernel_rfl) (one_cons (rfl) (one_cons (hm38.one1) (one_nil))) (Nat.le_of_ble_eq_true (by kernel_rfl)) [.int .i64 Code, .slice a42 n43 c44] (by kernel_rfl)
 refine s_ek (undef) (by kernel_rfl) (map_ok q49) ?_
 refine s_nil ?_
 refine k46 _ _ ?_
 refine w_ret ?_
 refine b_ret (fn := Tryd.f27) (vs := [.agg #[.int .i64 Code, .slice a42 n43 c44]]) (aRes_cell (Eq.trans (b := aLoad Tryd.prog 33 (.pointer (some ⟨b13, 0, none⟩)) H48) (by kernel_rfl) (r51.ld (by kernel_rfl))) (rfl)) ?_
 have u53 := (hm38.fr e50 (Dj.symm (hf39.dj (hf24.djn r17.ltF) (r17.ltF.le e23.next))))
 obtain rfl := Option.some.inj r33
 exact ⟨(.slice a42 n43 c44), f36, rfl, (FrS.step wf (FrS.step wf ((((FrS.refl (W := []) wf).extR e9).extR e15).extR e23) e37 (hf24.fresh (ntr e9.next e15.next))) e50 (hb16.fresh e9.next)), u53, (Inn.trans (hf24.fresh (ntr e9.next e15.next)) (ntr (ntr e9.next e15.next) e23.next) hf39)⟩

theorem c_viaductref03_DocCheck {H : AH} {hd_Arcs : Value} {fp_Arcs : Fp} {N_ : Int} {Arcs : List (Int × Int × Int)} {r : Int × List (Int × Int)}
  (wf : WF H) (h_Arcs : Sq enc_i64_i64_i64 3 H hd_Arcs Arcs fp_Arcs) (hr : z_viaductref03_DocCheck N_ Arcs = some r) :
  ACalls Tryd.prog 52 #[.agg #[.int .i64 N_, hd_Arcs]] H fun v H' => ∃ (s3 : Value) (f4 : Fp), v = .agg #[.int .i64 r.1, s3] ∧ FrS [] H H' ∧ Ow enc_i64_i64 2 H' s3 r.2 f4 ∧ Inn [] H f4 := by
 refine acalls_of_body mixed Tryd.func52 rfl (Nat.le_of_ble_eq_true rfl) ?_
 unfold z_viaductref03_DocCheck at hr
 refine w_seqk fun K6 k6 => ?_
 refine w_reg (by kernel_rfl) ?_
 refine s_rwl wf [.int .i64 N_, hd_Arcs] (one_cons (rfl) (one_cons (h_Arcs.one1) (one_nil))) (by kernel_rfl) fun b7 H8 e9 hb10 r11 => ?_
 refine s_rwk e9.wf [.int .i64 0, .slice none 0 0] (by kernel_rfl) fun b13 H14 e15 hb16 r17 => ?_
 refine s_nil ?_
 refine k6 _ _ ?_
 refine w_seqk fun K19 k19 => ?_
 refine w_seqk fun K20 k20 => ?_
 obtain ⟨o21, hx22, r23⟩ := bind_some hr
 refine w_mid (fun α H24 => Has α [(1, .pointer (some ⟨b7, 0, none⟩)), (2, .pointer (some ⟨b13, 0, none⟩)), (18, .bool o21)] ∧ H14 = H24) (fun K26 k26 => ?_) (fun α H24 hM => ?_)
 ·refine w_reg (by kernel_rfl) ?_
  refine s_qk (.pointer (some ⟨b7, 0, none⟩)) (by kernel_rfl) ?_
  have u28 := (r11.ext e15)
  refine s_ql (.int .i64 N_) (x := aLoad Tryd.prog 3 (.pointer (some ⟨b7, 0, none⟩)) H14) (by kernel_rfl) (u28.ld (by kernel_rfl)) ?_
  refine s_b (N_ < 0) (by kernel_rfl) (fun h29 => ?_) (fun h29 => ?_)
  ·have r30 := ite_t h29 hx22
   refine s_qk (.bool true) (by kernel_rfl) ?_
   refine s_no (by kernel_rfl) ?_
   refine s_no (by kernel_rfl) ?_
   refine s_no (by kernel_rfl) ?_
   refine s_qk (.bool true) (by kernel_rfl) ?_
   refine s_qk (.bool true) (by kernel_rfl) ?_
   refine s_no (by kernel_rfl) ?_
   refine s_no (by kernel_rfl) ?_
   refine s_no (by kernel_rfl) ?_
   refine s_no (by kernel_rfl) ?_
   refine s_qk (.bool true) (by kernel_rfl) ?_
   refine s_nil ?_
   obtain rfl := Option.some.inj r30
   exact k26 _ _ ⟨⟨by kernel_rfl, by kernel_rfl, by kernel_rfl, trivial⟩, rfl⟩
  ·have r31 := ite_f h29 hx22
   refine s_qk (.bool false) (by kernel_rfl) ?_
   refine s_qk (.pointer (some ⟨b7, 0, none⟩)) (by kernel_rfl) ?_
   refine s_ql (.int .i64 N_) (x := aLoad Tryd.prog 3 (.pointer (some ⟨b7, 0, none⟩)) H14) (by kernel_rfl) (u28.ld (by kernel_rfl)) ?_
   refine s_b (N_ > 65536) (by kernel_rfl) (fun h32 => ?_) (fun h32 => ?_)
   ·have r33 := ite_t h32 r31
    refine s_qk (.bool true) (by kernel_rfl) ?_
    refine s_qk (.bool true) (by kernel_rfl) ?_
    refine s_no (by kernel_rfl) ?_
    refine s_no (by kernel_rfl) ?_
    refine s_no (by kernel_rfl) ?_
    refine s_no (by kernel_rfl) ?_
    refine s_qk (.bool true) (by kernel_rfl) ?_
    refine s_nil ?_
    obtain rfl := Option.some.inj r33
    exact k26 _ _ ⟨⟨by kernel_rfl, by kernel_rfl, by kernel_rfl, trivial⟩, rfl⟩
   ·have r34 := ite_f h32 r31
    refine s_qk (.bool false) (by kernel_rfl) ?_
    refine s_qk (.bool false) (by kernel_rfl) ?_
    refine s_qk (.pointer (some ⟨b7, 1, none⟩)) (by kernel_rfl) ?_
    refine s_ql (hd_Arcs) (x := aLoad Tryd.prog 22 (.pointer (some ⟨b7, 1, none⟩)) H14) (by kernel_rfl) (u28.ld (by kernel_rfl)) ?_
    have u35 := ((h_Arcs.ext e9).ext e15)
    refine s_ql (.int .i64 (Arcs.length : Int)) (x := aLen Tryd.prog 22 hd_Arcs H14) (by kernel_rfl) (u35.lenb (by kernel_rfl)) ?_
    refine s_qk (.bool (decide ((Arcs.length : Int) > 262144))) (by kernel_rfl) ?_
    refine s_qk (.bool (decide ((Arcs.length : Int) > 262144))) (by kernel_rfl) ?_
    refine s_nil ?_
    obtain rfl := Option.some.inj r34
    exact k26 _ _ ⟨⟨by kernel_rfl, by kernel_rfl, by kernel_rfl, trivial⟩, rfl⟩
 ·obtain ⟨hh27, rfl⟩ := hM
  obtain ⟨β, rfl⟩ := has_ex hh27
  clear hh27
  refine k20 _ _ ?_
  refine w_cond (o21) (by kernel_rfl) rfl (fun h36 => ?_) (fun h36 => ?_)
  ·have r37 := ite_t h36 r23
   refine w_seqk fun K38 k38 => ?_
   refine w_reg (by kernel_rfl) ?_
   obtain ⟨y39, hy40, r41⟩ := bind_some r37
   refine s_ck 26 #[.int .i64 9] (by kernel_rfl) (c_viaductref01_E e15.wf hy40) ?_
   rintro _ H42 ⟨rfl, e43⟩
   have u48 := (r17.frS e43 Dj.nil_l)
   obtain ⟨H44, q45, e46, r47⟩ := Row.store (P := Tryd.prog) (t := 33) (p := 0) e43.wf u48 (.agg #[.int .i64 y39, .slice none 0 0]) [.int .i64 y39, .slice none 0 0] (by kernel_rfl) (by kernel_rfl) (one_cons (rfl) (one_cons (rfl) (one_nil))) (Nat.le_of_ble_eq_true (by kernel_rfl)) [.int .i64 y39, .slice none 0 0] (by kernel_rfl)
   refine s_ek (undef) (by kernel_rfl) (map_ok q45) ?_
   refine s_nil ?_
   refine k38 _ _ ?_
   refine w_ret (th_ret ?_)
   refine b_ret (fn := Tryd.f52) (vs := [.agg #[.int .i64 y39, .slice none 0 0]]) (aRes_cell (Eq.trans (b := aLoad Tryd.prog 33 (.pointer (some ⟨b13, 0, none⟩)) H44) (by kernel_rfl) (r47.ld (by kernel_rfl))) (rfl)) ?_
   obtain rfl := Option.some.inj r41
   exact ⟨(.slice none 0 0), [], rfl, (FrS.step wf (FrS.step wf (((FrS.refl (W := []) wf).extR e9).extR e15) e43 Inn.nil) e46 (hb16.fresh e9.next)), (Ow.nil (by decide)), Inn.nil⟩
  ·have r49 := ite_bf h36 r23
   refine w_skip ?_
   refine k19 _ _ ?_
   refine w_seqk fun K50 k50 => ?_
   refine w_seqk fun K51 k51 => ?_
   refine w_reg (by kernel_rfl) ?_
   refine s_qk (.pointer (some ⟨b7, 1, none⟩)) (by kernel_rfl) ?_
   have u52 := (r11.ext e15)
   refine s_ql (hd_Arcs) (x := aLoad Tryd.prog 22 (.pointer (some ⟨b7, 1, none⟩)) H14) (by kernel_rfl) (u52.ld (by kernel_rfl)) ?_
   have u53 := ((h_Arcs.ext e9).ext e15)
   refine s_ql (.int .i64 (Arcs.length : Int)) (x := aLen Tryd.prog 22 hd_Arcs H14) (by kernel_rfl) (u53.lenb (by kernel_rfl)) ?_
   refine s_qk (.int .i64 0) (by kernel_rfl) ?_
   refine s_nil ?_
   refine k51 _ _ ?_
   obtain ⟨z57, hx55, r56⟩ := bind_some r49
   refine w_mid (fun α H58 => ∃ o54, z57 = Sum.inr o54 ∧ Has α [(2, .pointer (some ⟨b13, 0, none⟩))] ∧ FrS [] H14 H58) (fun K60 k60 => ?_) (fun α H58 hM => ?_)
   ·refine w_block ?_
    obtain ⟨n62, hn63⟩ := loopO_iff.1 hx55
    refine w_loopn (fun n α H64 => ∃ (i0 : Int), iterO (fun zz_ => z_viaductref03_DocCheck_l0 N_ Arcs zz_) n i0 = some z57 ∧ Has α [(1, .pointer (some ⟨b7, 0, none⟩)), (2, .pointer (some ⟨b13, 0, none⟩)), (21, hd_Arcs), (22, .int .i64 (Arcs.length : Int)), (23, .int .i64 i0)] ∧ FrS [] H14 H64) n62 ⟨0, hn63, ⟨by kernel_rfl, by kernel_rfl, by kernel_rfl, by kernel_rfl, by kernel_rfl, trivial⟩, (FrS.refl (W := []) e15.wf)⟩ ?_
    rintro n62 α H64 ⟨i0, hi67, hh66, e65⟩ K72 k72
    obtain ⟨n68, z69, rfl, hz70, hn71⟩ := iter_succ hi67
    obtain ⟨β, rfl⟩ := has_ex hh66
    clear hh66
    replace hz70 : z_viaductref03_DocCheck_l0 N_ Arcs i0 = some z69 := hz70
    unfold z_viaductref03_DocCheck_l0 at hz70
    refine w_seqk fun K73 k73 => ?_
    refine w_reg (by kernel_rfl) ?_
    refine s_qk (.bool (decide (i0 < (Arcs.length : Int)))) (by kernel_rfl) ?_
    refine s_nil ?_
    refine k73 _ _ ?_
    refine w_seqk fun K74 k74 => ?_
    refine w_condp (i0 < (Arcs.length : Int)) (by kernel_rfl) rfl (fun h75 => ?_) (fun h75 => ?_)
    ·have r76 := ite_t h75 hz70
     refine w_skip ?_
     refine k74 _ _ ?_
     refine w_seqk fun K77 k77 => ?_
     refine w_block ?_
     refine w_seqk fun K78 k78 => ?_
     refine w_reg (by kernel_rfl) ?_
     refine s_qk (.int .i64 i0) (by kernel_rfl) ?_
     obtain ⟨g79, r80⟩ := G_some r76
     have u81 := (u53.fr e65 Dj.nil_l)
     refine s_ql (elp hd_Arcs 3 i0.toNat 0) (x := aIndexAddr Tryd.prog 22 hd_Arcs (.int .i64 i0)) (by kernel_rfl) (u81.idxb (by kernel_rfl) g79 h75) ?_
     refine s_ql (.agg #[.int .i64 ((gt Arcs i0).1), .int .i64 ((gt Arcs i0).2.1), .int .i64 ((gt Arcs i0).2.2)]) (x := aLoad Tryd.prog 51 (elp hd_Arcs 3 i0.toNat 0) H64) (by kernel_rfl) (u81.ld g79 h75 (by kernel_rfl)) ?_
     refine s_rwk e65.wf [.int .i64 0, .int .i64 0, .int .i64 0] (by kernel_rfl) fun b82 H83 e84 hb85 r86 => ?_
     refine s_qk (.int .i64 i0) (by kernel_rfl) ?_
     obtain ⟨H88, q89, e90, r91⟩ := Row.store (P := Tryd.prog) (t := 51) (p := 0) e84.wf r86 (.agg #[.int .i64 ((gt Arcs i0).1), .int .i64 ((gt Arcs i0).2.1), .int .i64 ((gt Arcs i0).2.2)]) [.int .i64 ((gt Arcs i0).1), .int .i64 ((gt Arcs i0).2.1), .int .i64 ((gt Arcs i0).2.2)] (by kernel_rfl) (by kernel_rfl) (one_cons (rfl) (one_cons (rfl) (one_cons (rfl) (one_nil)))) (Nat.le_of_ble_eq_true (by kernel_rfl)) [.int .i64 ((gt Arcs i0).1), .int .i64 ((gt Arcs i0).2.1), .int .i64 ((gt Arcs i0).2.2)] (by kernel_rfl)
     refine s_ek (undef) (by kernel_rfl) (map_ok q89) ?_
     refine s_nil ?_
     refine k78 _ _ ?_
     refine w_seqk fun K92 k92 => ?_
     refine w_seqk fun K93 k93 => ?_
     obtain ⟨o94, hx95, r96⟩ := bind_some r80
     refine w_mid (fun α H97 => Has α [(1, .pointer (some ⟨b7, 0, none⟩)), (2, .pointer (some ⟨b13, 0, none⟩)), (3, .int .i64 i0), (4, .pointer (some ⟨b82, 0, none⟩)), (21, hd_Arcs), (22, .int .i64 (Arcs.length : Int)), (23, .int .i64 i0), (49, .bool o94)] ∧ H88 = H97) (fun K99 k99 => ?_) (fun α H97 hM => ?_)
     ·refine w_reg (by kernel_rfl) ?_
      refine s_qk (.pointer (some ⟨b82, 0, none⟩)) (by kernel_rfl) ?_
      refine s_ql (.int .i64 ((gt Arcs i0).1)) (x := aLoad Tryd.prog 3 (.pointer (some ⟨b82, 0, none⟩)) H88) (by kernel_rfl) (r91.ld (by kernel_rfl)) ?_
      refine s_b (((gt Arcs i0).1) < 0) (by kernel_rfl) (fun h101 => ?_) (fun h101 => ?_)
      ·have r102 := ite_t h101 hx95
       refine s_qk (.bool true) (by kernel_rfl) ?_
       refine s_no (by kernel_rfl) ?_
       refine s_no (by kernel_rfl) ?_
       refine s_no (by kernel_rfl) ?_
       refine s_no (by kernel_rfl) ?_
       refine s_no (by kernel_rfl) ?_
       refine s_qk (.bool true) (by kernel_rfl) ?_
       refine s_qk (.bool true) (by kernel_rfl) ?_
       refine s_no (by kernel_rfl) ?_
       refine s_no (by kernel_rfl) ?_
       refine s_no (by kernel_rfl) ?_
       refine s_qk (.bool true) (by kernel_rfl) ?_
       refine s_qk (.bool true) (by kernel_rfl) ?_
       refine s_no (by kernel_rfl) ?_
       refine s_no (by kernel_rfl) ?_
       refine s_no (by kernel_rfl) ?_
       refine s_no (by kernel_rfl) ?_
       refine s_no (by kernel_rfl) ?_
       refine s_qk (.bool true) (by kernel_rfl) ?_
       refine s_nil ?_
       obtain rfl := Option.some.inj r102
       exact k99 _ _ ⟨⟨by kernel_rfl, by kernel_rfl, by kernel_rfl, by kernel_rfl, by kernel_rfl, by kernel_rfl, by kernel_rfl, by kernel_rfl, trivial⟩, rfl⟩
      ·have r103 := ite_f h101 hx95
       refine s_qk (.bool false) (by kernel_rfl) ?_
       refine s_qk (.pointer (some ⟨b82, 0, none⟩)) (by kernel_rfl) ?_
       refine s_ql (.int .i64 ((gt Arcs i0).1)) (x := aLoad Tryd.prog 3 (.pointer (some ⟨b82, 0, none⟩)) H88) (by kernel_rfl) (r91.ld (by kernel_rfl)) ?_
       refine s_qk (.pointer (some ⟨b7, 0, none⟩)) (by kernel_rfl) ?_
       have u104 := (((u52.frS e65 Dj.nil_l).ext e84).frS e90 (hb85.djn (r11.ltF.le (ntr e15.next e65.next))))
       refine s_ql (.int .i64 N_) (x := aLoad Tryd.prog 3 (.pointer (some ⟨b7, 0, none⟩)) H88) (by kernel_rfl) (u104.ld (by kernel_rfl)) ?_
       refine s_b (((gt Arcs i0).1) ≥ N_) (by kernel_rfl) (fun h105 => ?_) (fun h105 => ?_)
       ·have r106 := ite_t h105 r103
        refine s_qk (.bool true) (by kernel_rfl) ?_
        refine s_qk (.bool true) (by kernel_rfl) ?_
        refine s_no (by kernel_rfl) ?_
        refine s_no (by kernel_rfl) ?_
        refine s_no (by kernel_rfl) ?_
        refine s_qk (.bool true) (by kernel_rfl) ?_
        refine s_qk (.bool true) (by kernel_rfl) ?_
        refine s_no (by kernel_rfl) ?_
        refine s_no (by kernel_rfl) ?_
        refine s_no (by kernel_rfl) ?_
        refine s_no (by kernel_rfl) ?_
        refine s_no (by kernel_rfl) ?_
        refine s_qk (.bool true) (by kernel_rfl) ?_
        refine s_nil ?_
        obtain rfl := Option.some.inj r106
        exact k99 _ _ ⟨⟨by kernel_rfl, by kernel_rfl, by kernel_rfl, by kernel_rfl, by kernel_rfl, by kernel_rfl, by kernel_rfl, by kernel_rfl, trivial⟩, rfl⟩
       ·have r107 := ite_f h105 r103
        refine s_qk (.bool false) (by kernel_rfl) ?_
        refine s_qk (.bool false) (by kernel_rfl) ?_
        refine s_qk (.pointer (some ⟨b82, 1, none⟩)) (by kernel_rfl) ?_
        refine s_ql (.int .i64 ((gt Arcs i0).2.1)) (x := aLoad Tryd.prog 3 (.pointer (some ⟨b82, 1, none⟩)) H88) (by kernel_rfl) (r91.ld (by kernel_rfl)) ?_
        refine s_b (((gt Arcs i0).2.1) < 0) (by kernel_rfl) (fun h108 => ?_) (fun h108 => ?_)
        ·have r109 := ite_t h108 r107
         refine s_qk (.bool true) (by kernel_rfl) ?_
         refine s_qk (.bool true) (by kernel_rfl) ?_
         refine s_no (by kernel_rfl) ?_
         refine s_no (by kernel_rfl) ?_
         refine s_no (by kernel_rfl) ?_
         refine s_no (by kernel_rfl) ?_
         refine s_no (by kernel_rfl) ?_
         refine s_qk (.bool true) (by kernel_rfl) ?_
         refine s_nil ?_
         obtain rfl := Option.some.inj r109
         exact k99 _ _ ⟨⟨by kernel_rfl, by kernel_rfl, by kernel_rfl, by kernel_rfl, by kernel_rfl, by kernel_rfl, by kernel_rfl, by kernel_rfl, trivial⟩, rfl⟩
        ·have r110 := ite_f h108 r107
         refine s_qk (.bool false) (by kernel_rfl) ?_
         refine s_qk (.bool false) (by kernel_rfl) ?_
         refine s_qk (.pointer (some ⟨b82, 1, none⟩)) (by kernel_rfl) ?_
         refine s_ql (.int .i64 ((gt Arcs i0).2.1)) (x := aLoad Tryd.prog 3 (.pointer (some ⟨b82, 1, none⟩)) H88) (by kernel_rfl) (r91.ld (by kernel_rfl)) ?_
         refine s_qk (.pointer (some ⟨b7, 0, none⟩)) (by kernel_rfl) ?_
         refine s_ql (.int .i64 N_) (x := aLoad Tryd.prog 3 (.pointer (some ⟨b7, 0, none⟩)) H88) (by kernel_rfl) (u104.ld (by kernel_rfl)) ?_
         refine s_qk (.bool (decide (((gt Arcs i0).2.1) ≥ N_))) (by kernel_rfl) ?_
         refine s_qk (.bool (decide (((gt Arcs i0).2.1) ≥ N_))) (by kernel_rfl) ?_
         refine s_nil ?_
         obtain rfl := Option.some.inj r110
         exact k99 _ _ ⟨⟨by kernel_rfl, by kernel_rfl, by kernel_rfl, by kernel_rfl, by kernel_rfl, by kernel_rfl, by kernel_rfl, by kernel_rfl, trivial⟩, rfl⟩
     ·obtain ⟨hh100, rfl⟩ := hM
      obtain ⟨β, rfl⟩ := has_ex hh100
      clear hh100
      refine k93 _ _ ?_
      refine w_cond (o94) (by kernel_rfl) rfl (fun h111 => ?_) (fun h111 => ?_)
      ·have r112 := ite_t h111 r96
       refine w_seqk fun K113 k113 => ?_
       refine w_reg (by kernel_rfl) ?_
       refine s_qk (.int .i64 i0) (by kernel_rfl) ?_
       obtain ⟨y114, hy115, r116⟩ := bind_some r112
       refine s_ck 26 #[.int .i64 7] (by kernel_rfl) (c_viaductref01_E e90.wf hy115) ?_
       rintro _ H117 ⟨rfl, e118⟩
       obtain ⟨y119, hy120, r121⟩ := bind_some r116
       refine s_ck 27 #[.int .i64 4, .int .i64 i0, .agg #[.int .i64 y114, .slice none 0 0]] (by kernel_rfl) (c_viaductref01_At e118.wf (Sq.nil (enc := enc_i64_i64) (sz := 2) (by decide)) hy120) ?_
       rintro _ H124 ⟨s122, f123, rfl, e125, m126, i127⟩
       obtain ⟨a129, n130, c131, rfl⟩ := m126.form
       have u136 := (((((r17.frS e65 Dj.nil_l).ext e84).frS e90 (hb85.djn (r17.ltF.le e65.next))).frS e118 Dj.nil_l).frS e125 Dj.nil_l)
       obtain ⟨H132, q133, e134, r135⟩ := Row.store (P := Tryd.prog) (t := 33) (p := 0) e125.wf u136 (.agg #[.int .i64 y119.1, .slice a129 n130 c131]) [.int .i64 y119.1, .slice a129 n130 c131] (by kernel_rfl) (by kernel_rfl) (one_cons (rfl) (one_cons (m126.one1) (one_nil))) (Nat.le_of_ble_eq_true (by kernel_rfl)) [.int .i64 y119.1, .slice a129 n130 c131] (by kernel_rfl)
       refine s_ek (undef) (by kernel_rfl) (map_ok q133) ?_
       refine s_nil ?_
       refine k113 _ _ ?_
       refine w_ret (th_ret (bl_ret (th_ret (th_ret (bl_ret (th_ret (th_ret ?_)))))))
       obtain ⟨v137, hv138, hz139⟩ := map_some r121
       subst hz139
       obtain rfl := it_inr hn71
       have hq140 := elim_inl r56
       rw [hq140] at hv138
       refine b_ret (fn := Tryd.f52) (vs := [.agg #[.int .i64 y119.1, .slice a129 n130 c131]]) (aRes_cell (Eq.trans (b := aLoad Tryd.prog 33 (.pointer (some ⟨b13, 0, none⟩)) H132) (by kernel_rfl) (r135.ld (by kernel_rfl))) (rfl)) ?_
       have u141 := (m126.fr e134 (Dj.symm (i127.djn (r17.ltF.le (ntr (ntr (ntr e65.next e84.next) e90.next) e118.next)))))
       obtain rfl := Option.some.inj hv138
       exact ⟨(.slice a129 n130 c131), f123, rfl, (FrS.step wf (FrS.step wf (FrS.step wf (FrS.step wf ((FrS.step wf (((FrS.refl (W := []) wf).extR e9).extR e15) e65 Inn.nil).extR e84) e90 (hb85.fresh (ntr (ntr e9.next e15.next) e65.next))) e118 Inn.nil) e125 Inn.nil) e134 (hb16.fresh e9.next)), u141, (i127.fresh (ntr (ntr (ntr (ntr (ntr e9.next e15.next) e65.next) e84.next) e90.next) e118.next))⟩
      ·have r142 := ite_bf h111 r96
       refine w_skip ?_
       refine k92 _ _ ?_
       refine w_seqk fun K143 k143 => ?_
       obtain ⟨o144, hx145, r146⟩ := bind_some r142
       refine w_mid (fun α H147 => Has α [(1, .pointer (some ⟨b7, 0, none⟩)), (2, .pointer (some ⟨b13, 0, none⟩)), (3, .int .i64 i0), (21, hd_Arcs), (22, .int .i64 (Arcs.length : Int)), (23, .int .i64 i0), (60, .bool o144)] ∧ H88 = H147) (fun K149 k149 => ?_) (fun α H147 hM => ?_)
       ·refine w_reg (by kernel_rfl) ?_
        refine s_qk (.pointer (some ⟨b82, 2, none⟩)) (by kernel_rfl) ?_
        refine s_ql (.int .i64 ((gt Arcs i0).2.2)) (x := aLoad Tryd.prog 3 (.pointer (some ⟨b82, 2, none⟩)) H88) (by kernel_rfl) (r91.ld (by kernel_rfl)) ?_
        refine s_b (((gt Arcs i0).2.2) < 0) (by kernel_rfl) (fun h151 => ?_) (fun h151 => ?_)
        ·have r152 := ite_t h151 hx145
         refine s_qk (.bool true) (by kernel_rfl) ?_
         refine s_no (by kernel_rfl) ?_
         refine s_no (by kernel_rfl) ?_
         refine s_no (by kernel_rfl) ?_
         refine s_qk (.bool true) (by kernel_rfl) ?_
         refine s_nil ?_
         obtain rfl := Option.some.inj r152
         exact k149 _ _ ⟨⟨by kernel_rfl, by kernel_rfl, by kernel_rfl, by kernel_rfl, by kernel_rfl, by kernel_rfl, by kernel_rfl, trivial⟩, rfl⟩
        ·have r153 := ite_f h151 hx145
         refine s_qk (.bool false) (by kernel_rfl) ?_
         refine s_qk (.pointer (some ⟨b82, 2, none⟩)) (by kernel_rfl) ?_
         refine s_ql (.int .i64 ((gt Arcs i0).2.2)) (x := aLoad Tryd.prog 3 (.pointer (some ⟨b82, 2, none⟩)) H88) (by kernel_rfl) (r91.ld (by kernel_rfl)) ?_
         refine s_qk (.bool (decide (((gt Arcs i0).2.2) > 2147483647))) (by kernel_rfl) ?_
         refine s_qk (.bool (decide (((gt Arcs i0).2.2) > 2147483647))) (by kernel_rfl) ?_
         refine s_nil ?_
         obtain rfl := Option.some.inj r153
         exact k149 _ _ ⟨⟨by kernel_rfl, by kernel_rfl, by kernel_rfl, by kernel_rfl, by kernel_rfl, by kernel_rfl, by kernel_rfl, trivial⟩, rfl⟩
       ·obtain ⟨hh150, rfl⟩ := hM
        obtain ⟨β, rfl⟩ := has_ex hh150
        clear hh150
        refine k143 _ _ ?_
        refine w_cond (o144) (by kernel_rfl) rfl (fun h154 => ?_) (fun h154 => ?_)
        ·have r155 := ite_t h154 r146
         refine w_seqk fun K156 k156 => ?_
         refine w_reg (by kernel_rfl) ?_
         refine s_qk (.int .i64 i0) (by kernel_rfl) ?_
         obtain ⟨y157, hy158, r159⟩ := bind_some r155
         refine s_ck 26 #[.int .i64 8] (by kernel_rfl) (c_viaductref01_E e90.wf hy158) ?_
         rintro _ H160 ⟨rfl, e161⟩
         obtain ⟨y162, hy163, r164⟩ := bind_some r159
         refine s_ck 27 #[.int .i64 4, .int .i64 i0, .agg #[.int .i64 y157, .slice none 0 0]] (by kernel_rfl) (c_viaductref01_At e161.wf (Sq.nil (enc := enc_i64_i64) (sz := 2) (by decide)) hy163) ?_
         rintro _ H167 ⟨s165, f166, rfl, e168, m169, i170⟩
         obtain ⟨a172, n173, c174, rfl⟩ := m169.form
         have u179 := (((((r17.frS e65 Dj.nil_l).ext e84).frS e90 (hb85.djn (r17.ltF.le e65.next))).frS e161 Dj.nil_l).frS e168 Dj.nil_l)
         obtain ⟨H175, q176, e177, r178⟩ := Row.store (P := Tryd.prog) (t := 33) (p := 0) e168.wf u179 (.agg #[.int .i64 y162.1, .slice a172 n173 c174]) [.int .i64 y162.1, .slice a172 n173 c174] (by kernel_rfl) (by kernel_rfl) (one_cons (rfl) (one_cons (m169.one1) (one_nil))) (Nat.le_of_ble_eq_true (by kernel_rfl)) [.int .i64 y162.1, .slice a172 n173 c174] (by kernel_rfl)
         refine s_ek (undef) (by kernel_rfl) (map_ok q176) ?_
         refine s_nil ?_
         refine k156 _ _ ?_
         refine w_ret (bl_ret (th_ret (th_ret (bl_ret (th_ret (th_ret ?_))))))
         obtain ⟨v180, hv181, hz182⟩ := map_some r164
         subst hz182
         obtain rfl := it_inr hn71
         have hq183 := elim_inl r56
         rw [hq183] at hv181
         refine b_ret (fn := Tryd.f52) (vs := [.agg #[.int .i64 y162.1, .slice a172 n173 c174]]) (aRes_cell (Eq.trans (b := aLoad Tryd.prog 33 (.pointer (some ⟨b13, 0, none⟩)) H175) (by kernel_rfl) (r178.ld (by kernel_rfl))) (rfl)) ?_
         have u184 := (m169.fr e177 (Dj.symm (i170.djn (r17.ltF.le (ntr (ntr (ntr e65.next e84.next) e90.next) e161.next)))))
         obtain rfl := Option.some.inj hv181
         exact ⟨(.slice a172 n173 c174), f166, rfl, (FrS.step wf (FrS.step wf (FrS.step wf (FrS.step wf ((FrS.step wf (((FrS.refl (W := []) wf).extR e9).extR e15) e65 Inn.nil).extR e84) e90 (hb85.fresh (ntr (ntr e9.next e15.next) e65.next))) e161 Inn.nil) e168 Inn.nil) e177 (hb16.fresh e9.next)), u184, (i170.fresh (ntr (ntr (ntr (ntr (ntr e9.next e15.next) e65.next) e84.next) e90.next) e161.next))⟩
        ·have r185 := ite_bf h154 r146
         refine w_skip ?_
         refine k77 _ _ ?_
         refine w_reg (by kernel_rfl) ?_
         obtain ⟨g186, r187⟩ := G_some r185
         refine s_w ((i0 + 1)) (k := .i64) (x := (i0 + 1)) (by kernel_rfl) (wrap64 (by have := g186; omega)) ?_
         refine s_qk (.int .i64 (i0 + 1)) (by kernel_rfl) ?_
         refine s_nil ?_
         obtain rfl := Option.some.inj r187
         exact k72 n68 _ _ (Nat.lt_succ_self _) ⟨(i0 + 1), hn71, ⟨by kernel_rfl, by kernel_rfl, by kernel_rfl, by kernel_rfl, by kernel_rfl, trivial⟩, (FrS.step e15.wf ((FrS.step e15.wf (FrS.refl (W := []) e15.wf) e65 Inn.nil).extR e84) e90 (hb85.fresh e65.next))⟩
    ·have r188 := ite_f h75 hz70
     refine w_exit (th_exit (th_exit (bl_eq ?_)))
     obtain rfl := Option.some.inj r188
     obtain rfl := it_inr hn71
     exact k60 _ _ ⟨_, rfl, ⟨by kernel_rfl, trivial⟩, (FrS.step e15.wf (FrS.refl (W := []) e15.wf) e65 Inn.nil)⟩
   ·obtain ⟨o54, rfl, hh61, e59⟩ := hM
    have r189 := elim_inr r56
    obtain ⟨β, rfl⟩ := has_ex hh61
    clear hh61
    refine k50 _ _ ?_
    refine w_seqk fun K190 k190 => ?_
    refine w_reg (by kernel_rfl) ?_
    refine s_qk (.agg #[.int .i64 0, .slice none 0 0]) (by kernel_rfl) ?_
    have u195 := (r17.frS e59 Dj.nil_l)
    obtain ⟨H191, q192, e193, r194⟩ := Row.store (P := Tryd.prog) (t := 33) (p := 0) e59.wf u195 (.agg #[.int .i64 0, .slice none 0 0]) [.int .i64 0, .slice none 0 0] (by kernel_rfl) (by kernel_rfl) (one_cons (rfl) (one_cons (rfl) (one_nil))) (Nat.le_of_ble_eq_true (by kernel_rfl)) [.int .i64 0, .slice none 0 0] (by kernel_rfl)
    refine s_ek (undef) (by kernel_rfl) (map_ok q192) ?_
    refine s_nil ?_
    refine k190 _ _ ?_
    refine w_ret ?_
    refine b_ret (fn := Tryd.f52) (vs := [.agg #[.int .i64 0, .slice none 0 0]]) (aRes_cell (Eq.trans (b := aLoad Tryd.prog 33 (.pointer (some ⟨b13, 0, none⟩)) H191) (by kernel_rfl) (r194.ld (by kernel_rfl))) (rfl)) ?_
    obtain rfl := Option.some.inj r189
    exact ⟨(.slice none 0 0), [], rfl, (FrS.step wf (FrS.step wf (((FrS.refl (W := []) wf).extR e9).extR e15) e59 Inn.nil) e193 (hb16.fresh e9.next)), (Ow.nil (by decide)), Inn.nil⟩

theorem c_viaductref01_Err_Bad {H : AH} {hd_Places : Value} {fp_Places : Fp} {Code : Int} {Places : List (Int × Int)} {r : Bool}
  (wf : WF H) (h_Places : Sq enc_i64_i64 2 H hd_Places Places fp_Places) (hr : z_viaductref01_Err_Bad Code Places = some r) :
  ACalls Tryd.prog 53 #[.agg #[.int .i64 Code, hd_Places]] H fun v H' => v = .bool r ∧ FrS [] H H' := by
 refine acalls_of_body mixed Tryd.func53 rfl (Nat.le_of_ble_eq_true rfl) ?_
 unfold z_viaductref01_Err_Bad at hr
 refine w_seqk fun K1 k1 => ?_
 refine w_reg (by kernel_rfl) ?_
 refine s_rwl wf [.int .i64 Code, hd_Places] (one_cons (rfl) (one_cons (h_Places.one1) (one_nil))) (by kernel_rfl) fun b2 H3 e4 hb5 r6 => ?_
 refine s_qk (.bool false) (by kernel_rfl) ?_
 refine s_nil ?_
 refine k1 _ _ ?_
 refine w_seqk fun K8 k8 => ?_
 refine w_reg (by kernel_rfl) ?_
 refine s_qk (.pointer (some ⟨b2, 0, none⟩)) (by kernel_rfl) ?_
 refine s_ql (.int .i64 Code) (x := aLoad Tryd.prog 3 (.pointer (some ⟨b2, 0, none⟩)) H3) (by kernel_rfl) (r6.ld (by kernel_rfl)) ?_
 refine s_bn (Code = 0) (by kernel_rfl) (fun h9 => ?_) (fun h9 => ?_)
 ·have r10 := ite_t h9 hr
  refine s_qk (.bool false) (by kernel_rfl) ?_
  refine s_qk (.pointer (some ⟨b2, 1, none⟩)) (by kernel_rfl) ?_
  refine s_ql (hd_Places) (x := aLoad Tryd.prog 31 (.pointer (some ⟨b2, 1, none⟩)) H3) (by kernel_rfl) (r6.ld (by kernel_rfl)) ?_
  have u11 := (h_Places.ext e4)
  refine s_ql (.int .i64 (Places.length : Int)) (x := aLen Tryd.prog 31 hd_Places H3) (by kernel_rfl) (u11.lenb (by kernel_rfl)) ?_
  refine s_qk (.bool (decide ((Places.length : Int) > 0))) (by kernel_rfl) ?_
  refine s_qk (.bool (decide ((Places.length : Int) > 0))) (by kernel_rfl) ?_
  refine s_qk (.bool (decide ((Places.length : Int) > 0))) (by kernel_rfl) ?_
  refine s_nil ?_
  refine k8 _ _ ?_
  refine w_ret ?_
  refine b_ret (fn := Tryd.f53) (vs := [.bool (decide ((Places.length : Int) > 0))]) (aRes_tmp (by kernel_rfl) (rfl)) ?_
  obtain rfl := Option.some.inj r10
  exact ⟨rfl, ((FrS.refl (W := []) wf).extR e4)⟩
 ·have r12 := ite_f h9 hr
  refine s_qk (.bool true) (by kernel_rfl) ?_
  refine s_no (by kernel_rfl) ?_
  refine s_no (by kernel_rfl) ?_
  refine s_no (by kernel_rfl) ?_
  refine s_no (by kernel_rfl) ?_
  refine s_qk (.bool true) (by kernel_rfl) ?_
  refine s_qk (.bool true) (by kernel_rfl) ?_
  refine s_nil ?_
  refine k8 _ _ ?_
  refine w_ret ?_
  refine b_ret (fn := Tryd.f53) (vs := [.bool true]) (aRes_tmp (by kernel_rfl) (rfl)) ?_
  obtain rfl := Option.some.inj r12
  exact ⟨rfl, ((FrS.refl (W := []) wf).extR e4)⟩

theorem c_viaductref04_less {H : AH} {From : Int} {To : Int} {Weight : Int} {From_ : Int} {To_ : Int} {Weight_ : Int} {r : Bool}
  (wf : WF H) (hr : z_viaductref04_less From To Weight From_ To_ Weight_ = some r) :
  ACalls Tryd.prog 100 #[.agg #[.int .i64 From, .int .i64 To, .int .i64 Weight], .agg #[.int .i64 From_, .int .i64 To_, .int .i64 Weight_]] H fun v H' => v = .bool r ∧ FrS [] H H' := by
 refine acalls_of_body mixed Tryd.func100 rfl (Nat.le_of_ble_eq_true rfl) ?_
 unfold z_viaductref04_less at hr
 refine w_seqk fun K1 k1 => ?_
 refine w_reg (by kernel_rfl) ?_
 refine s_rwl wf [.int .i64 From, .int .i64 To, .int .i64 Weight] (one_cons (rfl) (one_cons (rfl) (one_cons (rfl) (one_nil)))) (by kernel_rfl) fun b2 H3 e4 hb5 r6 => ?_
 refine s_rwl e4.wf [.int .i64 From_, .int .i64 To_, .int .i64 Weight_] (one_cons (rfl) (one_cons (rfl) (one_cons (rfl) (one_nil)))) (by kernel_rfl) fun b8 H9 e10 hb11 r12 => ?_
 refine s_qk (.bool false) (by kernel_rfl) ?_
 refine s_nil ?_
 refine k1 _ _ ?_
 refine w_seqk fun K14 k14 => ?_
 refine w_reg (by kernel_rfl) ?_
 refine s_qk (.pointer (some ⟨b2, 0, none⟩)) (by kernel_rfl) ?_
 have u15 := (r6.ext e10)
 refine s_ql (.int .i64 From) (x := aLoad Tryd.prog 3 (.pointer (some ⟨b2, 0, none⟩)) H9) (by kernel_rfl) (u15.ld (by kernel_rfl)) ?_
 refine s_qk (.pointer (some ⟨b8, 0, none⟩)) (by kernel_rfl) ?_
 refine s_ql (.int .i64 From_) (x := aLoad Tryd.prog 3 (.pointer (some ⟨b8, 0, none⟩)) H9) (by kernel_rfl) (r12.ld (by kernel_rfl)) ?_
 refine s_b (From < From_) (by kernel_rfl) (fun h16 => ?_) (fun h16 => ?_)
 ·have r17 := ite_t h16 hr
  refine s_qk (.bool true) (by kernel_rfl) ?_
  refine s_no (by kernel_rfl) ?_
  refine s_no (by kernel_rfl) ?_
  refine s_no (by kernel_rfl) ?_
  refine s_no (by kernel_rfl) ?_
  refine s_no (by kernel_rfl) ?_
  refine s_no (by kernel_rfl) ?_
  refine s_no (by kernel_rfl) ?_
  refine s_no (by kernel_rfl) ?_
  refine s_no (by kernel_rfl) ?_
  refine s_no (by kernel_rfl) ?_
  refine s_no (by kernel_rfl) ?_
  refine s_no (by kernel_rfl) ?_
  refine s_qk (.bool true) (by kernel_rfl) ?_
  refine s_qk (.bool true) (by kernel_rfl) ?_
  refine s_nil ?_
  refine k14 _ _ ?_
  refine w_ret ?_
  refine b_ret (fn := Tryd.f100) (vs := [.bool true]) (aRes_tmp (by kernel_rfl) (rfl)) ?_
  obtain rfl := Option.some.inj r17
  exact ⟨rfl, (((FrS.refl (W := []) wf).extR e4).extR e10)⟩
 ·have r18 := ite_f h16 hr
  refine s_qk (.bool false) (by kernel_rfl) ?_
  refine s_qk (.pointer (some ⟨b2, 0, none⟩)) (by kernel_rfl) ?_
  refine s_ql (.int .i64 From) (x := aLoad Tryd.prog 3 (.pointer (some ⟨b2, 0, none⟩)) H9) (by kernel_rfl) (u15.ld (by kernel_rfl)) ?_
  refine s_qk (.pointer (some ⟨b8, 0, none⟩)) (by kernel_rfl) ?_
  refine s_ql (.int .i64 From_) (x := aLoad Tryd.prog 3 (.pointer (some ⟨b8, 0, none⟩)) H9) (by kernel_rfl) (r12.ld (by kernel_rfl)) ?_
  refine s_b (From = From_) (by kernel_rfl) (fun h19 => ?_) (fun h19 => ?_)
  ·have r20 := ite_t h19 r18
   refine s_qk (.bool true) (by kernel_rfl) ?_
   refine s_qk (.pointer (some ⟨b2, 1, none⟩)) (by kernel_rfl) ?_
   refine s_ql (.int .i64 To) (x := aLoad Tryd.prog 3 (.pointer (some ⟨b2, 1, none⟩)) H9) (by kernel_rfl) (u15.ld (by kernel_rfl)) ?_
   refine s_qk (.pointer (some ⟨b8, 1, none⟩)) (by kernel_rfl) ?_
   refine s_ql (.int .i64 To_) (x := aLoad Tryd.prog 3 (.pointer (some ⟨b8, 1, none⟩)) H9) (by kernel_rfl) (r12.ld (by kernel_rfl)) ?_
   refine s_qk (.bool (decide (To < To_))) (by kernel_rfl) ?_
   refine s_qk (.bool (decide (To < To_))) (by kernel_rfl) ?_
   refine s_qk (.bool (decide (To < To_))) (by kernel_rfl) ?_
   refine s_qk (.bool (decide (To < To_))) (by kernel_rfl) ?_
   refine s_nil ?_
   refine k14 _ _ ?_
   refine w_ret ?_
   refine b_ret (fn := Tryd.f100) (vs := [.bool (decide (To < To_))]) (aRes_tmp (by kernel_rfl) (rfl)) ?_
   obtain rfl := Option.some.inj r20
   exact ⟨rfl, (((FrS.refl (W := []) wf).extR e4).extR e10)⟩
  ·have r21 := ite_f h19 r18
   refine s_qk (.bool false) (by kernel_rfl) ?_
   refine s_no (by kernel_rfl) ?_
   refine s_no (by kernel_rfl) ?_
   refine s_no (by kernel_rfl) ?_
   refine s_no (by kernel_rfl) ?_
   refine s_no (by kernel_rfl) ?_
   refine s_qk (.bool false) (by kernel_rfl) ?_
   refine s_qk (.bool false) (by kernel_rfl) ?_
   refine s_qk (.bool false) (by kernel_rfl) ?_
   refine s_nil ?_
   refine k14 _ _ ?_
   refine w_ret ?_
   refine b_ret (fn := Tryd.f100) (vs := [.bool false]) (aRes_tmp (by kernel_rfl) (rfl)) ?_
   obtain rfl := Option.some.inj r21
   exact ⟨rfl, (((FrS.refl (W := []) wf).extR e4).extR e10)⟩

theorem c_viaductref04_Put {H : AH} {hd_l : Value} {fp_l : Fp} {l : List (Int × Int × Int)} {From : Int} {To : Int} {Weight : Int} {r : List (Int × Int × Int)}
  (wf : WF H) (h_l : Sq enc_i64_i64_i64 3 H hd_l l fp_l) (hr : z_viaductref04_Put l From To Weight = some r) :
  ACalls Tryd.prog 79 #[hd_l, .agg #[.int .i64 From, .int .i64 To, .int .i64 Weight]] H fun v H' => ∃ (s3 : Value) (f4 : Fp), v = s3 ∧ FrS [] H H' ∧ Ow enc_i64_i64_i64 3 H' s3 r f4 ∧ Inn [] H f4 := by
 refine acalls_of_body mixed Tryd.func79 rfl (Nat.le_of_ble_eq_true rfl) ?_
 unfold z_viaductref04_Put at hr
 refine w_seqk fun K6 k6 => ?_
 refine w_reg (by kernel_rfl) ?_
 refine s_rwl wf [.int .i64 From, .int .i64 To, .int .i64 Weight] (one_cons (rfl) (one_cons (rfl) (one_cons (rfl) (one_nil)))) (by kernel_rfl) fun b7 H8 e9 hb10 r11 => ?_
 refine s_qk (.slice none 0 0) (by kernel_rfl) ?_
 refine s_nil ?_
 refine k6 _ _ ?_
 refine w_seqk fun K13 k13 => ?_
 refine w_reg (by kernel_rfl) ?_
 refine s_qk (.int .i64 0) (by kernel_rfl) ?_
 refine s_nil ?_
 refine k13 _ _ ?_
 refine w_seqk fun K14 k14 => ?_
 obtain ⟨o15, hx16, r17⟩ := bind_some hr
 refine w_mid (fun α H18 => Has α [(0, hd_l), (3, .pointer (some ⟨b7, 0, none⟩)), (5, .int .i64 o15)] ∧ FrS [] H8 H18) (fun K20 k20 => ?_) (fun α H18 hM => ?_)
 ·refine w_block ?_
  obtain ⟨n22, hn23⟩ := loopO_iff.1 hx16
  refine w_loopn (fun n α H24 => ∃ (i0 : Int), iterO (fun zz_ => z_viaductref04_Put_l0 l From To Weight zz_) n i0 = some o15 ∧ Has α [(0, hd_l), (3, .pointer (some ⟨b7, 0, none⟩)), (5, .int .i64 i0)] ∧ FrS [] H8 H24) n22 ⟨0, hn23, ⟨by kernel_rfl, by kernel_rfl, by kernel_rfl, trivial⟩, (FrS.refl (W := []) e9.wf)⟩ ?_
  rintro n22 α H24 ⟨i0, hi27, hh26, e25⟩ K32 k32
  obtain ⟨n28, z29, rfl, hz30, hn31⟩ := iter_succ hi27
  obtain ⟨β, rfl⟩ := has_ex hh26
  clear hh26
  replace hz30 : z_viaductref04_Put_l0 l From To Weight i0 = some z29 := hz30
  unfold z_viaductref04_Put_l0 at hz30
  refine w_seqk fun K33 k33 => ?_
  refine w_seqk fun K34 k34 => ?_
  refine w_draw [0, 1, 2, 3, 4, 5, 6, 7, 8, 9, 10, 11] (by kernel_rfl) ?_
  refine d_qk (.int .i64 i0) (by kernel_rfl) ?_
  refine d_qk (hd_l) (by kernel_rfl) ?_
  have u35 := ((h_l.ext e9).fr e25 Dj.nil_l)
  refine d_ql (.int .i64 (l.length : Int)) (x := aLen Tryd.prog 22 hd_l H24) (by kernel_rfl) (u35.lenb (by kernel_rfl)) ?_
  refine d_b (i0 < (l.length : Int)) (by kernel_rfl) (fun h36 => ?_) (fun h36 => ?_)
  ·have r37 := ite_t h36 hz30
   refine d_qk (.bool true) (by kernel_rfl) ?_
   refine d_qk (hd_l) (by kernel_rfl) ?_
   refine d_qk (.int .i64 i0) (by kernel_rfl) ?_
   obtain ⟨g38, r39⟩ := G_some r37
   refine d_ql (elp hd_l 3 i0.toNat 0) (x := aIndexAddr Tryd.prog 22 hd_l (.int .i64 i0)) (by kernel_rfl) (u35.idxb (by kernel_rfl) g38 h36) ?_
   refine d_ql (.agg #[.int .i64 ((gt l i0).1), .int .i64 ((gt l i0).2.1), .int .i64 ((gt l i0).2.2)]) (x := aLoad Tryd.prog 51 (elp hd_l 3 i0.toNat 0) H24) (by kernel_rfl) (u35.ld g38 h36 (by kernel_rfl)) ?_
   have u40 := (r11.frS e25 Dj.nil_l)
   refine d_ql (.agg #[.int .i64 From, .int .i64 To, .int .i64 Weight]) (x := aLoad Tryd.prog 51 (.pointer (some ⟨b7, 0, none⟩)) H24) (by kernel_rfl) (u40.ld (by kernel_rfl)) ?_
   obtain ⟨y41, hy42, r43⟩ := bind_some r39
   refine d_ck 100 #[.agg #[.int .i64 ((gt l i0).1), .int .i64 ((gt l i0).2.1), .int .i64 ((gt l i0).2.2)], .agg #[.int .i64 From, .int .i64 To, .int .i64 Weight]] (by kernel_rfl) (c_viaductref04_less e25.wf hy42) ?_
   rintro _ H44 ⟨rfl, e45⟩
   refine ⟨st_nil, ?_⟩
   refine d_qk (.bool y41) (by kernel_rfl) ?_
   refine d_nil ?_
   refine k34 _ _ ?_
   refine w_cond (y41) (by kernel_rfl) rfl (fun h46 => ?_) (fun h46 => ?_)
   ·have r47 := ite_t h46 r43
    refine w_skip ?_
    refine k33 _ _ ?_
    refine w_block ?_
    refine w_reg (by kernel_rfl) ?_
    refine s_qk (.int .i64 i0) (by kernel_rfl) ?_
    obtain ⟨g48, r49⟩ := G_some r47
    refine s_w ((i0 + 1)) (k := .i64) (x := (i0 + 1)) (by kernel_rfl) (wrap64 (by have := g48; omega)) ?_
    refine s_qk (.int .i64 (i0 + 1)) (by kernel_rfl) ?_
    refine s_nil ?_
    obtain rfl := Option.some.inj r49
    exact k32 n28 _ _ (Nat.lt_succ_self _) ⟨(i0 + 1), hn31, ⟨by kernel_rfl, by kernel_rfl, by kernel_rfl, trivial⟩, (FrS.step e9.wf (FrS.step e9.wf (FrS.refl (W := []) e9.wf) e25 Inn.nil) e45 Inn.nil)⟩
   ·have r50 := ite_bf h46 r43
    refine w_exit (th_exit (th_exit (bl_eq ?_)))
    obtain rfl := Option.some.inj r50
    obtain rfl := it_inr hn31
    exact k20 _ _ ⟨⟨by kernel_rfl, by kernel_rfl, by kernel_rfl, trivial⟩, (FrS.step e9.wf (FrS.step e9.wf (FrS.refl (W := []) e9.wf) e25 Inn.nil) e45 Inn.nil)⟩
  ·have r51 := ite_f h36 hz30
   refine d_qk (.bool false) (by kernel_rfl) ?_
   refine d_idle (by kernel_rfl) ?_
   refine d_idle (by kernel_rfl) ?_
   refine d_idle (by kernel_rfl) ?_
   refine d_idle (by kernel_rfl) ?_
   refine d_idle (by kernel_rfl) ?_
   refine d_idle (by kernel_rfl) ?_
   refine d_qk (.bool false) (by kernel_rfl) ?_
   refine d_nil ?_
   refine k34 _ _ ?_
   refine w_cond false (by kernel_rfl) rfl (fun h => by cases h) (fun _ => ?_)
   refine w_exit (th_exit (th_exit (bl_eq ?_)))
   obtain rfl := Option.some.inj r51
   obtain rfl := it_inr hn31
   exact k20 _ _ ⟨⟨by kernel_rfl, by kernel_rfl, by kernel_rfl, trivial⟩, (FrS.step e9.wf (FrS.refl (W := []) e9.wf) e25 Inn.nil)⟩
 ·obtain ⟨hh21, e19⟩ := hM
  obtain ⟨β, rfl⟩ := has_ex hh21
  clear hh21
  refine k14 _ _ ?_
  refine w_seqk fun K52 k52 => ?_
  refine w_reg (by kernel_rfl) ?_
  refine s_qk (.slice none 0 0) (by kernel_rfl) ?_
  refine s_nil ?_
  refine k52 _ _ ?_
  refine w_seqk fun K53 k53 => ?_
  refine w_reg (by kernel_rfl) ?_
  refine s_qk (.slice none 0 0) (by kernel_rfl) ?_
  refine s_qk (hd_l) (by kernel_rfl) ?_
  refine s_qk (.int .i64 o15) (by kernel_rfl) ?_
  obtain ⟨g54, r55⟩ := G_some r17
  have u59 := ((h_l.ext e9).fr e19 Dj.nil_l)
  obtain ⟨s56, q57, hs58⟩ := Sq.cut (P := Tryd.prog) u59 (t := 22) (by kernel_rfl) (lo := none) (hi := (some (.int .i64 o15))) (l := 0) (r := o15.toNat) (rfl) (aBound_int _ (by have := g54; omega)) (by have := g54; omega) (by have := g54; omega)
  obtain ⟨a60, n61, c62, rfl⟩ := hs58.form
  refine s_ql (.slice a60 n61 c62) (by kernel_rfl) q57 ?_
  obtain ⟨g64, r65⟩ := G_some r55
  obtain ⟨s66, H67, f68, q72, e69, hm70, hf71⟩ := Ow.append (P := Tryd.prog) 24 e19.wf (Ow.nil (enc := enc_i64_i64_i64) (sz := 3) (by decide)) hs58 (fun _ _ => rfl) (at_ := #[22, 22]) rfl rfl (by kernel_rfl) (by kernel_rfl) (by decide) (by have := g64; first | omega | (simp only [List.length_cons, List.length_nil] at this ⊢; omega) | (simp at this ⊢; omega))
  obtain ⟨a73, n74, c75, rfl⟩ := hm70.form
  refine s_ek (.slice a73 n74 c75) (by kernel_rfl) (q72) ?_
  refine s_qk (.slice a73 n74 c75) (by kernel_rfl) ?_
  refine s_nil ?_
  refine k53 _ _ ?_
  refine w_seqk fun K77 k77 => ?_
  refine w_seqk fun K78 k78 => ?_
  obtain ⟨o79, hx80, r81⟩ := bind_some r65
  refine w_mid (fun α H82 => Has α [(0, hd_l), (3, .pointer (some ⟨b7, 0, none⟩)), (5, .int .i64 o15), (6, .slice a73 n74 c75), (49, .bool o79)] ∧ H67 = H82) (fun K84 k84 => ?_) (fun α H82 hM => ?_)
  ·refine w_draw [0, 1, 2, 3, 4, 5, 6, 7, 8, 9, 10, 11, 12, 13, 14, 15, 16, 17, 18, 19, 20, 21, 22, 23] (by kernel_rfl) ?_
   refine d_qk (.int .i64 o15) (by kernel_rfl) ?_
   refine d_qk (hd_l) (by kernel_rfl) ?_
   have u86 := (u59.fr e69 Dj.nil_l)
   refine d_ql (.int .i64 (l.length : Int)) (x := aLen Tryd.prog 22 hd_l H67) (by kernel_rfl) (u86.lenb (by kernel_rfl)) ?_
   refine d_b (o15 < (l.length : Int)) (by kernel_rfl) (fun h87 => ?_) (fun h87 => ?_)
   ·have r88 := ite_t h87 hx80
    refine d_qk (.bool true) (by kernel_rfl) ?_
    refine d_qk (hd_l) (by kernel_rfl) ?_
    refine d_qk (.int .i64 o15) (by kernel_rfl) ?_
    obtain ⟨g89, r90⟩ := G_some r88
    refine d_ql (elp hd_l 3 o15.toNat 0) (x := aIndexAddr Tryd.prog 22 hd_l (.int .i64 o15)) (by kernel_rfl) (u86.idxb (by kernel_rfl) g89 h87) ?_
    refine d_ql (elp hd_l 3 o15.toNat 0) (x := aFieldAddr Tryd.prog 51 (elp hd_l 3 o15.toNat 0) 0) (by kernel_rfl) (Sq.fldq (d := 0) u86 g89 h87 (by kernel_rfl)) ?_
    refine d_ql (.int .i64 ((gt l o15).1)) (x := aLoad Tryd.prog 3 (elp hd_l 3 o15.toNat 0) H67) (by kernel_rfl) (u86.ld g89 h87 (by kernel_rfl)) ?_
    refine d_qk (.pointer (some ⟨b7, 0, none⟩)) (by kernel_rfl) ?_
    have u91 := ((r11.frS e19 Dj.nil_l).frS e69 Dj.nil_l)
    refine d_ql (.int .i64 From) (x := aLoad Tryd.prog 3 (.pointer (some ⟨b7, 0, none⟩)) H67) (by kernel_rfl) (u91.ld (by kernel_rfl)) ?_
    refine d_b (((gt l o15).1) = From) (by kernel_rfl) (fun h92 => ?_) (fun h92 => ?_)
    ·have r93 := ite_t h92 r90
     refine d_qk (.bool true) (by kernel_rfl) ?_
     refine d_qk (.bool true) (by kernel_rfl) ?_
     refine d_qk (hd_l) (by kernel_rfl) ?_
     refine d_qk (.int .i64 o15) (by kernel_rfl) ?_
     refine d_ql (elp hd_l 3 o15.toNat 0) (x := aIndexAddr Tryd.prog 22 hd_l (.int .i64 o15)) (by kernel_rfl) (u86.idxb (by kernel_rfl) g89 h87) ?_
     refine d_ql (elp hd_l 3 o15.toNat 1) (x := aFieldAddr Tryd.prog 51 (elp hd_l 3 o15.toNat 0) 1) (by kernel_rfl) (Sq.fldq (d := 1) u86 g89 h87 (by kernel_rfl)) ?_
     refine d_ql (.int .i64 ((gt l o15).2.1)) (x := aLoad Tryd.prog 3 (elp hd_l 3 o15.toNat 1) H67) (by kernel_rfl) (u86.ld g89 h87 (by kernel_rfl)) ?_
     refine d_qk (.pointer (some ⟨b7, 1, none⟩)) (by kernel_rfl) ?_
     refine d_ql (.int .i64 To) (x := aLoad Tryd.prog 3 (.pointer (some ⟨b7, 1, none⟩)) H67) (by kernel_rfl) (u91.ld (by kernel_rfl)) ?_
     refine d_qk (.bool (decide (((gt l o15).2.1) = To))) (by kernel_rfl) ?_
     refine d_qk (.bool (decide (((gt l o15).2.1) = To))) (by kernel_rfl) ?_
     refine d_nil ?_
     obtain rfl := Option.some.inj r93
     exact k84 _ _ ⟨⟨by kernel_rfl, by kernel_rfl, by kernel_rfl, by kernel_rfl, by kernel_rfl, trivial⟩, rfl⟩
    ·have r94 := ite_f h92 r90
     refine d_qk (.bool false) (by kernel_rfl) ?_
     refine d_qk (.bool false) (by kernel_rfl) ?_
     refine d_idle (by kernel_rfl) ?_
     refine d_idle (by kernel_rfl) ?_
     refine d_idle (by kernel_rfl) ?_
     refine d_idle (by kernel_rfl) ?_
     refine d_idle (by kernel_rfl) ?_
     refine d_idle (by kernel_rfl) ?_
     refine d_idle (by kernel_rfl) ?_
     refine d_idle (by kernel_rfl) ?_
     refine d_qk (.bool false) (by kernel_rfl) ?_
     refine d_nil ?_
     obtain rfl := Option.some.inj r94
     exact k84 _ _ ⟨⟨by kernel_rfl, by kernel_rfl, by kernel_rfl, by kernel_rfl, by kernel_rfl, trivial⟩, rfl⟩
   ·have r95 := ite_f h87 hx80
    refine d_qk (.bool false) (by kernel_rfl) ?_
    refine d_idle (by kernel_rfl) ?_
    refine d_idle (by kernel_rfl) ?_
    refine d_idle (by kernel_rfl) ?_
    refine d_idle (by kernel_rfl) ?_
    refine d_idle (by kernel_rfl) ?_
    refine d_idle (by kernel_rfl) ?_
    refine d_idle (by kernel_rfl) ?_
    refine d_idle (by kernel_rfl) ?_
    refine d_qk (.bool false) (by kernel_rfl) ?_
    refine d_qk (.bool false) (by kernel_rfl) ?_
    refine d_idle (by kernel_rfl) ?_
    refine d_idle (by kernel_rfl) ?_
    refine d_idle (by kernel_rfl) ?_
    refine d_idle (by kernel_rfl) ?_
    refine d_idle (by kernel_rfl) ?_
    refine d_idle (by kernel_rfl) ?_
    refine d_idle (by kernel_rfl) ?_
    refine d_idle (by kernel_rfl) ?_
    refine d_qk (.bool false) (by kernel_rfl) ?_
    refine d_nil ?_
    obtain rfl := Option.some.inj r95
    exact k84 _ _ ⟨⟨by kernel_rfl, by kernel_rfl, by kernel_rfl, by kernel_rfl, by kernel_rfl, trivial⟩, rfl⟩
  ·obtain ⟨hh85, rfl⟩ := hM
   obtain ⟨β, rfl⟩ := has_ex hh85
   clear hh85
   refine k78 _ _ ?_
   refine w_cond (o79) (by kernel_rfl) rfl (fun h96 => ?_) (fun h96 => ?_)
   ·have r97 := ite_t h96 r81
    refine w_seqk fun K98 k98 => ?_
    refine w_draw [0, 1, 2, 3, 4, 5, 6, 7, 8, 9] (by kernel_rfl) ?_
    refine d_qk (.pointer (some ⟨b7, 2, none⟩)) (by kernel_rfl) ?_
    have u99 := ((r11.frS e19 Dj.nil_l).frS e69 Dj.nil_l)
    refine d_ql (.int .i64 Weight) (x := aLoad Tryd.prog 3 (.pointer (some ⟨b7, 2, none⟩)) H67) (by kernel_rfl) (u99.ld (by kernel_rfl)) ?_
    refine d_qk (hd_l) (by kernel_rfl) ?_
    refine d_qk (.int .i64 o15) (by kernel_rfl) ?_
    obtain ⟨g100, r101⟩ := G_some r97
    have u102 := (u59.fr e69 Dj.nil_l)
    refine d_ql (elp hd_l 3 o15.toNat 0) (x := aIndexAddr Tryd.prog 22 hd_l (.int .i64 o15)) (by kernel_rfl) (u102.idxb (by kernel_rfl) g100.1 g100.2) ?_
    refine d_ql (elp hd_l 3 o15.toNat 2) (x := aFieldAddr Tryd.prog 51 (elp hd_l 3 o15.toNat 0) 2) (by kernel_rfl) (Sq.fldq (d := 2) u102 g100.1 g100.2 (by kernel_rfl)) ?_
    refine d_ql (.int .i64 ((gt l o15).2.2)) (x := aLoad Tryd.prog 3 (elp hd_l 3 o15.toNat 2) H67) (by kernel_rfl) (u102.ld g100.1 g100.2 (by kernel_rfl)) ?_
    refine d_ql (.int .i64 (min Weight ((gt l o15).2.2))) (x := aMin Tryd.prog [.int .i64 Weight, .int .i64 ((gt l o15).2.2)]) (by kernel_rfl) (aMin_two _ _) ?_
    refine d_qk (.pointer (some ⟨b7, 2, none⟩)) (by kernel_rfl) ?_
    obtain ⟨H103, q104, e105, r106⟩ := Row.store (P := Tryd.prog) (t := 3) (p := 2) e69.wf u99 (.int .i64 (min Weight ((gt l o15).2.2))) [.int .i64 (min Weight ((gt l o15).2.2))] (by kernel_rfl) (by kernel_rfl) (one_cons (rfl) (one_nil)) (Nat.le_of_ble_eq_true (by kernel_rfl)) [.int .i64 From, .int .i64 To, .int .i64 (min Weight ((gt l o15).2.2))] (by kernel_rfl)
    refine d_ek (undef) (by kernel_rfl) (map_ok q104) (st_nil) ?_
    refine d_nil ?_
    refine k98 _ _ ?_
    refine w_seqk fun K107 k107 => ?_
    refine w_reg (by kernel_rfl) ?_
    refine s_qk (.slice a73 n74 c75) (by kernel_rfl) ?_
    refine s_ql (.agg #[.int .i64 From, .int .i64 To, .int .i64 (min Weight ((gt l o15).2.2))]) (x := aLoad Tryd.prog 51 (.pointer (some ⟨b7, 0, none⟩)) H103) (by kernel_rfl) (r106.ld (by kernel_rfl)) ?_
    refine s_owk (enc := enc_i64_i64_i64) (sz := 3) e105.wf [(From, To, (min Weight ((gt l o15).2.2)))] 1 (by decide) (fun _ _ => rfl) (fun _ _ => rfl) rfl (by kernel_rfl) fun s108 f109 H110 e111 hf112 hm113 => ?_
    obtain ⟨a114, n115, c116, rfl⟩ := hm113.form
    have u118 := ((hm70.fr e105 (Dj.symm (hf71.djn (r11.ltF.le e19.next)))).ext e111)
    obtain ⟨g119, r120⟩ := G_some r101
    obtain ⟨s121, H122, f123, q127, e124, hm125, hf126⟩ := Ow.append (P := Tryd.prog) 24 e111.wf u118 hm113.sq (fun _ _ => rfl) (at_ := #[22, 22]) rfl rfl (by kernel_rfl) (by kernel_rfl) (by decide) (by have := g119; first | omega | (simp only [List.length_cons, List.length_nil] at this ⊢; omega) | (simp at this ⊢; omega))
    obtain ⟨a128, n129, c130, rfl⟩ := hm125.form
    refine s_ek (.slice a128 n129 c130) (by kernel_rfl) (q127) ?_
    refine s_qk (.slice a128 n129 c130) (by kernel_rfl) ?_
    refine s_nil ?_
    refine k107 _ _ ?_
    refine w_seqk fun K132 k132 => ?_
    refine w_reg (by kernel_rfl) ?_
    refine s_qk (.slice a128 n129 c130) (by kernel_rfl) ?_
    refine s_qk (hd_l) (by kernel_rfl) ?_
    refine s_qk (.int .i64 o15) (by kernel_rfl) ?_
    obtain ⟨g133, r134⟩ := G_some r120
    refine s_w ((o15 + 1)) (k := .i64) (x := (o15 + 1)) (by kernel_rfl) (wrap64 (by have := g133; omega)) ?_
    obtain ⟨g135, r136⟩ := G_some r134
    have u140 := (((u102.fr e105 (hb10.djn h_l.lt)).ext e111).fr e124 (hf71.djn (h_l.lt.le (ntr e9.next e19.next))))
    obtain ⟨s137, q138, hs139⟩ := Sq.cut (P := Tryd.prog) u140 (t := 22) (by kernel_rfl) (lo := (some (.int .i64 (o15 + 1)))) (hi := none) (l := (o15 + 1).toNat) (r := l.length) (aBound_int _ (by have := g135; omega)) (rfl) (by have := g135; omega) (by have := g135; omega)
    obtain ⟨a141, n142, c143, rfl⟩ := hs139.form
    refine s_ql (.slice a141 n142 c143) (by kernel_rfl) q138 ?_
    obtain ⟨g145, r146⟩ := G_some r136
    obtain ⟨s147, H148, f149, q153, e150, hm151, hf152⟩ := Ow.append (P := Tryd.prog) 24 e124.wf hm125 hs139 (fun _ _ => rfl) (at_ := #[22, 22]) rfl rfl (by kernel_rfl) (by kernel_rfl) (by decide) (by have := g145; first | omega | (simp only [List.length_cons, List.length_nil] at this ⊢; omega) | (simp at this ⊢; omega))
    obtain ⟨a154, n155, c156, rfl⟩ := hm151.form
    refine s_ek (.slice a154 n155 c156) (by kernel_rfl) (q153) ?_
    refine s_qk (.slice a154 n155 c156) (by kernel_rfl) ?_
    refine s_nil ?_
    refine k132 _ _ ?_
    refine w_ret (th_ret ?_)
    refine b_ret (fn := Tryd.f79) (vs := [.slice a154 n155 c156]) (aRes_tmp (by kernel_rfl) (rfl)) ?_
    obtain rfl := Option.some.inj r146
    exact ⟨(.slice a154 n155 c156), f149, rfl, (FrS.step wf (FrS.step wf ((FrS.step wf (FrS.step wf (FrS.step wf ((FrS.refl (W := []) wf).extR e9) e19 Inn.nil) e69 Inn.nil) e105 (hb10.fresh (Nat.le_refl _))).extR e111) e124 (hf71.fresh (ntr e9.next e19.next))) e150 (Inn.trans (hf71.fresh (ntr e9.next e19.next)) (ntr (ntr (ntr (ntr e9.next e19.next) e69.next) e105.next) e111.next) hf126)), hm151, (Inn.trans (Inn.trans (hf71.fresh (ntr e9.next e19.next)) (ntr (ntr (ntr (ntr e9.next e19.next) e69.next) e105.next) e111.next) hf126) (ntr (ntr (ntr (ntr (ntr e9.next e19.next) e69.next) e105.next) e111.next) e124.next) hf152)⟩
   ·have r158 := ite_bf h96 r81
    refine w_skip ?_
    refine k77 _ _ ?_
    refine w_seqk fun K159 k159 => ?_
    refine w_reg (by kernel_rfl) ?_
    refine s_qk (.slice a73 n74 c75) (by kernel_rfl) ?_
    have u160 := ((r11.frS e19 Dj.nil_l).frS e69 Dj.nil_l)
    refine s_ql (.agg #[.int .i64 From, .int .i64 To, .int .i64 Weight]) (x := aLoad Tryd.prog 51 (.pointer (some ⟨b7, 0, none⟩)) H67) (by kernel_rfl) (u160.ld (by kernel_rfl)) ?_
    refine s_owk (enc := enc_i64_i64_i64) (sz := 3) e69.wf [(From, To, Weight)] 1 (by decide) (fun _ _ => rfl) (fun _ _ => rfl) rfl (by kernel_rfl) fun s161 f162 H163 e164 hf165 hm166 => ?_
    obtain ⟨a167, n168, c169, rfl⟩ := hm166.form
    have u171 := (hm70.ext e164)
    obtain ⟨g172, r173⟩ := G_some r158
    obtain ⟨s174, H175, f176, q180, e177, hm178, hf179⟩ := Ow.append (P := Tryd.prog) 24 e164.wf u171 hm166.sq (fun _ _ => rfl) (at_ := #[22, 22]) rfl rfl (by kernel_rfl) (by kernel_rfl) (by decide) (by have := g172; first | omega | (simp only [List.length_cons, List.length_nil] at this ⊢; omega) | (simp at this ⊢; omega))
    obtain ⟨a181, n182, c183, rfl⟩ := hm178.form
    refine s_ek (.slice a181 n182 c183) (by kernel_rfl) (q180) ?_
    refine s_qk (.slice a181 n182 c183) (by kernel_rfl) ?_
    refine s_nil ?_
    refine k159 _ _ ?_
    refine w_seqk fun K185 k185 => ?_
    refine w_reg (by kernel_rfl) ?_
    refine s_qk (.slice a181 n182 c183) (by kernel_rfl) ?_
    refine s_qk (hd_l) (by kernel_rfl) ?_
    refine s_qk (.int .i64 o15) (by kernel_rfl) ?_
    have u189 := (((u59.fr e69 Dj.nil_l).ext e164).fr e177 (hf71.djn (h_l.lt.le (ntr e9.next e19.next))))
    obtain ⟨s186, q187, hs188⟩ := Sq.cut (P := Tryd.prog) u189 (t := 22) (by kernel_rfl) (lo := (some (.int .i64 o15))) (hi := none) (l := o15.toNat) (r := l.length) (aBound_int _ (by have := g54; omega)) (rfl) (by have := g54; omega) (by have := g54; omega)
    obtain ⟨a190, n191, c192, rfl⟩ := hs188.form
    refine s_ql (.slice a190 n191 c192) (by kernel_rfl) q187 ?_
    obtain ⟨g194, r195⟩ := G_some r173
    obtain ⟨s196, H197, f198, q202, e199, hm200, hf201⟩ := Ow.append (P := Tryd.prog) 24 e177.wf hm178 hs188 (fun _ _ => rfl) (at_ := #[22, 22]) rfl rfl (by kernel_rfl) (by kernel_rfl) (by decide) (by have := g194; first | omega | (simp only [List.length_cons, List.length_nil] at this ⊢; omega) | (simp at this ⊢; omega))
    obtain ⟨a203, n204, c205, rfl⟩ := hm200.form
    refine s_ek (.slice a203 n204 c205) (by kernel_rfl) (q202) ?_
    refine s_qk (.slice a203 n204 c205) (by kernel_rfl) ?_
    refine s_nil ?_
    refine k185 _ _ ?_
    refine w_ret ?_
    refine b_ret (fn := Tryd.f79) (vs := [.slice a203 n204 c205]) (aRes_tmp (by kernel_rfl) (rfl)) ?_
    obtain rfl := Option.some.inj r195
    exact ⟨(.slice a203 n204 c205), f198, rfl, (FrS.step wf (FrS.step wf ((FrS.step wf (FrS.step wf ((FrS.refl (W := []) wf).extR e9) e19 Inn.nil) e69 Inn.nil).extR e164) e177 (hf71.fresh (ntr e9.next e19.next))) e199 (Inn.trans (hf71.fresh (ntr e9.next e19.next)) (ntr (ntr (ntr e9.next e19.next) e69.next) e164.next) hf179)), hm200, (Inn.trans (Inn.trans (hf71.fresh (ntr e9.next e19.next)) (ntr (ntr (ntr e9.next e19.next) e69.next) e164.next) hf179) (ntr (ntr (ntr (ntr e9.next e19.next) e69.next) e164.next) e177.next) hf201)⟩

theorem c_viaductref04_Of {H : AH} {hd_Arcs : Value} {fp_Arcs : Fp} {N_ : Int} {Arcs : List (Int × Int × Int)} {r : Int × List (Int × Int × Int)}
  (wf : WF H) (h_Arcs : Sq enc_i64_i64_i64 3 H hd_Arcs Arcs fp_Arcs) (hr : z_viaductref04_Of N_ Arcs = some r) :
  ACalls Tryd.prog 54 #[.agg #[.int .i64 N_, hd_Arcs]] H fun v H' => ∃ (s3 : Value) (f4 : Fp), v = .agg #[.int .i64 r.1, s3] ∧ FrS [] H H' ∧ Ow enc_i64_i64_i64 3 H' s3 r.2 f4 ∧ Inn [] H f4 := by
 refine acalls_of_body mixed Tryd.func54 rfl (Nat.le_of_ble_eq_true rfl) ?_
 unfold z_viaductref04_Of at hr
 refine w_seqk fun K6 k6 => ?_
 refine w_reg (by kernel_rfl) ?_
 refine s_rwl wf [.int .i64 N_, hd_Arcs] (one_cons (rfl) (one_cons (h_Arcs.one1) (one_nil))) (by kernel_rfl) fun b7 H8 e9 hb10 r11 => ?_
 refine s_rwk e9.wf [.int .i64 0, .slice none 0 0] (by kernel_rfl) fun b13 H14 e15 hb16 r17 => ?_
 refine s_nil ?_
 refine k6 _ _ ?_
 refine w_seqk fun K19 k19 => ?_
 refine w_reg (by kernel_rfl) ?_
 refine s_qk (.pointer (some ⟨b7, 0, none⟩)) (by kernel_rfl) ?_
 have u20 := (r11.ext e15)
 refine s_ql (.int .i64 N_) (x := aLoad Tryd.prog 3 (.pointer (some ⟨b7, 0, none⟩)) H14) (by kernel_rfl) (u20.ld (by kernel_rfl)) ?_
 refine s_qk (.agg #[.int .i64 N_, .slice none 0 0]) (by kernel_rfl) ?_
 refine s_rwk e15.wf [.int .i64 0, .slice none 0 0] (by kernel_rfl) fun b21 H22 e23 hb24 r25 => ?_
 obtain ⟨H27, q28, e29, r30⟩ := Row.store (P := Tryd.prog) (t := 24) (p := 0) e23.wf r25 (.agg #[.int .i64 N_, .slice none 0 0]) [.int .i64 N_, .slice none 0 0] (by kernel_rfl) (by kernel_rfl) (one_cons (rfl) (one_cons (rfl) (one_nil))) (Nat.le_of_ble_eq_true (by kernel_rfl)) [.int .i64 N_, .slice none 0 0] (by kernel_rfl)
 refine s_ek (undef) (by kernel_rfl) (map_ok q28) ?_
 refine s_nil ?_
 refine k19 _ _ ?_
 refine w_seqk fun K31 k31 => ?_
 refine w_seqk fun K32 k32 => ?_
 refine w_reg (by kernel_rfl) ?_
 refine s_qk (.pointer (some ⟨b7, 1, none⟩)) (by kernel_rfl) ?_
 have u33 := ((u20.ext e23).frS e29 (hb24.djn (r11.ltF.le e15.next)))
 refine s_ql (hd_Arcs) (x := aLoad Tryd.prog 22 (.pointer (some ⟨b7, 1, none⟩)) H27) (by kernel_rfl) (u33.ld (by kernel_rfl)) ?_
 have u34 := ((((h_Arcs.ext e9).ext e15).ext e23).fr e29 (hb24.djn (h_Arcs.lt.le (ntr e9.next e15.next))))
 refine s_ql (.int .i64 (Arcs.length : Int)) (x := aLen Tryd.prog 22 hd_Arcs H27) (by kernel_rfl) (u34.lenb (by kernel_rfl)) ?_
 refine s_qk (.int .i64 0) (by kernel_rfl) ?_
 refine s_nil ?_
 refine k32 _ _ ?_
 obtain ⟨o35, hx36, r37⟩ := bind_some hr
 refine w_mid (fun α H38 => ∃ (s42 : Value) (f43 : Fp), Has α [(2, .pointer (some ⟨b13, 0, none⟩)), (3, .pointer (some ⟨b21, 0, none⟩))] ∧ FrS [b21] H27 H38 ∧ Ow enc_i64_i64_i64 3 H38 s42 o35 f43 ∧ Row H38 b21 [.int .i64 N_, s42] ∧ Inn [] H27 f43) (fun K47 k47 => ?_) (fun α H38 hM => ?_)
 ·refine w_block ?_
  obtain ⟨n49, hn50⟩ := loopO_iff.1 hx36
  refine w_loopn (fun n α H51 => ∃ (i0 : Int), ∃ (c1 : List (Int × Int × Int)), ∃ (s55 : Value), ∃ (f56 : Fp), iterO (fun zz_ => z_viaductref04_Of_l0 Arcs zz_.1 zz_.2) n (i0, c1) = some o35 ∧ Has α [(2, .pointer (some ⟨b13, 0, none⟩)), (3, .pointer (some ⟨b21, 0, none⟩)), (10, hd_Arcs), (11, .int .i64 (Arcs.length : Int)), (12, .int .i64 i0)] ∧ FrS [b21] H27 H51 ∧ Ow enc_i64_i64_i64 3 H51 s55 c1 f56 ∧ Row H51 b21 [.int .i64 N_, s55] ∧ Inn [] H27 f56) n49 ⟨0, [], (.slice none 0 0), [], hn50, ⟨by kernel_rfl, by kernel_rfl, by kernel_rfl, by kernel_rfl, by kernel_rfl, trivial⟩, (FrS.refl (W := [b21]) e29.wf), (Ow.nil (by decide)), r30, Inn.nil⟩ ?_
  rintro n49 α H51 ⟨i0, c1, s55, f56, hi61, hh60, e52, m54, m58, i59⟩ K66 k66
  obtain ⟨n62, z63, rfl, hz64, hn65⟩ := iter_succ hi61
  obtain ⟨β, rfl⟩ := has_ex hh60
  clear hh60
  replace hz64 : z_viaductref04_Of_l0 Arcs i0 c1 = some z63 := hz64
  unfold z_viaductref04_Of_l0 at hz64
  obtain ⟨a67, n68, c69, rfl⟩ := m54.form
  refine w_seqk fun K70 k70 => ?_
  refine w_reg (by kernel_rfl) ?_
  refine s_qk (.bool (decide (i0 < (Arcs.length : Int)))) (by kernel_rfl) ?_
  refine s_nil ?_
  refine k70 _ _ ?_
  refine w_seqk fun K71 k71 => ?_
  refine w_condp (i0 < (Arcs.length : Int)) (by kernel_rfl) rfl (fun h72 => ?_) (fun h72 => ?_)
  ·have r73 := ite_t h72 hz64
   refine w_skip ?_
   refine k71 _ _ ?_
   refine w_seqk fun K74 k74 => ?_
   refine w_block ?_
   refine w_seqk fun K75 k75 => ?_
   refine w_reg (by kernel_rfl) ?_
   obtain ⟨g76, r77⟩ := G_some r73
   have u78 := (u34.fr e52 (hb24.djn (h_Arcs.lt.le (ntr e9.next e15.next))))
   refine s_ql (elp hd_Arcs 3 i0.toNat 0) (x := aIndexAddr Tryd.prog 22 hd_Arcs (.int .i64 i0)) (by kernel_rfl) (u78.idxb (by kernel_rfl) g76 h72) ?_
   refine s_ql (.agg #[.int .i64 ((gt Arcs i0).1), .int .i64 ((gt Arcs i0).2.1), .int .i64 ((gt Arcs i0).2.2)]) (x := aLoad Tryd.prog 51 (elp hd_Arcs 3 i0.toNat 0) H51) (by kernel_rfl) (u78.ld g76 h72 (by kernel_rfl)) ?_
   refine s_rwk e52.wf [.int .i64 0, .int .i64 0, .int .i64 0] (by kernel_rfl) fun b79 H80 e81 hb82 r83 => ?_
   obtain ⟨H85, q86, e87, r88⟩ := Row.store (P := Tryd.prog) (t := 51) (p := 0) e81.wf r83 (.agg #[.int .i64 ((gt Arcs i0).1), .int .i64 ((gt Arcs i0).2.1), .int .i64 ((gt Arcs i0).2.2)]) [.int .i64 ((gt Arcs i0).1), .int .i64 ((gt Arcs i0).2.1), .int .i64 ((gt Arcs i0).2.2)] (by kernel_rfl) (by kernel_rfl) (one_cons (rfl) (one_cons (rfl) (one_cons (rfl) (one_nil)))) (Nat.le_of_ble_eq_true (by kernel_rfl)) [.int .i64 ((gt Arcs i0).1), .int .i64 ((gt Arcs i0).2.1), .int .i64 ((gt Arcs i0).2.2)] (by kernel_rfl)
   refine s_ek (undef) (by kernel_rfl) (map_ok q86) ?_
   refine s_nil ?_
   refine k75 _ _ ?_
   refine w_seqk fun K89 k89 => ?_
   refine w_reg (by kernel_rfl) ?_
   refine s_qk (.pointer (some ⟨b79, 0, none⟩)) (by kernel_rfl) ?_
   refine s_ql (.int .i64 ((gt Arcs i0).1)) (x := aLoad Tryd.prog 3 (.pointer (some ⟨b79, 0, none⟩)) H85) (by kernel_rfl) (r88.ld (by kernel_rfl)) ?_
   refine s_qk (.pointer (some ⟨b79, 1, none⟩)) (by kernel_rfl) ?_
   refine s_ql (.int .i64 ((gt Arcs i0).2.1)) (x := aLoad Tryd.prog 3 (.pointer (some ⟨b79, 1, none⟩)) H85) (by kernel_rfl) (r88.ld (by kernel_rfl)) ?_
   refine s_qk (.bool (!decide (((gt Arcs i0).1) = ((gt Arcs i0).2.1)))) (by kernel_rfl) ?_
   refine s_nil ?_
   refine k89 _ _ ?_
   refine w_condn (((gt Arcs i0).1) = ((gt Arcs i0).2.1)) (by kernel_rfl) rfl (fun h90 => ?_) (fun h90 => ?_)
   ·have r91 := ite_f h90 r77
    refine w_reg (by kernel_rfl) ?_
    refine s_qk (.pointer (some ⟨b21, 1, none⟩)) (by kernel_rfl) ?_
    have u92 := ((m58.ext e81).frS e87 (hb82.djn (r25.ltF.le (ntr e29.next e52.next))))
    refine s_ql (.slice a67 n68 c69) (x := aLoad Tryd.prog 22 (.pointer (some ⟨b21, 1, none⟩)) H85) (by kernel_rfl) (u92.ld (by kernel_rfl)) ?_
    refine s_ql (.agg #[.int .i64 ((gt Arcs i0).1), .int .i64 ((gt Arcs i0).2.1), .int .i64 ((gt Arcs i0).2.2)]) (x := aLoad Tryd.prog 51 (.pointer (some ⟨b79, 0, none⟩)) H85) (by kernel_rfl) (r88.ld (by kernel_rfl)) ?_
    have u93 := ((m54.ext e81).fr e87 (hb82.djn m54.lt))
    obtain ⟨y94, hy95, r96⟩ := bind_some r91
    refine s_ck 79 #[.slice a67 n68 c69, .agg #[.int .i64 ((gt Arcs i0).1), .int .i64 ((gt Arcs i0).2.1), .int .i64 ((gt Arcs i0).2.2)]] (by kernel_rfl) (c_viaductref04_Put e87.wf u93.sq hy95) ?_
    rintro s97 H99 ⟨_, f98, rfl, e100, m101, i102⟩
    obtain ⟨a104, n105, c106, rfl⟩ := m101.form
    refine s_qk (.pointer (some ⟨b21, 1, none⟩)) (by kernel_rfl) ?_
    have u111 := (u92.frS e100 Dj.nil_l)
    obtain ⟨H107, q108, e109, r110⟩ := Row.store (P := Tryd.prog) (t := 22) (p := 1) e100.wf u111 (.slice a104 n105 c106) [.slice a104 n105 c106] (by kernel_rfl) (by kernel_rfl) (one_cons (m101.one1) (one_nil)) (Nat.le_of_ble_eq_true (by kernel_rfl)) [.int .i64 N_, .slice a104 n105 c106] (by kernel_rfl)
    refine s_ek (undef) (by kernel_rfl) (map_ok q108) ?_
    refine s_nil ?_
    refine k74 _ _ ?_
    refine w_reg (by kernel_rfl) ?_
    obtain ⟨g112, r113⟩ := G_some r96
    refine s_w ((i0 + 1)) (k := .i64) (x := (i0 + 1)) (by kernel_rfl) (wrap64 (by have := g112; omega)) ?_
    refine s_qk (.int .i64 (i0 + 1)) (by kernel_rfl) ?_
    refine s_nil ?_
    have u114 := (m101.fr e109 (Dj.symm (i102.djn (r25.ltF.le (ntr (ntr (ntr e29.next e52.next) e81.next) e87.next)))))
    obtain rfl := Option.some.inj r113
    exact k66 n62 _ _ (Nat.lt_succ_self _) ⟨(i0 + 1), y94, (.slice a104 n105 c106), f98, hn65, ⟨by kernel_rfl, by kernel_rfl, by kernel_rfl, by kernel_rfl, by kernel_rfl, trivial⟩, (FrS.step e29.wf (FrS.step e29.wf (FrS.step e29.wf ((FrS.step e29.wf (FrS.refl (W := [b21]) e29.wf) e52 Inn.refl').extR e81) e87 (hb82.fresh e52.next)) e100 Inn.nil) e109 Inn.refl'), u114, r110, (i102.fresh (ntr (ntr e52.next e81.next) e87.next))⟩
   ·have r115 := ite_t h90 r77
    refine w_skip ?_
    refine k74 _ _ ?_
    refine w_reg (by kernel_rfl) ?_
    obtain ⟨g116, r117⟩ := G_some r115
    refine s_w ((i0 + 1)) (k := .i64) (x := (i0 + 1)) (by kernel_rfl) (wrap64 (by have := g116; omega)) ?_
    refine s_qk (.int .i64 (i0 + 1)) (by kernel_rfl) ?_
    refine s_nil ?_
    have u118 := ((m54.ext e81).fr e87 (hb82.djn m54.lt))
    have u119 := ((m58.ext e81).frS e87 (hb82.djn (r25.ltF.le (ntr e29.next e52.next))))
    obtain rfl := Option.some.inj r117
    exact k66 n62 _ _ (Nat.lt_succ_self _) ⟨(i0 + 1), c1, (.slice a67 n68 c69), f56, hn65, ⟨by kernel_rfl, by kernel_rfl, by kernel_rfl, by kernel_rfl, by kernel_rfl, trivial⟩, (FrS.step e29.wf ((FrS.step e29.wf (FrS.refl (W := [b21]) e29.wf) e52 Inn.refl').extR e81) e87 (hb82.fresh e52.next)), u118, u119, (i59.fresh (Nat.le_refl _))⟩
  ·have r120 := ite_f h72 hz64
   refine w_exit (th_exit (th_exit (bl_eq ?_)))
   obtain rfl := Option.some.inj r120
   obtain rfl := it_inr hn65
   exact k47 _ _ ⟨(.slice a67 n68 c69), f56, ⟨by kernel_rfl, by kernel_rfl, trivial⟩, (FrS.step e29.wf (FrS.refl (W := [b21]) e29.wf) e52 Inn.refl'), m54, m58, (i59.fresh (Nat.le_refl _))⟩
 ·obtain ⟨s42, f43, hh48, e39, m41, m45, i46⟩ := hM
  obtain ⟨β, rfl⟩ := has_ex hh48
  clear hh48
  obtain ⟨a121, n122, c123, rfl⟩ := m41.form
  refine k31 _ _ ?_
  refine w_seqk fun K124 k124 => ?_
  refine w_reg (by kernel_rfl) ?_
  refine s_ql (.agg #[.int .i64 N_, .slice a121 n122 c123]) (x := aLoad Tryd.prog 24 (.pointer (some ⟨b21, 0, none⟩)) H38) (by kernel_rfl) (m45.ld (by kernel_rfl)) ?_
  have u129 := (((r17.ext e23).frS e29 (hb24.djn r17.ltF)).frS e39 (hb24.djn r17.ltF))
  obtain ⟨H125, q126, e127, r128⟩ := Row.store (P := Tryd.prog) (t := 24) (p := 0) e39.wf u129 (.agg #[.int .i64 N_, .slice a121 n122 c123]) [.int .i64 N_, .slice a121 n122 c123] (by kernel_rfl) (by kernel_rfl) (one_cons (rfl) (one_cons (m41.one1) (one_nil))) (Nat.le_of_ble_eq_true (by kernel_rfl)) [.int .i64 N_, .slice a121 n122 c123] (by kernel_rfl)
  refine s_ek (undef) (by kernel_rfl) (map_ok q126) ?_
  refine s_nil ?_
  refine k124 _ _ ?_
  refine w_ret ?_
  refine b_ret (fn := Tryd.f54) (vs := [.agg #[.int .i64 N_, .slice a121 n122 c123]]) (aRes_cell (Eq.trans (b := aLoad Tryd.prog 24 (.pointer (some ⟨b13, 0, none⟩)) H125) (by kernel_rfl) (r128.ld (by kernel_rfl))) (rfl)) ?_
  have u130 := (m41.fr e127 (Dj.symm (i46.djn (r17.ltF.le (ntr e23.next e29.next)))))
  obtain rfl := Option.some.inj r37
  exact ⟨(.slice a121 n122 c123), f43, rfl, (FrS.step wf (FrS.step wf (FrS.step wf ((((FrS.refl (W := []) wf).extR e9).extR e15).extR e23) e29 (hb24.fresh (ntr e9.next e15.next))) e39 (hb24.fresh (ntr e9.next e15.next))) e127 (hb16.fresh e9.next)), u130, (i46.fresh (ntr (ntr (ntr e9.next e15.next) e23.next) e29.next))⟩

theorem c_viaductref04_DocOf {H : AH} {hd_Arcs : Value} {fp_Arcs : Fp} {N_ : Int} {Arcs : List (Int × Int × Int)} {r : Int × List (Int × Int × Int) × Int × List (Int × Int)}
  (wf : WF H) (h_Arcs : Sq enc_i64_i64_i64 3 H hd_Arcs Arcs fp_Arcs) (hr : z_viaductref04_DocOf N_ Arcs = some r) :
  ACalls Tryd.prog 14 #[.agg #[.int .i64 N_, hd_Arcs]] H fun v H' => ∃ (s3 : Value) (f4 : Fp) (s7 : Value) (f8 : Fp), v = .tuple #[.agg #[.int .i64 r.1, s3], .agg #[.int .i64 r.2.2.1, s7]] ∧ FrS [] H H' ∧ Ow enc_i64_i64_i64 3 H' s3 r.2.1 f4 ∧ Ow enc_i64_i64 2 H' s7 r.2.2.2 f8 ∧ Inn [] H f4 ∧ Inn [] H f8 ∧ Dj f4 f8 := by
 refine acalls_of_body mixed Tryd.func14 rfl (Nat.le_of_ble_eq_true rfl) ?_
 unfold z_viaductref04_DocOf at hr
 refine w_seqk fun K12 k12 => ?_
 refine w_reg (by kernel_rfl) ?_
 refine s_rwl wf [.int .i64 N_, hd_Arcs] (one_cons (rfl) (one_cons (h_Arcs.one1) (one_nil))) (by kernel_rfl) fun b13 H14 e15 hb16 r17 => ?_
 refine s_rwk e15.wf [.int .i64 0, .slice none 0 0] (by kernel_rfl) fun b19 H20 e21 hb22 r23 => ?_
 refine s_rwk e21.wf [.int .i64 0, .slice none 0 0] (by kernel_rfl) fun b25 H26 e27 hb28 r29 => ?_
 refine s_nil ?_
 refine k12 _ _ ?_
 refine w_seqk fun K31 k31 => ?_
 refine w_seqk fun K32 k32 => ?_
 refine w_reg (by kernel_rfl) ?_
 have u33 := ((r17.ext e21).ext e27)
 refine s_ql (.agg #[.int .i64 N_, hd_Arcs]) (x := aLoad Tryd.prog 24 (.pointer (some ⟨b13, 0, none⟩)) H26) (by kernel_rfl) (u33.ld (by kernel_rfl)) ?_
 have u34 := (((h_Arcs.ext e15).ext e21).ext e27)
 obtain ⟨y35, hy36, r37⟩ := bind_some hr
 refine s_ck 52 #[.agg #[.int .i64 N_, hd_Arcs]] (by kernel_rfl) (c_viaductref03_DocCheck e27.wf u34 hy36) ?_
 rintro _ H40 ⟨s38, f39, rfl, e41, m42, i43⟩
 obtain ⟨a45, n46, c47, rfl⟩ := m42.form
 refine s_rwk e41.wf [.int .i64 0, .slice none 0 0] (by kernel_rfl) fun b48 H49 e50 hb51 r52 => ?_
 have u58 := (m42.ext e50)
 obtain ⟨H54, q55, e56, r57⟩ := Row.store (P := Tryd.prog) (t := 33) (p := 0) e50.wf r52 (.agg #[.int .i64 y35.1, .slice a45 n46 c47]) [.int .i64 y35.1, .slice a45 n46 c47] (by kernel_rfl) (by kernel_rfl) (one_cons (rfl) (one_cons (u58.one1) (one_nil))) (Nat.le_of_ble_eq_true (by kernel_rfl)) [.int .i64 y35.1, .slice a45 n46 c47] (by kernel_rfl)
 refine s_ek (undef) (by kernel_rfl) (map_ok q55) ?_
 refine s_nil ?_
 refine k32 _ _ ?_
 refine w_seqk fun K59 k59 => ?_
 refine w_reg (by kernel_rfl) ?_
 refine s_ql (.agg #[.int .i64 y35.1, .slice a45 n46 c47]) (x := aLoad Tryd.prog 33 (.pointer (some ⟨b48, 0, none⟩)) H54) (by kernel_rfl) (r57.ld (by kernel_rfl)) ?_
 have u60 := (u58.fr e56 (hb51.djn m42.lt))
 obtain ⟨y61, hy62, r63⟩ := bind_some r37
 refine s_ck 53 #[.agg #[.int .i64 y35.1, .slice a45 n46 c47]] (by kernel_rfl) (c_viaductref01_Err_Bad e56.wf u60.sq hy62) ?_
 rintro _ H64 ⟨rfl, e65⟩
 refine s_nil ?_
 refine k59 _ _ ?_
 refine w_cond (y61) (by kernel_rfl) rfl (fun h66 => ?_) (fun h66 => ?_)
 ·have r67 := ite_t h66 r63
  refine w_seqk fun K68 k68 => ?_
  refine w_draw [0, 1, 2, 3] (by kernel_rfl) ?_
  refine d_qk (.agg #[.int .i64 0, .slice none 0 0]) (by kernel_rfl) ?_
  have u69 := (r57.frS e65 Dj.nil_l)
  refine d_fl (.agg #[.int .i64 y35.1, .slice a45 n46 c47]) (x := aLoad Tryd.prog 33 (.pointer (some ⟨b48, 0, none⟩)) H64) (by kernel_rfl) (u69.ld (by kernel_rfl)) ?_
  have u74 := (((((r23.ext e27).frS e41 Dj.nil_l).ext e50).frS e56 (hb51.djn (r23.ltF.le (ntr e27.next e41.next)))).frS e65 Dj.nil_l)
  obtain ⟨H70, q71, e72, r73⟩ := Row.store (P := Tryd.prog) (t := 24) (p := 0) e65.wf u74 (.agg #[.int .i64 0, .slice none 0 0]) [.int .i64 0, .slice none 0 0] (by kernel_rfl) (by kernel_rfl) (one_cons (rfl) (one_cons (rfl) (one_nil))) (Nat.le_of_ble_eq_true (by kernel_rfl)) [.int .i64 0, .slice none 0 0] (by kernel_rfl)
  have u75 := (u69.frS e72 (Dj.symm (hb51.djn (r23.ltF.le (ntr e27.next e41.next)))))
  refine d_ek (undef) (by kernel_rfl) (map_ok q71) (st_ql (y := aLoad Tryd.prog 33 (.pointer (some ⟨b48, 0, none⟩)) H70) (by kernel_rfl) (u75.ld (by kernel_rfl)) (st_nil)) ?_
  have u80 := (((((r29.frS e41 Dj.nil_l).ext e50).frS e56 (hb51.djn (r29.ltF.le e41.next))).frS e65 Dj.nil_l).frS e72 (Dj.symm (hb28.djn r23.ltF)))
  have u81 := ((u60.fr e65 Dj.nil_l).fr e72 (Dj.symm (i43.djn (r23.ltF.le e27.next))))
  obtain ⟨H76, q77, e78, r79⟩ := Row.store (P := Tryd.prog) (t := 33) (p := 0) e72.wf u80 (.agg #[.int .i64 y35.1, .slice a45 n46 c47]) [.int .i64 y35.1, .slice a45 n46 c47] (by kernel_rfl) (by kernel_rfl) (one_cons (rfl) (one_cons (u81.one1) (one_nil))) (Nat.le_of_ble_eq_true (by kernel_rfl)) [.int .i64 y35.1, .slice a45 n46 c47] (by kernel_rfl)
  refine d_ek (undef) (by kernel_rfl) (map_ok q77) (st_anc (by kernel_rfl) (st_nil)) ?_
  refine d_nil ?_
  refine k68 _ _ ?_
  refine w_ret (th_ret ?_)
  have u82 := (r73.frS e78 (hb28.djn r23.ltF))
  refine b_ret (fn := Tryd.f14) (vs := [.agg #[.int .i64 0, .slice none 0 0], .agg #[.int .i64 y35.1, .slice a45 n46 c47]]) (aRes_cell (Eq.trans (b := aLoad Tryd.prog 24 (.pointer (some ⟨b19, 0, none⟩)) H76) (by kernel_rfl) (u82.ld (by kernel_rfl))) (aRes_cell (Eq.trans (b := aLoad Tryd.prog 33 (.pointer (some ⟨b25, 0, none⟩)) H76) (by kernel_rfl) (r79.ld (by kernel_rfl))) (rfl))) ?_
  have u83 := (u81.fr e78 (Dj.symm (i43.djn r29.ltF)))
  obtain rfl := Option.some.inj r67
  exact ⟨(.slice none 0 0), [], (.slice a45 n46 c47), f39, rfl, (FrS.step wf (FrS.step wf (FrS.step wf (FrS.step wf ((FrS.step wf ((((FrS.refl (W := []) wf).extR e15).extR e21).extR e27) e41 Inn.nil).extR e50) e56 (hb51.fresh (ntr (ntr (ntr e15.next e21.next) e27.next) e41.next))) e65 Inn.nil) e72 (hb22.fresh e15.next)) e78 (hb28.fresh (ntr e15.next e21.next))), (Ow.nil (by decide)), u83, Inn.nil, (i43.fresh (ntr (ntr e15.next e21.next) e27.next)), Dj.nil_l⟩
 ·have r84 := ite_bf h66 r63
  refine w_skip ?_
  refine k31 _ _ ?_
  refine w_seqk fun K85 k85 => ?_
  refine w_reg (by kernel_rfl) ?_
  have u86 := ((((u33.frS e41 Dj.nil_l).ext e50).frS e56 (hb51.djn (r17.ltF.le (ntr (ntr e21.next e27.next) e41.next)))).frS e65 Dj.nil_l)
  refine s_ql (.agg #[.int .i64 N_, hd_Arcs]) (x := aLoad Tryd.prog 24 (.pointer (some ⟨b13, 0, none⟩)) H64) (by kernel_rfl) (u86.ld (by kernel_rfl)) ?_
  have u87 := ((((u34.fr e41 Dj.nil_l).ext e50).fr e56 (hb51.djn (h_Arcs.lt.le (ntr (ntr (ntr e15.next e21.next) e27.next) e41.next)))).fr e65 Dj.nil_l)
  obtain ⟨y88, hy89, r90⟩ := bind_some r84
  refine s_ck 54 #[.agg #[.int .i64 N_, hd_Arcs]] (by kernel_rfl) (c_viaductref04_Of e65.wf u87 hy89) ?_
  rintro _ H93 ⟨s91, f92, rfl, e94, m95, i96⟩
  obtain ⟨a98, n99, c100, rfl⟩ := m95.form
  refine s_qk (.agg #[.int .i64 0, .slice none 0 0]) (by kernel_rfl) ?_
  have u105 := ((((((r23.ext e27).frS e41 Dj.nil_l).ext e50).frS e56 (hb51.djn (r23.ltF.le (ntr e27.next e41.next)))).frS e65 Dj.nil_l).frS e94 Dj.nil_l)
  obtain ⟨H101, q102, e103, r104⟩ := Row.store (P := Tryd.prog) (t := 24) (p := 0) e94.wf u105 (.agg #[.int .i64 y88.1, .slice a98 n99 c100]) [.int .i64 y88.1, .slice a98 n99 c100] (by kernel_rfl) (by kernel_rfl) (one_cons (rfl) (one_cons (m95.one1) (one_nil))) (Nat.le_of_ble_eq_true (by kernel_rfl)) [.int .i64 y88.1, .slice a98 n99 c100] (by kernel_rfl)
  refine s_ek (undef) (by kernel_rfl) (map_ok q102) ?_
  have u110 := ((((((r29.frS e41 Dj.nil_l).ext e50).frS e56 (hb51.djn (r29.ltF.le e41.next))).frS e65 Dj.nil_l).frS e94 Dj.nil_l).frS e103 (Dj.symm (hb28.djn r23.ltF)))
  obtain ⟨H106, q107, e108, r109⟩ := Row.store (P := Tryd.prog) (t := 33) (p := 0) e103.wf u110 (.agg #[.int .i64 0, .slice none 0 0]) [.int .i64 0, .slice none 0 0] (by kernel_rfl) (by kernel_rfl) (one_cons (rfl) (one_cons (rfl) (one_nil))) (Nat.le_of_ble_eq_true (by kernel_rfl)) [.int .i64 0, .slice none 0 0] (by kernel_rfl)
  refine s_ek (undef) (by kernel_rfl) (map_ok q107) ?_
  refine s_nil ?_
  refine k85 _ _ ?_
  refine w_ret ?_
  have u111 := (r104.frS e108 (hb28.djn r23.ltF))
  refine b_ret (fn := Tryd.f14) (vs := [.agg #[.int .i64 y88.1, .slice a98 n99 c100], .agg #[.int .i64 0, .slice none 0 0]]) (aRes_cell (Eq.trans (b := aLoad Tryd.prog 24 (.pointer (some ⟨b19, 0, none⟩)) H106) (by kernel_rfl) (u111.ld (by kernel_rfl))) (aRes_cell (Eq.trans (b := aLoad Tryd.prog 33 (.pointer (some ⟨b25, 0, none⟩)) H106) (by kernel_rfl) (r109.ld (by kernel_rfl))) (rfl))) ?_
  have u112 := ((m95.fr e103 (Dj.symm (i96.djn (r23.ltF.le (ntr (ntr (ntr (ntr e27.next e41.next) e50.next) e56.next) e65.next))))).fr e108 (Dj.symm (i96.djn (r29.ltF.le (ntr (ntr (ntr e41.next e50.next) e56.next) e65.next)))))
  obtain rfl := Option.some.inj r90
  exact ⟨(.slice a98 n99 c100), f92, (.slice none 0 0), [], rfl, (FrS.step wf (FrS.step wf (FrS.step wf (FrS.step wf (FrS.step wf ((FrS.step wf ((((FrS.refl (W := []) wf).extR e15).extR e21).extR e27) e41 Inn.nil).extR e50) e56 (hb51.fresh (ntr (ntr (ntr e15.next e21.next) e27.next) e41.next))) e65 Inn.nil) e94 Inn.nil) e103 (hb22.fresh e15.next)) e108 (hb28.fresh (ntr e15.next e21.next))), u112, (Ow.nil (by decide)), (i96.fresh (ntr (ntr (ntr (ntr (ntr (ntr e15.next e21.next) e27.next) e41.next) e50.next) e56.next) e65.next)), Inn.nil, Dj.nil_r⟩

theorem c_viaductref03_SameArcs {H : AH} {hd_a : Value} {fp_a : Fp} {hd_b : Value} {fp_b : Fp} {a : List (Int × Int × Int)} {b : List (Int × Int × Int)} {r : Bool}
  (wf : WF H) (h_a : Sq enc_i64_i64_i64 3 H hd_a a fp_a) (h_b : Sq enc_i64_i64_i64 3 H hd_b b fp_b) (hr : z_viaductref03_SameArcs a b = some r) :
  ACalls Tryd.prog 36 #[hd_a, hd_b] H fun v H' => v = .bool r ∧ H = H' := by
 refine acalls_of_body mixed Tryd.func36 rfl (Nat.le_of_ble_eq_true rfl) ?_
 unfold z_viaductref03_SameArcs at hr
 refine w_seqk fun K1 k1 => ?_
 refine w_reg (by kernel_rfl) ?_
 refine s_qk (.bool false) (by kernel_rfl) ?_
 refine s_nil ?_
 refine k1 _ _ ?_
 refine w_seqk fun K2 k2 => ?_
 refine w_seqk fun K3 k3 => ?_
 refine w_reg (by kernel_rfl) ?_
 refine s_qk (hd_a) (by kernel_rfl) ?_
 refine s_ql (.int .i64 (a.length : Int)) (x := aLen Tryd.prog 22 hd_a H) (by kernel_rfl) (h_a.lenb (by kernel_rfl)) ?_
 refine s_qk (hd_b) (by kernel_rfl) ?_
 refine s_ql (.int .i64 (b.length : Int)) (x := aLen Tryd.prog 22 hd_b H) (by kernel_rfl) (h_b.lenb (by kernel_rfl)) ?_
 refine s_qk (.bool (!decide ((a.length : Int) = (b.length : Int)))) (by kernel_rfl) ?_
 refine s_nil ?_
 refine k3 _ _ ?_
 refine w_condn ((a.length : Int) = (b.length : Int)) (by kernel_rfl) rfl (fun h4 => ?_) (fun h4 => ?_)
 ·have r5 := ite_f h4 hr
  refine w_seqk fun K6 k6 => ?_
  refine w_reg (by kernel_rfl) ?_
  refine s_qk (.bool false) (by kernel_rfl) ?_
  refine s_nil ?_
  refine k6 _ _ ?_
  refine w_ret (th_ret ?_)
  refine b_ret (fn := Tryd.f36) (vs := [.bool false]) (aRes_tmp (by kernel_rfl) (rfl)) ?_
  obtain rfl := Option.some.inj r5
  exact ⟨rfl, rfl⟩
 ·have r7 := ite_t h4 hr
  refine w_skip ?_
  refine k2 _ _ ?_
  refine w_seqk fun K8 k8 => ?_
  refine w_seqk fun K9 k9 => ?_
  refine w_reg (by kernel_rfl) ?_
  refine s_qk (hd_a) (by kernel_rfl) ?_
  refine s_ql (.int .i64 (a.length : Int)) (x := aLen Tryd.prog 22 hd_a H) (by kernel_rfl) (h_a.lenb (by kernel_rfl)) ?_
  refine s_qk (.int .i64 0) (by kernel_rfl) ?_
  refine s_nil ?_
  refine k9 _ _ ?_
  obtain ⟨z13, hx11, r12⟩ := bind_some r7
  refine w_mid (fun α H14 => ∃ o10, z13 = Sum.inr o10 ∧ Has α [] ∧ H = H14) (fun K16 k16 => ?_) (fun α H14 hM => ?_)
  ·refine w_block ?_
   obtain ⟨n18, hn19⟩ := loopO_iff.1 hx11
   refine w_loopn (fun n α H20 => ∃ (i0 : Int), iterO (fun zz_ => z_viaductref03_SameArcs_l0 a b zz_) n i0 = some z13 ∧ Has α [(0, hd_a), (1, hd_b), (12, .int .i64 (a.length : Int)), (13, .int .i64 i0)] ∧ H = H20) n18 ⟨0, hn19, ⟨by kernel_rfl, by kernel_rfl, by kernel_rfl, by kernel_rfl, trivial⟩, rfl⟩ ?_
   rintro n18 α H20 ⟨i0, hi23, hh22, rfl⟩ K28 k28
   obtain ⟨n24, z25, rfl, hz26, hn27⟩ := iter_succ hi23
   obtain ⟨β, rfl⟩ := has_ex hh22
   clear hh22
   replace hz26 : z_viaductref03_SameArcs_l0 a b i0 = some z25 := hz26
   unfold z_viaductref03_SameArcs_l0 at hz26
   refine w_seqk fun K29 k29 => ?_
   refine w_reg (by kernel_rfl) ?_
   refine s_qk (.bool (decide (i0 < (a.length : Int)))) (by kernel_rfl) ?_
   refine s_nil ?_
   refine k29 _ _ ?_
   refine w_seqk fun K30 k30 => ?_
   refine w_condp (i0 < (a.length : Int)) (by kernel_rfl) rfl (fun h31 => ?_) (fun h31 => ?_)
   ·have r32 := ite_t h31 hz26
    refine w_skip ?_
    refine k30 _ _ ?_
    refine w_seqk fun K33 k33 => ?_
    refine w_block ?_
    refine w_seqk fun K34 k34 => ?_
    refine w_reg (by kernel_rfl) ?_
    refine s_qk (.int .i64 i0) (by kernel_rfl) ?_
    refine s_qk (.int .i64 i0) (by kernel_rfl) ?_
    refine s_nil ?_
    refine k34 _ _ ?_
    refine w_seqk fun K35 k35 => ?_
    refine w_draw [0, 1, 2, 3, 4, 5, 6, 7, 8] (by kernel_rfl) ?_
    refine d_qk (hd_a) (by kernel_rfl) ?_
    refine d_qk (.int .i64 i0) (by kernel_rfl) ?_
    obtain ⟨g36, r37⟩ := G_some r32
    refine d_ql (elp hd_a 3 i0.toNat 0) (x := aIndexAddr Tryd.prog 22 hd_a (.int .i64 i0)) (by kernel_rfl) (h_a.idxb (by kernel_rfl) g36 h31) ?_
    refine d_ql (.agg #[.int .i64 ((gt a i0).1), .int .i64 ((gt a i0).2.1), .int .i64 ((gt a i0).2.2)]) (x := aLoad Tryd.prog 51 (elp hd_a 3 i0.toNat 0) H) (by kernel_rfl) (h_a.ld g36 h31 (by kernel_rfl)) ?_
    refine d_qk (hd_b) (by kernel_rfl) ?_
    refine d_qk (.int .i64 i0) (by kernel_rfl) ?_
    obtain ⟨g38, r39⟩ := G_some r37
    refine d_ql (elp hd_b 3 i0.toNat 0) (x := aIndexAddr Tryd.prog 22 hd_b (.int .i64 i0)) (by kernel_rfl) (h_b.idxb (by kernel_rfl) g36 g38) ?_
    refine d_ql (.agg #[.int .i64 ((gt b i0).1), .int .i64 ((gt b i0).2.1), .int .i64 ((gt b i0).2.2)]) (x := aLoad Tryd.prog 51 (elp hd_b 3 i0.toNat 0) H) (by kernel_rfl) (h_b.ld g36 g38 (by kernel_rfl)) ?_
    refine d_ql (.bool (!decide (((gt a i0).1) = ((gt b i0).1) ∧ ((gt a i0).2.1) = ((gt b i0).2.1) ∧ ((gt a i0).2.2) = ((gt b i0).2.2)))) (x := aBin Tryd.prog .neq 51 (.tmp 19) (.tmp 23) (.agg #[.int .i64 ((gt a i0).1), .int .i64 ((gt a i0).2.1), .int .i64 ((gt a i0).2.2)]) (.agg #[.int .i64 ((gt b i0).1), .int .i64 ((gt b i0).2.1), .int .i64 ((gt b i0).2.2)])) (by kernel_rfl) (aBin_neq51 _ _ ((gt a i0).1) ((gt a i0).2.1) ((gt a i0).2.2) ((gt b i0).1) ((gt b i0).2.1) ((gt b i0).2.2)) ?_
    refine d_nil ?_
    refine k35 _ _ ?_
    refine w_condn (((gt a i0).1) = ((gt b i0).1) ∧ ((gt a i0).2.1) = ((gt b i0).2.1) ∧ ((gt a i0).2.2) = ((gt b i0).2.2)) (by kernel_rfl) rfl (fun h40 => ?_) (fun h40 => ?_)
    ·have r41 := ite_f h40 r39
     refine w_seqk fun K42 k42 => ?_
     refine w_reg (by kernel_rfl) ?_
     refine s_qk (.bool false) (by kernel_rfl) ?_
     refine s_nil ?_
     refine k42 _ _ ?_
     refine w_ret (bl_ret (th_ret (th_ret (bl_ret (th_ret (th_ret ?_))))))
     obtain ⟨v43, hv44, hz45⟩ := map_some r41
     subst hz45
     obtain rfl := it_inr hn27
     have hq46 := elim_inl r12
     rw [hq46] at hv44
     refine b_ret (fn := Tryd.f36) (vs := [.bool false]) (aRes_tmp (by kernel_rfl) (rfl)) ?_
     obtain rfl := Option.some.inj hv44
     exact ⟨rfl, rfl⟩
    ·have r47 := ite_t h40 r39
     refine w_skip ?_
     refine k33 _ _ ?_
     refine w_reg (by kernel_rfl) ?_
     obtain ⟨g48, r49⟩ := G_some r47
     refine s_w ((i0 + 1)) (k := .i64) (x := (i0 + 1)) (by kernel_rfl) (wrap64 (by have := g48; omega)) ?_
     refine s_qk (.int .i64 (i0 + 1)) (by kernel_rfl) ?_
     refine s_nil ?_
     obtain rfl := Option.some.inj r49
     exact k28 n24 _ _ (Nat.lt_succ_self _) ⟨(i0 + 1), hn27, ⟨by kernel_rfl, by kernel_rfl, by kernel_rfl, by kernel_rfl, trivial⟩, rfl⟩
   ·have r50 := ite_f h31 hz26
    refine w_exit (th_exit (th_exit (bl_eq ?_)))
    obtain rfl := Option.some.inj r50
    obtain rfl := it_inr hn27
    exact k16 _ _ ⟨_, rfl, trivial, rfl⟩
  ·obtain ⟨o10, rfl, hh17, rfl⟩ := hM
   have r51 := elim_inr r12
   obtain ⟨β, rfl⟩ := has_ex hh17
   clear hh17
   refine k8 _ _ ?_
   refine w_seqk fun K52 k52 => ?_
   refine w_reg (by kernel_rfl) ?_
   refine s_qk (.bool true) (by kernel_rfl) ?_
   refine s_nil ?_
   refine k52 _ _ ?_
   refine w_ret ?_
   refine b_ret (fn := Tryd.f36) (vs := [.bool true]) (aRes_tmp (by kernel_rfl) (rfl)) ?_
   obtain rfl := Option.some.inj r51
   exact ⟨rfl, rfl⟩

theorem c_viaductref03_Same {H : AH} {hd_Arcs : Value} {fp_Arcs : Fp} {hd_Arcs_ : Value} {fp_Arcs_ : Fp} {N_ : Int} {Arcs : List (Int × Int × Int)} {N_2 : Int} {Arcs_ : List (Int × Int × Int)} {r : Bool}
  (wf : WF H) (h_Arcs : Sq enc_i64_i64_i64 3 H hd_Arcs Arcs fp_Arcs) (h_Arcs_ : Sq enc_i64_i64_i64 3 H hd_Arcs_ Arcs_ fp_Arcs_) (hr : z_viaductref03_Same N_ Arcs N_2 Arcs_ = some r) :
  ACalls Tryd.prog 15 #[.agg #[.int .i64 N_, hd_Arcs], .agg #[.int .i64 N_2, hd_Arcs_]] H fun v H' => v = .bool r ∧ FrS [] H H' := by
 refine acalls_of_body mixed Tryd.func15 rfl (Nat.le_of_ble_eq_true rfl) ?_
 unfold z_viaductref03_Same at hr
 refine w_seqk fun K1 k1 => ?_
 refine w_reg (by kernel_rfl) ?_
 refine s_rwl wf [.int .i64 N_, hd_Arcs] (one_cons (rfl) (one_cons (h_Arcs.one1) (one_nil))) (by kernel_rfl) fun b2 H3 e4 hb5 r6 => ?_
 have u13 := (h_Arcs_.ext e4)
 refine s_rwl e4.wf [.int .i64 N_2, hd_Arcs_] (one_cons (rfl) (one_cons (u13.one1) (one_nil))) (by kernel_rfl) fun b8 H9 e10 hb11 r12 => ?_
 refine s_qk (.bool false) (by kernel_rfl) ?_
 refine s_nil ?_
 refine k1 _ _ ?_
 refine w_seqk fun K15 k15 => ?_
 refine w_reg (by kernel_rfl) ?_
 refine s_qk (.pointer (some ⟨b2, 0, none⟩)) (by kernel_rfl) ?_
 have u16 := (r6.ext e10)
 refine s_ql (.int .i64 N_) (x := aLoad Tryd.prog 3 (.pointer (some ⟨b2, 0, none⟩)) H9) (by kernel_rfl) (u16.ld (by kernel_rfl)) ?_
 refine s_qk (.pointer (some ⟨b8, 0, none⟩)) (by kernel_rfl) ?_
 refine s_ql (.int .i64 N_2) (x := aLoad Tryd.prog 3 (.pointer (some ⟨b8, 0, none⟩)) H9) (by kernel_rfl) (r12.ld (by kernel_rfl)) ?_
 refine s_b (N_ = N_2) (by kernel_rfl) (fun h17 => ?_) (fun h17 => ?_)
 ·have r18 := ite_t h17 hr
  refine s_qk (.bool true) (by kernel_rfl) ?_
  refine s_qk (.pointer (some ⟨b2, 1, none⟩)) (by kernel_rfl) ?_
  refine s_ql (hd_Arcs) (x := aLoad Tryd.prog 22 (.pointer (some ⟨b2, 1, none⟩)) H9) (by kernel_rfl) (u16.ld (by kernel_rfl)) ?_
  refine s_qk (.pointer (some ⟨b8, 1, none⟩)) (by kernel_rfl) ?_
  refine s_ql (hd_Arcs_) (x := aLoad Tryd.prog 22 (.pointer (some ⟨b8, 1, none⟩)) H9) (by kernel_rfl) (r12.ld (by kernel_rfl)) ?_
  have u19 := ((h_Arcs.ext e4).ext e10)
  have u20 := (u13.ext e10)
  obtain ⟨y21, hy22, r23⟩ := bind_some r18
  refine s_ck 36 #[hd_Arcs, hd_Arcs_] (by kernel_rfl) (c_viaductref03_SameArcs e10.wf u19 u20 hy22) ?_
  rintro _ _ ⟨rfl, rfl⟩
  refine s_qk (.bool y21) (by kernel_rfl) ?_
  refine s_qk (.bool y21) (by kernel_rfl) ?_
  refine s_nil ?_
  refine k15 _ _ ?_
  refine w_ret ?_
  refine b_ret (fn := Tryd.f15) (vs := [.bool y21]) (aRes_tmp (by kernel_rfl) (rfl)) ?_
  obtain rfl := Option.some.inj r23
  exact ⟨rfl, (((FrS.refl (W := []) wf).extR e4).extR e10)⟩
 ·have r26 := ite_f h17 hr
  refine s_qk (.bool false) (by kernel_rfl) ?_
  refine s_no (by kernel_rfl) ?_
  refine s_no (by kernel_rfl) ?_
  refine s_no (by kernel_rfl) ?_
  refine s_no (by kernel_rfl) ?_
  refine s_no (by kernel_rfl) ?_
  refine s_qk (.bool false) (by kernel_rfl) ?_
  refine s_qk (.bool false) (by kernel_rfl) ?_
  refine s_nil ?_
  refine k15 _ _ ?_
  refine w_ret ?_
  refine b_ret (fn := Tryd.f15) (vs := [.bool false]) (aRes_tmp (by kernel_rfl) (rfl)) ?_
  obtain rfl := Option.some.inj r26
  exact ⟨rfl, (((FrS.refl (W := []) wf).extR e4).extR e10)⟩


end Go.Vd

/-! (KNo2) -/

set_option maxRecDepth 100000
set_option maxHeartbeats 4000000
set_option linter.unusedVariables false
namespace Go.Vd
open Go.Proofs
attribute [local irreducible] wpSeq wpOrd aWp
theorem c_viaductseen_Same {H : AH} {ev_err : Value} {fp_err : Fp} {hd_Places : Value} {fp_Places : Fp} {err : Er} {Code : Int} {Places : List (Int × Int)} {r : Bool}
  (wf : WF H) (h_err : Ev 53 90 H ev_err err fp_err) (h_Places : Sq enc_i64_i64 2 H hd_Places Places fp_Places) (hr : z_viaductseen_Same err Code Places = some r) :
  ACalls Tryd.prog 16 #[ev_err, .agg #[.int .i64 Code, hd_Places]] H fun v H' => v = .bool r ∧ FrS [] H H' := by
 refine acalls_of_body mixed Tryd.func16 rfl (Nat.le_of_ble_eq_true rfl) ?_
 unfold z_viaductseen_Same at hr
 refine w_seqk fun K1 k1 => ?_
 refine w_reg (by kernel_rfl) ?_
 refine s_rwl wf [.int .i64 Code, hd_Places] (one_cons (rfl) (one_cons (h_Places.one1) (one_nil))) (by kernel_rfl) fun b2 H3 e4 hb5 r6 => ?_
 refine s_qk (.bool false) (by kernel_rfl) ?_
 refine s_nil ?_
 refine k1 _ _ ?_
 refine w_seqk fun K8 k8 => ?_
 refine w_seqk fun K9 k9 => ?_
 refine w_reg (by kernel_rfl) ?_
 refine s_ql (.agg #[.int .i64 Code, hd_Places]) (x := aLoad Tryd.prog 33 (.pointer (some ⟨b2, 0, none⟩)) H3) (by kernel_rfl) (r6.ld (by kernel_rfl)) ?_
 have u10 := (h_Places.ext e4)
 obtain ⟨y11, hy12, r13⟩ := bind_some hr
 refine s_ck 53 #[.agg #[.int .i64 Code, hd_Places]] (by kernel_rfl) (c_viaductref01_Err_Bad e4.wf u10 hy12) ?_
 rintro _ H14 ⟨rfl, e15⟩
 refine s_qk (.bool (!y11)) (by kernel_rfl) ?_
 refine s_nil ?_
 refine k9 _ _ ?_
 refine w_cond ((!y11)) (by kernel_rfl) rfl (fun h16 => ?_) (fun h16 => ?_)
 ·have r17 := ite_t h16 r13
  refine w_seqk fun K18 k18 => ?_
  refine w_reg (by kernel_rfl) ?_
  refine s_qk (ev_err) (by kernel_rfl) ?_
  have u22 := ((h_err.ext e4).fr e15 Dj.nil_l)
  rcases (u22).cases with ⟨h19, rfl⟩ | ⟨h19, t20, x21, rfl⟩
  ·have r23 := ite_t h19 r17
   refine s_qk (.bool true) (by kernel_rfl) ?_
   refine s_qk (.bool true) (by kernel_rfl) ?_
   refine s_nil ?_
   refine k18 _ _ ?_
   refine w_ret (th_ret ?_)
   refine b_ret (fn := Tryd.f16) (vs := [.bool true]) (aRes_tmp (by kernel_rfl) (rfl)) ?_
   obtain rfl := Option.some.inj r23
   exact ⟨rfl, (FrS.step wf ((FrS.refl (W := []) wf).extR e4) e15 Inn.nil)⟩
  ·have r24 := ite_f h19 r17
   refine s_ql (.bool false) (x := aBin Tryd.prog .eql 28 (.tmp 15) (.const .nilIface) (.iface t20 x21) .nilIface) (by kernel_rfl) (aBin_nil (by kernel_rfl)) ?_
   refine s_qk (.bool false) (by kernel_rfl) ?_
   refine s_nil ?_
   refine k18 _ _ ?_
   refine w_ret (th_ret ?_)
   refine b_ret (fn := Tryd.f16) (vs := [.bool false]) (aRes_tmp (by kernel_rfl) (rfl)) ?_
   obtain rfl := Option.some.inj r24
   exact ⟨rfl, (FrS.step wf ((FrS.refl (W := []) wf).extR e4) e15 Inn.nil)⟩
 ·have r25 := ite_bf h16 r13
  refine w_skip ?_
  refine k8 _ _ ?_
  refine w_seqk fun K26 k26 => ?_
  refine w_seqk fun K27 k27 => ?_
  refine w_reg (by kernel_rfl) ?_
  refine s_qk (ev_err) (by kernel_rfl) ?_
  have u31 := ((h_err.ext e4).fr e15 Dj.nil_l)
  rcases (u31).cases with ⟨h28, rfl⟩ | ⟨h28, t29, x30, rfl⟩
  ·have r32 := ite_t h28 r25
   refine s_qk (.bool true) (by kernel_rfl) ?_
   refine s_nil ?_
   refine k27 _ _ ?_
   refine w_cond true (by kernel_rfl) rfl (fun _ => ?_) (fun h => by cases h)
   refine w_seqk fun K33 k33 => ?_
   refine w_reg (by kernel_rfl) ?_
   refine s_qk (.bool false) (by kernel_rfl) ?_
   refine s_nil ?_
   refine k33 _ _ ?_
   refine w_ret (th_ret ?_)
   refine b_ret (fn := Tryd.f16) (vs := [.bool false]) (aRes_tmp (by kernel_rfl) (rfl)) ?_
   obtain rfl := Option.some.inj r32
   exact ⟨rfl, (FrS.step wf ((FrS.refl (W := []) wf).extR e4) e15 Inn.nil)⟩
  ·have r34 := ite_f h28 r25
   refine s_ql (.bool false) (x := aBin Tryd.prog .eql 28 (.tmp 17) (.const .nilIface) (.iface t29 x30) .nilIface) (by kernel_rfl) (aBin_nil (by kernel_rfl)) ?_
   refine s_nil ?_
   refine k27 _ _ ?_
   refine w_cond false (by kernel_rfl) rfl (fun h => by cases h) (fun _ => ?_)
   refine w_skip ?_
   refine k26 _ _ ?_
   refine w_seqk fun K35 k35 => ?_
   refine w_reg (by kernel_rfl) ?_
   refine s_qk (.iface t29 x30) (by kernel_rfl) ?_
   refine s_qk (.iface t29 x30) (by kernel_rfl) ?_
   refine s_nil ?_
   refine k35 _ _ ?_
   refine w_seqk fun K36 k36 => ?_
   refine w_seqk fun K37 k37 => ?_
   refine w_reg (by kernel_rfl) ?_
   refine s_qk (.pointer (some ⟨b2, 1, none⟩)) (by kernel_rfl) ?_
   have u38 := (r6.frS e15 Dj.nil_l)
   refine s_ql (hd_Places) (x := aLoad Tryd.prog 31 (.pointer (some ⟨b2, 1, none⟩)) H14) (by kernel_rfl) (u38.ld (by kernel_rfl)) ?_
   have u39 := (u10.fr e15 Dj.nil_l)
   refine s_ql (.int .i64 (Places.length : Int)) (x := aLen Tryd.prog 31 hd_Places H14) (by kernel_rfl) (u39.lenb (by kernel_rfl)) ?_
   refine s_qk (.int .i64 0) (by kernel_rfl) ?_
   refine s_nil ?_
   refine k37 _ _ ?_
   obtain ⟨z43, hx41, r42⟩ := bind_some r34
   refine w_mid (fun α H44 => ∃ o40, z43 = Sum.inr o40 ∧ ∃ (v48 : Value), Has α [(0, .iface t29 x30), (3, .pointer (some ⟨b2, 0, none⟩)), (5, v48)] ∧ FrS [] H14 H44 ∧ Ev 53 90 H44 v48 o40 fp_err) (fun K49 k49 => ?_) (fun α H44 hM => ?_)
   ·refine w_block ?_
    obtain ⟨n51, hn52⟩ := loopO_iff.1 hx41
    refine w_loopn (fun n α H53 => ∃ (i0 : Int), ∃ (e1 : Er), ∃ (v57 : Value), iterO (fun zz_ => z_viaductseen_Same_l0 Places zz_.1 zz_.2) n (i0, e1) = some z43 ∧ Has α [(0, .iface t29 x30), (3, .pointer (some ⟨b2, 0, none⟩)), (5, v57), (21, hd_Places), (22, .int .i64 (Places.length : Int)), (23, .int .i64 i0)] ∧ FrS [] H14 H53 ∧ Ev 53 90 H53 v57 e1 fp_err) n51 ⟨0, err, (.iface t29 x30), hn52, ⟨by kernel_rfl, by kernel_rfl, by kernel_rfl, by kernel_rfl, by kernel_rfl, by kernel_rfl, trivial⟩, (FrS.refl (W := []) e15.wf), u31⟩ ?_
    rintro n51 α H53 ⟨i0, e1, v57, hi59, hh58, e54, m56⟩ K64 k64
    obtain ⟨n60, z61, rfl, hz62, hn63⟩ := iter_succ hi59
    obtain ⟨β, rfl⟩ := has_ex hh58
    clear hh58
    replace hz62 : z_viaductseen_Same_l0 Places i0 e1 = some z61 := hz62
    unfold z_viaductseen_Same_l0 at hz62
    refine w_seqk fun K65 k65 => ?_
    refine w_reg (by kernel_rfl) ?_
    refine s_qk (.bool (decide (i0 < (Places.length : Int)))) (by kernel_rfl) ?_
    refine s_nil ?_
    refine k65 _ _ ?_
    refine w_seqk fun K66 k66 => ?_
    refine w_condp (i0 < (Places.length : Int)) (by kernel_rfl) rfl (fun h67 => ?_) (fun h67 => ?_)
    ·have r68 := ite_t h67 hz62
     refine w_skip ?_
     refine k66 _ _ ?_
     refine w_seqk fun K69 k69 => ?_
     refine w_block ?_
     refine w_seqk fun K70 k70 => ?_
     refine w_reg (by kernel_rfl) ?_
     obtain ⟨g71, r72⟩ := G_some r68
     have u73 := (u39.fr e54 Dj.nil_l)
     refine s_ql (elp hd_Places 2 i0.toNat 0) (x := aIndexAddr Tryd.prog 31 hd_Places (.int .i64 i0)) (by kernel_rfl) (u73.idxb (by kernel_rfl) g71 h67) ?_
     refine s_ql (.agg #[.int .i64 ((gt Places i0).1), .int .i64 ((gt Places i0).2)]) (x := aLoad Tryd.prog 89 (elp hd_Places 2 i0.toNat 0) H53) (by kernel_rfl) (u73.ld g71 h67 (by kernel_rfl)) ?_
     refine s_rwk e54.wf [.int .i64 0, .int .i64 0] (by kernel_rfl) fun b74 H75 e76 hb77 r78 => ?_
     obtain ⟨H80, q81, e82, r83⟩ := Row.store (P := Tryd.prog) (t := 89) (p := 0) e76.wf r78 (.agg #[.int .i64 ((gt Places i0).1), .int .i64 ((gt Places i0).2)]) [.int .i64 ((gt Places i0).1), .int .i64 ((gt Places i0).2)] (by kernel_rfl) (by kernel_rfl) (one_cons (rfl) (one_cons (rfl) (one_nil))) (Nat.le_of_ble_eq_true (by kernel_rfl)) [.int .i64 ((gt Places i0).1), .int .i64 ((gt Places i0).2)] (by kernel_rfl)
     refine s_ek (undef) (by kernel_rfl) (map_ok q81) ?_
     refine s_nil ?_
     refine k70 _ _ ?_
     refine w_seqk fun K84 k84 => ?_
     refine w_reg (by kernel_rfl) ?_
     refine s_rwk e82.wf [.pointer none] (by kernel_rfl) fun b85 H86 e87 hb88 r89 => ?_
     refine s_nil ?_
     refine k84 _ _ ?_
     refine w_seqk fun K91 k91 => ?_
     refine w_seqk fun K92 k92 => ?_
     refine w_draw [0, 1, 2, 3, 4, 5, 6, 7, 8, 9, 10, 11, 12, 13, 14, 15] (by kernel_rfl) ?_
     refine d_qk (v57) (by kernel_rfl) ?_
     refine d_qk (.iface 92 (.pointer (some ⟨b85, 0, none⟩))) (by kernel_rfl) ?_
     by_cases h93 : Er.isAt e1 = true
     ·have r94 := ite_t h93 r72
      have u103 := (((m56.ext e76).fr e82 (hb77.djn (h_err.lt.le (ntr (ntr e4.next e15.next) e54.next)))).ext e87)
      refine d_ck 55 #[v57, .iface 92 (.pointer (some ⟨b85, 0, none⟩))] (by kernel_rfl) (a_asF_at e87.wf r89 (hb88.djn (h_err.lt.le (ntr (ntr (ntr (ntr e4.next e15.next) e54.next) e76.next) e82.next))) u103 h93) ?_
      rintro _ H95 ⟨rfl, e96, b98, u99, -, i100, r97, r101, v102⟩
      refine ⟨st_nil, ?_⟩
      refine d_qk (.bool false) (by kernel_rfl) ?_
      refine d_qk (.bool false) (by kernel_rfl) ?_
      refine d_ql (.pointer (some ⟨b98, 0, none⟩)) (x := aLoad Tryd.prog 90 (.pointer (some ⟨b85, 0, none⟩)) H95) (by kernel_rfl) (r97.ld (by kernel_rfl)) ?_
      refine d_qk (.bool false) (by kernel_rfl) ?_
      refine d_qk (.bool false) (by kernel_rfl) ?_
      refine d_qk (.bool false) (by kernel_rfl) ?_
      refine d_ql (.pointer (some ⟨b98, 0, none⟩)) (x := aLoad Tryd.prog 90 (.pointer (some ⟨b85, 0, none⟩)) H95) (by kernel_rfl) (r97.ld (by kernel_rfl)) ?_
      refine d_qk (.pointer (some ⟨b98, 0, none⟩)) (by kernel_rfl) ?_
      refine d_qk (.pointer (some ⟨b98, 0, none⟩)) (by kernel_rfl) ?_
      refine d_ql (.agg #[.int .i64 (Er.fk e1), .int .i64 (Er.fi e1)]) (x := aLoad Tryd.prog 89 (.pointer (some ⟨b98, 0, none⟩)) H95) (by kernel_rfl) (r101.ld (by kernel_rfl)) ?_
      have u106 := ((r83.ext e87).frS e96 (hb88.djn (r78.ltF.le e82.next)))
      refine d_ql (.agg #[.int .i64 ((gt Places i0).1), .int .i64 ((gt Places i0).2)]) (x := aLoad Tryd.prog 89 (.pointer (some ⟨b74, 0, none⟩)) H95) (by kernel_rfl) (u106.ld (by kernel_rfl)) ?_
      refine d_ql (.bool (!decide ((Er.fk e1) = ((gt Places i0).1) ∧ (Er.fi e1) = ((gt Places i0).2)))) (x := aBin Tryd.prog .neq 89 (.tmp 39) (.tmp 40) (.agg #[.int .i64 (Er.fk e1), .int .i64 (Er.fi e1)]) (.agg #[.int .i64 ((gt Places i0).1), .int .i64 ((gt Places i0).2)])) (by kernel_rfl) (aBin_neq89 _ _ (Er.fk e1) (Er.fi e1) ((gt Places i0).1) ((gt Places i0).2)) ?_
      refine d_qk (.bool (!decide ((Er.fk e1) = ((gt Places i0).1) ∧ (Er.fi e1) = ((gt Places i0).2)))) (by kernel_rfl) ?_
      refine d_nil ?_
      refine k92 _ _ ?_
      refine w_condn ((Er.fk e1) = ((gt Places i0).1) ∧ (Er.fi e1) = ((gt Places i0).2)) (by kernel_rfl) rfl (fun h107 => ?_) (fun h107 => ?_)
      ·have r108 := ite_f h107 r94
       refine w_seqk fun K109 k109 => ?_
       refine w_reg (by kernel_rfl) ?_
       refine s_qk (.bool false) (by kernel_rfl) ?_
       refine s_nil ?_
       refine k109 _ _ ?_
       refine w_ret (th_ret (bl_ret (th_ret (th_ret (bl_ret (th_ret (th_ret ?_)))))))
       obtain ⟨v110, hv111, hz112⟩ := map_some r108
       subst hz112
       obtain rfl := it_inr hn63
       have hq113 := elim_inl r42
       rw [hq113] at hv111
       refine b_ret (fn := Tryd.f16) (vs := [.bool false]) (aRes_tmp (by kernel_rfl) (rfl)) ?_
       obtain rfl := Option.some.inj hv111
       exact ⟨rfl, (FrS.step wf ((FrS.step wf ((FrS.step wf (FrS.step wf ((FrS.refl (W := []) wf).extR e4) e15 Inn.nil) e54 Inn.nil).extR e76) e82 (hb77.fresh (ntr (ntr e4.next e15.next) e54.next))).extR e87) e96 (hb88.fresh (ntr (ntr (ntr (ntr e4.next e15.next) e54.next) e76.next) e82.next)))⟩
      ·have r114 := ite_t h107 r94
       refine w_skip ?_
       refine k91 _ _ ?_
       refine w_reg (by kernel_rfl) ?_
       refine s_ql (.pointer (some ⟨b98, 0, none⟩)) (x := aLoad Tryd.prog 90 (.pointer (some ⟨b85, 0, none⟩)) H95) (by kernel_rfl) (r97.ld (by kernel_rfl)) ?_
       refine s_qk (.pointer (some ⟨b98, 0, none⟩)) (by kernel_rfl) ?_
       refine s_qk (.pointer (some ⟨b98, 2, none⟩)) (by kernel_rfl) ?_
       refine s_ql (u99) (x := aLoad Tryd.prog 28 (.pointer (some ⟨b98, 2, none⟩)) H95) (by kernel_rfl) (r101.ld (by kernel_rfl)) ?_
       refine s_qk (u99) (by kernel_rfl) ?_
       refine s_nil ?_
       refine k69 _ _ ?_
       refine w_reg (by kernel_rfl) ?_
       obtain ⟨g115, r116⟩ := G_some r114
       refine s_w ((i0 + 1)) (k := .i64) (x := (i0 + 1)) (by kernel_rfl) (wrap64 (by have := g115; omega)) ?_
       refine s_qk (.int .i64 (i0 + 1)) (by kernel_rfl) ?_
       refine s_nil ?_
       obtain rfl := Option.some.inj r116
       exact k64 n60 _ _ (Nat.lt_succ_self _) ⟨(i0 + 1), (Er.fe e1), (u99), hn63, ⟨by kernel_rfl, by kernel_rfl, by kernel_rfl, by kernel_rfl, by kernel_rfl, by kernel_rfl, trivial⟩, (FrS.step e15.wf ((FrS.step e15.wf ((FrS.step e15.wf (FrS.refl (W := []) e15.wf) e54 Inn.nil).extR e76) e82 (hb77.fresh e54.next)).extR e87) e96 (hb88.fresh (ntr (ntr e54.next e76.next) e82.next))), v102⟩
     ·have r117 := ite_f h93 r72
      have u118 := (((m56.ext e76).fr e82 (hb77.djn (h_err.lt.le (ntr (ntr e4.next e15.next) e54.next)))).ext e87)
      refine d_ck 55 #[v57, .iface 92 (.pointer (some ⟨b85, 0, none⟩))] (by kernel_rfl) (a_asF_no r89 u118 h93) ?_
      rintro _ _ ⟨rfl, rfl⟩
      refine ⟨st_nil, ?_⟩
      refine d_qk (.bool true) (by kernel_rfl) ?_
      refine d_qk (.bool true) (by kernel_rfl) ?_
      refine d_idle (by kernel_rfl) ?_
      refine d_idle (by kernel_rfl) ?_
      refine d_qk (.bool true) (by kernel_rfl) ?_
      refine d_qk (.bool true) (by kernel_rfl) ?_
      refine d_idle (by kernel_rfl) ?_
      refine d_idle (by kernel_rfl) ?_
      refine d_idle (by kernel_rfl) ?_
      refine d_idle (by kernel_rfl) ?_
      refine d_idle (by kernel_rfl) ?_
      refine d_idle (by kernel_rfl) ?_
      refine d_qk (.bool true) (by kernel_rfl) ?_
      refine d_nil ?_
      refine k92 _ _ ?_
      refine w_cond true (by kernel_rfl) rfl (fun _ => ?_) (fun h => by cases h)
      refine w_seqk fun K119 k119 => ?_
      refine w_reg (by kernel_rfl) ?_
      refine s_qk (.bool false) (by kernel_rfl) ?_
      refine s_nil ?_
      refine k119 _ _ ?_
      refine w_ret (th_ret (bl_ret (th_ret (th_ret (bl_ret (th_ret (th_ret ?_)))))))
      obtain ⟨v120, hv121, hz122⟩ := map_some r117
      subst hz122
      obtain rfl := it_inr hn63
      have hq123 := elim_inl r42
      rw [hq123] at hv121
      refine b_ret (fn := Tryd.f16) (vs := [.bool false]) (aRes_tmp (by kernel_rfl) (rfl)) ?_
      obtain rfl := Option.some.inj hv121
      exact ⟨rfl, ((FrS.step wf ((FrS.step wf (FrS.step wf ((FrS.refl (W := []) wf).extR e4) e15 Inn.nil) e54 Inn.nil).extR e76) e82 (hb77.fresh (ntr (ntr e4.next e15.next) e54.next))).extR e87)⟩
    ·have r124 := ite_f h67 hz62
     refine w_exit (th_exit (th_exit (bl_eq ?_)))
     obtain rfl := Option.some.inj r124
     obtain rfl := it_inr hn63
     exact k49 _ _ ⟨_, rfl, (v57), ⟨by kernel_rfl, by kernel_rfl, by kernel_rfl, trivial⟩, (FrS.step e15.wf (FrS.refl (W := []) e15.wf) e54 Inn.nil), m56⟩
   ·obtain ⟨o40, rfl, v48, hh50, e45, m47⟩ := hM
    have r125 := elim_inr r42
    obtain ⟨β, rfl⟩ := has_ex hh50
    clear hh50
    refine k36 _ _ ?_
    refine w_seqk fun K126 k126 => ?_
    refine w_reg (by kernel_rfl) ?_
    refine s_rwk e45.wf [.pointer none] (by kernel_rfl) fun b127 H128 e129 hb130 r131 => ?_
    refine s_nil ?_
    refine k126 _ _ ?_
    refine w_seqk fun K133 k133 => ?_
    refine w_seqk fun K134 k134 => ?_
    refine w_reg (by kernel_rfl) ?_
    refine s_qk (v48) (by kernel_rfl) ?_
    refine s_qk (.iface 92 (.pointer (some ⟨b127, 0, none⟩))) (by kernel_rfl) ?_
    by_cases h135 : Er.isAt o40 = true
    ·have r136 := ite_t h135 r125
     have u145 := (m47.ext e129)
     refine s_ck 55 #[v48, .iface 92 (.pointer (some ⟨b127, 0, none⟩))] (by kernel_rfl) (a_asF_at e129.wf r131 (hb130.djn (h_err.lt.le (ntr (ntr e4.next e15.next) e45.next))) u145 h135) ?_
     rintro _ H137 ⟨rfl, e138, b140, u141, -, i142, r139, r143, v144⟩
     refine s_nil ?_
     refine k134 _ _ ?_
     refine w_cond true (by kernel_rfl) rfl (fun _ => ?_) (fun h => by cases h)
     refine w_seqk fun K148 k148 => ?_
     refine w_reg (by kernel_rfl) ?_
     refine s_qk (.bool false) (by kernel_rfl) ?_
     refine s_nil ?_
     refine k148 _ _ ?_
     refine w_ret (th_ret ?_)
     refine b_ret (fn := Tryd.f16) (vs := [.bool false]) (aRes_tmp (by kernel_rfl) (rfl)) ?_
     obtain rfl := Option.some.inj r136
     exact ⟨rfl, (FrS.step wf ((FrS.step wf (FrS.step wf ((FrS.refl (W := []) wf).extR e4) e15 Inn.nil) e45 Inn.nil).extR e129) e138 (hb130.fresh (ntr (ntr e4.next e15.next) e45.next)))⟩
    ·have r149 := ite_f h135 r125
     have u150 := (m47.ext e129)
     refine s_ck 55 #[v48, .iface 92 (.pointer (some ⟨b127, 0, none⟩))] (by kernel_rfl) (a_asF_no r131 u150 h135) ?_
     rintro _ _ ⟨rfl, rfl⟩
     refine s_nil ?_
     refine k134 _ _ ?_
     refine w_cond false (by kernel_rfl) rfl (fun h => by cases h) (fun _ => ?_)
     refine w_skip ?_
     refine k133 _ _ ?_
     refine w_seqk fun K151 k151 => ?_
     refine w_reg (by kernel_rfl) ?_
     refine s_rwk e129.wf [.int .i64 0] (by kernel_rfl) fun b152 H153 e154 hb155 r156 => ?_
     refine s_nil ?_
     refine k151 _ _ ?_
     refine w_seqk fun K158 k158 => ?_
     refine w_seqk fun K159 k159 => ?_
     obtain ⟨o160, hx161, r162⟩ := bind_some r149
     refine w_mid (fun α H163 => Has α [(0, .iface t29 x30), (3, .pointer (some ⟨b2, 0, none⟩)), (60, .bool o160)] ∧ FrS [b152] H153 H163) (fun K165 k165 => ?_) (fun α H163 hM => ?_)
     ·refine w_reg (by kernel_rfl) ?_
      refine s_qk (.iface t29 x30) (by kernel_rfl) ?_
      refine s_qk (.iface 95 (.pointer (some ⟨b152, 0, none⟩))) (by kernel_rfl) ?_
      by_cases h167 : (Er.num err).isSome = true
      ·have r168 := ite_t h167 hx161
       have u172 := (((u31.fr e45 Dj.nil_l).ext e129).ext e154)
       refine s_ck 55 #[.iface t29 x30, .iface 95 (.pointer (some ⟨b152, 0, none⟩))] (by kernel_rfl) (a_asN_y e154.wf r156 u172 h28 h167) ?_
       rintro _ H169 ⟨rfl, e170, r171⟩
       refine s_qk (.bool false) (by kernel_rfl) ?_
       refine s_qk (.bool false) (by kernel_rfl) ?_
       refine s_ql (.int .i64 ((Er.num err).getD 0)) (x := aLoad Tryd.prog 53 (.pointer (some ⟨b152, 0, none⟩)) H169) (by kernel_rfl) (r171.ld (by kernel_rfl)) ?_
       refine s_qk (.pointer (some ⟨b2, 0, none⟩)) (by kernel_rfl) ?_
       have u173 := ((((u38.frS e45 Dj.nil_l).ext e129).ext e154).frS e170 (hb155.djn (r6.ltF.le (ntr (ntr e15.next e45.next) e129.next))))
       refine s_ql (.int .i64 Code) (x := aLoad Tryd.prog 3 (.pointer (some ⟨b2, 0, none⟩)) H169) (by kernel_rfl) (u173.ld (by kernel_rfl)) ?_
       refine s_qk (.bool (!decide (((Er.num err).getD 0) = Code))) (by kernel_rfl) ?_
       refine s_qk (.bool (!decide (((Er.num err).getD 0) = Code))) (by kernel_rfl) ?_
       refine s_nil ?_
       obtain rfl := Option.some.inj r168
       exact k165 _ _ ⟨⟨by kernel_rfl, by kernel_rfl, by kernel_rfl, trivial⟩, (FrS.step e154.wf (FrS.refl (W := [b152]) e154.wf) e170 Inn.refl')⟩
      ·have r174 := ite_f h167 hx161
       have u178 := (((u31.fr e45 Dj.nil_l).ext e129).ext e154)
       refine s_ck 55 #[.iface t29 x30, .iface 95 (.pointer (some ⟨b152, 0, none⟩))] (by kernel_rfl) (a_asN_n e154.wf r156 u178 h28 h167) ?_
       rintro _ H175 ⟨rfl, e176, r177⟩
       refine s_qk (.bool true) (by kernel_rfl) ?_
       refine s_qk (.bool true) (by kernel_rfl) ?_
       refine s_no (by kernel_rfl) ?_
       refine s_no (by kernel_rfl) ?_
       refine s_no (by kernel_rfl) ?_
       refine s_no (by kernel_rfl) ?_
       refine s_qk (.bool true) (by kernel_rfl) ?_
       refine s_nil ?_
       obtain rfl := Option.some.inj r174
       exact k165 _ _ ⟨⟨by kernel_rfl, by kernel_rfl, by kernel_rfl, trivial⟩, (FrS.step e154.wf (FrS.refl (W := [b152]) e154.wf) e176 Inn.refl')⟩
     ·obtain ⟨hh166, e164⟩ := hM
      obtain ⟨β, rfl⟩ := has_ex hh166
      clear hh166
      refine k159 _ _ ?_
      refine w_cond (o160) (by kernel_rfl) rfl (fun h179 => ?_) (fun h179 => ?_)
      ·have r180 := ite_t h179 r162
       refine w_seqk fun K181 k181 => ?_
       refine w_reg (by kernel_rfl) ?_
       refine s_qk (.bool false) (by kernel_rfl) ?_
       refine s_nil ?_
       refine k181 _ _ ?_
       refine w_ret (th_ret ?_)
       refine b_ret (fn := Tryd.f16) (vs := [.bool false]) (aRes_tmp (by kernel_rfl) (rfl)) ?_
       obtain rfl := Option.some.inj r180
       exact ⟨rfl, (FrS.step wf (((FrS.step wf (FrS.step wf ((FrS.refl (W := []) wf).extR e4) e15 Inn.nil) e45 Inn.nil).extR e129).extR e154) e164 (hb155.fresh (ntr (ntr (ntr e4.next e15.next) e45.next) e129.next)))⟩
      ·have r182 := ite_bf h179 r162
       refine w_skip ?_
       refine k158 _ _ ?_
       refine w_seqk fun K183 k183 => ?_
       refine w_seqk fun K184 k184 => ?_
       refine w_reg (by kernel_rfl) ?_
       refine s_qk (.int .i64 1) (by kernel_rfl) ?_
       refine s_nil ?_
       refine k184 _ _ ?_
       obtain ⟨z188, hx186, r187⟩ := bind_some r182
       refine w_mid (fun α H189 => ∃ o185, z188 = Sum.inr o185 ∧ Has α [] ∧ H163 = H189) (fun K191 k191 => ?_) (fun α H189 hM => ?_)
       ·refine w_block ?_
        obtain ⟨n193, hn194⟩ := loopO_iff.1 hx186
        refine w_loopn (fun n α H195 => ∃ (i2 : Int), iterO (fun zz_ => z_viaductseen_Same_l1 err Code zz_) n i2 = some z188 ∧ Has α [(0, .iface t29 x30), (3, .pointer (some ⟨b2, 0, none⟩)), (11, .int .i64 i2)] ∧ H163 = H195) n193 ⟨1, hn194, ⟨by kernel_rfl, by kernel_rfl, by kernel_rfl, trivial⟩, rfl⟩ ?_
        rintro n193 α H195 ⟨i2, hi198, hh197, rfl⟩ K203 k203
        obtain ⟨n199, z200, rfl, hz201, hn202⟩ := iter_succ hi198
        obtain ⟨β, rfl⟩ := has_ex hh197
        clear hh197
        replace hz201 : z_viaductseen_Same_l1 err Code i2 = some z200 := hz201
        unfold z_viaductseen_Same_l1 at hz201
        refine w_seqk fun K204 k204 => ?_
        refine w_seqk fun K205 k205 => ?_
        refine w_reg (by kernel_rfl) ?_
        refine s_qk (.int .i64 i2) (by kernel_rfl) ?_
        refine s_qk (.bool (decide (i2 ≤ 20))) (by kernel_rfl) ?_
        refine s_nil ?_
        refine k205 _ _ ?_
        refine w_condp (i2 ≤ 20) (by kernel_rfl) rfl (fun h206 => ?_) (fun h206 => ?_)
        ·have r207 := ite_t h206 hz201
         refine w_skip ?_
         refine k204 _ _ ?_
         refine w_seqk fun K208 k208 => ?_
         refine w_block ?_
         refine w_seqk fun K209 k209 => ?_
         refine w_draw [0, 1, 2, 4, 5, 6, 7, 3, 8] (by kernel_rfl) ?_
         refine d_qk (.iface t29 x30) (by kernel_rfl) ?_
         refine d_qk (.int .i64 i2) (by kernel_rfl) ?_
         refine d_qk (.iface 53 (.int .i64 i2)) (by kernel_rfl) ?_
         refine d_qk (.int .i64 i2) (by kernel_rfl) ?_
         refine d_qk (.pointer (some ⟨b2, 0, none⟩)) (by kernel_rfl) ?_
         have u210 := ((((u38.frS e45 Dj.nil_l).ext e129).ext e154).frS e164 (hb155.djn (r6.ltF.le (ntr (ntr e15.next e45.next) e129.next))))
         refine d_fl (.int .i64 Code) (x := aLoad Tryd.prog 3 (.pointer (some ⟨b2, 0, none⟩)) H163) (by kernel_rfl) (u210.ld (by kernel_rfl)) ?_
         refine d_qk (.bool (decide (i2 = Code))) (by kernel_rfl) ?_
         have u211 := ((((u31.fr e45 Dj.nil_l).ext e129).ext e154).fr e164 (hb155.djn (h_err.lt.le (ntr (ntr (ntr e4.next e15.next) e45.next) e129.next))))
         refine d_ck 56 #[.iface t29 x30, .iface 53 (.int .i64 i2)] (by kernel_rfl) (a_isN u211 h28) ?_
         rintro _ _ ⟨rfl, rfl⟩
         refine ⟨st_ql (y := aLoad Tryd.prog 3 (.pointer (some ⟨b2, 0, none⟩)) H163) (by kernel_rfl) (u210.ld (by kernel_rfl)) (st_nil), ?_⟩
         refine d_qk (.bool (!decide ((decide (Er.num err = some i2)) = (decide (i2 = Code))))) (by kernel_rfl) ?_
         refine d_nil ?_
         refine k209 _ _ ?_
         refine w_condn ((decide (Er.num err = some i2)) = (decide (i2 = Code))) (by kernel_rfl) rfl (fun h212 => ?_) (fun h212 => ?_)
         ·have r213 := ite_f h212 r207
          refine w_seqk fun K214 k214 => ?_
          refine w_reg (by kernel_rfl) ?_
          refine s_qk (.bool false) (by kernel_rfl) ?_
          refine s_nil ?_
          refine k214 _ _ ?_
          refine w_ret (bl_ret (th_ret (th_ret (bl_ret (th_ret (th_ret ?_))))))
          obtain ⟨v215, hv216, hz217⟩ := map_some r213
          subst hz217
          obtain rfl := it_inr hn202
          have hq218 := elim_inl r187
          rw [hq218] at hv216
          refine b_ret (fn := Tryd.f16) (vs := [.bool false]) (aRes_tmp (by kernel_rfl) (rfl)) ?_
          obtain rfl := Option.some.inj hv216
          exact ⟨rfl, (FrS.step wf (((FrS.step wf (FrS.step wf ((FrS.refl (W := []) wf).extR e4) e15 Inn.nil) e45 Inn.nil).extR e129).extR e154) e164 (hb155.fresh (ntr (ntr (ntr e4.next e15.next) e45.next) e129.next)))⟩
         ·have r219 := ite_t h212 r207
          refine w_skip ?_
          refine k208 _ _ ?_
          refine w_reg (by kernel_rfl) ?_
          refine s_qk (.int .i64 i2) (by kernel_rfl) ?_
          obtain ⟨g220, r221⟩ := G_some r219
          refine s_w ((i2 + 1)) (k := .i64) (x := (i2 + 1)) (by kernel_rfl) (wrap64 g220) ?_
          refine s_qk (.int .i64 (i2 + 1)) (by kernel_rfl) ?_
          refine s_nil ?_
          obtain rfl := Option.some.inj r221
          exact k203 n199 _ _ (Nat.lt_succ_self _) ⟨(i2 + 1), hn202, ⟨by kernel_rfl, by kernel_rfl, by kernel_rfl, trivial⟩, rfl⟩
        ·have r222 := ite_f h206 hz201
         refine w_exit (th_exit (th_exit (bl_eq ?_)))
         obtain rfl := Option.some.inj r222
         obtain rfl := it_inr hn202
         exact k191 _ _ ⟨_, rfl, trivial, rfl⟩
       ·obtain ⟨o185, rfl, hh192, rfl⟩ := hM
        have r223 := elim_inr r187
        obtain ⟨β, rfl⟩ := has_ex hh192
        clear hh192
        refine k183 _ _ ?_
        refine w_seqk fun K224 k224 => ?_
        refine w_reg (by kernel_rfl) ?_
        refine s_qk (.bool true) (by kernel_rfl) ?_
        refine s_nil ?_
        refine k224 _ _ ?_
        refine w_ret ?_
        refine b_ret (fn := Tryd.f16) (vs := [.bool true]) (aRes_tmp (by kernel_rfl) (rfl)) ?_
        obtain rfl := Option.some.inj r223
        exact ⟨rfl, (FrS.step wf (((FrS.step wf (FrS.step wf ((FrS.refl (W := []) wf).extR e4) e15 Inn.nil) e45 Inn.nil).extR e129).extR e154) e164 (hb155.fresh (ntr (ntr (ntr e4.next e15.next) e45.next) e129.next)))⟩

theorem c_slices_Equal {H : AH} {hd_s1 : Value} {fp_s1 : Fp} {hd_s2 : Value} {fp_s2 : Fp} {s1 : List (Int × Int × Int)} {s2 : List (Int × Int × Int)} {r : Bool}
  (wf : WF H) (h_s1 : Sq enc_i64_i64_i64 3 H hd_s1 s1 fp_s1) (h_s2 : Sq enc_i64_i64_i64 3 H hd_s2 s2 fp_s2) (hr : z_slices_Equal s1 s2 = some r) :
  ACalls Tryd.prog 57 #[hd_s1, hd_s2] H fun v H' => v = .bool r ∧ H = H' := by
 refine acalls_of_body mixed Tryd.func57 rfl (Nat.le_of_ble_eq_true rfl) ?_
 unfold z_slices_Equal at hr
 refine w_seqk fun K1 k1 => ?_
 refine w_reg (by kernel_rfl) ?_
 refine s_qk (.bool false) (by kernel_rfl) ?_
 refine s_nil ?_
 refine k1 _ _ ?_
 refine w_seqk fun K2 k2 => ?_
 refine w_seqk fun K3 k3 => ?_
 refine w_reg (by kernel_rfl) ?_
 refine s_qk (hd_s1) (by kernel_rfl) ?_
 refine s_ql (.int .i64 (s1.length : Int)) (x := aLen Tryd.prog 22 hd_s1 H) (by kernel_rfl) (h_s1.lenb (by kernel_rfl)) ?_
 refine s_qk (hd_s2) (by kernel_rfl) ?_
 refine s_ql (.int .i64 (s2.length : Int)) (x := aLen Tryd.prog 22 hd_s2 H) (by kernel_rfl) (h_s2.lenb (by kernel_rfl)) ?_
 refine s_qk (.bool (!decide ((s1.length : Int) = (s2.length : Int)))) (by kernel_rfl) ?_
 refine s_nil ?_
 refine k3 _ _ ?_
 refine w_condn ((s1.length : Int) = (s2.length : Int)) (by kernel_rfl) rfl (fun h4 => ?_) (fun h4 => ?_)
 ·have r5 := ite_f h4 hr
  refine w_seqk fun K6 k6 => ?_
  refine w_reg (by kernel_rfl) ?_
  refine s_qk (.bool false) (by kernel_rfl) ?_
  refine s_nil ?_
  refine k6 _ _ ?_
  refine w_ret (th_ret ?_)
  refine b_ret (fn := Tryd.f57) (vs := [.bool false]) (aRes_tmp (by kernel_rfl) (rfl)) ?_
  obtain rfl := Option.some.inj r5
  exact ⟨rfl, rfl⟩
 ·have r7 := ite_t h4 hr
  refine w_skip ?_
  refine k2 _ _ ?_
  refine w_seqk fun K8 k8 => ?_
  refine w_seqk fun K9 k9 => ?_
  refine w_reg (by kernel_rfl) ?_
  refine s_qk (hd_s1) (by kernel_rfl) ?_
  refine s_ql (.int .i64 (s1.length : Int)) (x := aLen Tryd.prog 22 hd_s1 H) (by kernel_rfl) (h_s1.lenb (by kernel_rfl)) ?_
  refine s_qk (.int .i64 0) (by kernel_rfl) ?_
  refine s_nil ?_
  refine k9 _ _ ?_
  obtain ⟨z13, hx11, r12⟩ := bind_some r7
  refine w_mid (fun α H14 => ∃ o10, z13 = Sum.inr o10 ∧ Has α [] ∧ H = H14) (fun K16 k16 => ?_) (fun α H14 hM => ?_)
  ·refine w_block ?_
   obtain ⟨n18, hn19⟩ := loopO_iff.1 hx11
   refine w_loopn (fun n α H20 => ∃ (i0 : Int), iterO (fun zz_ => z_slices_Equal_l0 s1 s2 zz_) n i0 = some z13 ∧ Has α [(0, hd_s1), (1, hd_s2), (12, .int .i64 (s1.length : Int)), (13, .int .i64 i0)] ∧ H = H20) n18 ⟨0, hn19, ⟨by kernel_rfl, by kernel_rfl, by kernel_rfl, by kernel_rfl, trivial⟩, rfl⟩ ?_
   rintro n18 α H20 ⟨i0, hi23, hh22, rfl⟩ K28 k28
   obtain ⟨n24, z25, rfl, hz26, hn27⟩ := iter_succ hi23
   obtain ⟨β, rfl⟩ := has_ex hh22
   clear hh22
   replace hz26 : z_slices_Equal_l0 s1 s2 i0 = some z25 := hz26
   unfold z_slices_Equal_l0 at hz26
   refine w_seqk fun K29 k29 => ?_
   refine w_reg (by kernel_rfl) ?_
   refine s_qk (.bool (decide (i0 < (s1.length : Int)))) (by kernel_rfl) ?_
   refine s_nil ?_
   refine k29 _ _ ?_
   refine w_seqk fun K30 k30 => ?_
   refine w_condp (i0 < (s1.length : Int)) (by kernel_rfl) rfl (fun h31 => ?_) (fun h31 => ?_)
   ·have r32 := ite_t h31 hz26
    refine w_skip ?_
    refine k30 _ _ ?_
    refine w_seqk fun K33 k33 => ?_
    refine w_block ?_
    refine w_seqk fun K34 k34 => ?_
    refine w_reg (by kernel_rfl) ?_
    refine s_qk (.int .i64 i0) (by kernel_rfl) ?_
    refine s_qk (.int .i64 i0) (by kernel_rfl) ?_
    refine s_nil ?_
    refine k34 _ _ ?_
    refine w_seqk fun K35 k35 => ?_
    refine w_draw [0, 1, 2, 3, 4, 5, 6, 7, 8] (by kernel_rfl) ?_
    refine d_qk (hd_s1) (by kernel_rfl) ?_
    refine d_qk (.int .i64 i0) (by kernel_rfl) ?_
    obtain ⟨g36, r37⟩ := G_some r32
    refine d_ql (elp hd_s1 3 i0.toNat 0) (x := aIndexAddr Tryd.prog 22 hd_s1 (.int .i64 i0)) (by kernel_rfl) (h_s1.idxb (by kernel_rfl) g36 h31) ?_
    refine d_ql (.agg #[.int .i64 ((gt s1 i0).1), .int .i64 ((gt s1 i0).2.1), .int .i64 ((gt s1 i0).2.2)]) (x := aLoad Tryd.prog 51 (elp hd_s1 3 i0.toNat 0) H) (by kernel_rfl) (h_s1.ld g36 h31 (by kernel_rfl)) ?_
    refine d_qk (hd_s2) (by kernel_rfl) ?_
    refine d_qk (.int .i64 i0) (by kernel_rfl) ?_
    obtain ⟨g38, r39⟩ := G_some r37
    refine d_ql (elp hd_s2 3 i0.toNat 0) (x := aIndexAddr Tryd.prog 22 hd_s2 (.int .i64 i0)) (by kernel_rfl) (h_s2.idxb (by kernel_rfl) g36 g38) ?_
    refine d_ql (.agg #[.int .i64 ((gt s2 i0).1), .int .i64 ((gt s2 i0).2.1), .int .i64 ((gt s2 i0).2.2)]) (x := aLoad Tryd.prog 51 (elp hd_s2 3 i0.toNat 0) H) (by kernel_rfl) (h_s2.ld g36 g38 (by kernel_rfl)) ?_
    refine d_ql (.bool (!decide (((gt s1 i0).1) = ((gt s2 i0).1) ∧ ((gt s1 i0).2.1) = ((gt s2 i0).2.1) ∧ ((gt s1 i0).2.2) = ((gt s2 i0).2.2)))) (x := aBin Tryd.prog .neq 51 (.tmp 19) (.tmp 23) (.agg #[.int .i64 ((gt s1 i0).1), .int .i64 ((gt s1 i0).2.1), .int .i64 ((gt s1 i0).2.2)]) (.agg #[.int .i64 ((gt s2 i0).1), .int .i64 ((gt s2 i0).2.1), .int .i64 ((gt s2 i0).2.2)])) (by kernel_rfl) (aBin_neq51 _ _ ((gt s1 i0).1) ((gt s1 i0).2.1) ((gt s1 i0).2.2) ((gt s2 i0).1) ((gt s2 i0).2.1) ((gt s2 i0).2.2)) ?_
    refine d_nil ?_
    refine k35 _ _ ?_
    refine w_condn (((gt s1 i0).1) = ((gt s2 i0).1) ∧ ((gt s1 i0).2.1) = ((gt s2 i0).2.1) ∧ ((gt s1 i0).2.2) = ((gt s2 i0).2.2)) (by kernel_rfl) rfl (fun h40 => ?_) (fun h40 => ?_)
    ·have r41 := ite_f h40 r39
     refine w_seqk fun K42 k42 => ?_
     refine w_reg (by kernel_rfl) ?_
     refine s_qk (.bool false) (by kernel_rfl) ?_
     refine s_nil ?_
     refine k42 _ _ ?_
     refine w_ret (bl_ret (th_ret (th_ret (bl_ret (th_ret (th_ret ?_))))))
     obtain ⟨v43, hv44, hz45⟩ := map_some r41
     subst hz45
     obtain rfl := it_inr hn27
     have hq46 := elim_inl r12
     rw [hq46] at hv44
     refine b_ret (fn := Tryd.f57) (vs := [.bool false]) (aRes_tmp (by kernel_rfl) (rfl)) ?_
     obtain rfl := Option.some.inj hv44
     exact ⟨rfl, rfl⟩
    ·have r47 := ite_t h40 r39
     refine w_skip ?_
     refine k33 _ _ ?_
     refine w_reg (by kernel_rfl) ?_
     obtain ⟨g48, r49⟩ := G_some r47
     refine s_w ((i0 + 1)) (k := .i64) (x := (i0 + 1)) (by kernel_rfl) (wrap64 (by have := g48; omega)) ?_
     refine s_qk (.int .i64 (i0 + 1)) (by kernel_rfl) ?_
     refine s_nil ?_
     obtain rfl := Option.some.inj r49
     exact k28 n24 _ _ (Nat.lt_succ_self _) ⟨(i0 + 1), hn27, ⟨by kernel_rfl, by kernel_rfl, by kernel_rfl, by kernel_rfl, trivial⟩, rfl⟩
   ·have r50 := ite_f h31 hz26
    refine w_exit (th_exit (th_exit (bl_eq ?_)))
    obtain rfl := Option.some.inj r50
    obtain rfl := it_inr hn27
    exact k16 _ _ ⟨_, rfl, trivial, rfl⟩
  ·obtain ⟨o10, rfl, hh17, rfl⟩ := hM
   have r51 := elim_inr r12
   obtain ⟨β, rfl⟩ := has_ex hh17
   clear hh17
   refine k8 _ _ ?_
   refine w_seqk fun K52 k52 => ?_
   refine w_reg (by kernel_rfl) ?_
   refine s_qk (.bool true) (by kernel_rfl) ?_
   refine s_nil ?_
   refine k52 _ _ ?_
   refine w_ret ?_
   refine b_ret (fn := Tryd.f57) (vs := [.bool true]) (aRes_tmp (by kernel_rfl) (rfl)) ?_
   obtain rfl := Option.some.inj r51
   exact ⟨rfl, rfl⟩

theorem c_normal_Is {H : AH} {hd_Arcs : Value} {fp_Arcs : Fp} {N_ : Int} {Arcs : List (Int × Int × Int)} {r : Bool × Er}
  (wf : WF H) (h_Arcs : Sq enc_i64_i64_i64 3 H hd_Arcs Arcs fp_Arcs) (hr : z_normal_Is N_ Arcs = some r) :
  ACalls Tryd.prog 17 #[.agg #[.int .i64 N_, hd_Arcs]] H fun v H' => ∃ (v3 : Value) (f4 : Fp), v = .tuple #[.bool r.1, v3] ∧ FrS [] H H' ∧ Ev 53 90 H' v3 r.2 f4 ∧ Inn [] H f4 := by
 refine acalls_of_body mixed Tryd.func17 rfl (Nat.le_of_ble_eq_true rfl) ?_
 unfold z_normal_Is at hr
 refine w_seqk fun K6 k6 => ?_
 refine w_reg (by kernel_rfl) ?_
 refine s_rwl wf [.int .i64 N_, hd_Arcs] (one_cons (rfl) (one_cons (h_Arcs.one1) (one_nil))) (by kernel_rfl) fun b7 H8 e9 hb10 r11 => ?_
 refine s_qk (.bool false) (by kernel_rfl) ?_
 refine s_qk (.nilIface) (by kernel_rfl) ?_
 refine s_nil ?_
 refine k6 _ _ ?_
 refine w_seqk fun K13 k13 => ?_
 refine w_reg (by kernel_rfl) ?_
 refine s_ql (.agg #[.int .i64 N_, hd_Arcs]) (x := aLoad Tryd.prog 24 (.pointer (some ⟨b7, 0, none⟩)) H8) (by kernel_rfl) (r11.ld (by kernel_rfl)) ?_
 have u14 := (h_Arcs.ext e9)
 obtain ⟨y15, hy16, r17⟩ := bind_some hr
 refine s_ck 13 #[.agg #[.int .i64 N_, hd_Arcs]] (by kernel_rfl) (c_normal_Of e9.wf u14 hy16) ?_
 rintro _ H22 ⟨s18, f19, v20, f21, rfl, e23, m24, m25, i26, i27, d28⟩
 obtain ⟨a31, n32, c33, rfl⟩ := m24.form
 refine s_qk (.tuple #[.agg #[.int .i64 y15.1, .slice a31 n32 c33], v20]) (by kernel_rfl) ?_
 refine s_qk (.agg #[.int .i64 y15.1, .slice a31 n32 c33]) (by kernel_rfl) ?_
 refine s_qk (v20) (by kernel_rfl) ?_
 refine s_rwk e23.wf [.int .i64 0, .slice none 0 0] (by kernel_rfl) fun b34 H35 e36 hb37 r38 => ?_
 have u44 := (m24.ext e36)
 obtain ⟨H40, q41, e42, r43⟩ := Row.store (P := Tryd.prog) (t := 24) (p := 0) e36.wf r38 (.agg #[.int .i64 y15.1, .slice a31 n32 c33]) [.int .i64 y15.1, .slice a31 n32 c33] (by kernel_rfl) (by kernel_rfl) (one_cons (rfl) (one_cons (u44.one1) (one_nil))) (Nat.le_of_ble_eq_true (by kernel_rfl)) [.int .i64 y15.1, .slice a31 n32 c33] (by kernel_rfl)
 refine s_ek (undef) (by kernel_rfl) (map_ok q41) ?_
 refine s_qk (v20) (by kernel_rfl) ?_
 refine s_nil ?_
 refine k13 _ _ ?_
 refine w_seqk fun K45 k45 => ?_
 refine w_reg (by kernel_rfl) ?_
 refine s_qk (v20) (by kernel_rfl) ?_
 have u49 := ((m25.ext e36).fr e42 (hb37.djn m25.lt))
 rcases (u49).cases with ⟨h46, rfl⟩ | ⟨h46, t47, x48, rfl⟩
 ·have r50 := ite_t h46 r17
  refine s_qk (.bool true) (by kernel_rfl) ?_
  refine s_qk (.bool true) (by kernel_rfl) ?_
  refine s_qk (.pointer (some ⟨b34, 1, none⟩)) (by kernel_rfl) ?_
  refine s_ql (.slice a31 n32 c33) (x := aLoad Tryd.prog 22 (.pointer (some ⟨b34, 1, none⟩)) H40) (by kernel_rfl) (r43.ld (by kernel_rfl)) ?_
  refine s_qk (.pointer (some ⟨b7, 1, none⟩)) (by kernel_rfl) ?_
  have u51 := (((r11.frS e23 Dj.nil_l).ext e36).frS e42 (hb37.djn (r11.ltF.le e23.next)))
  refine s_ql (hd_Arcs) (x := aLoad Tryd.prog 22 (.pointer (some ⟨b7, 1, none⟩)) H40) (by kernel_rfl) (u51.ld (by kernel_rfl)) ?_
  have u52 := (u44.fr e42 (hb37.djn m24.lt))
  have u53 := (((u14.fr e23 Dj.nil_l).ext e36).fr e42 (hb37.djn (h_Arcs.lt.le (ntr e9.next e23.next))))
  obtain ⟨y54, hy55, r56⟩ := bind_some r50
  refine s_ck 57 #[.slice a31 n32 c33, hd_Arcs] (by kernel_rfl) (c_slices_Equal e42.wf u52.sq u53 hy55) ?_
  rintro _ _ ⟨rfl, rfl⟩
  refine s_qk (.bool y54) (by kernel_rfl) ?_
  refine s_qk (.nilIface) (by kernel_rfl) ?_
  refine s_qk (.bool y54) (by kernel_rfl) ?_
  refine s_qk (.nilIface) (by kernel_rfl) ?_
  refine s_nil ?_
  refine k45 _ _ ?_
  refine w_ret ?_
  refine b_ret (fn := Tryd.f17) (vs := [.bool y54, .nilIface]) (aRes_tmp (by kernel_rfl) (aRes_tmp (by kernel_rfl) (rfl))) ?_
  obtain rfl := Option.some.inj r56
  exact ⟨(.nilIface), [], rfl, (FrS.step wf ((FrS.step wf ((FrS.refl (W := []) wf).extR e9) e23 Inn.nil).extR e36) e42 (hb37.fresh (ntr e9.next e23.next))), Ev.nil, Inn.nil⟩
 ·have r59 := ite_f h46 r17
  refine s_ql (.bool false) (x := aBin Tryd.prog .eql 28 (.tmp 11) (.const .nilIface) (.iface t47 x48) .nilIface) (by kernel_rfl) (aBin_nil (by kernel_rfl)) ?_
  refine s_qk (.bool false) (by kernel_rfl) ?_
  refine s_no (by kernel_rfl) ?_
  refine s_no (by kernel_rfl) ?_
  refine s_no (by kernel_rfl) ?_
  refine s_no (by kernel_rfl) ?_
  refine s_no (by kernel_rfl) ?_
  refine s_qk (.bool false) (by kernel_rfl) ?_
  refine s_qk (.iface t47 x48) (by kernel_rfl) ?_
  refine s_qk (.bool false) (by kernel_rfl) ?_
  refine s_qk (.iface t47 x48) (by kernel_rfl) ?_
  refine s_nil ?_
  refine k45 _ _ ?_
  refine w_ret ?_
  refine b_ret (fn := Tryd.f17) (vs := [.bool false, .iface t47 x48]) (aRes_tmp (by kernel_rfl) (aRes_tmp (by kernel_rfl) (rfl))) ?_
  obtain rfl := Option.some.inj r59
  exact ⟨(.iface t47 x48), f21, rfl, (FrS.step wf ((FrS.step wf ((FrS.refl (W := []) wf).extR e9) e23 Inn.nil).extR e36) e42 (hb37.fresh (ntr e9.next e23.next))), u49, (i27.fresh e9.next)⟩

theorem c_viaductref04_DocIs {H : AH} {hd_Arcs : Value} {fp_Arcs : Fp} {N_ : Int} {Arcs : List (Int × Int × Int)} {r : Bool × Int × List (Int × Int)}
  (wf : WF H) (h_Arcs : Sq enc_i64_i64_i64 3 H hd_Arcs Arcs fp_Arcs) (hr : z_viaductref04_DocIs N_ Arcs = some r) :
  ACalls Tryd.prog 18 #[.agg #[.int .i64 N_, hd_Arcs]] H fun v H' => ∃ (s3 : Value) (f4 : Fp), v = .tuple #[.bool r.1, .agg #[.int .i64 r.2.1, s3]] ∧ FrS [] H H' ∧ Ow enc_i64_i64 2 H' s3 r.2.2 f4 ∧ Inn [] H f4 := by
 refine acalls_of_body mixed Tryd.func18 rfl (Nat.le_of_ble_eq_true rfl) ?_
 unfold z_viaductref04_DocIs at hr
 refine w_seqk fun K6 k6 => ?_
 refine w_reg (by kernel_rfl) ?_
 refine s_rwl wf [.int .i64 N_, hd_Arcs] (one_cons (rfl) (one_cons (h_Arcs.one1) (one_nil))) (by kernel_rfl) fun b7 H8 e9 hb10 r11 => ?_
 refine s_qk (.bool false) (by kernel_rfl) ?_
 refine s_rwk e9.wf [.int .i64 0, .slice none 0 0] (by kernel_rfl) fun b13 H14 e15 hb16 r17 => ?_
 refine s_nil ?_
 refine k6 _ _ ?_
 refine w_seqk fun K19 k19 => ?_
 refine w_reg (by kernel_rfl) ?_
 have u20 := (r11.ext e15)
 refine s_ql (.agg #[.int .i64 N_, hd_Arcs]) (x := aLoad Tryd.prog 24 (.pointer (some ⟨b7, 0, none⟩)) H14) (by kernel_rfl) (u20.ld (by kernel_rfl)) ?_
 have u21 := ((h_Arcs.ext e9).ext e15)
 obtain ⟨y22, hy23, r24⟩ := bind_some hr
 refine s_ck 14 #[.agg #[.int .i64 N_, hd_Arcs]] (by kernel_rfl) (c_viaductref04_DocOf e15.wf u21 hy23) ?_
 rintro _ H29 ⟨s25, f26, s27, f28, rfl, e30, m31, m32, i33, i34, d35⟩
 obtain ⟨a38, n39, c40, rfl⟩ := m31.form
 obtain ⟨a41, n42, c43, rfl⟩ := m32.form
 refine s_qk (.tuple #[.agg #[.int .i64 y22.1, .slice a38 n39 c40], .agg #[.int .i64 y22.2.2.1, .slice a41 n42 c43]]) (by kernel_rfl) ?_
 refine s_qk (.agg #[.int .i64 y22.1, .slice a38 n39 c40]) (by kernel_rfl) ?_
 refine s_qk (.agg #[.int .i64 y22.2.2.1, .slice a41 n42 c43]) (by kernel_rfl) ?_
 refine s_rwk e30.wf [.int .i64 0, .slice none 0 0] (by kernel_rfl) fun b44 H45 e46 hb47 r48 => ?_
 refine s_rwk e46.wf [.int .i64 0, .slice none 0 0] (by kernel_rfl) fun b50 H51 e52 hb53 r54 => ?_
 have u60 := (r48.ext e52)
 have u61 := ((m31.ext e46).ext e52)
 obtain ⟨H56, q57, e58, r59⟩ := Row.store (P := Tryd.prog) (t := 24) (p := 0) e52.wf u60 (.agg #[.int .i64 y22.1, .slice a38 n39 c40]) [.int .i64 y22.1, .slice a38 n39 c40] (by kernel_rfl) (by kernel_rfl) (one_cons (rfl) (one_cons (u61.one1) (one_nil))) (Nat.le_of_ble_eq_true (by kernel_rfl)) [.int .i64 y22.1, .slice a38 n39 c40] (by kernel_rfl)
 refine s_ek (undef) (by kernel_rfl) (map_ok q57) ?_
 have u66 := (r54.frS e58 (Dj.symm (hb53.djn r48.ltF)))
 have u67 := (((m32.ext e46).ext e52).fr e58 (hb47.djn m32.lt))
 obtain ⟨H62, q63, e64, r65⟩ := Row.store (P := Tryd.prog) (t := 33) (p := 0) e58.wf u66 (.agg #[.int .i64 y22.2.2.1, .slice a41 n42 c43]) [.int .i64 y22.2.2.1, .slice a41 n42 c43] (by kernel_rfl) (by kernel_rfl) (one_cons (rfl) (one_cons (u67.one1) (one_nil))) (Nat.le_of_ble_eq_true (by kernel_rfl)) [.int .i64 y22.2.2.1, .slice a41 n42 c43] (by kernel_rfl)
 refine s_ek (undef) (by kernel_rfl) (map_ok q63) ?_
 refine s_nil ?_
 refine k19 _ _ ?_
 refine w_seqk fun K68 k68 => ?_
 refine w_draw [0, 8, 1, 2, 3, 4, 5, 6, 7, 9, 10] (by kernel_rfl) ?_
 refine d_ql (.agg #[.int .i64 y22.2.2.1, .slice a41 n42 c43]) (x := aLoad Tryd.prog 33 (.pointer (some ⟨b50, 0, none⟩)) H62) (by kernel_rfl) (r65.ld (by kernel_rfl)) ?_
 refine d_fl (.agg #[.int .i64 y22.2.2.1, .slice a41 n42 c43]) (x := aLoad Tryd.prog 33 (.pointer (some ⟨b50, 0, none⟩)) H62) (by kernel_rfl) (r65.ld (by kernel_rfl)) ?_
 have u69 := (u67.fr e64 (hb53.djn (m32.lt.le e46.next)))
 obtain ⟨y70, hy71, r72⟩ := bind_some r24
 refine d_ck 53 #[.agg #[.int .i64 y22.2.2.1, .slice a41 n42 c43]] (by kernel_rfl) (c_viaductref01_Err_Bad e64.wf u69.sq hy71) ?_
 rintro _ H73 ⟨rfl, e74⟩
 have u75 := (r65.frS e74 Dj.nil_l)
 refine ⟨st_ql (y := aLoad Tryd.prog 33 (.pointer (some ⟨b50, 0, none⟩)) H73) (by kernel_rfl) (u75.ld (by kernel_rfl)) (st_nil), ?_⟩
 by_cases h76 : y70 = true
 ·have r77 := ite_t h76 r72
  rw [h76]
  refine d_qk (.bool false) (by kernel_rfl) ?_
  refine d_qk (.bool false) (by kernel_rfl) ?_
  refine d_idle (by kernel_rfl) ?_
  refine d_idle (by kernel_rfl) ?_
  refine d_idle (by kernel_rfl) ?_
  refine d_qk (.bool false) (by kernel_rfl) ?_
  refine d_qk (.bool false) (by kernel_rfl) ?_
  have u83 := ((((((r17.frS e30 Dj.nil_l).ext e46).ext e52).frS e58 (hb47.djn (r17.ltF.le e30.next))).frS e64 (hb53.djn (r17.ltF.le (ntr e30.next e46.next)))).frS e74 Dj.nil_l)
  have u84 := (u69.fr e74 Dj.nil_l)
  obtain ⟨H79, q80, e81, r82⟩ := Row.store (P := Tryd.prog) (t := 33) (p := 0) e74.wf u83 (.agg #[.int .i64 y22.2.2.1, .slice a41 n42 c43]) [.int .i64 y22.2.2.1, .slice a41 n42 c43] (by kernel_rfl) (by kernel_rfl) (one_cons (rfl) (one_cons (u84.one1) (one_nil))) (Nat.le_of_ble_eq_true (by kernel_rfl)) [.int .i64 y22.2.2.1, .slice a41 n42 c43] (by kernel_rfl)
  refine d_ek (undef) (by kernel_rfl) (map_ok q80) (st_anc (by kernel_rfl) (st_nil)) ?_
  refine d_nil ?_
  refine k68 _ _ ?_
  refine w_ret ?_
  refine b_ret (fn := Tryd.f18) (vs := [.bool false, .agg #[.int .i64 y22.2.2.1, .slice a41 n42 c43]]) (aRes_tmp (by kernel_rfl) (aRes_cell (Eq.trans (b := aLoad Tryd.prog 33 (.pointer (some ⟨b13, 0, none⟩)) H79) (by kernel_rfl) (r82.ld (by kernel_rfl))) (rfl))) ?_
  have u85 := (u84.fr e81 (Dj.symm (i34.djn r17.ltF)))
  obtain rfl := Option.some.inj r77
  exact ⟨(.slice a41 n42 c43), f28, rfl, (FrS.step wf (FrS.step wf (FrS.step wf (FrS.step wf (((FrS.step wf (((FrS.refl (W := []) wf).extR e9).extR e15) e30 Inn.nil).extR e46).extR e52) e58 (hb47.fresh (ntr (ntr e9.next e15.next) e30.next))) e64 (hb53.fresh (ntr (ntr (ntr e9.next e15.next) e30.next) e46.next))) e74 Inn.nil) e81 (hb16.fresh e9.next)), u85, (i34.fresh (ntr e9.next e15.next))⟩
 ·have r86 := ite_f h76 r72
  rw [nb h76]
  refine d_qk (.bool true) (by kernel_rfl) ?_
  refine d_qk (.bool true) (by kernel_rfl) ?_
  have u88 := ((r59.frS e64 (hb53.djn r48.ltF)).frS e74 Dj.nil_l)
  refine d_ql (.agg #[.int .i64 y22.1, .slice a38 n39 c40]) (x := aLoad Tryd.prog 24 (.pointer (some ⟨b44, 0, none⟩)) H73) (by kernel_rfl) (u88.ld (by kernel_rfl)) ?_
  have u89 := ((((((u20.frS e30 Dj.nil_l).ext e46).ext e52).frS e58 (hb47.djn (r11.ltF.le (ntr e15.next e30.next)))).frS e64 (hb53.djn (r11.ltF.le (ntr (ntr e15.next e30.next) e46.next)))).frS e74 Dj.nil_l)
  refine d_ql (.agg #[.int .i64 N_, hd_Arcs]) (x := aLoad Tryd.prog 24 (.pointer (some ⟨b7, 0, none⟩)) H73) (by kernel_rfl) (u89.ld (by kernel_rfl)) ?_
  have u90 := (((u61.fr e58 (hb47.djn m31.lt)).fr e64 (hb53.djn (m31.lt.le e46.next))).fr e74 Dj.nil_l)
  have u91 := ((((((u21.fr e30 Dj.nil_l).ext e46).ext e52).fr e58 (hb47.djn (h_Arcs.lt.le (ntr (ntr e9.next e15.next) e30.next)))).fr e64 (hb53.djn (h_Arcs.lt.le (ntr (ntr (ntr e9.next e15.next) e30.next) e46.next)))).fr e74 Dj.nil_l)
  obtain ⟨y92, hy93, r94⟩ := bind_some r86
  refine d_ck 15 #[.agg #[.int .i64 y22.1, .slice a38 n39 c40], .agg #[.int .i64 N_, hd_Arcs]] (by kernel_rfl) (c_viaductref03_Same e74.wf u90.sq u91 hy93) ?_
  rintro _ H95 ⟨rfl, e96⟩
  have u97 := (u75.frS e96 Dj.nil_l)
  refine ⟨st_ql (y := aLoad Tryd.prog 33 (.pointer (some ⟨b50, 0, none⟩)) H95) (by kernel_rfl) (u97.ld (by kernel_rfl)) (st_nil), ?_⟩
  refine d_qk (.bool y92) (by kernel_rfl) ?_
  refine d_qk (.bool y92) (by kernel_rfl) ?_
  have u102 := (((((((r17.frS e30 Dj.nil_l).ext e46).ext e52).frS e58 (hb47.djn (r17.ltF.le e30.next))).frS e64 (hb53.djn (r17.ltF.le (ntr e30.next e46.next)))).frS e74 Dj.nil_l).frS e96 Dj.nil_l)
  have u103 := ((u69.fr e74 Dj.nil_l).fr e96 Dj.nil_l)
  obtain ⟨H98, q99, e100, r101⟩ := Row.store (P := Tryd.prog) (t := 33) (p := 0) e96.wf u102 (.agg #[.int .i64 y22.2.2.1, .slice a41 n42 c43]) [.int .i64 y22.2.2.1, .slice a41 n42 c43] (by kernel_rfl) (by kernel_rfl) (one_cons (rfl) (one_cons (u103.one1) (one_nil))) (Nat.le_of_ble_eq_true (by kernel_rfl)) [.int .i64 y22.2.2.1, .slice a41 n42 c43] (by kernel_rfl)
  refine d_ek (undef) (by kernel_rfl) (map_ok q99) (st_anc (by kernel_rfl) (st_nil)) ?_
  refine d_nil ?_
  refine k68 _ _ ?_
  refine w_ret ?_
  refine b_ret (fn := Tryd.f18) (vs := [.bool y92, .agg #[.int .i64 y22.2.2.1, .slice a41 n42 c43]]) (aRes_tmp (by kernel_rfl) (aRes_cell (Eq.trans (b := aLoad Tryd.prog 33 (.pointer (some ⟨b13, 0, none⟩)) H98) (by kernel_rfl) (r101.ld (by kernel_rfl))) (rfl))) ?_
  have u104 := (u103.fr e100 (Dj.symm (i34.djn r17.ltF)))
  obtain rfl := Option.some.inj r94
  exact ⟨(.slice a41 n42 c43), f28, rfl, (FrS.step wf (FrS.step wf (FrS.step wf (FrS.step wf (FrS.step wf (((FrS.step wf (((FrS.refl (W := []) wf).extR e9).extR e15) e30 Inn.nil).extR e46).extR e52) e58 (hb47.fresh (ntr (ntr e9.next e15.next) e30.next))) e64 (hb53.fresh (ntr (ntr (ntr e9.next e15.next) e30.next) e46.next))) e74 Inn.nil) e96 Inn.nil) e100 (hb16.fresh e9.next)), u104, (i34.fresh (ntr e9.next e15.next))⟩

theorem c_viaductlaw04_NormalOfs {H : AH} {hd_Arcs : Value} {fp_Arcs : Fp} {N_ : Int} {Arcs : List (Int × Int × Int)} {r : Bool}
  (wf : WF H) (h_Arcs : Sq enc_i64_i64_i64 3 H hd_Arcs Arcs fp_Arcs) (hr : z_viaductlaw04_NormalOfs N_ Arcs = some r) :
  ACalls Tryd.prog 3 #[.agg #[.int .i64 N_, hd_Arcs]] H fun v H' => v = .bool r ∧ FrS [] H H' := by
 refine acalls_of_body mixed Tryd.func3 rfl (Nat.le_of_ble_eq_true rfl) ?_
 unfold z_viaductlaw04_NormalOfs at hr
 refine w_seqk fun K1 k1 => ?_
 refine w_reg (by kernel_rfl) ?_
 refine s_rwl wf [.int .i64 N_, hd_Arcs] (one_cons (rfl) (one_cons (h_Arcs.one1) (one_nil))) (by kernel_rfl) fun b2 H3 e4 hb5 r6 => ?_
 refine s_qk (.bool false) (by kernel_rfl) ?_
 refine s_nil ?_
 refine k1 _ _ ?_
 refine w_seqk fun K8 k8 => ?_
 refine w_seqk fun K9 k9 => ?_
 refine w_reg (by kernel_rfl) ?_
 refine s_ck 11 #[] (by kernel_rfl) c_viaductlaw04_awake ?_
 rintro _ _ ⟨rfl, rfl⟩
 refine s_qk (.bool false) (by kernel_rfl) ?_
 refine s_nil ?_
 refine k9 _ _ ?_
 refine w_cond false (by kernel_rfl) rfl (fun h => by cases h) (fun _ => ?_)
 refine w_skip ?_
 refine k8 _ _ ?_
 refine w_seqk fun K10 k10 => ?_
 refine w_seqk fun K11 k11 => ?_
 refine w_reg (by kernel_rfl) ?_
 refine s_ql (.agg #[.int .i64 N_, hd_Arcs]) (x := aLoad Tryd.prog 24 (.pointer (some ⟨b2, 0, none⟩)) H3) (by kernel_rfl) (r6.ld (by kernel_rfl)) ?_
 have u12 := (h_Arcs.ext e4)
 obtain ⟨y13, hy14, r15⟩ := bind_some hr
 refine s_ck 12 #[.agg #[.int .i64 N_, hd_Arcs]] (by kernel_rfl) (c_viaductlaw04_great e4.wf u12 hy14) ?_
 rintro _ H16 ⟨rfl, e17⟩
 refine s_nil ?_
 refine k11 _ _ ?_
 refine w_cond (y13) (by kernel_rfl) rfl (fun h18 => ?_) (fun h18 => ?_)
 ·have r19 := ite_t h18 r15
  refine w_seqk fun K20 k20 => ?_
  refine w_reg (by kernel_rfl) ?_
  refine s_qk (.bool true) (by kernel_rfl) ?_
  refine s_nil ?_
  refine k20 _ _ ?_
  refine w_ret (th_ret ?_)
  refine b_ret (fn := Tryd.f3) (vs := [.bool true]) (aRes_tmp (by kernel_rfl) (rfl)) ?_
  obtain rfl := Option.some.inj r19
  exact ⟨rfl, (FrS.step wf ((FrS.refl (W := []) wf).extR e4) e17 Inn.nil)⟩
 ·have r21 := ite_bf h18 r15
  refine w_skip ?_
  refine k10 _ _ ?_
  refine w_seqk fun K22 k22 => ?_
  refine w_reg (by kernel_rfl) ?_
  have u23 := (r6.frS e17 Dj.nil_l)
  refine s_ql (.agg #[.int .i64 N_, hd_Arcs]) (x := aLoad Tryd.prog 24 (.pointer (some ⟨b2, 0, none⟩)) H16) (by kernel_rfl) (u23.ld (by kernel_rfl)) ?_
  have u24 := (u12.fr e17 Dj.nil_l)
  obtain ⟨y25, hy26, r27⟩ := bind_some r21
  refine s_ck 13 #[.agg #[.int .i64 N_, hd_Arcs]] (by kernel_rfl) (c_normal_Of e17.wf u24 hy26) ?_
  rintro _ H32 ⟨s28, f29, v30, f31, rfl, e33, m34, m35, i36, i37, d38⟩
  obtain ⟨a41, n42, c43, rfl⟩ := m34.form
  refine s_qk (.tuple #[.agg #[.int .i64 y25.1, .slice a41 n42 c43], v30]) (by kernel_rfl) ?_
  refine s_qk (.agg #[.int .i64 y25.1, .slice a41 n42 c43]) (by kernel_rfl) ?_
  refine s_qk (v30) (by kernel_rfl) ?_
  refine s_rwk e33.wf [.int .i64 0, .slice none 0 0] (by kernel_rfl) fun b44 H45 e46 hb47 r48 => ?_
  have u54 := (m34.ext e46)
  obtain ⟨H50, q51, e52, r53⟩ := Row.store (P := Tryd.prog) (t := 24) (p := 0) e46.wf r48 (.agg #[.int .i64 y25.1, .slice a41 n42 c43]) [.int .i64 y25.1, .slice a41 n42 c43] (by kernel_rfl) (by kernel_rfl) (one_cons (rfl) (one_cons (u54.one1) (one_nil))) (Nat.le_of_ble_eq_true (by kernel_rfl)) [.int .i64 y25.1, .slice a41 n42 c43] (by kernel_rfl)
  refine s_ek (undef) (by kernel_rfl) (map_ok q51) ?_
  refine s_qk (v30) (by kernel_rfl) ?_
  refine s_nil ?_
  refine k22 _ _ ?_
  refine w_seqk fun K55 k55 => ?_
  refine w_reg (by kernel_rfl) ?_
  have u56 := (((u23.frS e33 Dj.nil_l).ext e46).frS e52 (hb47.djn (r6.ltF.le (ntr e17.next e33.next))))
  refine s_ql (.agg #[.int .i64 N_, hd_Arcs]) (x := aLoad Tryd.prog 24 (.pointer (some ⟨b2, 0, none⟩)) H50) (by kernel_rfl) (u56.ld (by kernel_rfl)) ?_
  have u57 := (((u24.fr e33 Dj.nil_l).ext e46).fr e52 (hb47.djn (h_Arcs.lt.le (ntr (ntr e4.next e17.next) e33.next))))
  obtain ⟨y58, hy59, r60⟩ := bind_some r27
  refine s_ck 14 #[.agg #[.int .i64 N_, hd_Arcs]] (by kernel_rfl) (c_viaductref04_DocOf e52.wf u57 hy59) ?_
  rintro _ H65 ⟨s61, f62, s63, f64, rfl, e66, m67, m68, i69, i70, d71⟩
  obtain ⟨a74, n75, c76, rfl⟩ := m67.form
  obtain ⟨a77, n78, c79, rfl⟩ := m68.form
  refine s_qk (.tuple #[.agg #[.int .i64 y58.1, .slice a74 n75 c76], .agg #[.int .i64 y58.2.2.1, .slice a77 n78 c79]]) (by kernel_rfl) ?_
  refine s_qk (.agg #[.int .i64 y58.1, .slice a74 n75 c76]) (by kernel_rfl) ?_
  refine s_qk (.agg #[.int .i64 y58.2.2.1, .slice a77 n78 c79]) (by kernel_rfl) ?_
  refine s_rwk e66.wf [.int .i64 0, .slice none 0 0] (by kernel_rfl) fun b80 H81 e82 hb83 r84 => ?_
  refine s_rwk e82.wf [.int .i64 0, .slice none 0 0] (by kernel_rfl) fun b86 H87 e88 hb89 r90 => ?_
  have u96 := (r84.ext e88)
  have u97 := ((m67.ext e82).ext e88)
  obtain ⟨H92, q93, e94, r95⟩ := Row.store (P := Tryd.prog) (t := 24) (p := 0) e88.wf u96 (.agg #[.int .i64 y58.1, .slice a74 n75 c76]) [.int .i64 y58.1, .slice a74 n75 c76] (by kernel_rfl) (by kernel_rfl) (one_cons (rfl) (one_cons (u97.one1) (one_nil))) (Nat.le_of_ble_eq_true (by kernel_rfl)) [.int .i64 y58.1, .slice a74 n75 c76] (by kernel_rfl)
  refine s_ek (undef) (by kernel_rfl) (map_ok q93) ?_
  have u102 := (r90.frS e94 (Dj.symm (hb89.djn r84.ltF)))
  have u103 := (((m68.ext e82).ext e88).fr e94 (hb83.djn m68.lt))
  obtain ⟨H98, q99, e100, r101⟩ := Row.store (P := Tryd.prog) (t := 33) (p := 0) e94.wf u102 (.agg #[.int .i64 y58.2.2.1, .slice a77 n78 c79]) [.int .i64 y58.2.2.1, .slice a77 n78 c79] (by kernel_rfl) (by kernel_rfl) (one_cons (rfl) (one_cons (u103.one1) (one_nil))) (Nat.le_of_ble_eq_true (by kernel_rfl)) [.int .i64 y58.2.2.1, .slice a77 n78 c79] (by kernel_rfl)
  refine s_ek (undef) (by kernel_rfl) (map_ok q99) ?_
  refine s_nil ?_
  refine k55 _ _ ?_
  refine w_seqk fun K104 k104 => ?_
  refine w_seqk fun K105 k105 => ?_
  obtain ⟨o106, hx107, r108⟩ := bind_some r60
  refine w_mid (fun α H109 => Has α [(1, .pointer (some ⟨b2, 0, none⟩)), (6, .pointer (some ⟨b86, 0, none⟩)), (32, .bool o106)] ∧ FrS [] H98 H109) (fun K111 k111 => ?_) (fun α H109 hM => ?_)
  ·refine w_reg (by kernel_rfl) ?_
   have u113 := (((((r53.frS e66 Dj.nil_l).ext e82).ext e88).frS e94 (hb83.djn (r48.ltF.le (ntr e52.next e66.next)))).frS e100 (hb89.djn (r48.ltF.le (ntr (ntr e52.next e66.next) e82.next))))
   refine s_ql (.agg #[.int .i64 y25.1, .slice a41 n42 c43]) (x := aLoad Tryd.prog 24 (.pointer (some ⟨b44, 0, none⟩)) H98) (by kernel_rfl) (u113.ld (by kernel_rfl)) ?_
   have u114 := (r95.frS e100 (hb89.djn r84.ltF))
   refine s_ql (.agg #[.int .i64 y58.1, .slice a74 n75 c76]) (x := aLoad Tryd.prog 24 (.pointer (some ⟨b80, 0, none⟩)) H98) (by kernel_rfl) (u114.ld (by kernel_rfl)) ?_
   have u115 := ((((((u54.fr e52 (hb47.djn m34.lt)).fr e66 Dj.nil_l).ext e82).ext e88).fr e94 (hb83.djn (m34.lt.le (ntr (ntr e46.next e52.next) e66.next)))).fr e100 (hb89.djn (m34.lt.le (ntr (ntr (ntr e46.next e52.next) e66.next) e82.next))))
   have u116 := ((u97.fr e94 (hb83.djn m67.lt)).fr e100 (hb89.djn (m67.lt.le e82.next)))
   obtain ⟨y117, hy118, r119⟩ := bind_some hx107
   refine s_ck 15 #[.agg #[.int .i64 y25.1, .slice a41 n42 c43], .agg #[.int .i64 y58.1, .slice a74 n75 c76]] (by kernel_rfl) (c_viaductref03_Same e100.wf u115.sq u116.sq hy118) ?_
   rintro _ H120 ⟨rfl, e121⟩
   by_cases h122 : y117 = true
   ·have r123 := ite_t h122 r119
    rw [h122]
    refine s_qk (.bool false) (by kernel_rfl) ?_
    refine s_qk (.bool false) (by kernel_rfl) ?_
    refine s_qk (v30) (by kernel_rfl) ?_
    have u125 := (r101.frS e121 Dj.nil_l)
    refine s_ql (.agg #[.int .i64 y58.2.2.1, .slice a77 n78 c79]) (x := aLoad Tryd.prog 33 (.pointer (some ⟨b86, 0, none⟩)) H120) (by kernel_rfl) (u125.ld (by kernel_rfl)) ?_
    have u126 := ((((((((m35.ext e46).fr e52 (hb47.djn m35.lt)).fr e66 Dj.nil_l).ext e82).ext e88).fr e94 (hb83.djn (m35.lt.le (ntr (ntr e46.next e52.next) e66.next)))).fr e100 (hb89.djn (m35.lt.le (ntr (ntr (ntr e46.next e52.next) e66.next) e82.next)))).fr e121 Dj.nil_l)
    have u127 := ((u103.fr e100 (hb89.djn (m68.lt.le e82.next))).fr e121 Dj.nil_l)
    obtain ⟨y128, hy129, r130⟩ := bind_some r123
    refine s_ck 16 #[v30, .agg #[.int .i64 y58.2.2.1, .slice a77 n78 c79]] (by kernel_rfl) (c_viaductseen_Same e121.wf u126 u127.sq hy129) ?_
    rintro _ H131 ⟨rfl, e132⟩
    refine s_qk (.bool (!y128)) (by kernel_rfl) ?_
    refine s_qk (.bool (!y128)) (by kernel_rfl) ?_
    refine s_nil ?_
    obtain rfl := Option.some.inj r130
    exact k111 _ _ ⟨⟨by kernel_rfl, by kernel_rfl, by kernel_rfl, trivial⟩, (FrS.step e100.wf (FrS.step e100.wf (FrS.refl (W := []) e100.wf) e121 Inn.nil) e132 Inn.nil)⟩
   ·have r133 := ite_f h122 r119
    rw [nb h122]
    refine s_qk (.bool true) (by kernel_rfl) ?_
    refine s_qk (.bool true) (by kernel_rfl) ?_
    refine s_no (by kernel_rfl) ?_
    refine s_no (by kernel_rfl) ?_
    refine s_no (by kernel_rfl) ?_
    refine s_no (by kernel_rfl) ?_
    refine s_qk (.bool true) (by kernel_rfl) ?_
    refine s_nil ?_
    obtain rfl := Option.some.inj r133
    exact k111 _ _ ⟨⟨by kernel_rfl, by kernel_rfl, by kernel_rfl, trivial⟩, (FrS.step e100.wf (FrS.refl (W := []) e100.wf) e121 Inn.nil)⟩
  ·obtain ⟨hh112, e110⟩ := hM
   obtain ⟨β, rfl⟩ := has_ex hh112
   clear hh112
   refine k105 _ _ ?_
   refine w_cond (o106) (by kernel_rfl) rfl (fun h135 => ?_) (fun h135 => ?_)
   ·have r136 := ite_t h135 r108
    refine w_seqk fun K137 k137 => ?_
    refine w_reg (by kernel_rfl) ?_
    refine s_qk (.bool false) (by kernel_rfl) ?_
    refine s_nil ?_
    refine k137 _ _ ?_
    refine w_ret (th_ret ?_)
    refine b_ret (fn := Tryd.f3) (vs := [.bool false]) (aRes_tmp (by kernel_rfl) (rfl)) ?_
    obtain rfl := Option.some.inj r136
    exact ⟨rfl, (FrS.step wf (FrS.step wf (FrS.step wf (((FrS.step wf (FrS.step wf ((FrS.step wf (FrS.step wf ((FrS.refl (W := []) wf).extR e4) e17 Inn.nil) e33 Inn.nil).extR e46) e52 (hb47.fresh (ntr (ntr e4.next e17.next) e33.next))) e66 Inn.nil).extR e82).extR e88) e94 (hb83.fresh (ntr (ntr (ntr (ntr (ntr e4.next e17.next) e33.next) e46.next) e52.next) e66.next))) e100 (hb89.fresh (ntr (ntr (ntr (ntr (ntr (ntr e4.next e17.next) e33.next) e46.next) e52.next) e66.next) e82.next))) e110 Inn.nil)⟩
   ·have r138 := ite_bf h135 r108
    refine w_skip ?_
    refine k104 _ _ ?_
    refine w_seqk fun K139 k139 => ?_
    refine w_reg (by kernel_rfl) ?_
    have u140 := ((((((u56.frS e66 Dj.nil_l).ext e82).ext e88).frS e94 (hb83.djn (r6.ltF.le (ntr (ntr (ntr (ntr e17.next e33.next) e46.next) e52.next) e66.next)))).frS e100 (hb89.djn (r6.ltF.le (ntr (ntr (ntr (ntr (ntr e17.next e33.next) e46.next) e52.next) e66.next) e82.next)))).frS e110 Dj.nil_l)
    refine s_ql (.agg #[.int .i64 N_, hd_Arcs]) (x := aLoad Tryd.prog 24 (.pointer (some ⟨b2, 0, none⟩)) H109) (by kernel_rfl) (u140.ld (by kernel_rfl)) ?_
    have u141 := ((((((u57.fr e66 Dj.nil_l).ext e82).ext e88).fr e94 (hb83.djn (h_Arcs.lt.le (ntr (ntr (ntr (ntr (ntr e4.next e17.next) e33.next) e46.next) e52.next) e66.next)))).fr e100 (hb89.djn (h_Arcs.lt.le (ntr (ntr (ntr (ntr (ntr (ntr e4.next e17.next) e33.next) e46.next) e52.next) e66.next) e82.next)))).fr e110 Dj.nil_l)
    obtain ⟨y142, hy143, r144⟩ := bind_some r138
    refine s_ck 17 #[.agg #[.int .i64 N_, hd_Arcs]] (by kernel_rfl) (c_normal_Is e110.wf u141 hy143) ?_
    rintro _ H147 ⟨v145, f146, rfl, e148, m149, i150⟩
    refine s_qk (.tuple #[.bool y142.1, v145]) (by kernel_rfl) ?_
    refine s_qk (.bool y142.1) (by kernel_rfl) ?_
    refine s_qk (v145) (by kernel_rfl) ?_
    refine s_qk (.bool y142.1) (by kernel_rfl) ?_
    refine s_qk (v145) (by kernel_rfl) ?_
    refine s_nil ?_
    refine k139 _ _ ?_
    refine w_seqk fun K152 k152 => ?_
    refine w_reg (by kernel_rfl) ?_
    have u153 := (u140.frS e148 Dj.nil_l)
    refine s_ql (.agg #[.int .i64 N_, hd_Arcs]) (x := aLoad Tryd.prog 24 (.pointer (some ⟨b2, 0, none⟩)) H147) (by kernel_rfl) (u153.ld (by kernel_rfl)) ?_
    have u154 := (u141.fr e148 Dj.nil_l)
    obtain ⟨y155, hy156, r157⟩ := bind_some r144
    refine s_ck 18 #[.agg #[.int .i64 N_, hd_Arcs]] (by kernel_rfl) (c_viaductref04_DocIs e148.wf u154 hy156) ?_
    rintro _ H160 ⟨s158, f159, rfl, e161, m162, i163⟩
    obtain ⟨a165, n166, c167, rfl⟩ := m162.form
    refine s_qk (.tuple #[.bool y155.1, .agg #[.int .i64 y155.2.1, .slice a165 n166 c167]]) (by kernel_rfl) ?_
    refine s_qk (.bool y155.1) (by kernel_rfl) ?_
    refine s_qk (.agg #[.int .i64 y155.2.1, .slice a165 n166 c167]) (by kernel_rfl) ?_
    refine s_qk (.bool y155.1) (by kernel_rfl) ?_
    have u172 := (((r101.frS e110 Dj.nil_l).frS e148 Dj.nil_l).frS e161 Dj.nil_l)
    obtain ⟨H168, q169, e170, r171⟩ := Row.store (P := Tryd.prog) (t := 33) (p := 0) e161.wf u172 (.agg #[.int .i64 y155.2.1, .slice a165 n166 c167]) [.int .i64 y155.2.1, .slice a165 n166 c167] (by kernel_rfl) (by kernel_rfl) (one_cons (rfl) (one_cons (m162.one1) (one_nil))) (Nat.le_of_ble_eq_true (by kernel_rfl)) [.int .i64 y155.2.1, .slice a165 n166 c167] (by kernel_rfl)
    refine s_ek (undef) (by kernel_rfl) (map_ok q169) ?_
    refine s_nil ?_
    refine k152 _ _ ?_
    refine w_seqk fun K173 k173 => ?_
    refine w_reg (by kernel_rfl) ?_
    refine s_qk (.bool y142.1) (by kernel_rfl) ?_
    refine s_qk (.bool y155.1) (by kernel_rfl) ?_
    refine s_b (y142.1 = y155.1) (by kernel_rfl) (fun h174 => ?_) (fun h174 => ?_)
    ·have r175 := ite_t h174 r157
     refine s_qk (.bool true) (by kernel_rfl) ?_
     refine s_qk (v145) (by kernel_rfl) ?_
     refine s_ql (.agg #[.int .i64 y155.2.1, .slice a165 n166 c167]) (x := aLoad Tryd.prog 33 (.pointer (some ⟨b86, 0, none⟩)) H168) (by kernel_rfl) (r171.ld (by kernel_rfl)) ?_
     have u176 := ((m149.fr e161 Dj.nil_l).fr e170 (Dj.symm (i150.djn (r90.ltF.le (ntr (ntr e94.next e100.next) e110.next)))))
     have u177 := (m162.fr e170 (Dj.symm (i163.djn (r90.ltF.le (ntr (ntr (ntr e94.next e100.next) e110.next) e148.next)))))
     obtain ⟨y178, hy179, r180⟩ := bind_some r175
     refine s_ck 16 #[v145, .agg #[.int .i64 y155.2.1, .slice a165 n166 c167]] (by kernel_rfl) (c_viaductseen_Same e170.wf u176 u177.sq hy179) ?_
     rintro _ H181 ⟨rfl, e182⟩
     refine s_qk (.bool y178) (by kernel_rfl) ?_
     refine s_qk (.bool y178) (by kernel_rfl) ?_
     refine s_nil ?_
     refine k173 _ _ ?_
     refine w_ret ?_
     refine b_ret (fn := Tryd.f3) (vs := [.bool y178]) (aRes_tmp (by kernel_rfl) (rfl)) ?_
     obtain rfl := Option.some.inj r180
     exact ⟨rfl, (FrS.step wf (FrS.step wf (FrS.step wf (FrS.step wf (FrS.step wf (FrS.step wf (FrS.step wf (((FrS.step wf (FrS.step wf ((FrS.step wf (FrS.step wf ((FrS.refl (W := []) wf).extR e4) e17 Inn.nil) e33 Inn.nil).extR e46) e52 (hb47.fresh (ntr (ntr e4.next e17.next) e33.next))) e66 Inn.nil).extR e82).extR e88) e94 (hb83.fresh (ntr (ntr (ntr (ntr (ntr e4.next e17.next) e33.next) e46.next) e52.next) e66.next))) e100 (hb89.fresh (ntr (ntr (ntr (ntr (ntr (ntr e4.next e17.next) e33.next) e46.next) e52.next) e66.next) e82.next))) e110 Inn.nil) e148 Inn.nil) e161 Inn.nil) e170 (hb89.fresh (ntr (ntr (ntr (ntr (ntr (ntr e4.next e17.next) e33.next) e46.next) e52.next) e66.next) e82.next))) e182 Inn.nil)⟩
    ·have r183 := ite_f h174 r157
     refine s_qk (.bool false) (by kernel_rfl) ?_
     refine s_no (by kernel_rfl) ?_
     refine s_no (by kernel_rfl) ?_
     refine s_no (by kernel_rfl) ?_
     refine s_qk (.bool false) (by kernel_rfl) ?_
     refine s_qk (.bool false) (by kernel_rfl) ?_
     refine s_nil ?_
     refine k173 _ _ ?_
     refine w_ret ?_
     refine b_ret (fn := Tryd.f3) (vs := [.bool false]) (aRes_tmp (by kernel_rfl) (rfl)) ?_
     obtain rfl := Option.some.inj r183
     exact ⟨rfl, (FrS.step wf (FrS.step wf (FrS.step wf (FrS.step wf (FrS.step wf (FrS.step wf (((FrS.step wf (FrS.step wf ((FrS.step wf (FrS.step wf ((FrS.refl (W := []) wf).extR e4) e17 Inn.nil) e33 Inn.nil).extR e46) e52 (hb47.fresh (ntr (ntr e4.next e17.next) e33.next))) e66 Inn.nil).extR e82).extR e88) e94 (hb83.fresh (ntr (ntr (ntr (ntr (ntr e4.next e17.next) e33.next) e46.next) e52.next) e66.next))) e100 (hb89.fresh (ntr (ntr (ntr (ntr (ntr (ntr e4.next e17.next) e33.next) e46.next) e52.next) e66.next) e82.next))) e110 Inn.nil) e148 Inn.nil) e161 Inn.nil) e170 (hb89.fresh (ntr (ntr (ntr (ntr (ntr (ntr e4.next e17.next) e33.next) e46.next) e52.next) e66.next) e82.next)))⟩


end Go.Vd
