/- The walks of the functions (printed by a program of ours). -/
import Derived.Test.YtjfplpkmbijfpaaDoorPnm0
import Derived.Test.YtjfplpkmbijfpaaDoorDrG
import Derived.Test.YtjfplpkmbijfpaaDoorINm
import Derived.Test.YtjfplpkmbijfpaaDoorVeN
set_option linter.unusedVariables false
set_option linter.unusedSimpArgs false
set_option linter.unusedSectionVars false
/-! (KNm0) -/

set_option maxRecDepth 100000
set_option maxHeartbeats 4000000
set_option linter.unusedVariables false
namespace Go.Vd
open Go.Proofs
attribute [local irreducible] wpSeq wpOrd aWp
set_option linter.unusedSimpArgs false
theorem e_pure {α : Type} (P : Program) (a : α) : pr P (pure a : Sem α) = some a := rfl
theorem e_prog {P : Program} : pr P (program : Sem Program) = some P := rfl
theorem e_und {P : Program} {t : TypeId} {d : TypeDesc} (h : P.underlying t = some d) : pr P (underlying t) = some d := by
 simp only [underlying, pr_bind]
 show ((pr P (program : Sem Program)).bind _) = _
 simp [show pr P (program : Sem Program) = some P from rfl, h]
 rfl
theorem e_int {P : Program} (d : Nat) (t : TypeId) (k : IntKind) (h : P.underlying t = some (.int k)) (a c : Int) : pr P (Op.equalIn (d+1) t (.int k a) (.int k c)) = some (a == c) := by
 simp only [Op.equalIn, pr_bind, e_und h]
 simp [e_pure]
theorem e_bool {P : Program} (d : Nat) (t : TypeId) (h : P.underlying t = some .bool) (a c : Bool) : pr P (Op.equalIn (d+1) t (.bool a) (.bool c)) = some (a == c) := by
 simp only [Op.equalIn, pr_bind, e_und h]
 simp [e_pure]

theorem e51_p0 (a0 : Int) (a1 : Int) (a2 : Int) : pr Tryd.prog (part 3 #[.int .i64 a0, .int .i64 a1, .int .i64 a2] 0) = some (.int .i64 a0) := by kernel_rfl
theorem e51_q0 (a c : Int) : pr Tryd.prog (Op.equalIn 9999 3 (.int .i64 a) (.int .i64 c)) = some (a == c) := e_int 9998 3 .i64 Go.Proofs.Tryd.underlying3 a c
theorem e51_p1 (a0 : Int) (a1 : Int) (a2 : Int) : pr Tryd.prog (part 3 #[.int .i64 a0, .int .i64 a1, .int .i64 a2] 1) = some (.int .i64 a1) := by kernel_rfl
theorem e51_q1 (a c : Int) : pr Tryd.prog (Op.equalIn 9999 3 (.int .i64 a) (.int .i64 c)) = some (a == c) := e_int 9998 3 .i64 Go.Proofs.Tryd.underlying3 a c
theorem e51_p2 (a0 : Int) (a1 : Int) (a2 : Int) : pr Tryd.prog (part 3 #[.int .i64 a0, .int .i64 a1, .int .i64 a2] 2) = some (.int .i64 a2) := by kernel_rfl
theorem e51_q2 (a c : Int) : pr Tryd.prog (Op.equalIn 9999 3 (.int .i64 a) (.int .i64 c)) = some (a == c) := e_int 9998 3 .i64 Go.Proofs.Tryd.underlying3 a c
theorem e51_stood : Tryd.prog.stoodInHeld 51 = false := by kernel_rfl
theorem e51_eq (a0 : Int) (a1 : Int) (a2 : Int) (c0 : Int) (c1 : Int) (c2 : Int) : pr Tryd.prog (Op.equalIn Op.maxDepth 51 (.agg #[.int .i64 a0, .int .i64 a1, .int .i64 a2]) (.agg #[.int .i64 c0, .int .i64 c1, .int .i64 c2])) = some (a0 == c0 && a1 == c1 && a2 == c2) := by
 rw [show Op.maxDepth = 9998 + 1 + 1 from rfl, Op.equalIn]
 rw [pr_bind, e_und Go.Proofs.Tryd.underlying51]
 simp only [Option.bind_some, pr_bind, e_prog, e51_stood, Bool.false_eq_true, if_false]
 simp [pr_bind, e51_p0, e51_p1, e51_p2, e51_q0, e51_q1, e51_q2]
 by_cases h0 : a0 = c0
 ·subst h0
  by_cases h1 : a1 = c1
  ·subst h1
   by_cases h2 : a2 = c2
   ·subst h2
    simp [e_pure, pr_bind, e51_p0, e51_p1, e51_p2, e51_q0, e51_q1, e51_q2]
   ·simp [e_pure, pr_bind, e51_p0, e51_p1, e51_p2, e51_q0, e51_q1, e51_q2, h2]
  ·simp [e_pure, pr_bind, e51_p0, e51_p1, e51_p2, e51_q0, e51_q1, e51_q2, h1]
 ·simp [e_pure, pr_bind, e51_p0, e51_p1, e51_p2, e51_q0, e51_q1, e51_q2, h0]
theorem e51_gneq (x y : Operand) (a0 : Int) (a1 : Int) (a2 : Int) (c0 : Int) (c1 : Int) (c2 : Int) : pr Tryd.prog (eqGuard .neq 51 x y (.agg #[.int .i64 a0, .int .i64 a1, .int .i64 a2]) (.agg #[.int .i64 c0, .int .i64 c1, .int .i64 c2])) = some () := by kernel_rfl
theorem aBin_neq51 (x y : Operand) (a0 : Int) (a1 : Int) (a2 : Int) (c0 : Int) (c1 : Int) (c2 : Int) : aBin Tryd.prog .neq 51 x y (.agg #[.int .i64 a0, .int .i64 a1, .int .i64 a2]) (.agg #[.int .i64 c0, .int .i64 c1, .int .i64 c2]) = some (.bool (!decide (a0 = c0 ∧ a1 = c1 ∧ a2 = c2))) := by
 unfold aBin
 rw [if_pos (show (plain (.agg #[.int .i64 a0, .int .i64 a1, .int .i64 a2]) && plain (.agg #[.int .i64 c0, .int .i64 c1, .int .i64 c2])) = true from rfl), pr_bind, e51_gneq]
 have : pr Tryd.prog (binOp .neq 51 (.agg #[.int .i64 a0, .int .i64 a1, .int .i64 a2]) (.agg #[.int .i64 c0, .int .i64 c1, .int .i64 c2])) = some (.bool (!decide (a0 = c0 ∧ a1 = c1 ∧ a2 = c2))) := by
  simp only [binOp, Op.equal, pr_bind, e51_eq]
  by_cases g0 : a0 = c0 <;> by_cases g1 : a1 = c1 <;> by_cases g2 : a2 = c2 <;> simp [e_pure, g0, g1, g2]
 simp only [Option.bind_some, this]
 rfl
theorem e51_geql (x y : Operand) (a0 : Int) (a1 : Int) (a2 : Int) (c0 : Int) (c1 : Int) (c2 : Int) : pr Tryd.prog (eqGuard .eql 51 x y (.agg #[.int .i64 a0, .int .i64 a1, .int .i64 a2]) (.agg #[.int .i64 c0, .int .i64 c1, .int .i64 c2])) = some () := by kernel_rfl
theorem aBin_eql51 (x y : Operand) (a0 : Int) (a1 : Int) (a2 : Int) (c0 : Int) (c1 : Int) (c2 : Int) : aBin Tryd.prog .eql 51 x y (.agg #[.int .i64 a0, .int .i64 a1, .int .i64 a2]) (.agg #[.int .i64 c0, .int .i64 c1, .int .i64 c2]) = some (.bool (decide (a0 = c0 ∧ a1 = c1 ∧ a2 = c2))) := by
 unfold aBin
 rw [if_pos (show (plain (.agg #[.int .i64 a0, .int .i64 a1, .int .i64 a2]) && plain (.agg #[.int .i64 c0, .int .i64 c1, .int .i64 c2])) = true from rfl), pr_bind, e51_geql]
 have : pr Tryd.prog (binOp .eql 51 (.agg #[.int .i64 a0, .int .i64 a1, .int .i64 a2]) (.agg #[.int .i64 c0, .int .i64 c1, .int .i64 c2])) = some (.bool (decide (a0 = c0 ∧ a1 = c1 ∧ a2 = c2))) := by
  simp only [binOp, Op.equal, pr_bind, e51_eq]
  by_cases g0 : a0 = c0 <;> by_cases g1 : a1 = c1 <;> by_cases g2 : a2 = c2 <;> simp [e_pure, g0, g1, g2]
 simp only [Option.bind_some, this]
 rfl
theorem e89_p0 (a0 : Int) (a1 : Int) : pr Tryd.prog (part 55 #[.int .i64 a0, .int .i64 a1] 0) = some (.int .i64 a0) := by kernel_rfl
theorem e89_q0 (a c : Int) : pr Tryd.prog (Op.equalIn 9999 55 (.int .i64 a) (.int .i64 c)) = some (a == c) := e_int 9998 55 .i64 Go.Proofs.Tryd.underlying55 a c
theorem e89_p1 (a0 : Int) (a1 : Int) : pr Tryd.prog (part 3 #[.int .i64 a0, .int .i64 a1] 1) = some (.int .i64 a1) := by kernel_rfl
theorem e89_q1 (a c : Int) : pr Tryd.prog (Op.equalIn 9999 3 (.int .i64 a) (.int .i64 c)) = some (a == c) := e_int 9998 3 .i64 Go.Proofs.Tryd.underlying3 a c
theorem e89_stood : Tryd.prog.stoodInHeld 89 = false := by kernel_rfl
theorem e89_eq (a0 : Int) (a1 : Int) (c0 : Int) (c1 : Int) : pr Tryd.prog (Op.equalIn Op.maxDepth 89 (.agg #[.int .i64 a0, .int .i64 a1]) (.agg #[.int .i64 c0, .int .i64 c1])) = some (a0 == c0 && a1 == c1) := by
 rw [show Op.maxDepth = 9998 + 1 + 1 from rfl, Op.equalIn]
 rw [pr_bind, e_und Go.Proofs.Tryd.underlying89]
 simp only [Option.bind_some, pr_bind, e_prog, e89_stood, Bool.false_eq_true, if_false]
 simp [pr_bind, e89_p0, e89_p1, e89_q0, e89_q1]
 by_cases h0 : a0 = c0
 ·subst h0
  by_cases h1 : a1 = c1
  ·subst h1
   simp [e_pure, pr_bind, e89_p0, e89_p1, e89_q0, e89_q1]
  ·simp [e_pure, pr_bind, e89_p0, e89_p1, e89_q0, e89_q1, h1]
 ·simp [e_pure, pr_bind, e89_p0, e89_p1, e89_q0, e89_q1, h0]
theorem e89_gneq (x y : Operand) (a0 : Int) (a1 : Int) (c0 : Int) (c1 : Int) : pr Tryd.prog (eqGuard .neq 89 x y (.agg #[.int .i64 a0, .int .i64 a1]) (.agg #[.int .i64 c0, .int .i64 c1])) = some () := by kernel_rfl
theorem aBin_neq89 (x y : Operand) (a0 : Int) (a1 : Int) (c0 : Int) (c1 : Int) : aBin Tryd.prog .neq 89 x y (.agg #[.int .i64 a0, .int .i64 a1]) (.agg #[.int .i64 c0, .int .i64 c1]) = some (.bool (!decide (a0 = c0 ∧ a1 = c1))) := by
 unfold aBin
 rw [if_pos (show (plain (.agg #[.int .i64 a0, .int .i64 a1]) && plain (.agg #[.int .i64 c0, .int .i64 c1])) = true from rfl), pr_bind, e89_gneq]
 have : pr Tryd.prog (binOp .neq 89 (.agg #[.int .i64 a0, .int .i64 a1]) (.agg #[.int .i64 c0, .int .i64 c1])) = some (.bool (!decide (a0 = c0 ∧ a1 = c1))) := by
  simp only [binOp, Op.equal, pr_bind, e89_eq]
  by_cases g0 : a0 = c0 <;> by_cases g1 : a1 = c1 <;> simp [e_pure, g0, g1]
 simp only [Option.bind_some, this]
 rfl
theorem e89_geql (x y : Operand) (a0 : Int) (a1 : Int) (c0 : Int) (c1 : Int) : pr Tryd.prog (eqGuard .eql 89 x y (.agg #[.int .i64 a0, .int .i64 a1]) (.agg #[.int .i64 c0, .int .i64 c1])) = some () := by kernel_rfl
theorem aBin_eql89 (x y : Operand) (a0 : Int) (a1 : Int) (c0 : Int) (c1 : Int) : aBin Tryd.prog .eql 89 x y (.agg #[.int .i64 a0, .int .i64 a1]) (.agg #[.int .i64 c0, .int .i64 c1]) = some (.bool (decide (a0 = c0 ∧ a1 = c1))) := by
 unfold aBin
 rw [if_pos (show (plain (.agg #[.int .i64 a0, .int .i64 a1]) && plain (.agg #[.int .i64 c0, .int .i64 c1])) = true from rfl), pr_bind, e89_geql]
 have : pr Tryd.prog (binOp .eql 89 (.agg #[.int .i64 a0, .int .i64 a1]) (.agg #[.int .i64 c0, .int .i64 c1])) = some (.bool (decide (a0 = c0 ∧ a1 = c1))) := by
  simp only [binOp, Op.equal, pr_bind, e89_eq]
  by_cases g0 : a0 = c0 <;> by_cases g1 : a1 = c1 <;> simp [e_pure, g0, g1]
 simp only [Option.bind_some, this]
 rfl
theorem c_viaductlaw04_awake_ev : evB Tryd.prog 100000 11 #[] = some true := by kernel_rfl
theorem c_viaductlaw04_awake {H : AH} : ACalls Tryd.prog 11 #[] H fun v H' => H = H' ∧ v = .bool true :=
 (acalls_evB mixed c_viaductlaw04_awake_ev rfl H).mono fun _ _ ⟨a, b⟩ => ⟨b.symm, a⟩

theorem c_gtext_within {H : AH} {x : Int} {n_ : Int} {r : Bool}
  (wf : WF H) (hr : z_gtext_within x n_ = some r) :
  ACalls Tryd.prog 88 #[.int .i64 x, .int .i64 n_] H fun v H' => v = .bool r ∧ H = H' := by
 refine acalls_of_body mixed Tryd.func88 rfl (Nat.le_of_ble_eq_true rfl) ?_
 unfold z_gtext_within at hr
 refine w_seqk fun K1 k1 => ?_
 refine w_reg (by kernel_rfl) ?_
 refine s_qk (.bool false) (by kernel_rfl) ?_
 refine s_nil ?_
 refine k1 _ _ ?_
 refine w_seqk fun K2 k2 => ?_
 refine w_reg (by kernel_rfl) ?_
 refine s_qk (.int .i64 x) (by kernel_rfl) ?_
 refine s_b (x ≥ 0) (by kernel_rfl) (fun h3 => ?_) (fun h3 => ?_)
 ·have r4 := ite_t h3 hr
  refine s_qk (.bool true) (by kernel_rfl) ?_
  refine s_qk (.int .i64 x) (by kernel_rfl) ?_
  refine s_qk (.int .i64 n_) (by kernel_rfl) ?_
  refine s_qk (.bool (decide (x < n_))) (by kernel_rfl) ?_
  refine s_qk (.bool (decide (x < n_))) (by kernel_rfl) ?_
  refine s_qk (.bool (decide (x < n_))) (by kernel_rfl) ?_
  refine s_nil ?_
  refine k2 _ _ ?_
  refine w_ret ?_
  refine b_ret (fn := Tryd.f88) (vs := [.bool (decide (x < n_))]) (aRes_tmp (by kernel_rfl) (rfl)) ?_
  obtain rfl := Option.some.inj r4
  exact ⟨rfl, rfl⟩
 ·have r5 := ite_f h3 hr
  refine s_qk (.bool false) (by kernel_rfl) ?_
  refine s_no (by kernel_rfl) ?_
  refine s_no (by kernel_rfl) ?_
  refine s_no (by kernel_rfl) ?_
  refine s_qk (.bool false) (by kernel_rfl) ?_
  refine s_qk (.bool false) (by kernel_rfl) ?_
  refine s_nil ?_
  refine k2 _ _ ?_
  refine w_ret ?_
  refine b_ret (fn := Tryd.f88) (vs := [.bool false]) (aRes_tmp (by kernel_rfl) (rfl)) ?_
  obtain rfl := Option.some.inj r5
  exact ⟨rfl, rfl⟩

theorem c_gtext_arc {H : AH} {From : Int} {To : Int} {Weight : Int} {n_ : Int} {r : Er}
  (wf : WF H) (hr : z_gtext_arc From To Weight n_ = some r) :
  ACalls Tryd.prog 74 #[.agg #[.int .i64 From, .int .i64 To, .int .i64 Weight], .int .i64 n_] H fun v H' => ∃ (v3 : Value) (f4 : Fp), v = v3 ∧ FrS [] H H' ∧ Ev 53 90 H' v3 r f4 ∧ Inn [] H f4 := by
 refine acalls_of_body mixed Tryd.func74 rfl (Nat.le_of_ble_eq_true rfl) ?_
 unfold z_gtext_arc at hr
 refine w_seqk fun K6 k6 => ?_
 refine w_reg (by kernel_rfl) ?_
 refine s_rwl wf [.int .i64 From, .int .i64 To, .int .i64 Weight] (one_cons (rfl) (one_cons (rfl) (one_cons (rfl) (one_nil)))) (by kernel_rfl) fun b7 H8 e9 hb10 r11 => ?_
 refine s_qk (.nilIface) (by kernel_rfl) ?_
 refine s_nil ?_
 refine k6 _ _ ?_
 refine w_seqk fun K13 k13 => ?_
 refine w_block ?_
 refine w_seqk fun K14 k14 => ?_
 obtain ⟨o15, hx16, r17⟩ := bind_some hr
 refine w_mid (fun α H18 => Has α [(2, .pointer (some ⟨b7, 0, none⟩)), (5, .bool o15)] ∧ H8 = H18) (fun K20 k20 => ?_) (fun α H18 hM => ?_)
 ·refine w_reg (by kernel_rfl) ?_
  refine s_qk (.pointer (some ⟨b7, 0, none⟩)) (by kernel_rfl) ?_
  refine s_ql (.int .i64 From) (x := aLoad Tryd.prog 3 (.pointer (some ⟨b7, 0, none⟩)) H8) (by kernel_rfl) (r11.ld (by kernel_rfl)) ?_
  refine s_qk (.int .i64 n_) (by kernel_rfl) ?_
  obtain ⟨y22, hy23, r24⟩ := bind_some hx16
  refine s_ck 88 #[.int .i64 From, .int .i64 n_] (by kernel_rfl) (c_gtext_within e9.wf hy23) ?_
  rintro _ _ ⟨rfl, rfl⟩
  by_cases h27 : y22 = true
  ·have r28 := ite_t h27 r24
   rw [h27]
   refine s_qk (.bool false) (by kernel_rfl) ?_
   refine s_qk (.bool false) (by kernel_rfl) ?_
   refine s_qk (.pointer (some ⟨b7, 1, none⟩)) (by kernel_rfl) ?_
   refine s_ql (.int .i64 To) (x := aLoad Tryd.prog 3 (.pointer (some ⟨b7, 1, none⟩)) H8) (by kernel_rfl) (r11.ld (by kernel_rfl)) ?_
   refine s_qk (.int .i64 n_) (by kernel_rfl) ?_
   obtain ⟨y30, hy31, r32⟩ := bind_some r28
   refine s_ck 88 #[.int .i64 To, .int .i64 n_] (by kernel_rfl) (c_gtext_within e9.wf hy31) ?_
   rintro _ _ ⟨rfl, rfl⟩
   refine s_qk (.bool (!y30)) (by kernel_rfl) ?_
   refine s_qk (.bool (!y30)) (by kernel_rfl) ?_
   refine s_qk (.bool (!y30)) (by kernel_rfl) ?_
   refine s_nil ?_
   obtain rfl := Option.some.inj r32
   exact k20 _ _ ⟨⟨by kernel_rfl, by kernel_rfl, trivial⟩, rfl⟩
  ·have r35 := ite_f h27 r24
   rw [nb h27]
   refine s_qk (.bool true) (by kernel_rfl) ?_
   refine s_qk (.bool true) (by kernel_rfl) ?_
   refine s_no (by kernel_rfl) ?_
   refine s_no (by kernel_rfl) ?_
   refine s_no (by kernel_rfl) ?_
   refine s_no (by kernel_rfl) ?_
   refine s_no (by kernel_rfl) ?_
   refine s_qk (.bool true) (by kernel_rfl) ?_
   refine s_qk (.bool true) (by kernel_rfl) ?_
   refine s_nil ?_
   obtain rfl := Option.some.inj r35
   exact k20 _ _ ⟨⟨by kernel_rfl, by kernel_rfl, trivial⟩, rfl⟩
 ·obtain ⟨hh21, rfl⟩ := hM
  obtain ⟨β, rfl⟩ := has_ex hh21
  clear hh21
  refine k14 _ _ ?_
  refine w_cond (o15) (by kernel_rfl) rfl (fun h37 => ?_) (fun h37 => ?_)
  ·have r38 := ite_t h37 r17
   refine w_seqk fun K39 k39 => ?_
   refine w_reg (by kernel_rfl) ?_
   refine s_qk (.iface 53 (.int .i64 7)) (by kernel_rfl) ?_
   refine s_qk (.iface 53 (.int .i64 7)) (by kernel_rfl) ?_
   refine s_nil ?_
   refine k39 _ _ ?_
   refine w_ret (bl_ret (th_ret ?_))
   refine b_ret (fn := Tryd.f74) (vs := [.iface 53 (.int .i64 7)]) (aRes_tmp (by kernel_rfl) (rfl)) ?_
   obtain rfl := Option.some.inj r38
   exact ⟨(.iface 53 (.int .i64 7)), [], rfl, ((FrS.refl (W := []) wf).extR e9), Ev.no, Inn.nil⟩
  ·have r40 := ite_bf h37 r17
   refine w_seqk fun K41 k41 => ?_
   refine w_reg (by kernel_rfl) ?_
   refine s_qk (.pointer (some ⟨b7, 2, none⟩)) (by kernel_rfl) ?_
   refine s_ql (.int .i64 Weight) (x := aLoad Tryd.prog 3 (.pointer (some ⟨b7, 2, none⟩)) H8) (by kernel_rfl) (r11.ld (by kernel_rfl)) ?_
   refine s_b (Weight < 0) (by kernel_rfl) (fun h42 => ?_) (fun h42 => ?_)
   ·have r43 := ite_t h42 r40
    refine s_qk (.bool true) (by kernel_rfl) ?_
    refine s_no (by kernel_rfl) ?_
    refine s_no (by kernel_rfl) ?_
    refine s_no (by kernel_rfl) ?_
    refine s_qk (.bool true) (by kernel_rfl) ?_
    refine s_qk (.bool true) (by kernel_rfl) ?_
    refine s_nil ?_
    refine k41 _ _ ?_
    refine w_cond true (by kernel_rfl) rfl (fun _ => ?_) (fun h => by cases h)
    refine w_seqk fun K44 k44 => ?_
    refine w_reg (by kernel_rfl) ?_
    refine s_qk (.iface 53 (.int .i64 8)) (by kernel_rfl) ?_
    refine s_qk (.iface 53 (.int .i64 8)) (by kernel_rfl) ?_
    refine s_nil ?_
    refine k44 _ _ ?_
    refine w_ret (bl_ret (th_ret ?_))
    refine b_ret (fn := Tryd.f74) (vs := [.iface 53 (.int .i64 8)]) (aRes_tmp (by kernel_rfl) (rfl)) ?_
    obtain rfl := Option.some.inj r43
    exact ⟨(.iface 53 (.int .i64 8)), [], rfl, ((FrS.refl (W := []) wf).extR e9), Ev.no, Inn.nil⟩
   ·have r45 := ite_f h42 r40
    refine s_qk (.bool false) (by kernel_rfl) ?_
    refine s_qk (.pointer (some ⟨b7, 2, none⟩)) (by kernel_rfl) ?_
    refine s_ql (.int .i64 Weight) (x := aLoad Tryd.prog 3 (.pointer (some ⟨b7, 2, none⟩)) H8) (by kernel_rfl) (r11.ld (by kernel_rfl)) ?_
    refine s_qk (.bool (decide (Weight > 2147483647))) (by kernel_rfl) ?_
    refine s_qk (.bool (decide (Weight > 2147483647))) (by kernel_rfl) ?_
    refine s_qk (.bool (decide (Weight > 2147483647))) (by kernel_rfl) ?_
    refine s_nil ?_
    refine k41 _ _ ?_
    refine w_condp (Weight > 2147483647) (by kernel_rfl) rfl (fun h46 => ?_) (fun h46 => ?_)
    ·have r47 := ite_t h46 r45
     refine w_seqk fun K48 k48 => ?_
     refine w_reg (by kernel_rfl) ?_
     refine s_qk (.iface 53 (.int .i64 8)) (by kernel_rfl) ?_
     refine s_qk (.iface 53 (.int .i64 8)) (by kernel_rfl) ?_
     refine s_nil ?_
     refine k48 _ _ ?_
     refine w_ret (bl_ret (th_ret ?_))
     refine b_ret (fn := Tryd.f74) (vs := [.iface 53 (.int .i64 8)]) (aRes_tmp (by kernel_rfl) (rfl)) ?_
     obtain rfl := Option.some.inj r47
     exact ⟨(.iface 53 (.int .i64 8)), [], rfl, ((FrS.refl (W := []) wf).extR e9), Ev.no, Inn.nil⟩
    ·have r49 := ite_f h46 r45
     refine w_skip ?_
     refine k13 _ _ ?_
     refine w_seqk fun K50 k50 => ?_
     refine w_reg (by kernel_rfl) ?_
     refine s_qk (.nilIface) (by kernel_rfl) ?_
     refine s_nil ?_
     refine k50 _ _ ?_
     refine w_ret ?_
     refine b_ret (fn := Tryd.f74) (vs := [.nilIface]) (aRes_tmp (by kernel_rfl) (rfl)) ?_
     obtain rfl := Option.some.inj r49
     exact ⟨(.nilIface), [], rfl, ((FrS.refl (W := []) wf).extR e9), Ev.nil, Inn.nil⟩

theorem c_fault_At {H : AH} {ev_err : Value} {fp_err : Fp} {kind : Int} {at_ : Int} {err : Er} {r : Er}
  (wf : WF H) (h_err : Ev 53 90 H ev_err err fp_err) (hr : z_fault_At kind at_ err = some r) :
  ACalls Tryd.prog 63 #[.int .i64 kind, .int .i64 at_, ev_err] H fun v H' => ∃ (v3 : Value) (f4 : Fp), v = v3 ∧ FrS [] H H' ∧ Ev 53 90 H' v3 r f4 ∧ Inn fp_err H f4 := by
 refine acalls_of_body mixed Tryd.func63 rfl (Nat.le_of_ble_eq_true rfl) ?_
 unfold z_fault_At at hr
 refine w_seqk fun K6 k6 => ?_
 refine w_reg (by kernel_rfl) ?_
 refine s_qk (.nilIface) (by kernel_rfl) ?_
 refine s_nil ?_
 refine k6 _ _ ?_
 refine w_seqk fun K7 k7 => ?_
 refine w_seqk fun K8 k8 => ?_
 refine w_reg (by kernel_rfl) ?_
 refine s_qk (ev_err) (by kernel_rfl) ?_
 rcases (h_err).cases with ⟨h9, rfl⟩ | ⟨h9, t10, x11, rfl⟩
 ·have r12 := ite_t h9 hr
  refine s_qk (.bool true) (by kernel_rfl) ?_
  refine s_nil ?_
  refine k8 _ _ ?_
  refine w_cond true (by kernel_rfl) rfl (fun _ => ?_) (fun h => by cases h)
  refine w_seqk fun K13 k13 => ?_
  refine w_reg (by kernel_rfl) ?_
  refine s_qk (.nilIface) (by kernel_rfl) ?_
  refine s_nil ?_
  refine k13 _ _ ?_
  refine w_ret (th_ret ?_)
  refine b_ret (fn := Tryd.f63) (vs := [.nilIface]) (aRes_tmp (by kernel_rfl) (rfl)) ?_
  obtain rfl := Option.some.inj r12
  exact ⟨(.nilIface), [], rfl, (FrS.refl (W := []) wf), Ev.nil, Inn.nil⟩
 ·have r14 := ite_f h9 hr
  refine s_ql (.bool false) (x := aBin Tryd.prog .eql 28 (.tmp 7) (.const .nilIface) (.iface t10 x11) .nilIface) (by kernel_rfl) (aBin_nil (by kernel_rfl)) ?_
  refine s_nil ?_
  refine k8 _ _ ?_
  refine w_cond false (by kernel_rfl) rfl (fun h => by cases h) (fun _ => ?_)
  refine w_skip ?_
  refine k7 _ _ ?_
  refine w_seqk fun K15 k15 => ?_
  refine w_reg (by kernel_rfl) ?_
  refine s_qk (.int .i64 kind) (by kernel_rfl) ?_
  refine s_qk (.int .i64 at_) (by kernel_rfl) ?_
  refine s_qk (.agg #[.int .i64 kind, .int .i64 at_]) (by kernel_rfl) ?_
  refine s_qk (.iface t10 x11) (by kernel_rfl) ?_
  refine s_qk (.agg #[.int .i64 kind, .int .i64 at_, .iface t10 x11]) (by kernel_rfl) ?_
  refine s_rwl wf [.int .i64 kind, .int .i64 at_, .iface t10 x11] (one_cons (rfl) (one_cons (rfl) (one_cons (h_err.one1) (one_nil)))) (by kernel_rfl) fun b16 H17 e18 hb19 r20 => ?_
  have u22 := (h_err.ext e18)
  obtain ⟨fq23, he24, hi25⟩ := Ev.at r20 u22 hb19
  refine s_qk (.iface 90 (.pointer (some ⟨b16, 0, none⟩))) (by kernel_rfl) ?_
  refine s_qk (.iface 90 (.pointer (some ⟨b16, 0, none⟩))) (by kernel_rfl) ?_
  refine s_nil ?_
  refine k15 _ _ ?_
  refine w_ret ?_
  refine b_ret (fn := Tryd.f63) (vs := [.iface 90 (.pointer (some ⟨b16, 0, none⟩))]) (aRes_tmp (by kernel_rfl) (rfl)) ?_
  obtain rfl := Option.some.inj r14
  exact ⟨(.iface 90 (.pointer (some ⟨b16, 0, none⟩))), fq23, rfl, ((FrS.refl (W := []) wf).extR e18), he24, (Inn.trans Inn.refl' (Nat.le_refl _) hi25)⟩

theorem c_gtext_Check {H : AH} {hd_Arcs : Value} {fp_Arcs : Fp} {N_ : Int} {Arcs : List (Int × Int × Int)} {r : Er}
  (wf : WF H) (h_Arcs : Sq enc_i64_i64_i64 3 H hd_Arcs Arcs fp_Arcs) (hr : z_gtext_Check N_ Arcs = some r) :
  ACalls Tryd.prog 47 #[.agg #[.int .i64 N_, hd_Arcs]] H fun v H' => ∃ (v3 : Value) (f4 : Fp), v = v3 ∧ FrS [] H H' ∧ Ev 53 90 H' v3 r f4 ∧ Inn [] H f4 := by
 refine acalls_of_body mixed Tryd.func47 rfl (Nat.le_of_ble_eq_true rfl) ?_
 unfold z_gtext_Check at hr
 refine w_seqk fun K6 k6 => ?_
 refine w_reg (by kernel_rfl) ?_
 refine s_rwl wf [.int .i64 N_, hd_Arcs] (one_cons (rfl) (one_cons (h_Arcs.one1) (one_nil))) (by kernel_rfl) fun b7 H8 e9 hb10 r11 => ?_
 refine s_qk (.nilIface) (by kernel_rfl) ?_
 refine s_nil ?_
 refine k6 _ _ ?_
 refine w_seqk fun K13 k13 => ?_
 refine w_seqk fun K14 k14 => ?_
 obtain ⟨o15, hx16, r17⟩ := bind_some hr
 refine w_mid (fun α H18 => Has α [(1, .pointer (some ⟨b7, 0, none⟩)), (19, .bool o15)] ∧ H8 = H18) (fun K20 k20 => ?_) (fun α H18 hM => ?_)
 ·refine w_reg (by kernel_rfl) ?_
  refine s_qk (.pointer (some ⟨b7, 0, none⟩)) (by kernel_rfl) ?_
  refine s_ql (.int .i64 N_) (x := aLoad Tryd.prog 3 (.pointer (some ⟨b7, 0, none⟩)) H8) (by kernel_rfl) (r11.ld (by kernel_rfl)) ?_
  refine s_b (N_ < 0) (by kernel_rfl) (fun h22 => ?_) (fun h22 => ?_)
  ·have r23 := ite_t h22 hx16
   refine s_qk (.bool true) (by kernel_rfl) ?_
   refine s_no (by kernel_rfl) ?_
   refine s_no (by kernel_rfl) ?_
   refine s_no (by kernel_rfl) ?_
   refine s_qk (.bool true) (by kernel_rfl) ?_
   refine s_qk (.bool true) (by kernel_rfl) ?_
   refine s_no (by kernel_rfl) ?_
   refine s_no (by kernel_rfl) ?_
   refine s_no (by kernel_rfl) ?_
   refine s_no (by kernel_rfl) ?_
   refine s_qk (.bool true) (by kernel_rfl) ?_
   refine s_nil ?_
   obtain rfl := Option.some.inj r23
   exact k20 _ _ ⟨⟨by kernel_rfl, by kernel_rfl, trivial⟩, rfl⟩
  ·have r24 := ite_f h22 hx16
   refine s_qk (.bool false) (by kernel_rfl) ?_
   refine s_qk (.pointer (some ⟨b7, 0, none⟩)) (by kernel_rfl) ?_
   refine s_ql (.int .i64 N_) (x := aLoad Tryd.prog 3 (.pointer (some ⟨b7, 0, none⟩)) H8) (by kernel_rfl) (r11.ld (by kernel_rfl)) ?_
   refine s_b (N_ > 65536) (by kernel_rfl) (fun h25 => ?_) (fun h25 => ?_)
   ·have r26 := ite_t h25 r24
    refine s_qk (.bool true) (by kernel_rfl) ?_
    refine s_qk (.bool true) (by kernel_rfl) ?_
    refine s_no (by kernel_rfl) ?_
    refine s_no (by kernel_rfl) ?_
    refine s_no (by kernel_rfl) ?_
    refine s_no (by kernel_rfl) ?_
    refine s_qk (.bool true) (by kernel_rfl) ?_
    refine s_nil ?_
    obtain rfl := Option.some.inj r26
    exact k20 _ _ ⟨⟨by kernel_rfl, by kernel_rfl, trivial⟩, rfl⟩
   ·have r27 := ite_f h25 r24
    refine s_qk (.bool false) (by kernel_rfl) ?_
    refine s_qk (.bool false) (by kernel_rfl) ?_
    refine s_qk (.pointer (some ⟨b7, 1, none⟩)) (by kernel_rfl) ?_
    refine s_ql (hd_Arcs) (x := aLoad Tryd.prog 22 (.pointer (some ⟨b7, 1, none⟩)) H8) (by kernel_rfl) (r11.ld (by kernel_rfl)) ?_
    have u28 := (h_Arcs.ext e9)
    refine s_ql (.int .i64 (Arcs.length : Int)) (x := aLen Tryd.prog 22 hd_Arcs H8) (by kernel_rfl) (u28.lenb (by kernel_rfl)) ?_
    refine s_qk (.bool (decide ((Arcs.length : Int) > 262144))) (by kernel_rfl) ?_
    refine s_qk (.bool (decide ((Arcs.length : Int) > 262144))) (by kernel_rfl) ?_
    refine s_nil ?_
    obtain rfl := Option.some.inj r27
    exact k20 _ _ ⟨⟨by kernel_rfl, by kernel_rfl, trivial⟩, rfl⟩
 ·obtain ⟨hh21, rfl⟩ := hM
  obtain ⟨β, rfl⟩ := has_ex hh21
  clear hh21
  refine k14 _ _ ?_
  refine w_cond (o15) (by kernel_rfl) rfl (fun h29 => ?_) (fun h29 => ?_)
  ·have r30 := ite_t h29 r17
   refine w_seqk fun K31 k31 => ?_
   refine w_reg (by kernel_rfl) ?_
   refine s_qk (.iface 53 (.int .i64 9)) (by kernel_rfl) ?_
   refine s_qk (.iface 53 (.int .i64 9)) (by kernel_rfl) ?_
   refine s_nil ?_
   refine k31 _ _ ?_
   refine w_ret (th_ret ?_)
   refine b_ret (fn := Tryd.f47) (vs := [.iface 53 (.int .i64 9)]) (aRes_tmp (by kernel_rfl) (rfl)) ?_
   obtain rfl := Option.some.inj r30
   exact ⟨(.iface 53 (.int .i64 9)), [], rfl, ((FrS.refl (W := []) wf).extR e9), Ev.no, Inn.nil⟩
  ·have r32 := ite_bf h29 r17
   refine w_skip ?_
   refine k13 _ _ ?_
   refine w_seqk fun K33 k33 => ?_
   refine w_seqk fun K34 k34 => ?_
   refine w_reg (by kernel_rfl) ?_
   refine s_qk (.pointer (some ⟨b7, 1, none⟩)) (by kernel_rfl) ?_
   refine s_ql (hd_Arcs) (x := aLoad Tryd.prog 22 (.pointer (some ⟨b7, 1, none⟩)) H8) (by kernel_rfl) (r11.ld (by kernel_rfl)) ?_
   have u35 := (h_Arcs.ext e9)
   refine s_ql (.int .i64 (Arcs.length : Int)) (x := aLen Tryd.prog 22 hd_Arcs H8) (by kernel_rfl) (u35.lenb (by kernel_rfl)) ?_
   refine s_qk (.int .i64 0) (by kernel_rfl) ?_
   refine s_nil ?_
   refine k34 _ _ ?_
   obtain ⟨z39, hx37, r38⟩ := bind_some r32
   refine w_mid (fun α H40 => ∃ o36, z39 = Sum.inr o36 ∧ Has α [] ∧ FrS [] H8 H40) (fun K42 k42 => ?_) (fun α H40 hM => ?_)
   ·refine w_block ?_
    obtain ⟨n44, hn45⟩ := loopO_iff.1 hx37
    refine w_loopn (fun n α H46 => ∃ (i0 : Int), iterO (fun zz_ => z_gtext_Check_l0 N_ Arcs zz_) n i0 = some z39 ∧ Has α [(1, .pointer (some ⟨b7, 0, none⟩)), (22, hd_Arcs), (23, .int .i64 (Arcs.length : Int)), (24, .int .i64 i0)] ∧ FrS [] H8 H46) n44 ⟨0, hn45, ⟨by kernel_rfl, by kernel_rfl, by kernel_rfl, by kernel_rfl, trivial⟩, (FrS.refl (W := []) e9.wf)⟩ ?_
    rintro n44 α H46 ⟨i0, hi49, hh48, e47⟩ K54 k54
    obtain ⟨n50, z51, rfl, hz52, hn53⟩ := iter_succ hi49
    obtain ⟨β, rfl⟩ := has_ex hh48
    clear hh48
    replace hz52 : z_gtext_Check_l0 N_ Arcs i0 = some z51 := hz52
    unfold z_gtext_Check_l0 at hz52
    refine w_seqk fun K55 k55 => ?_
    refine w_reg (by kernel_rfl) ?_
    refine s_qk (.bool (decide (i0 < (Arcs.length : Int)))) (by kernel_rfl) ?_
    refine s_nil ?_
    refine k55 _ _ ?_
    refine w_seqk fun K56 k56 => ?_
    refine w_condp (i0 < (Arcs.length : Int)) (by kernel_rfl) rfl (fun h57 => ?_) (fun h57 => ?_)
    ·have r58 := ite_t h57 hz52
     refine w_skip ?_
     refine k56 _ _ ?_
     refine w_seqk fun K59 k59 => ?_
     refine w_block ?_
     refine w_seqk fun K60 k60 => ?_
     refine w_reg (by kernel_rfl) ?_
     refine s_qk (.int .i64 i0) (by kernel_rfl) ?_
     obtain ⟨g61, r62⟩ := G_some r58
     have u63 := (u35.fr e47 Dj.nil_l)
     refine s_ql (elp hd_Arcs 3 i0.toNat 0) (x := aIndexAddr Tryd.prog 22 hd_Arcs (.int .i64 i0)) (by kernel_rfl) (u63.idxb (by kernel_rfl) g61 h57) ?_
     refine s_ql (.agg #[.int .i64 ((gt Arcs i0).1), .int .i64 ((gt Arcs i0).2.1), .int .i64 ((gt Arcs i0).2.2)]) (x := aLoad Tryd.prog 51 (elp hd_Arcs 3 i0.toNat 0) H46) (by kernel_rfl) (u63.ld g61 h57 (by kernel_rfl)) ?_
     refine s_rwk e47.wf [.int .i64 0, .int .i64 0, .int .i64 0] (by kernel_rfl) fun b64 H65 e66 hb67 r68 => ?_
     refine s_qk (.int .i64 i0) (by kernel_rfl) ?_
     obtain ⟨H70, q71, e72, r73⟩ := Row.store (P := Tryd.prog) (t := 51) (p := 0) e66.wf r68 (.agg #[.int .i64 ((gt Arcs i0).1), .int .i64 ((gt Arcs i0).2.1), .int .i64 ((gt Arcs i0).2.2)]) [.int .i64 ((gt Arcs i0).1), .int .i64 ((gt Arcs i0).2.1), .int .i64 ((gt Arcs i0).2.2)] (by kernel_rfl) (by kernel_rfl) (one_cons (rfl) (one_cons (rfl) (one_cons (rfl) (one_nil)))) (Nat.le_of_ble_eq_true (by kernel_rfl)) [.int .i64 ((gt Arcs i0).1), .int .i64 ((gt Arcs i0).2.1), .int .i64 ((gt Arcs i0).2.2)] (by kernel_rfl)
     refine s_ek (undef) (by kernel_rfl) (map_ok q71) ?_
     refine s_nil ?_
     refine k60 _ _ ?_
     refine w_seqk fun K74 k74 => ?_
     refine w_reg (by kernel_rfl) ?_
     refine s_ql (.agg #[.int .i64 ((gt Arcs i0).1), .int .i64 ((gt Arcs i0).2.1), .int .i64 ((gt Arcs i0).2.2)]) (x := aLoad Tryd.prog 51 (.pointer (some ⟨b64, 0, none⟩)) H70) (by kernel_rfl) (r73.ld (by kernel_rfl)) ?_
     refine s_qk (.pointer (some ⟨b7, 0, none⟩)) (by kernel_rfl) ?_
     have u75 := (((r11.frS e47 Dj.nil_l).ext e66).frS e72 (hb67.djn (r11.ltF.le e47.next)))
     refine s_ql (.int .i64 N_) (x := aLoad Tryd.prog 3 (.pointer (some ⟨b7, 0, none⟩)) H70) (by kernel_rfl) (u75.ld (by kernel_rfl)) ?_
     obtain ⟨y76, hy77, r78⟩ := bind_some r62
     refine s_ck 74 #[.agg #[.int .i64 ((gt Arcs i0).1), .int .i64 ((gt Arcs i0).2.1), .int .i64 ((gt Arcs i0).2.2)], .int .i64 N_] (by kernel_rfl) (c_gtext_arc e72.wf hy77) ?_
     rintro v79 H81 ⟨_, f80, rfl, e82, m83, i84⟩
     refine s_qk (v79) (by kernel_rfl) ?_
     refine s_nil ?_
     refine k74 _ _ ?_
     refine w_seqk fun K86 k86 => ?_
     refine w_reg (by kernel_rfl) ?_
     refine s_qk (v79) (by kernel_rfl) ?_
     rcases (m83).cases with ⟨h87, rfl⟩ | ⟨h87, t88, x89, rfl⟩
     ·have r90 := ite_t h87 r78
      refine s_qk (.bool false) (by kernel_rfl) ?_
      refine s_nil ?_
      refine k86 _ _ ?_
      refine w_cond false (by kernel_rfl) rfl (fun h => by cases h) (fun _ => ?_)
      refine w_skip ?_
      refine k59 _ _ ?_
      refine w_reg (by kernel_rfl) ?_
      obtain ⟨g91, r92⟩ := G_some r90
      refine s_w ((i0 + 1)) (k := .i64) (x := (i0 + 1)) (by kernel_rfl) (wrap64 (by have := g91; omega)) ?_
      refine s_qk (.int .i64 (i0 + 1)) (by kernel_rfl) ?_
      refine s_nil ?_
      obtain rfl := Option.some.inj r92
      exact k54 n50 _ _ (Nat.lt_succ_self _) ⟨(i0 + 1), hn53, ⟨by kernel_rfl, by kernel_rfl, by kernel_rfl, by kernel_rfl, trivial⟩, (FrS.step e9.wf (FrS.step e9.wf ((FrS.step e9.wf (FrS.refl (W := []) e9.wf) e47 Inn.nil).extR e66) e72 (hb67.fresh e47.next)) e82 Inn.nil)⟩
     ·have r93 := ite_f h87 r78
      refine s_ql (.bool true) (x := aBin Tryd.prog .neq 28 (.tmp 33) (.const .nilIface) (.iface t88 x89) .nilIface) (by kernel_rfl) (aBin_nnil (by kernel_rfl)) ?_
      refine s_nil ?_
      refine k86 _ _ ?_
      refine w_cond true (by kernel_rfl) rfl (fun _ => ?_) (fun h => by cases h)
      refine w_seqk fun K94 k94 => ?_
      refine w_reg (by kernel_rfl) ?_
      refine s_qk (.int .i64 i0) (by kernel_rfl) ?_
      refine s_qk (.iface t88 x89) (by kernel_rfl) ?_
      obtain ⟨y95, hy96, r97⟩ := bind_some r93
      refine s_ck 63 #[.int .i64 4, .int .i64 i0, .iface t88 x89] (by kernel_rfl) (c_fault_At e82.wf m83 hy96) ?_
      rintro v98 H100 ⟨_, f99, rfl, e101, m102, i103⟩
      refine s_qk (v98) (by kernel_rfl) ?_
      refine s_nil ?_
      refine k94 _ _ ?_
      refine w_ret (bl_ret (th_ret (th_ret (bl_ret (th_ret (th_ret ?_))))))
      obtain ⟨v105, hv106, hz107⟩ := map_some r97
      subst hz107
      obtain rfl := it_inr hn53
      have hq108 := elim_inl r38
      rw [hq108] at hv106
      refine b_ret (fn := Tryd.f47) (vs := [v98]) (aRes_tmp (by kernel_rfl) (rfl)) ?_
      obtain rfl := Option.some.inj hv106
      exact ⟨(v98), f99, rfl, (FrS.step wf (FrS.step wf (FrS.step wf ((FrS.step wf ((FrS.refl (W := []) wf).extR e9) e47 Inn.nil).extR e66) e72 (hb67.fresh (ntr e9.next e47.next))) e82 Inn.nil) e101 Inn.nil), m102, (Inn.trans (i84.fresh (ntr (ntr (ntr e9.next e47.next) e66.next) e72.next)) (ntr (ntr (ntr (ntr e9.next e47.next) e66.next) e72.next) e82.next) i103)⟩
    ·have r109 := ite_f h57 hz52
     refine w_exit (th_exit (th_exit (bl_eq ?_)))
     obtain rfl := Option.some.inj r109
     obtain rfl := it_inr hn53
     exact k42 _ _ ⟨_, rfl, trivial, (FrS.step e9.wf (FrS.refl (W := []) e9.wf) e47 Inn.nil)⟩
   ·obtain ⟨o36, rfl, hh43, e41⟩ := hM
    have r110 := elim_inr r38
    obtain ⟨β, rfl⟩ := has_ex hh43
    clear hh43
    refine k33 _ _ ?_
    refine w_seqk fun K111 k111 => ?_
    refine w_reg (by kernel_rfl) ?_
    refine s_qk (.nilIface) (by kernel_rfl) ?_
    refine s_nil ?_
    refine k111 _ _ ?_
    refine w_ret ?_
    refine b_ret (fn := Tryd.f47) (vs := [.nilIface]) (aRes_tmp (by kernel_rfl) (rfl)) ?_
    obtain rfl := Option.some.inj r110
    exact ⟨(.nilIface), [], rfl, (FrS.step wf ((FrS.refl (W := []) wf).extR e9) e41 Inn.nil), Ev.nil, Inn.nil⟩

theorem c_slices_Grow {H : AH} {n_ : Int} {r : List (Int × Int × Int)}
  (wf : WF H) (hr : z_slices_Grow n_ = some r) :
  ACalls Tryd.prog 86 #[.slice none 0 0, .int .i64 n_] H fun v H' => ∃ (s3 : Value) (f4 : Fp), v = s3 ∧ FrS [] H H' ∧ Ow enc_i64_i64_i64 3 H' s3 r f4 ∧ Inn [] H f4 := by
 refine acalls_of_body mixed Tryd.func86 rfl (Nat.le_of_ble_eq_true rfl) ?_
 unfold z_slices_Grow at hr
 refine w_seqk fun K6 k6 => ?_
 refine w_reg (by kernel_rfl) ?_
 refine s_qk (.slice none 0 0) (by kernel_rfl) ?_
 refine s_nil ?_
 refine k6 _ _ ?_
 refine w_seqk fun K7 k7 => ?_
 refine w_seqk fun K8 k8 => ?_
 refine w_reg (by kernel_rfl) ?_
 refine s_qk (.int .i64 n_) (by kernel_rfl) ?_
 refine s_qk (.bool (decide (n_ < 0))) (by kernel_rfl) ?_
 refine s_nil ?_
 refine k8 _ _ ?_
 refine w_condp (n_ < 0) (by kernel_rfl) rfl (fun h9 => ?_) (fun h9 => ?_)
 ·have r10 := ite_t h9 hr
  refine w_reg (by kernel_rfl) ?_
  refine s_qk (.iface 9 (.string ⟨#[99, 97, 110, 110, 111, 116, 32, 98, 101, 32, 110, 101, 103, 97, 116, 105, 118, 101]⟩)) (by kernel_rfl) ?_
  exact (no_none r10).elim
 ·have r11 := ite_f h9 hr
  refine w_skip ?_
  refine k7 _ _ ?_
  refine w_seqk fun K12 k12 => ?_
  refine w_seqk fun K13 k13 => ?_
  refine w_reg (by kernel_rfl) ?_
  refine s_qk (.int .i64 n_) (by kernel_rfl) ?_
  refine s_qk (.slice none 0 0) (by kernel_rfl) ?_
  refine s_qk (.int .i64 0) (by kernel_rfl) ?_
  refine s_qk (.slice none 0 0) (by kernel_rfl) ?_
  refine s_qk (.int .i64 0) (by kernel_rfl) ?_
  refine s_qk (.int .i64 0) (by kernel_rfl) ?_
  obtain ⟨g14, r15⟩ := G_some r11
  refine s_w ((n_ - 0)) (k := .i64) (x := (n_ - 0)) (by kernel_rfl) (wrap64 g14) ?_
  refine s_qk (.int .i64 (n_ - 0)) (by kernel_rfl) ?_
  refine s_nil ?_
  refine k13 _ _ ?_
  refine w_seqk fun K16 k16 => ?_
  refine w_reg (by kernel_rfl) ?_
  refine s_qk (.int .i64 (n_ - 0)) (by kernel_rfl) ?_
  refine s_qk (.bool (decide ((n_ - 0) > 0))) (by kernel_rfl) ?_
  refine s_nil ?_
  refine k16 _ _ ?_
  refine w_condp ((n_ - 0) > 0) (by kernel_rfl) rfl (fun h17 => ?_) (fun h17 => ?_)
  ·have r18 := ite_t h17 r15
   refine w_reg (by kernel_rfl) ?_
   refine s_qk (.slice none 0 0) (by kernel_rfl) ?_
   refine s_qk (.slice none 0 0) (by kernel_rfl) ?_
   refine s_qk (.int .i64 0) (by kernel_rfl) ?_
   refine s_qk (.slice none 0 0) (by kernel_rfl) ?_
   refine s_qk (.int .i64 (n_ - 0)) (by kernel_rfl) ?_
   obtain ⟨g19, r20⟩ := G_some r18
   have q27_ := g19
   obtain ⟨s21, H22, f23, q27, e24, hm25, hf26⟩ := Ow.appendZ (P := Tryd.prog) (m := 24) (k := .i64) (k1 := .i64) (n := (n_ - 0)) (at_ := #[22, 3]) ((0, 0, 0) : Int × Int × Int) wf (Ow.nil (enc := enc_i64_i64_i64) (sz := 3) (by decide)) rfl rfl (by kernel_rfl) (by kernel_rfl) (by decide) q27_.1 (by omega) (by have := q27_; omega) (by have := q27_; first | omega | (simp only [List.length_nil] at this ⊢; omega))
   obtain ⟨a28, n29, c30, rfl⟩ := hm25.form
   refine s_ek (.slice a28 n29 c30) (by kernel_rfl) (q27) ?_
   refine s_qk (.slice none 0 0) (by kernel_rfl) ?_
   refine s_qk (.int .i64 0) (by kernel_rfl) ?_
   obtain ⟨g32, r33⟩ := G_some r20
   obtain ⟨s34, q35, hs36⟩ := Ow.head (P := Tryd.prog) hm25 (t := 22) (by kernel_rfl) (hi := (some (.int .i64 0))) (r := (0 : Int).toNat) (aBound_int _ (by have := g32; omega)) (by have := g32; omega)
   obtain ⟨a37, n38, c39, rfl⟩ := hs36.form
   refine s_ql (.slice a37 n38 c39) (by kernel_rfl) q35 ?_
   refine s_qk (.slice a37 n38 c39) (by kernel_rfl) ?_
   refine s_nil ?_
   refine k12 _ _ ?_
   refine w_seqk fun K41 k41 => ?_
   refine w_reg (by kernel_rfl) ?_
   refine s_qk (.slice a37 n38 c39) (by kernel_rfl) ?_
   refine s_qk (.slice a37 n38 c39) (by kernel_rfl) ?_
   refine s_nil ?_
   refine k41 _ _ ?_
   refine w_ret ?_
   refine b_ret (fn := Tryd.f86) (vs := [.slice a37 n38 c39]) (aRes_tmp (by kernel_rfl) (rfl)) ?_
   obtain rfl := Option.some.inj r33
   exact ⟨(.slice a37 n38 c39), f23, rfl, (FrS.step wf (FrS.refl (W := []) wf) e24 Inn.nil), hs36, (hf26.fresh (Nat.le_refl _))⟩
  ·have r42 := ite_f h17 r15
   refine w_skip ?_
   refine k12 _ _ ?_
   refine w_seqk fun K43 k43 => ?_
   refine w_reg (by kernel_rfl) ?_
   refine s_qk (.slice none 0 0) (by kernel_rfl) ?_
   refine s_qk (.slice none 0 0) (by kernel_rfl) ?_
   refine s_nil ?_
   refine k43 _ _ ?_
   refine w_ret ?_
   refine b_ret (fn := Tryd.f86) (vs := [.slice none 0 0]) (aRes_tmp (by kernel_rfl) (rfl)) ?_
   obtain rfl := Option.some.inj r42
   exact ⟨(.slice none 0 0), [], rfl, (FrS.refl (W := []) wf), (Ow.nil (by decide)), Inn.nil⟩

theorem c_slices_Concat {H : AH} {b_slices : Nat} {hd_slices_ : Value} {fp_slices_ : Fp} {hd_slices_2 : Value} {fp_slices_2 : Fp} {slices_ : List (Int × Int × Int)} {slices_2 : List (Int × Int × Int)} {r : List (Int × Int × Int)}
  (wf : WF H) (h_slices_ : Sq enc_i64_i64_i64 3 H hd_slices_ slices_ fp_slices_) (h_slices_2 : Sq enc_i64_i64_i64 3 H hd_slices_2 slices_2 fp_slices_2) (h_slices : Row H b_slices [hd_slices_, hd_slices_2]) (hr : z_slices_Concat slices_ slices_2 = some r) :
  ACalls Tryd.prog 59 #[.slice (some ⟨b_slices, 0, none⟩) 2 2] H fun v H' => ∃ (s3 : Value) (f4 : Fp), v = s3 ∧ FrS [] H H' ∧ Ow enc_i64_i64_i64 3 H' s3 r f4 ∧ Inn [] H f4 := by
 refine acalls_of_body mixed Tryd.func59 rfl (Nat.le_of_ble_eq_true rfl) ?_
 unfold z_slices_Concat at hr
 refine w_seqk fun K6 k6 => ?_
 refine w_reg (by kernel_rfl) ?_
 refine s_qk (.slice none 0 0) (by kernel_rfl) ?_
 refine s_nil ?_
 refine k6 _ _ ?_
 refine w_seqk fun K7 k7 => ?_
 refine w_reg (by kernel_rfl) ?_
 refine s_qk (.int .i64 0) (by kernel_rfl) ?_
 refine s_nil ?_
 refine k7 _ _ ?_
 refine w_seqk fun K8 k8 => ?_
 refine w_seqk fun K9 k9 => ?_
 refine w_reg (by kernel_rfl) ?_
 refine s_qk (.slice (some ⟨b_slices, 0, none⟩) 2 2) (by kernel_rfl) ?_
 refine s_qk (.int .i64 2) (by kernel_rfl) ?_
 refine s_qk (.int .i64 0) (by kernel_rfl) ?_
 refine s_nil ?_
 refine k9 _ _ ?_
 refine w_block ?_
 refine w_unroll ?_
 refine w_seqk fun K10 k10 => ?_
 refine w_reg (by kernel_rfl) ?_
 refine s_qk (.bool true) (by kernel_rfl) ?_
 refine s_nil ?_
 refine k10 _ _ ?_
 refine w_seqk fun K11 k11 => ?_
 refine w_cond true (by kernel_rfl) rfl (fun _ => ?_) (fun h => by cases h)
 refine w_skip ?_
 refine k11 _ _ ?_
 refine w_seqk fun K12 k12 => ?_
 refine w_block ?_
 refine w_seqk fun K13 k13 => ?_
 refine w_reg (by kernel_rfl) ?_
 refine s_qk (.pointer (some ⟨b_slices, 0, none⟩)) (by kernel_rfl) ?_
 refine s_ql (hd_slices_) (x := aLoad Tryd.prog 22 (.pointer (some ⟨b_slices, 0, none⟩)) H) (by kernel_rfl) (h_slices.ld (by kernel_rfl)) ?_
 refine s_qk (hd_slices_) (by kernel_rfl) ?_
 refine s_nil ?_
 refine k13 _ _ ?_
 refine w_seqk fun K14 k14 => ?_
 refine w_reg (by kernel_rfl) ?_
 refine s_qk (.int .i64 0) (by kernel_rfl) ?_
 refine s_qk (hd_slices_) (by kernel_rfl) ?_
 refine s_ql (.int .i64 (slices_.length : Int)) (x := aLen Tryd.prog 22 hd_slices_ H) (by kernel_rfl) (h_slices_.lenb (by kernel_rfl)) ?_
 obtain ⟨g15, r16⟩ := G_some hr
 refine s_w ((0 + (slices_.length : Int))) (k := .i64) (x := (0 + (slices_.length : Int))) (by kernel_rfl) (wrap64 g15) ?_
 refine s_qk (.int .i64 (0 + (slices_.length : Int))) (by kernel_rfl) ?_
 refine s_nil ?_
 refine k14 _ _ ?_
 refine w_seqk fun K17 k17 => ?_
 refine w_reg (by kernel_rfl) ?_
 refine s_qk (.int .i64 (0 + (slices_.length : Int))) (by kernel_rfl) ?_
 refine s_qk (.bool (decide ((0 + (slices_.length : Int)) < 0))) (by kernel_rfl) ?_
 refine s_nil ?_
 refine k17 _ _ ?_
 refine w_condp ((0 + (slices_.length : Int)) < 0) (by kernel_rfl) rfl (fun h18 => ?_) (fun h18 => ?_)
 ·have r19 := ite_t h18 r16
  refine w_reg (by kernel_rfl) ?_
  refine s_qk (.iface 9 (.string ⟨#[108, 101, 110, 32, 111, 117, 116, 32, 111, 102, 32, 114, 97, 110, 103, 101]⟩)) (by kernel_rfl) ?_
  exact (no_none r19).elim
 ·have r20 := ite_f h18 r16
  refine w_skip ?_
  refine k12 _ _ ?_
  refine w_reg (by kernel_rfl) ?_
  refine s_qk (.int .i64 1) (by kernel_rfl) ?_
  refine s_qk (.int .i64 1) (by kernel_rfl) ?_
  refine s_nil ?_
  refine w_unroll ?_
  refine w_seqk fun K21 k21 => ?_
  refine w_reg (by kernel_rfl) ?_
  refine s_qk (.bool true) (by kernel_rfl) ?_
  refine s_nil ?_
  refine k21 _ _ ?_
  refine w_seqk fun K22 k22 => ?_
  refine w_cond true (by kernel_rfl) rfl (fun _ => ?_) (fun h => by cases h)
  refine w_skip ?_
  refine k22 _ _ ?_
  refine w_seqk fun K23 k23 => ?_
  refine w_block ?_
  refine w_seqk fun K24 k24 => ?_
  refine w_reg (by kernel_rfl) ?_
  refine s_qk (.pointer (some ⟨b_slices, 1, none⟩)) (by kernel_rfl) ?_
  refine s_ql (hd_slices_2) (x := aLoad Tryd.prog 22 (.pointer (some ⟨b_slices, 1, none⟩)) H) (by kernel_rfl) (h_slices.ld (by kernel_rfl)) ?_
  refine s_qk (hd_slices_2) (by kernel_rfl) ?_
  refine s_nil ?_
  refine k24 _ _ ?_
  refine w_seqk fun K25 k25 => ?_
  refine w_reg (by kernel_rfl) ?_
  refine s_qk (.int .i64 (0 + (slices_.length : Int))) (by kernel_rfl) ?_
  refine s_qk (hd_slices_2) (by kernel_rfl) ?_
  refine s_ql (.int .i64 (slices_2.length : Int)) (x := aLen Tryd.prog 22 hd_slices_2 H) (by kernel_rfl) (h_slices_2.lenb (by kernel_rfl)) ?_
  obtain ⟨g26, r27⟩ := G_some r20
  refine s_w (((0 + (slices_.length : Int)) + (slices_2.length : Int))) (k := .i64) (x := ((0 + (slices_.length : Int)) + (slices_2.length : Int))) (by kernel_rfl) (wrap64 g26) ?_
  refine s_qk (.int .i64 ((0 + (slices_.length : Int)) + (slices_2.length : Int))) (by kernel_rfl) ?_
  refine s_nil ?_
  refine k25 _ _ ?_
  refine w_seqk fun K28 k28 => ?_
  refine w_reg (by kernel_rfl) ?_
  refine s_qk (.int .i64 ((0 + (slices_.length : Int)) + (slices_2.length : Int))) (by kernel_rfl) ?_
  refine s_qk (.bool (decide (((0 + (slices_.length : Int)) + (slices_2.length : Int)) < 0))) (by kernel_rfl) ?_
  refine s_nil ?_
  refine k28 _ _ ?_
  refine w_condp (((0 + (slices_.length : Int)) + (slices_2.length : Int)) < 0) (by kernel_rfl) rfl (fun h29 => ?_) (fun h29 => ?_)
  ·have r30 := ite_t h29 r27
   refine w_reg (by kernel_rfl) ?_
   refine s_qk (.iface 9 (.string ⟨#[108, 101, 110, 32, 111, 117, 116, 32, 111, 102, 32, 114, 97, 110, 103, 101]⟩)) (by kernel_rfl) ?_
   exact (no_none r30).elim
  ·have r31 := ite_f h29 r27
   refine w_skip ?_
   refine k23 _ _ ?_
   refine w_reg (by kernel_rfl) ?_
   refine s_qk (.int .i64 2) (by kernel_rfl) ?_
   refine s_qk (.int .i64 2) (by kernel_rfl) ?_
   refine s_nil ?_
   refine w_unroll ?_
   refine w_seqk fun K32 k32 => ?_
   refine w_reg (by kernel_rfl) ?_
   refine s_qk (.bool false) (by kernel_rfl) ?_
   refine s_nil ?_
   refine k32 _ _ ?_
   refine w_seqk fun K33 k33 => ?_
   refine w_cond false (by kernel_rfl) rfl (fun h => by cases h) (fun _ => ?_)
   refine w_exit (th_exit (th_exit (bl_eq ?_)))
   refine k8 _ _ ?_
   refine w_seqk fun K34 k34 => ?_
   refine w_reg (by kernel_rfl) ?_
   refine s_qk (.int .i64 ((0 + (slices_.length : Int)) + (slices_2.length : Int))) (by kernel_rfl) ?_
   obtain ⟨y35, hy36, r37⟩ := bind_some r31
   refine s_ck 86 #[.slice none 0 0, .int .i64 ((0 + (slices_.length : Int)) + (slices_2.length : Int))] (by kernel_rfl) (c_slices_Grow wf hy36) ?_
   rintro s38 H40 ⟨_, f39, rfl, e41, m42, i43⟩
   obtain ⟨a45, n46, c47, rfl⟩ := m42.form
   refine s_qk (.slice a45 n46 c47) (by kernel_rfl) ?_
   refine s_nil ?_
   refine k34 _ _ ?_
   refine w_seqk fun K48 k48 => ?_
   refine w_seqk fun K49 k49 => ?_
   refine w_reg (by kernel_rfl) ?_
   refine s_qk (.slice (some ⟨b_slices, 0, none⟩) 2 2) (by kernel_rfl) ?_
   refine s_qk (.int .i64 2) (by kernel_rfl) ?_
   refine s_qk (.int .i64 0) (by kernel_rfl) ?_
   refine s_nil ?_
   refine k49 _ _ ?_
   refine w_block ?_
   refine w_unroll ?_
   refine w_seqk fun K50 k50 => ?_
   refine w_reg (by kernel_rfl) ?_
   refine s_qk (.bool true) (by kernel_rfl) ?_
   refine s_nil ?_
   refine k50 _ _ ?_
   refine w_seqk fun K51 k51 => ?_
   refine w_cond true (by kernel_rfl) rfl (fun _ => ?_) (fun h => by cases h)
   refine w_skip ?_
   refine k51 _ _ ?_
   refine w_seqk fun K52 k52 => ?_
   refine w_block ?_
   refine w_seqk fun K53 k53 => ?_
   refine w_reg (by kernel_rfl) ?_
   refine s_qk (.pointer (some ⟨b_slices, 0, none⟩)) (by kernel_rfl) ?_
   have u54 := (h_slices.frS e41 Dj.nil_l)
   refine s_ql (hd_slices_) (x := aLoad Tryd.prog 22 (.pointer (some ⟨b_slices, 0, none⟩)) H40) (by kernel_rfl) (u54.ld (by kernel_rfl)) ?_
   refine s_qk (hd_slices_) (by kernel_rfl) ?_
   refine s_nil ?_
   refine k53 _ _ ?_
   refine w_reg (by kernel_rfl) ?_
   refine s_qk (.slice a45 n46 c47) (by kernel_rfl) ?_
   refine s_qk (hd_slices_) (by kernel_rfl) ?_
   obtain ⟨g55, r56⟩ := G_some r37
   have u64 := (h_slices_.fr e41 Dj.nil_l)
   obtain ⟨s57, H58, f59, q63, e60, hm61, hf62⟩ := Ow.append (P := Tryd.prog) 24 e41.wf m42 u64 (fun _ _ => rfl) (at_ := #[22, 22]) rfl rfl (by kernel_rfl) (by kernel_rfl) (by decide) (by have := g55; first | omega | (simp only [List.length_cons, List.length_nil] at this ⊢; omega) | (simp at this ⊢; omega))
   obtain ⟨a65, n66, c67, rfl⟩ := hm61.form
   refine s_ek (.slice a65 n66 c67) (by kernel_rfl) (q63) ?_
   refine s_qk (.slice a65 n66 c67) (by kernel_rfl) ?_
   refine s_nil ?_
   refine k52 _ _ ?_
   refine w_reg (by kernel_rfl) ?_
   refine s_qk (.int .i64 1) (by kernel_rfl) ?_
   refine s_qk (.int .i64 1) (by kernel_rfl) ?_
   refine s_nil ?_
   refine w_unroll ?_
   refine w_seqk fun K69 k69 => ?_
   refine w_reg (by kernel_rfl) ?_
   refine s_qk (.bool true) (by kernel_rfl) ?_
   refine s_nil ?_
   refine k69 _ _ ?_
   refine w_seqk fun K70 k70 => ?_
   refine w_cond true (by kernel_rfl) rfl (fun _ => ?_) (fun h => by cases h)
   refine w_skip ?_
   refine k70 _ _ ?_
   refine w_seqk fun K71 k71 => ?_
   refine w_block ?_
   refine w_seqk fun K72 k72 => ?_
   refine w_reg (by kernel_rfl) ?_
   refine s_qk (.pointer (some ⟨b_slices, 1, none⟩)) (by kernel_rfl) ?_
   have u73 := (u54.frS e60 (i43.djn h_slices.ltF))
   refine s_ql (hd_slices_2) (x := aLoad Tryd.prog 22 (.pointer (some ⟨b_slices, 1, none⟩)) H58) (by kernel_rfl) (u73.ld (by kernel_rfl)) ?_
   refine s_qk (hd_slices_2) (by kernel_rfl) ?_
   refine s_nil ?_
   refine k72 _ _ ?_
   refine w_reg (by kernel_rfl) ?_
   refine s_qk (.slice a65 n66 c67) (by kernel_rfl) ?_
   refine s_qk (hd_slices_2) (by kernel_rfl) ?_
   obtain ⟨g74, r75⟩ := G_some r56
   have u83 := ((h_slices_2.fr e41 Dj.nil_l).fr e60 (i43.djn h_slices_2.lt))
   obtain ⟨s76, H77, f78, q82, e79, hm80, hf81⟩ := Ow.append (P := Tryd.prog) 24 e60.wf hm61 u83 (fun _ _ => rfl) (at_ := #[22, 22]) rfl rfl (by kernel_rfl) (by kernel_rfl) (by decide) (by have := g74; first | omega | (simp only [List.length_cons, List.length_nil] at this ⊢; omega) | (simp at this ⊢; omega))
   obtain ⟨a84, n85, c86, rfl⟩ := hm80.form
   refine s_ek (.slice a84 n85 c86) (by kernel_rfl) (q82) ?_
   refine s_qk (.slice a84 n85 c86) (by kernel_rfl) ?_
   refine s_nil ?_
   refine k71 _ _ ?_
   refine w_reg (by kernel_rfl) ?_
   refine s_qk (.int .i64 2) (by kernel_rfl) ?_
   refine s_qk (.int .i64 2) (by kernel_rfl) ?_
   refine s_nil ?_
   refine w_unroll ?_
   refine w_seqk fun K88 k88 => ?_
   refine w_reg (by kernel_rfl) ?_
   refine s_qk (.bool false) (by kernel_rfl) ?_
   refine s_nil ?_
   refine k88 _ _ ?_
   refine w_seqk fun K89 k89 => ?_
   refine w_cond false (by kernel_rfl) rfl (fun h => by cases h) (fun _ => ?_)
   refine w_exit (th_exit (th_exit (bl_eq ?_)))
   refine k48 _ _ ?_
   refine w_seqk fun K90 k90 => ?_
   refine w_reg (by kernel_rfl) ?_
   refine s_qk (.slice a84 n85 c86) (by kernel_rfl) ?_
   refine s_qk (.slice a84 n85 c86) (by kernel_rfl) ?_
   refine s_nil ?_
   refine k90 _ _ ?_
   refine w_ret ?_
   refine b_ret (fn := Tryd.f59) (vs := [.slice a84 n85 c86]) (aRes_tmp (by kernel_rfl) (rfl)) ?_
   obtain rfl := Option.some.inj r75
   exact ⟨(.slice a84 n85 c86), f78, rfl, (FrS.step wf (FrS.step wf (FrS.step wf (FrS.refl (W := []) wf) e41 Inn.nil) e60 (i43.fresh (Nat.le_refl _))) e79 (Inn.trans (i43.fresh (Nat.le_refl _)) e41.next hf62)), hm80, (Inn.trans (Inn.trans (i43.fresh (Nat.le_refl _)) e41.next hf62) (ntr e41.next e60.next) hf81)⟩

theorem c_normal_Merge {H : AH} {hd_Arcs : Value} {fp_Arcs : Fp} {hd_Arcs_ : Value} {fp_Arcs_ : Fp} {N_ : Int} {Arcs : List (Int × Int × Int)} {N_2 : Int} {Arcs_ : List (Int × Int × Int)} {r : Int × List (Int × Int × Int) × Er}
  (wf : WF H) (h_Arcs : Sq enc_i64_i64_i64 3 H hd_Arcs Arcs fp_Arcs) (h_Arcs_ : Sq enc_i64_i64_i64 3 H hd_Arcs_ Arcs_ fp_Arcs_) (hr : z_normal_Merge N_ Arcs N_2 Arcs_ = some r) :
  ACalls Tryd.prog 24 #[.agg #[.int .i64 N_, hd_Arcs], .agg #[.int .i64 N_2, hd_Arcs_]] H fun v H' => ∃ (s3 : Value) (f4 : Fp) (v7 : Value) (f8 : Fp), v = .tuple #[.agg #[.int .i64 r.1, s3], v7] ∧ FrS [] H H' ∧ Ow enc_i64_i64_i64 3 H' s3 r.2.1 f4 ∧ Ev 53 90 H' v7 r.2.2 f8 ∧ Inn [] H f4 ∧ Inn [] H f8 ∧ Dj f4 f8 := by
 refine acalls_of_body mixed Tryd.func24 rfl (Nat.le_of_ble_eq_true rfl) ?_
 unfold z_normal_Merge at hr
 refine w_seqk fun K12 k12 => ?_
 refine w_reg (by kernel_rfl) ?_
 refine s_rwl wf [.int .i64 N_, hd_Arcs] (one_cons (rfl) (one_cons (h_Arcs.one1) (one_nil))) (by kernel_rfl) fun b13 H14 e15 hb16 r17 => ?_
 have u24 := (h_Arcs_.ext e15)
 refine s_rwl e15.wf [.int .i64 N_2, hd_Arcs_] (one_cons (rfl) (one_cons (u24.one1) (one_nil))) (by kernel_rfl) fun b19 H20 e21 hb22 r23 => ?_
 refine s_rwk e21.wf [.int .i64 0, .slice none 0 0] (by kernel_rfl) fun b26 H27 e28 hb29 r30 => ?_
 refine s_qk (.nilIface) (by kernel_rfl) ?_
 refine s_nil ?_
 refine k12 _ _ ?_
 refine w_seqk fun K32 k32 => ?_
 refine w_reg (by kernel_rfl) ?_
 have u33 := ((r17.ext e21).ext e28)
 refine s_ql (.agg #[.int .i64 N_, hd_Arcs]) (x := aLoad Tryd.prog 24 (.pointer (some ⟨b13, 0, none⟩)) H27) (by kernel_rfl) (u33.ld (by kernel_rfl)) ?_
 have u34 := (((h_Arcs.ext e15).ext e21).ext e28)
 obtain ⟨y35, hy36, r37⟩ := bind_some hr
 refine s_ck 47 #[.agg #[.int .i64 N_, hd_Arcs]] (by kernel_rfl) (c_gtext_Check e28.wf u34 hy36) ?_
 rintro v38 H40 ⟨_, f39, rfl, e41, m42, i43⟩
 refine s_qk (v38) (by kernel_rfl) ?_
 refine s_nil ?_
 refine k32 _ _ ?_
 refine w_seqk fun K45 k45 => ?_
 refine w_seqk fun K46 k46 => ?_
 refine w_reg (by kernel_rfl) ?_
 refine s_qk (v38) (by kernel_rfl) ?_
 rcases (m42).cases with ⟨h47, rfl⟩ | ⟨h47, t48, x49, rfl⟩
 ·have r50 := ite_t h47 r37
  refine s_qk (.bool true) (by kernel_rfl) ?_
  refine s_nil ?_
  refine k46 _ _ ?_
  refine w_cond true (by kernel_rfl) rfl (fun _ => ?_) (fun h => by cases h)
  refine w_reg (by kernel_rfl) ?_
  have u51 := ((r23.ext e28).frS e41 Dj.nil_l)
  refine s_ql (.agg #[.int .i64 N_2, hd_Arcs_]) (x := aLoad Tryd.prog 24 (.pointer (some ⟨b19, 0, none⟩)) H40) (by kernel_rfl) (u51.ld (by kernel_rfl)) ?_
  have u52 := (((u24.ext e21).ext e28).fr e41 Dj.nil_l)
  obtain ⟨y53, hy54, r55⟩ := bind_some r50
  refine s_ck 47 #[.agg #[.int .i64 N_2, hd_Arcs_]] (by kernel_rfl) (c_gtext_Check e41.wf u52 hy54) ?_
  rintro v56 H58 ⟨_, f57, rfl, e59, m60, i61⟩
  refine s_qk (v56) (by kernel_rfl) ?_
  refine s_nil ?_
  refine k45 _ _ ?_
  refine w_seqk fun K63 k63 => ?_
  refine w_block ?_
  refine w_seqk fun K64 k64 => ?_
  refine w_reg (by kernel_rfl) ?_
  refine s_qk (v56) (by kernel_rfl) ?_
  rcases (m60).cases with ⟨h65, rfl⟩ | ⟨h65, t66, x67, rfl⟩
  ·have r68 := ite_t h65 r55
   refine s_qk (.bool false) (by kernel_rfl) ?_
   refine s_qk (.bool false) (by kernel_rfl) ?_
   refine s_nil ?_
   refine k64 _ _ ?_
   refine w_cond false (by kernel_rfl) rfl (fun h => by cases h) (fun _ => ?_)
   refine w_seqk fun K69 k69 => ?_
   refine w_reg (by kernel_rfl) ?_
   refine s_qk (.pointer (some ⟨b13, 0, none⟩)) (by kernel_rfl) ?_
   have u70 := ((u33.frS e41 Dj.nil_l).frS e59 Dj.nil_l)
   refine s_ql (.int .i64 N_) (x := aLoad Tryd.prog 3 (.pointer (some ⟨b13, 0, none⟩)) H58) (by kernel_rfl) (u70.ld (by kernel_rfl)) ?_
   refine s_qk (.pointer (some ⟨b19, 0, none⟩)) (by kernel_rfl) ?_
   have u71 := (u51.frS e59 Dj.nil_l)
   refine s_ql (.int .i64 N_2) (x := aLoad Tryd.prog 3 (.pointer (some ⟨b19, 0, none⟩)) H58) (by kernel_rfl) (u71.ld (by kernel_rfl)) ?_
   refine s_qk (.bool (!decide (N_ = N_2))) (by kernel_rfl) ?_
   refine s_qk (.bool (!decide (N_ = N_2))) (by kernel_rfl) ?_
   refine s_nil ?_
   refine k69 _ _ ?_
   refine w_condn (N_ = N_2) (by kernel_rfl) rfl (fun h72 => ?_) (fun h72 => ?_)
   ·have r73 := ite_f h72 r68
    refine w_seqk fun K74 k74 => ?_
    refine w_reg (by kernel_rfl) ?_
    refine s_qk (.agg #[.int .i64 0, .slice none 0 0]) (by kernel_rfl) ?_
    refine s_qk (.iface 53 (.int .i64 1)) (by kernel_rfl) ?_
    have u79 := ((r30.frS e41 Dj.nil_l).frS e59 Dj.nil_l)
    obtain ⟨H75, q76, e77, r78⟩ := Row.store (P := Tryd.prog) (t := 24) (p := 0) e59.wf u79 (.agg #[.int .i64 0, .slice none 0 0]) [.int .i64 0, .slice none 0 0] (by kernel_rfl) (by kernel_rfl) (one_cons (rfl) (one_cons (rfl) (one_nil))) (Nat.le_of_ble_eq_true (by kernel_rfl)) [.int .i64 0, .slice none 0 0] (by kernel_rfl)
    refine s_ek (undef) (by kernel_rfl) (map_ok q76) ?_
    refine s_qk (.iface 53 (.int .i64 1)) (by kernel_rfl) ?_
    refine s_nil ?_
    refine k74 _ _ ?_
    refine w_ret (bl_ret (th_ret ?_))
    refine b_ret (fn := Tryd.f24) (vs := [.agg #[.int .i64 0, .slice none 0 0], .iface 53 (.int .i64 1)]) (aRes_cell (Eq.trans (b := aLoad Tryd.prog 24 (.pointer (some ⟨b26, 0, none⟩)) H75) (by kernel_rfl) (r78.ld (by kernel_rfl))) (aRes_tmp (by kernel_rfl) (rfl))) ?_
    obtain rfl := Option.some.inj r73
    exact ⟨(.slice none 0 0), [], (.iface 53 (.int .i64 1)), [], rfl, (FrS.step wf (FrS.step wf (FrS.step wf ((((FrS.refl (W := []) wf).extR e15).extR e21).extR e28) e41 Inn.nil) e59 Inn.nil) e77 (hb29.fresh (ntr e15.next e21.next))), (Ow.nil (by decide)), Ev.no, Inn.nil, Inn.nil, Dj.nil_l⟩
   ·have r80 := ite_t h72 r68
    refine w_seqk fun K81 k81 => ?_
    refine w_reg (by kernel_rfl) ?_
    refine s_qk (.pointer (some ⟨b13, 1, none⟩)) (by kernel_rfl) ?_
    refine s_ql (hd_Arcs) (x := aLoad Tryd.prog 22 (.pointer (some ⟨b13, 1, none⟩)) H58) (by kernel_rfl) (u70.ld (by kernel_rfl)) ?_
    have u82 := ((u34.fr e41 Dj.nil_l).fr e59 Dj.nil_l)
    refine s_ql (.int .i64 (Arcs.length : Int)) (x := aLen Tryd.prog 22 hd_Arcs H58) (by kernel_rfl) (u82.lenb (by kernel_rfl)) ?_
    refine s_qk (.pointer (some ⟨b19, 1, none⟩)) (by kernel_rfl) ?_
    refine s_ql (hd_Arcs_) (x := aLoad Tryd.prog 22 (.pointer (some ⟨b19, 1, none⟩)) H58) (by kernel_rfl) (u71.ld (by kernel_rfl)) ?_
    have u83 := (u52.fr e59 Dj.nil_l)
    refine s_ql (.int .i64 (Arcs_.length : Int)) (x := aLen Tryd.prog 22 hd_Arcs_ H58) (by kernel_rfl) (u83.lenb (by kernel_rfl)) ?_
    obtain ⟨g84, r85⟩ := G_some r80
    refine s_w (((Arcs.length : Int) + (Arcs_.length : Int))) (k := .i64) (x := ((Arcs.length : Int) + (Arcs_.length : Int))) (by kernel_rfl) (wrap64 g84) ?_
    refine s_qk (.bool (decide (((Arcs.length : Int) + (Arcs_.length : Int)) > 262144))) (by kernel_rfl) ?_
    refine s_qk (.bool (decide (((Arcs.length : Int) + (Arcs_.length : Int)) > 262144))) (by kernel_rfl) ?_
    refine s_nil ?_
    refine k81 _ _ ?_
    refine w_condp (((Arcs.length : Int) + (Arcs_.length : Int)) > 262144) (by kernel_rfl) rfl (fun h86 => ?_) (fun h86 => ?_)
    ·have r87 := ite_t h86 r85
     refine w_seqk fun K88 k88 => ?_
     refine w_reg (by kernel_rfl) ?_
     refine s_qk (.agg #[.int .i64 0, .slice none 0 0]) (by kernel_rfl) ?_
     refine s_qk (.iface 53 (.int .i64 9)) (by kernel_rfl) ?_
     have u93 := ((r30.frS e41 Dj.nil_l).frS e59 Dj.nil_l)
     obtain ⟨H89, q90, e91, r92⟩ := Row.store (P := Tryd.prog) (t := 24) (p := 0) e59.wf u93 (.agg #[.int .i64 0, .slice none 0 0]) [.int .i64 0, .slice none 0 0] (by kernel_rfl) (by kernel_rfl) (one_cons (rfl) (one_cons (rfl) (one_nil))) (Nat.le_of_ble_eq_true (by kernel_rfl)) [.int .i64 0, .slice none 0 0] (by kernel_rfl)
     refine s_ek (undef) (by kernel_rfl) (map_ok q90) ?_
     refine s_qk (.iface 53 (.int .i64 9)) (by kernel_rfl) ?_
     refine s_nil ?_
     refine k88 _ _ ?_
     refine w_ret (bl_ret (th_ret ?_))
     refine b_ret (fn := Tryd.f24) (vs := [.agg #[.int .i64 0, .slice none 0 0], .iface 53 (.int .i64 9)]) (aRes_cell (Eq.trans (b := aLoad Tryd.prog 24 (.pointer (some ⟨b26, 0, none⟩)) H89) (by kernel_rfl) (r92.ld (by kernel_rfl))) (aRes_tmp (by kernel_rfl) (rfl))) ?_
     obtain rfl := Option.some.inj r87
     exact ⟨(.slice none 0 0), [], (.iface 53 (.int .i64 9)), [], rfl, (FrS.step wf (FrS.step wf (FrS.step wf ((((FrS.refl (W := []) wf).extR e15).extR e21).extR e28) e41 Inn.nil) e59 Inn.nil) e91 (hb29.fresh (ntr e15.next e21.next))), (Ow.nil (by decide)), Ev.no, Inn.nil, Inn.nil, Dj.nil_l⟩
    ·have r94 := ite_f h86 r85
     refine w_skip ?_
     refine k63 _ _ ?_
     refine w_seqk fun K95 k95 => ?_
     refine w_draw [0, 1, 2, 3, 4, 5, 6, 7, 8, 9, 10] (by kernel_rfl) ?_
     refine d_qk (.pointer (some ⟨b13, 0, none⟩)) (by kernel_rfl) ?_
     refine d_fl (.int .i64 N_) (x := aLoad Tryd.prog 3 (.pointer (some ⟨b13, 0, none⟩)) H58) (by kernel_rfl) (u70.ld (by kernel_rfl)) ?_
     refine d_qk (.pointer (some ⟨b13, 1, none⟩)) (by kernel_rfl) ?_
     refine d_ql (hd_Arcs) (x := aLoad Tryd.prog 22 (.pointer (some ⟨b13, 1, none⟩)) H58) (by kernel_rfl) (u70.ld (by kernel_rfl)) ?_
     refine d_qk (.pointer (some ⟨b19, 1, none⟩)) (by kernel_rfl) ?_
     refine d_ql (hd_Arcs_) (x := aLoad Tryd.prog 22 (.pointer (some ⟨b19, 1, none⟩)) H58) (by kernel_rfl) (u71.ld (by kernel_rfl)) ?_
     obtain ⟨a96, n97, c98, rfl⟩ := u82.form
     obtain ⟨a99, n100, c101, rfl⟩ := u83.form
     refine d_lsl e59.wf [.slice a96 n97 c98, .slice a99 n100 c101] 2 (one_cons (u82.one1) (one_cons (u83.one1) (one_nil))) (by kernel_rfl) fun b102 H103 e104 hb105 r106 => ?_
     have u108 := (u82.ext e104)
     have u109 := (u83.ext e104)
     obtain ⟨y110, hy111, r112⟩ := bind_some r94
     refine d_ck 59 #[.slice (some ⟨b102, 0, none⟩) 2 2] (by kernel_rfl) (c_slices_Concat e104.wf u108 u109 r106 hy111) ?_
     rintro s113 H115 ⟨_, f114, rfl, e116, m117, i118⟩
     obtain ⟨a120, n121, c122, rfl⟩ := m117.form
     have u123 := ((u70.ext e104).frS e116 Dj.nil_l)
     refine ⟨st_ql (y := aLoad Tryd.prog 3 (.pointer (some ⟨b13, 0, none⟩)) H115) (by kernel_rfl) (u123.ld (by kernel_rfl)) (st_nil), ?_⟩
     refine d_qk (.agg #[.int .i64 N_, .slice a120 n121 c122]) (by kernel_rfl) ?_
     have u128 := ((((r30.frS e41 Dj.nil_l).frS e59 Dj.nil_l).ext e104).frS e116 Dj.nil_l)
     obtain ⟨H124, q125, e126, r127⟩ := Row.store (P := Tryd.prog) (t := 24) (p := 0) e116.wf u128 (.agg #[.int .i64 N_, .slice a120 n121 c122]) [.int .i64 N_, .slice a120 n121 c122] (by kernel_rfl) (by kernel_rfl) (one_cons (rfl) (one_cons (m117.one1) (one_nil))) (Nat.le_of_ble_eq_true (by kernel_rfl)) [.int .i64 N_, .slice a120 n121 c122] (by kernel_rfl)
     refine d_ek (undef) (by kernel_rfl) (map_ok q125) (st_anc (by kernel_rfl) (st_nil)) ?_
     refine d_qk (.nilIface) (by kernel_rfl) ?_
     refine d_nil ?_
     refine k95 _ _ ?_
     refine w_ret ?_
     refine b_ret (fn := Tryd.f24) (vs := [.agg #[.int .i64 N_, .slice a120 n121 c122], .nilIface]) (aRes_cell (Eq.trans (b := aLoad Tryd.prog 24 (.pointer (some ⟨b26, 0, none⟩)) H124) (by kernel_rfl) (r127.ld (by kernel_rfl))) (aRes_tmp (by kernel_rfl) (rfl))) ?_
     have u129 := (m117.fr e126 (Dj.symm (i118.djn (r30.ltF.le (ntr (ntr e41.next e59.next) e104.next)))))
     obtain rfl := Option.some.inj r112
     exact ⟨(.slice a120 n121 c122), f114, (.nilIface), [], rfl, (FrS.step wf (FrS.step wf ((FrS.step wf (FrS.step wf ((((FrS.refl (W := []) wf).extR e15).extR e21).extR e28) e41 Inn.nil) e59 Inn.nil).extR e104) e116 Inn.nil) e126 (hb29.fresh (ntr e15.next e21.next))), u129, Ev.nil, (i118.fresh (ntr (ntr (ntr (ntr (ntr e15.next e21.next) e28.next) e41.next) e59.next) e104.next)), Inn.nil, Dj.nil_r⟩
  ·have r130 := ite_f h65 r55
   refine s_ql (.bool true) (x := aBin Tryd.prog .neq 28 (.tmp 14) (.const .nilIface) (.iface t66 x67) .nilIface) (by kernel_rfl) (aBin_nnil (by kernel_rfl)) ?_
   refine s_qk (.bool true) (by kernel_rfl) ?_
   refine s_nil ?_
   refine k64 _ _ ?_
   refine w_cond true (by kernel_rfl) rfl (fun _ => ?_) (fun h => by cases h)
   refine w_seqk fun K131 k131 => ?_
   refine w_reg (by kernel_rfl) ?_
   refine s_qk (.agg #[.int .i64 0, .slice none 0 0]) (by kernel_rfl) ?_
   refine s_qk (.iface t66 x67) (by kernel_rfl) ?_
   have u136 := ((r30.frS e41 Dj.nil_l).frS e59 Dj.nil_l)
   obtain ⟨H132, q133, e134, r135⟩ := Row.store (P := Tryd.prog) (t := 24) (p := 0) e59.wf u136 (.agg #[.int .i64 0, .slice none 0 0]) [.int .i64 0, .slice none 0 0] (by kernel_rfl) (by kernel_rfl) (one_cons (rfl) (one_cons (rfl) (one_nil))) (Nat.le_of_ble_eq_true (by kernel_rfl)) [.int .i64 0, .slice none 0 0] (by kernel_rfl)
   refine s_ek (undef) (by kernel_rfl) (map_ok q133) ?_
   refine s_qk (.iface t66 x67) (by kernel_rfl) ?_
   refine s_nil ?_
   refine k131 _ _ ?_
   refine w_ret (bl_ret (th_ret ?_))
   refine b_ret (fn := Tryd.f24) (vs := [.agg #[.int .i64 0, .slice none 0 0], .iface t66 x67]) (aRes_cell (Eq.trans (b := aLoad Tryd.prog 24 (.pointer (some ⟨b26, 0, none⟩)) H132) (by kernel_rfl) (r135.ld (by kernel_rfl))) (aRes_tmp (by kernel_rfl) (rfl))) ?_
   have u137 := (m60.fr e134 (Dj.symm (i61.djn (r30.ltF.le e41.next))))
   obtain rfl := Option.some.inj r130
   exact ⟨(.slice none 0 0), [], (.iface t66 x67), f57, rfl, (FrS.step wf (FrS.step wf (FrS.step wf ((((FrS.refl (W := []) wf).extR e15).extR e21).extR e28) e41 Inn.nil) e59 Inn.nil) e134 (hb29.fresh (ntr e15.next e21.next))), (Ow.nil (by decide)), u137, Inn.nil, (i61.fresh (ntr (ntr (ntr e15.next e21.next) e28.next) e41.next)), Dj.nil_l⟩
 ·have r138 := ite_f h47 r37
  refine s_ql (.bool false) (x := aBin Tryd.prog .eql 28 (.tmp 9) (.const .nilIface) (.iface t48 x49) .nilIface) (by kernel_rfl) (aBin_nil (by kernel_rfl)) ?_
  refine s_nil ?_
  refine k46 _ _ ?_
  refine w_cond false (by kernel_rfl) rfl (fun h => by cases h) (fun _ => ?_)
  refine w_skip ?_
  refine k45 _ _ ?_
  refine w_seqk fun K139 k139 => ?_
  refine w_block ?_
  refine w_seqk fun K140 k140 => ?_
  refine w_reg (by kernel_rfl) ?_
  refine s_qk (.iface t48 x49) (by kernel_rfl) ?_
  refine s_ql (.bool true) (x := aBin Tryd.prog .neq 28 (.tmp 14) (.const .nilIface) (.iface t48 x49) .nilIface) (by kernel_rfl) (aBin_nnil (by kernel_rfl)) ?_
  refine s_qk (.bool true) (by kernel_rfl) ?_
  refine s_nil ?_
  refine k140 _ _ ?_
  refine w_cond true (by kernel_rfl) rfl (fun _ => ?_) (fun h => by cases h)
  refine w_seqk fun K141 k141 => ?_
  refine w_reg (by kernel_rfl) ?_
  refine s_qk (.agg #[.int .i64 0, .slice none 0 0]) (by kernel_rfl) ?_
  refine s_qk (.iface t48 x49) (by kernel_rfl) ?_
  have u146 := (r30.frS e41 Dj.nil_l)
  obtain ⟨H142, q143, e144, r145⟩ := Row.store (P := Tryd.prog) (t := 24) (p := 0) e41.wf u146 (.agg #[.int .i64 0, .slice none 0 0]) [.int .i64 0, .slice none 0 0] (by kernel_rfl) (by kernel_rfl) (one_cons (rfl) (one_cons (rfl) (one_nil))) (Nat.le_of_ble_eq_true (by kernel_rfl)) [.int .i64 0, .slice none 0 0] (by kernel_rfl)
  refine s_ek (undef) (by kernel_rfl) (map_ok q143) ?_
  refine s_qk (.iface t48 x49) (by kernel_rfl) ?_
  refine s_nil ?_
  refine k141 _ _ ?_
  refine w_ret (bl_ret (th_ret ?_))
  refine b_ret (fn := Tryd.f24) (vs := [.agg #[.int .i64 0, .slice none 0 0], .iface t48 x49]) (aRes_cell (Eq.trans (b := aLoad Tryd.prog 24 (.pointer (some ⟨b26, 0, none⟩)) H142) (by kernel_rfl) (r145.ld (by kernel_rfl))) (aRes_tmp (by kernel_rfl) (rfl))) ?_
  have u147 := (m42.fr e144 (Dj.symm (i43.djn r30.ltF)))
  obtain rfl := Option.some.inj r138
  exact ⟨(.slice none 0 0), [], (.iface t48 x49), f39, rfl, (FrS.step wf (FrS.step wf ((((FrS.refl (W := []) wf).extR e15).extR e21).extR e28) e41 Inn.nil) e144 (hb29.fresh (ntr e15.next e21.next))), (Ow.nil (by decide)), u147, Inn.nil, (i43.fresh (ntr (ntr e15.next e21.next) e28.next)), Dj.nil_l⟩

theorem c_viaductref01_E {H : AH} {n_ : Int} {r : Int}
  (wf : WF H) (hr : z_viaductref01_E n_ = some r) :
  ACalls Tryd.prog 26 #[.int .i64 n_] H fun v H' => v = .agg #[.int .i64 r, .slice none 0 0] ∧ FrS [] H H' := by
 refine acalls_of_body mixed Tryd.func26 rfl (Nat.le_of_ble_eq_true rfl) ?_
 unfold z_viaductref01_E at hr
 refine w_seqk fun K1 k1 => ?_
 refine w_reg (by kernel_rfl) ?_
 refine s_rwk wf [.int .i64 0, .slice none 0 0] (by kernel_rfl) fun b2 H3 e4 hb5 r6 => ?_
 refine s_nil ?_
 refine k1 _ _ ?_
 refine w_seqk fun K8 k8 => ?_
 refine w_reg (by kernel_rfl) ?_
 refine s_qk (.int .i64 n_) (by kernel_rfl) ?_
 refine s_qk (.agg #[.int .i64 n_, .slice none 0 0]) (by kernel_rfl) ?_
 obtain ⟨H9, q10, e11, r12⟩ := Row.store (P := Tryd.prog) (t := 33) (p := 0) e4.wf r6 (.agg #[.int .i64 n_, .slice none 0 0]) [.int .i64 n_, .slice none 0 0] (by kernel_rfl) (by kernel_rfl) (one_cons (rfl) (one_cons (rfl) (one_nil))) (Nat.le_of_ble_eq_true (by kernel_rfl)) [.int .i64 n_, .slice none 0 0] (by kernel_rfl)
 refine s_ek (undef) (by kernel_rfl) (map_ok q10) ?_
 refine s_nil ?_
 refine k8 _ _ ?_
 refine w_ret ?_
 refine b_ret (fn := Tryd.f26) (vs := [.agg #[.int .i64 n_, .slice none 0 0]]) (aRes_cell (Eq.trans (b := aLoad Tryd.prog 33 (.pointer (some ⟨b2, 0, none⟩)) H9) (by kernel_rfl) (r12.ld (by kernel_rfl))) (rfl)) ?_
 obtain rfl := Option.some.inj hr
 exact ⟨rfl, (FrS.step wf ((FrS.refl (W := []) wf).extR e4) e11 (hb5.fresh (Nat.le_refl _)))⟩

theorem c_viaductref01_At {H : AH} {hd_Places : Value} {fp_Places : Fp} {kind : Int} {at_ : Int} {Code : Int} {Places : List (Int × Int)} {r : Int × List (Int × Int)}
  (wf : WF H) (h_Places : Sq enc_i64_i64 2 H hd_Places Places fp_Places) (hr : z_viaductref01_At kind at_ Code Places = some r) :
  ACalls Tryd.prog 27 #[.int .i64 kind, .int .i64 at_, .agg #[.int .i64 Code, hd_Places]] H fun v H' => ∃ (s3 : Value) (f4 : Fp), v = .agg #[.int .i64 r.1, s3] ∧ FrS [] H H' ∧ Ow enc_i64_i64 2 H' s3 r.2 f4 ∧ Inn [] H f4 := by
 refine acalls_of_body mixed Tryd.func27 rfl (Nat.le_of_ble_eq_true rfl) ?_
 unfold z_viaductref01_At at hr
 refine w_seqk fun K6 k6 => ?_
 refine w_reg (by kernel_rfl) ?_
 refine s_rwl wf [.int .i64 Code, hd_Places] (one_cons (rfl) (one_cons (h_Places.one1) (one_nil))) (by kernel_rfl) fun b7 H8 e9 hb10 r11 => ?_
 refine s_rwk e9.wf [.int .i64 0, .slice none 0 0] (by kernel_rfl) fun b13 H14 e15 hb16 r17 => ?_
 refine s_nil ?_
 refine k6 _ _ ?_
 refine w_seqk fun K19 k19 => ?_
 refine w_reg (by kernel_rfl) ?_
 refine s_qk (.int .i64 kind) (by kernel_rfl) ?_
 refine s_qk (.int .i64 at_) (by kernel_rfl) ?_
 refine s_qk (.agg #[.int .i64 kind, .int .i64 at_]) (by kernel_rfl) ?_
 refine s_owk (enc := enc_i64_i64) (sz := 2) e15.wf [(kind, at_)] 1 (by decide) (fun _ _ => rfl) (fun _ _ => rfl) rfl (by kernel_rfl) fun s20 f21 H22 e23 hf24 hm25 => ?_
 obtain ⟨a26, n27, c28, rfl⟩ := hm25.form
 refine s_qk (.slice a26 n27 c28) (by kernel_rfl) ?_
 refine s_nil ?_
 refine k19 _ _ ?_
 refine w_seqk fun K30 k30 => ?_
 refine w_reg (by kernel_rfl) ?_
 refine s_qk (.slice a26 n27 c28) (by kernel_rfl) ?_
 refine s_qk (.pointer (some ⟨b7, 1, none⟩)) (by kernel_rfl) ?_
 have u31 := ((r11.ext e15).ext e23)
 refine s_ql (hd_Places) (x := aLoad Tryd.prog 31 (.pointer (some ⟨b7, 1, none⟩)) H22) (by kernel_rfl) (u31.ld (by kernel_rfl)) ?_
 obtain ⟨g32, r33⟩ := G_some hr
 have u41 := (((h_Places.ext e9).ext e15).ext e23)
 obtain ⟨s34, H35, f36, q40, e37, hm38, hf39⟩ := Ow.append (P := Tryd.prog) 16 e23.wf hm25 u41 (fun _ _ => rfl) (at_ := #[31, 31]) rfl rfl (by kernel_rfl) (by kernel_rfl) (by decide) (by have := g32; first | omega | (simp only [List.length_cons, List.length_nil] at this ⊢; omega) | (simp at this ⊢; omega))
 obtain ⟨a42, n43, c44, rfl⟩ := hm38.form
 refine s_ek (.slice a42 n43 c44) (by kernel_rfl) (q40) ?_
 refine s_qk (.slice a42 n43 c44) (by kernel_rfl) ?_
 refine s_nil ?_
 refine k30 _ _ ?_
 refine w_seqk fun K46 k46 => ?_
 refine w_reg (by kernel_rfl) ?_
 refine s_qk (.pointer (some ⟨b7, 0, none⟩)) (by kernel_rfl) ?_
 have u47 := (u31.frS e37 (hf24.djn (r11.ltF.le e15.next)))
 refine s_ql (.int .i64 Code) (x := aLoad Tryd.prog 3 (.pointer (some ⟨b7, 0, none⟩)) H35) (by kernel_rfl) (u47.ld (by kernel_rfl)) ?_
 refine s_qk (.slice a42 n43 c44) (by kernel_rfl) ?_
 refine s_qk (.agg #[.int .i64 Code, .slice a42 n43 c44]) (by kernel_rfl) ?_
 have u52 := ((r17.ext e23).frS e37 (hf24.djn r17.ltF))
 obtain ⟨H48, q49, e50, r51⟩ := Row.store (P := Tryd.prog) (t := 33) (p := 0) e37.wf u52 (.agg #[.int .i64 Code, .slice a42 n43 c44]) [.int .i64 Code, .slice a42 n43 c44] (by kernel_rfl) (by kernel_rfl) (one_cons (rfl) (one_cons (hm38.one1) (one_nil))) (Nat.le_of_ble_eq_true (by kernel_rfl)) [.int .i64 Code, .slice a42 n43 c44] (by kernel_rfl)
 refine s_ek (undef) (by kernel_rfl) (map_ok q49) ?_
 refine s_nil ?_
 refine k46 _ _ ?_
 refine w_ret ?_
 refine b_ret (fn := Tryd.f27) (vs := [.agg #[.int .i64 Code, .slice a42 n43 c44]]) (aRes_cell (Eq.trans (b := aLoad Tryd.prog 33 (.pointer (some ⟨b13, 0, none⟩)) H48) (by kernel_rfl) (r51.ld (by kernel_rfl))) (rfl)) ?_
 have u53 := (hm38.fr e50 (Dj.symm (hf39.dj (hf24.djn r17.ltF) (r17.ltF.le e23.next))))
 obtain rfl := Option.some.inj r33
 exact ⟨(.slice a42 n43 c44), f36, rfl, (FrS.step wf (FrS.step wf ((((FrS.refl (W := []) wf).extR e9).extR e15).extR e23) e37 (hf24.fresh (ntr e9.next e15.next))) e50 (hb16.fresh e9.next)), u53, (Inn.trans (hf24.fresh (ntr e9.next e15.next)) (ntr (ntr e9.next e15.next) e23.next) hf39)⟩

theorem c_viaductref03_DocCheck {H : AH} {hd_Arcs : Value} {fp_Arcs : Fp} {N_ : Int} {Arcs : List (Int × Int × Int)} {r : Int × List (Int × Int)}
  (wf : WF H) (h_Arcs : Sq enc_i64_i64_i64 3 H hd_Arcs Arcs fp_Arcs) (hr : z_viaductref03_DocCheck N_ Arcs = some r) :
  ACalls Tryd.prog 52 #[.agg #[.int .i64 N_, hd_Arcs]] H fun v H' => ∃ (s3 : Value) (f4 : Fp), v = .agg #[.int .i64 r.1, s3] ∧ FrS [] H H' ∧ Ow enc_i64_i64 2 H' s3 r.2 f4 ∧ Inn [] H f4 := by
 refine acalls_of_body mixed Tryd.func52 rfl (Nat.le_of_ble_eq_true rfl) ?_
 unfold z_viaductref03_DocCheck at hr
 refine w_seqk fun K6 k6 => ?_
 refine w_reg (by kernel_rfl) ?_
 refine s_rwl wf [.int .i64 N_, hd_Arcs] (one_cons (rfl) (one_cons (h_Arcs.one1) (one_nil))) (by kernel_rfl) fun b7 H8 e9 hb10 r11 => ?_
 refine s_rwk e9.wf [.int .i64 0, .slice none 0 0] (by kernel_rfl) fun b13 H14 e15 hb16 r17 => ?_
 refine s_nil ?_
 refine k6 _ _ ?_
 refine w_seqk fun K19 k19 => ?_
 refine w_seqk fun K20 k20 => ?_
 obtain ⟨o21, hx22, r23⟩ := bind_some hr
 refine w_mid (fun α H24 => Has α [(1, .pointer (some ⟨b7, 0, none⟩)), (2, .pointer (some ⟨b13, 0, none⟩)), (18, .bool o21)] ∧ H14 = H24) (fun K26 k26 => ?_) (fun α H24 hM => ?_)
 ·refine w_reg (by kernel_rfl) ?_
  refine s_qk (.pointer (some ⟨b7, 0, none⟩)) (by kernel_rfl) ?_
  have u28 := (r11.ext e15)
  refine s_ql (.int .i64 N_) (x := aLoad Tryd.prog 3 (.pointer (some ⟨b7, 0, none⟩)) H14) (by kernel_rfl) (u28.ld (by kernel_rfl)) ?_
  refine s_b (N_ < 0) (by kernel_rfl) (fun h29 => ?_) (fun h29 => ?_)
  ·have r30 := ite_t h29 hx22
   refine s_qk (.bool true) (by kernel_rfl) ?_
   refine s_no (by kernel_rfl) ?_
   refine s_no (by kernel_rfl) ?_
   refine s_no (by kernel_rfl) ?_
   refine s_qk (.bool true) (by kernel_rfl) ?_
   refine s_qk (.bool true) (by kernel_rfl) ?_
   refine s_no (by kernel_rfl) ?_
   refine s_no (by kernel_rfl) ?_
   refine s_no (by kernel_rfl) ?_
   refine s_no (by kernel_rfl) ?_
   refine s_qk (.bool true) (by kernel_rfl) ?_
   refine s_nil ?_
   obtain rfl := Option.some.inj r30
   exact k26 _ _ ⟨⟨by kernel_rfl, by kernel_rfl, by kernel_rfl, trivial⟩, rfl⟩
  ·have r31 := ite_f h29 hx22
   refine s_qk (.bool false) (by kernel_rfl) ?_
   refine s_qk (.pointer (some ⟨b7, 0, none⟩)) (by kernel_rfl) ?_
   refine s_ql (.int .i64 N_) (x := aLoad Tryd.prog 3 (.pointer (some ⟨b7, 0, none⟩)) H14) (by kernel_rfl) (u28.ld (by kernel_rfl)) ?_
   refine s_b (N_ > 65536) (by kernel_rfl) (fun h32 => ?_) (fun h32 => ?_)
   ·have r33 := ite_t h32 r31
    refine s_qk (.bool true) (by kernel_rfl) ?_
    refine s_qk (.bool true) (by kernel_rfl) ?_
    refine s_no (by kernel_rfl) ?_
    refine s_no (by kernel_rfl) ?_
    refine s_no (by kernel_rfl) ?_
    refine s_no (by kernel_rfl) ?_
    refine s_qk (.bool true) (by kernel_rfl) ?_
    refine s_nil ?_
    obtain rfl := Option.some.inj r33
    exact k26 _ _ ⟨⟨by kernel_rfl, by kernel_rfl, by kernel_rfl, trivial⟩, rfl⟩
   ·have r34 := ite_f h32 r31
    refine s_qk (.bool false) (by kernel_rfl) ?_
    refine s_qk (.bool false) (by kernel_rfl) ?_
    refine s_qk (.pointer (some ⟨b7, 1, none⟩)) (by kernel_rfl) ?_
    refine s_ql (hd_Arcs) (x := aLoad Tryd.prog 22 (.pointer (some ⟨b7, 1, none⟩)) H14) (by kernel_rfl) (u28.ld (by kernel_rfl)) ?_
    have u35 := ((h_Arcs.ext e9).ext e15)
    refine s_ql (.int .i64 (Arcs.length : Int)) (x := aLen Tryd.prog 22 hd_Arcs H14) (by kernel_rfl) (u35.lenb (by kernel_rfl)) ?_
    refine s_qk (.bool (decide ((Arcs.length : Int) > 262144))) (by kernel_rfl) ?_
    refine s_qk (.bool (decide ((Arcs.length : Int) > 262144))) (by kernel_rfl) ?_
    refine s_nil ?_
    obtain rfl := Option.some.inj r34
    exact k26 _ _ ⟨⟨by kernel_rfl, by kernel_rfl, by kernel_rfl, trivial⟩, rfl⟩
 ·obtain ⟨hh27, rfl⟩ := hM
  obtain ⟨β, rfl⟩ := has_ex hh27
  clear hh27
  refine k20 _ _ ?_
  refine w_cond (o21) (by kernel_rfl) rfl (fun h36 => ?_) (fun h36 => ?_)
  ·have r37 := ite_t h36 r23
   refine w_seqk fun K38 k38 => ?_
   refine w_reg (by kernel_rfl) ?_
   obtain ⟨y39, hy40, r41⟩ := bind_some r37
   refine s_ck 26 #[.int .i64 9] (by kernel_rfl) (c_viaductref01_E e15.wf hy40) ?_
   rintro _ H42 ⟨rfl, e43⟩
   have u48 := (r17.frS e43 Dj.nil_l)
   obtain ⟨H44, q45, e46, r47⟩ := Row.store (P := Tryd.prog) (t := 33) (p := 0) e43.wf u48 (.agg #[.int .i64 y39, .slice none 0 0]) [.int .i64 y39, .slice none 0 0] (by kernel_rfl) (by kernel_rfl) (one_cons (rfl) (one_cons (rfl) (one_nil))) (Nat.le_of_ble_eq_true (by kernel_rfl)) [.int .i64 y39, .slice none 0 0] (by kernel_rfl)
   refine s_ek (undef) (by kernel_rfl) (map_ok q45) ?_
   refine s_nil ?_
   refine k38 _ _ ?_
   refine w_ret (th_ret ?_)
   refine b_ret (fn := Tryd.f52) (vs := [.agg #[.int .i64 y39, .slice none 0 0]]) (aRes_cell (Eq.trans (b := aLoad Tryd.prog 33 (.pointer (some ⟨b13, 0, none⟩)) H44) (by kernel_rfl) (r47.ld (by kernel_rfl))) (rfl)) ?_
   obtain rfl := Option.some.inj r41
   exact ⟨(.slice none 0 0), [], rfl, (FrS.step wf (FrS.step wf (((FrS.refl (W := []) wf).extR e9).extR e15) e43 Inn.nil) e46 (hb16.fresh e9.next)), (Ow.nil (by decide)), Inn.nil⟩
  ·have r49 := ite_bf h36 r23
   refine w_skip ?_
   refine k19 _ _ ?_
   refine w_seqk fun K50 k50 => ?_
   refine w_seqk fun K51 k51 => ?_
   refine w_reg (by kernel_rfl) ?_
   refine s_qk (.pointer (some ⟨b7, 1, none⟩)) (by kernel_rfl) ?_
   have u52 := (r11.ext e15)
   refine s_ql (hd_Arcs) (x := aLoad Tryd.prog 22 (.pointer (some ⟨b7, 1, none⟩)) H14) (by kernel_rfl) (u52.ld (by kernel_rfl)) ?_
   have u53 := ((h_Arcs.ext e9).ext e15)
   refine s_ql (.int .i64 (Arcs.length : Int)) (x := aLen Tryd.prog 22 hd_Arcs H14) (by kernel_rfl) (u53.lenb (by kernel_rfl)) ?_
   refine s_qk (.int .i64 0) (by kernel_rfl) ?_
   refine s_nil ?_
   refine k51 _ _ ?_
   obtain ⟨z57, hx55, r56⟩ := bind_some r49
   refine w_mid (fun α H58 => ∃ o54, z57 = Sum.inr o54 ∧ Has α [(2, .pointer (some ⟨b13, 0, none⟩))] ∧ FrS [] H14 H58) (fun K60 k60 => ?_) (fun α H58 hM => ?_)
   ·refine w_block ?_
    obtain ⟨n62, hn63⟩ := loopO_iff.1 hx55
    refine w_loopn (fun n α H64 => ∃ (i0 : Int), iterO (fun zz_ => z_viaductref03_DocCheck_l0 N_ Arcs zz_) n i0 = some z57 ∧ Has α [(1, .pointer (some ⟨b7, 0, none⟩)), (2, .pointer (some ⟨b13, 0, none⟩)), (21, hd_Arcs), (22, .int .i64 (Arcs.length : Int)), (23, .int .i64 i0)] ∧ FrS [] H14 H64) n62 ⟨0, hn63, ⟨by kernel_rfl, by kernel_rfl, by kernel_rfl, by kernel_rfl, by kernel_rfl, trivial⟩, (FrS.refl (W := []) e15.wf)⟩ ?_
    rintro n62 α H64 ⟨i0, hi67, hh66, e65⟩ K72 k72
    obtain ⟨n68, z69, rfl, hz70, hn71⟩ := iter_succ hi67
    obtain ⟨β, rfl⟩ := has_ex hh66
    clear hh66
    replace hz70 : z_viaductref03_DocCheck_l0 N_ Arcs i0 = some z69 := hz70
    unfold z_viaductref03_DocCheck_l0 at hz70
    refine w_seqk fun K73 k73 => ?_
    refine w_reg (by kernel_rfl) ?_
    refine s_qk (.bool (decide (i0 < (Arcs.length : Int)))) (by kernel_rfl) ?_
    refine s_nil ?_
    refine k73 _ _ ?_
    refine w_seqk fun K74 k74 => ?_
    refine w_condp (i0 < (Arcs.length : Int)) (by kernel_rfl) rfl (fun h75 => ?_) (fun h75 => ?_)
    ·have r76 := ite_t h75 hz70
     refine w_skip ?_
     refine k74 _ _ ?_
     refine w_seqk fun K77 k77 => ?_
     refine w_block ?_
     refine w_seqk fun K78 k78 => ?_
     refine w_reg (by kernel_rfl) ?_
     refine s_qk (.int .i64 i0) (by kernel_rfl) ?_
     obtain ⟨g79, r80⟩ := G_some r76
     have u81 := (u53.fr e65 Dj.nil_l)
     refine s_ql (elp hd_Arcs 3 i0.toNat 0) (x := aIndexAddr Tryd.prog 22 hd_Arcs (.int .i64 i0)) (by kernel_rfl) (u81.idxb (by kernel_rfl) g79 h75) ?_
     refine s_ql (.agg #[.int .i64 ((gt Arcs i0).1), .int .i64 ((gt Arcs i0).2.1), .int .i64 ((gt Arcs i0).2.2)]) (x := aLoad Tryd.prog 51 (elp hd_Arcs 3 i0.toNat 0) H64) (by kernel_rfl) (u81.ld g79 h75 (by kernel_rfl)) ?_
     refine s_rwk e65.wf [.int .i64 0, .int .i64 0, .int .i64 0] (by kernel_rfl) fun b82 H83 e84 hb85 r86 => ?_
     refine s_qk (.int .i64 i0) (by kernel_rfl) ?_
     obtain ⟨H88, q89, e90, r91⟩ := Row.store (P := Tryd.prog) (t := 51) (p := 0) e84.wf r86 (.agg #[.int .i64 ((gt Arcs i0).1), .int .i64 ((gt Arcs i0).2.1), .int .i64 ((gt Arcs i0).2.2)]) [.int .i64 ((gt Arcs i0).1), .int .i64 ((gt Arcs i0).2.1), .int .i64 ((gt Arcs i0).2.2)] (by kernel_rfl) (by kernel_rfl) (one_cons (rfl) (one_cons (rfl) (one_cons (rfl) (one_nil)))) (Nat.le_of_ble_eq_true (by kernel_rfl)) [.int .i64 ((gt Arcs i0).1), .int .i64 ((gt Arcs i0).2.1), .int .i64 ((gt Arcs i0).2.2)] (by kernel_rfl)
     refine s_ek (undef) (by kernel_rfl) (map_ok q89) ?_
     refine s_nil ?_
     refine k78 _ _ ?_
     refine w_seqk fun K92 k92 => ?_
     refine w_seqk fun K93 k93 => ?_
     obtain ⟨o94, hx95, r96⟩ := bind_some r80
     refine w_mid (fun α H97 => Has α [(1, .pointer (some ⟨b7, 0, none⟩)), (2, .pointer (some ⟨b13, 0, none⟩)), (3, .int .i64 i0), (4, .pointer (some ⟨b82, 0, none⟩)), (21, hd_Arcs), (22, .int .i64 (Arcs.length : Int)), (23, .int .i64 i0), (49, .bool o94)] ∧ H88 = H97) (fun K99 k99 => ?_) (fun α H97 hM => ?_)
     ·refine w_reg (by kernel_rfl) ?_
      refine s_qk (.pointer (some ⟨b82, 0, none⟩)) (by kernel_rfl) ?_
      refine s_ql (.int .i64 ((gt Arcs i0).1)) (x := aLoad Tryd.prog 3 (.pointer (some ⟨b82, 0, none⟩)) H88) (by kernel_rfl) (r91.ld (by kernel_rfl)) ?_
      refine s_b (((gt Arcs i0).1) < 0) (by kernel_rfl) (fun h101 => ?_) (fun h101 => ?_)
      ·have r102 := ite_t h101 hx95
       refine s_qk (.bool true) (by kernel_rfl) ?_
       refine s_no (by kernel_rfl) ?_
       refine s_no (by kernel_rfl) ?_
       refine s_no (by kernel_rfl) ?_
       refine s_no (by kernel_rfl) ?_
       refine s_no (by kernel_rfl) ?_
       refine s_qk (.bool true) (by kernel_rfl) ?_
       refine s_qk (.bool true) (by kernel_rfl) ?_
       refine s_no (by kernel_rfl) ?_
       refine s_no (by kernel_rfl) ?_
       refine s_no (by kernel_rfl) ?_
       refine s_qk (.bool true) (by kernel_rfl) ?_
       refine s_qk (.bool true) (by kernel_rfl) ?_
       refine s_no (by kernel_rfl) ?_
       refine s_no (by kernel_rfl) ?_
       refine s_no (by kernel_rfl) ?_
       refine s_no (by kernel_rfl) ?_
       refine s_no (by kernel_rfl) ?_
       refine s_qk (.bool true) (by kernel_rfl) ?_
       refine s_nil ?_
       obtain rfl := Option.some.inj r102
       exact k99 _ _ ⟨⟨by kernel_rfl, by kernel_rfl, by kernel_rfl, by kernel_rfl, by kernel_rfl, by kernel_rfl, by kernel_rfl, by kernel_rfl, trivial⟩, rfl⟩
      ·have r103 := ite_f h101 hx95
       refine s_qk (.bool false) (by kernel_rfl) ?_
       refine s_qk (.pointer (some ⟨b82, 0, none⟩)) (by kernel_rfl) ?_
       refine s_ql (.int .i64 ((gt Arcs i0).1)) (x := aLoad Tryd.prog 3 (.pointer (some ⟨b82, 0, none⟩)) H88) (by kernel_rfl) (r91.ld (by kernel_rfl)) ?_
       refine s_qk (.pointer (some ⟨b7, 0, none⟩)) (by kernel_rfl) ?_
       have u104 := (((u52.frS e65 Dj.nil_l).ext e84).frS e90 (hb85.djn (r11.ltF.le (ntr e15.next e65.next))))
       refine s_ql (.int .i64 N_) (x := aLoad Tryd.prog 3 (.pointer (some ⟨b7, 0, none⟩)) H88) (by kernel_rfl) (u104.ld (by kernel_rfl)) ?_
       refine s_b (((gt Arcs i0).1) ≥ N_) (by kernel_rfl) (fun h105 => ?_) (fun h105 => ?_)
       ·have r106 := ite_t h105 r103
        refine s_qk (.bool true) (by kernel_rfl) ?_
        refine s_qk (.bool true) (by kernel_rfl) ?_
        refine s_no (by kernel_rfl) ?_
        refine s_no (by kernel_rfl) ?_
        refine s_no (by kernel_rfl) ?_
        refine s_qk (.bool true) (by kernel_rfl) ?_
        refine s_qk (.bool true) (by kernel_rfl) ?_
        refine s_no (by kernel_rfl) ?_
        refine s_no (by kernel_rfl) ?_
        refine s_no (by kernel_rfl) ?_
        refine s_no (by kernel_rfl) ?_
        refine s_no (by kernel_rfl) ?_
        refine s_qk (.bool true) (by kernel_rfl) ?_
        refine s_nil ?_
        obtain rfl := Option.some.inj r106
        exact k99 _ _ ⟨⟨by kernel_rfl, by kernel_rfl, by kernel_rfl, by kernel_rfl, by kernel_rfl, by kernel_rfl, by kernel_rfl, by kernel_rfl, trivial⟩, rfl⟩
       ·have r107 := ite_f h105 r103
        refine s_qk (.bool false) (by kernel_rfl) ?_
        refine s_qk (.bool false) (by kernel_rfl) ?_
        refine s_qk (.pointer (some ⟨b82, 1, none⟩)) (by kernel_rfl) ?_
        refine s_ql (.int .i64 ((gt Arcs i0).2.1)) (x := aLoad Tryd.prog 3 (.pointer (some ⟨b82, 1, none⟩)) H88) (by kernel_rfl) (r91.ld (by kernel_rfl)) ?_
        refine s_b (((gt Arcs i0).2.1) < 0) (by kernel_rfl) (fun h108 => ?_) (fun h108 => ?_)
        ·have r109 := ite_t h108 r107
         refine s_qk (.bool true) (by kernel_rfl) ?_
         refine s_qk (.bool true) (by kernel_rfl) ?_
         refine s_no (by kernel_rfl) ?_
         refine s_no (by kernel_rfl) ?_
         refine s_no (by kernel_rfl) ?_
         refine s_no (by kernel_rfl) ?_
         refine s_no (by kernel_rfl) ?_
         refine s_qk (.bool true) (by kernel_rfl) ?_
         refine s_nil ?_
         obtain rfl := Option.some.inj r109
         exact k99 _ _ ⟨⟨by kernel_rfl, by kernel_rfl, by kernel_rfl, by kernel_rfl, by kernel_rfl, by kernel_rfl, by kernel_rfl, by kernel_rfl, trivial⟩, rfl⟩
        ·have r110 := ite_f h108 r107
         refine s_qk (.bool false) (by kernel_rfl) ?_
         refine s_qk (.bool false) (by kernel_rfl) ?_
         refine s_qk (.pointer (some ⟨b82, 1, none⟩)) (by kernel_rfl) ?_
         refine s_ql (.int .i64 ((gt Arcs i0).2.1)) (x := aLoad Tryd.prog 3 (.pointer (some ⟨b82, 1, none⟩)) H88) (by kernel_rfl) (r91.ld (by kernel_rfl)) ?_
         refine s_qk (.pointer (some ⟨b7, 0, none⟩)) (by kernel_rfl) ?_
         refine s_ql (.int .i64 N_) (x := aLoad Tryd.prog 3 (.pointer (some ⟨b7, 0, none⟩)) H88) (by kernel_rfl) (u104.ld (by kernel_rfl)) ?_
         refine s_qk (.bool (decide (((gt Arcs i0).2.1) ≥ N_))) (by kernel_rfl) ?_
         refine s_qk (.bool (decide (((gt Arcs i0).2.1) ≥ N_))) (by kernel_rfl) ?_
         refine s_nil ?_
         obtain rfl := Option.some.inj r110
         exact k99 _ _ ⟨⟨by kernel_rfl, by kernel_rfl, by kernel_rfl, by kernel_rfl, by kernel_rfl, by kernel_rfl, by kernel_rfl, by kernel_rfl, trivial⟩, rfl⟩
     ·obtain ⟨hh100, rfl⟩ := hM
      obtain ⟨β, rfl⟩ := has_ex hh100
      clear hh100
      refine k93 _ _ ?_
      refine w_cond (o94) (by kernel_rfl) rfl (fun h111 => ?_) (fun h111 => ?_)
      ·have r112 := ite_t h111 r96
       refine w_seqk fun K113 k113 => ?_
       refine w_reg (by kernel_rfl) ?_
       refine s_qk (.int .i64 i0) (by kernel_rfl) ?_
       obtain ⟨y114, hy115, r116⟩ := bind_some r112
       refine s_ck 26 #[.int .i64 7] (by kernel_rfl) (c_viaductref01_E e90.wf hy115) ?_
       rintro _ H117 ⟨rfl, e118⟩
       obtain ⟨y119, hy120, r121⟩ := bind_some r116
       refine s_ck 27 #[.int .i64 4, .int .i64 i0, .agg #[.int .i64 y114, .slice none 0 0]] (by kernel_rfl) (c_viaductref01_At e118.wf (Sq.nil (enc := enc_i64_i64) (sz := 2) (by decide)) hy120) ?_
       rintro _ H124 ⟨s122, f123, rfl, e125, m126, i127⟩
       obtain ⟨a129, n130, c131, rfl⟩ := m126.form
       have u136 := (((((r17.frS e65 Dj.nil_l).ext e84).frS e90 (hb85.djn (r17.ltF.le e65.next))).frS e118 Dj.nil_l).frS e125 Dj.nil_l)
       obtain ⟨H132, q133, e134, r135⟩ := Row.store (P := Tryd.prog) (t := 33) (p := 0) e125.wf u136 (.agg #[.int .i64 y119.1, .slice a129 n130 c131]) [.int .i64 y119.1, .slice a129 n130 c131] (by kernel_rfl) (by kernel_rfl) (one_cons (rfl) (one_cons (m126.one1) (one_nil))) (Nat.le_of_ble_eq_true (by kernel_rfl)) [.int .i64 y119.1, .slice a129 n130 c131] (by kernel_rfl)
       refine s_ek (undef) (by kernel_rfl) (map_ok q133) ?_
       refine s_nil ?_
       refine k113 _ _ ?_
       refine w_ret (th_ret (bl_ret (th_ret (th_ret (bl_ret (th_ret (th_ret ?_)))))))
       obtain ⟨v137, hv138, hz139⟩ := map_some r121
       subst hz139
       obtain rfl := it_inr hn71
       have hq140 := elim_inl r56
       rw [hq140] at hv138
       refine b_ret (fn := Tryd.f52) (vs := [.agg #[.int .i64 y119.1, .slice a129 n130 c131]]) (aRes_cell (Eq.trans (b := aLoad Tryd.prog 33 (.pointer (some ⟨b13, 0, none⟩)) H132) (by kernel_rfl) (r135.ld (by kernel_rfl))) (rfl)) ?_
       have u141 := (m126.fr e134 (Dj.symm (i127.djn (r17.ltF.le (ntr (ntr (ntr e65.next e84.next) e90.next) e118.next)))))
       obtain rfl := Option.some.inj hv138
       exact ⟨(.slice a129 n130 c131), f123, rfl, (FrS.step wf (FrS.step wf (FrS.step wf (FrS.step wf ((FrS.step wf (((FrS.refl (W := []) wf).extR e9).extR e15) e65 Inn.nil).extR e84) e90 (hb85.fresh (ntr (ntr e9.next e15.next) e65.next))) e118 Inn.nil) e125 Inn.nil) e134 (hb16.fresh e9.next)), u141, (i127.fresh (ntr (ntr (ntr (ntr (ntr e9.next e15.next) e65.next) e84.next) e90.next) e118.next))⟩
      ·have r142 := ite_bf h111 r96
       refine w_skip ?_
       refine k92 _ _ ?_
       refine w_seqk fun K143 k143 => ?_
       obtain ⟨o144, hx145, r146⟩ := bind_some r142
       refine w_mid (fun α H147 => Has α [(1, .pointer (some ⟨b7, 0, none⟩)), (2, .pointer (some ⟨b13, 0, none⟩)), (3, .int .i64 i0), (21, hd_Arcs), (22, .int .i64 (Arcs.length : Int)), (23, .int .i64 i0), (60, .bool o144)] ∧ H88 = H147) (fun K149 k149 => ?_) (fun α H147 hM => ?_)
       ·refine w_reg (by kernel_rfl) ?_
        refine s_qk (.pointer (some ⟨b82, 2, none⟩)) (by kernel_rfl) ?_
        refine s_ql (.int .i64 ((gt Arcs i0).2.2)) (x := aLoad Tryd.prog 3 (.pointer (some ⟨b82, 2, none⟩)) H88) (by kernel_rfl) (r91.ld (by kernel_rfl)) ?_
        refine s_b (((gt Arcs i0).2.2) < 0) (by kernel_rfl) (fun h151 => ?_) (fun h151 => ?_)
        ·have r152 := ite_t h151 hx145
         refine s_qk (.bool true) (by kernel_rfl) ?_
         refine s_no (by kernel_rfl) ?_
         refine s_no (by kernel_rfl) ?_
         refine s_no (by kernel_rfl) ?_
         refine s_qk (.bool true) (by kernel_rfl) ?_
         refine s_nil ?_
         obtain rfl := Option.some.inj r152
         exact k149 _ _ ⟨⟨by kernel_rfl, by kernel_rfl, by kernel_rfl, by kernel_rfl, by kernel_rfl, by kernel_rfl, by kernel_rfl, trivial⟩, rfl⟩
        ·have r153 := ite_f h151 hx145
         refine s_qk (.bool false) (by kernel_rfl) ?_
         refine s_qk (.pointer (some ⟨b82, 2, none⟩)) (by kernel_rfl) ?_
         refine s_ql (.int .i64 ((gt Arcs i0).2.2)) (x := aLoad Tryd.prog 3 (.pointer (some ⟨b82, 2, none⟩)) H88) (by kernel_rfl) (r91.ld (by kernel_rfl)) ?_
         refine s_qk (.bool (decide (((gt Arcs i0).2.2) > 2147483647))) (by kernel_rfl) ?_
         refine s_qk (.bool (decide (((gt Arcs i0).2.2) > 2147483647))) (by kernel_rfl) ?_
         refine s_nil ?_
         obtain rfl := Option.some.inj r153
         exact k149 _ _ ⟨⟨by kernel_rfl, by kernel_rfl, by kernel_rfl, by kernel_rfl, by kernel_rfl, by kernel_rfl, by kernel_rfl, trivial⟩, rfl⟩
       ·obtain ⟨hh150, rfl⟩ := hM
        obtain ⟨β, rfl⟩ := has_ex hh150
        clear hh150
        refine k143 _ _ ?_
        refine w_cond (o144) (by kernel_rfl) rfl (fun h154 => ?_) (fun h154 => ?_)
        ·have r155 := ite_t h154 r146
         refine w_seqk fun K156 k156 => ?_
         refine w_reg (by kernel_rfl) ?_
         refine s_qk (.int .i64 i0) (by kernel_rfl) ?_
         obtain ⟨y157, hy158, r159⟩ := bind_some r155
         refine s_ck 26 #[.int .i64 8] (by kernel_rfl) (c_viaductref01_E e90.wf hy158) ?_
         rintro _ H160 ⟨rfl, e161⟩
         obtain ⟨y162, hy163, r164⟩ := bind_some r159
         refine s_ck 27 #[.int .i64 4, .int .i64 i0, .agg #[.int .i64 y157, .slice none 0 0]] (by kernel_rfl) (c_viaductref01_At e161.wf (Sq.nil (enc := enc_i64_i64) (sz := 2) (by decide)) hy163) ?_
         rintro _ H167 ⟨s165, f166, rfl, e168, m169, i170⟩
         obtain ⟨a172, n173, c174, rfl⟩ := m169.form
         have u179 := (((((r17.frS e65 Dj.nil_l).ext e84).frS e90 (hb85.djn (r17.ltF.le e65.next))).frS e161 Dj.nil_l).frS e168 Dj.nil_l)
         obtain ⟨H175, q176, e177, r178⟩ := Row.store (P := Tryd.prog) (t := 33) (p := 0) e168.wf u179 (.agg #[.int .i64 y162.1, .slice a172 n173 c174]) [.int .i64 y162.1, .slice a172 n173 c174] (by kernel_rfl) (by kernel_rfl) (one_cons (rfl) (one_cons (m169.one1) (one_nil))) (Nat.le_of_ble_eq_true (by kernel_rfl)) [.int .i64 y162.1, .slice a172 n173 c174] (by kernel_rfl)
         refine s_ek (undef) (by kernel_rfl) (map_ok q176) ?_
         refine s_nil ?_
         refine k156 _ _ ?_
         refine w_ret (bl_ret (th_ret (th_ret (bl_ret (th_ret (th_ret ?_))))))
         obtain ⟨v180, hv181, hz182⟩ := map_some r164
         subst hz182
         obtain rfl := it_inr hn71
         have hq183 := elim_inl r56
         rw [hq183] at hv181
         refine b_ret (fn := Tryd.f52) (vs := [.agg #[.int .i64 y162.1, .slice a172 n173 c174]]) (aRes_cell (Eq.trans (b := aLoad Tryd.prog 33 (.pointer (some ⟨b13, 0, none⟩)) H175) (by kernel_rfl) (r178.ld (by kernel_rfl))) (rfl)) ?_
         have u184 := (m169.fr e177 (Dj.symm (i170.djn (r17.ltF.le (ntr (ntr (ntr e65.next e84.next) e90.next) e161.next)))))
         obtain rfl := Option.some.inj hv181
         exact ⟨(.slice a172 n173 c174), f166, rfl, (FrS.step wf (FrS.step wf (FrS.step wf (FrS.step wf ((FrS.step wf (((FrS.refl (W := []) wf).extR e9).extR e15) e65 Inn.nil).extR e84) e90 (hb85.fresh (ntr (ntr e9.next e15.next) e65.next))) e161 Inn.nil) e168 Inn.nil) e177 (hb16.fresh e9.next)), u184, (i170.fresh (ntr (ntr (ntr (ntr (ntr e9.next e15.next) e65.next) e84.next) e90.next) e161.next))⟩
        ·have r185 := ite_bf h154 r146
         refine w_skip ?_
         refine k77 _ _ ?_
         refine w_reg (by kernel_rfl) ?_
         obtain ⟨g186, r187⟩ := G_some r185
         refine s_w ((i0 + 1)) (k := .i64) (x := (i0 + 1)) (by kernel_rfl) (wrap64 (by have := g186; omega)) ?_
         refine s_qk (.int .i64 (i0 + 1)) (by kernel_rfl) ?_
         refine s_nil ?_
         obtain rfl := Option.some.inj r187
         exact k72 n68 _ _ (Nat.lt_succ_self _) ⟨(i0 + 1), hn71, ⟨by kernel_rfl, by kernel_rfl, by kernel_rfl, by kernel_rfl, by kernel_rfl, trivial⟩, (FrS.step e15.wf ((FrS.step e15.wf (FrS.refl (W := []) e15.wf) e65 Inn.nil).extR e84) e90 (hb85.fresh e65.next))⟩
    ·have r188 := ite_f h75 hz70
     refine w_exit (th_exit (th_exit (bl_eq ?_)))
     obtain rfl := Option.some.inj r188
     obtain rfl := it_inr hn71
     exact k60 _ _ ⟨_, rfl, ⟨by kernel_rfl, trivial⟩, (FrS.step e15.wf (FrS.refl (W := []) e15.wf) e65 Inn.nil)⟩
   ·obtain ⟨o54, rfl, hh61, e59⟩ := hM
    have r189 := elim_inr r56
    obtain ⟨β, rfl⟩ := has_ex hh61
    clear hh61
    refine k50 _ _ ?_
    refine w_seqk fun K190 k190 => ?_
    refine w_reg (by kernel_rfl) ?_
    refine s_qk (.agg #[.int .i64 0, .slice none 0 0]) (by kernel_rfl) ?_
    have u195 := (r17.frS e59 Dj.nil_l)
    obtain ⟨H191, q192, e193, r194⟩ := Row.store (P := Tryd.prog) (t := 33) (p := 0) e59.wf u195 (.agg #[.int .i64 0, .slice none 0 0]) [.int .i64 0, .slice none 0 0] (by kernel_rfl) (by kernel_rfl) (one_cons (rfl) (one_cons (rfl) (one_nil))) (Nat.le_of_ble_eq_true (by kernel_rfl)) [.int .i64 0, .slice none 0 0] (by kernel_rfl)
    refine s_ek (undef) (by kernel_rfl) (map_ok q192) ?_
    refine s_nil ?_
    refine k190 _ _ ?_
    refine w_ret ?_
    refine b_ret (fn := Tryd.f52) (vs := [.agg #[.int .i64 0, .slice none 0 0]]) (aRes_cell (Eq.trans (b := aLoad Tryd.prog 33 (.pointer (some ⟨b13, 0, none⟩)) H191) (by kernel_rfl) (r194.ld (by kernel_rfl))) (rfl)) ?_
    obtain rfl := Option.some.inj r189
    exact ⟨(.slice none 0 0), [], rfl, (FrS.step wf (FrS.step wf (((FrS.refl (W := []) wf).extR e9).extR e15) e59 Inn.nil) e193 (hb16.fresh e9.next)), (Ow.nil (by decide)), Inn.nil⟩


end Go.Vd

/-! (KNm1) -/

set_option maxRecDepth 100000
set_option maxHeartbeats 4000000
set_option linter.unusedVariables false
namespace Go.Vd
open Go.Proofs
attribute [local irreducible] wpSeq wpOrd aWp
theorem c_viaductref01_Err_Bad {H : AH} {hd_Places : Value} {fp_Places : Fp} {Code : Int} {Places : List (Int × Int)} {r : Bool}
  (wf : WF H) (h_Places : Sq enc_i64_i64 2 H hd_Places Places fp_Places) (hr : z_viaductref01_Err_Bad Code Places = some r) :
  ACalls Tryd.prog 53 #[.agg #[.int .i64 Code, hd_Places]] H fun v H' => v = .bool r ∧ FrS [] H H' := by
 refine acalls_of_body mixed Tryd.func53 rfl (Nat.le_of_ble_eq_true rfl) ?_
 unfold z_viaductref01_Err_Bad at hr
 refine w_seqk fun K1 k1 => ?_
 refine w_reg (by kernel_rfl) ?_
 refine s_rwl wf [.int .i64 Code, hd_Places] (one_cons (rfl) (one_cons (h_Places.one1) (one_nil))) (by kernel_rfl) fun b2 H3 e4 hb5 r6 => ?_
 refine s_qk (.bool false) (by kernel_rfl) ?_
 refine s_nil ?_
 refine k1 _ _ ?_
 refine w_seqk fun K8 k8 => ?_
 refine w_reg (by kernel_rfl) ?_
 refine s_qk (.pointer (some ⟨b2, 0, none⟩)) (by kernel_rfl) ?_
 refine s_ql (.int .i64 Code) (x := aLoad Tryd.prog 3 (.pointer (some ⟨b2, 0, none⟩)) H3) (by kernel_rfl) (r6.ld (by kernel_rfl)) ?_
 refine s_bn (Code = 0) (by kernel_rfl) (fun h9 => ?_) (fun h9 => ?_)
 ·have r10 := ite_t h9 hr
  refine s_qk (.bool false) (by kernel_rfl) ?_
  refine s_qk (.pointer (some ⟨b2, 1, none⟩)) (by kernel_rfl) ?_
  refine s_ql (hd_Places) (x := aLoad Tryd.prog 31 (.pointer (some ⟨b2, 1, none⟩)) H3) (by kernel_rfl) (r6.ld (by kernel_rfl)) ?_
  have u11 := (h_Places.ext e4)
  refine s_ql (.int .i64 (Places.length : Int)) (x := aLen Tryd.prog 31 hd_Places H3) (by kernel_rfl) (u11.lenb (by kernel_rfl)) ?_
  refine s_qk (.bool (decide ((Places.length : Int) > 0))) (by kernel_rfl) ?_
  refine s_qk (.bool (decide ((Places.length : Int) > 0))) (by kernel_rfl) ?_
  refine s_qk (.bool (decide ((Places.length : Int) > 0))) (by kernel_rfl) ?_
  refine s_nil ?_
  refine k8 _ _ ?_
  refine w_ret ?_
  refine b_ret (fn := Tryd.f53) (vs := [.bool (decide ((Places.length : Int) > 0))]) (aRes_tmp (by kernel_rfl) (rfl)) ?_
  obtain rfl := Option.some.inj r10
  exact ⟨rfl, ((FrS.refl (W := []) wf).extR e4)⟩
 ·have r12 := ite_f h9 hr
  refine s_qk (.bool true) (by kernel_rfl) ?_
  refine s_no (by kernel_rfl) ?_
  refine s_no (by kernel_rfl) ?_
  refine s_no (by kernel_rfl) ?_
  refine s_no (by kernel_rfl) ?_
  refine s_qk (.bool true) (by kernel_rfl) ?_
  refine s_qk (.bool true) (by kernel_rfl) ?_
  refine s_nil ?_
  refine k8 _ _ ?_
  refine w_ret ?_
  refine b_ret (fn := Tryd.f53) (vs := [.bool true]) (aRes_tmp (by kernel_rfl) (rfl)) ?_
  obtain rfl := Option.some.inj r12
  exact ⟨rfl, ((FrS.refl (W := []) wf).extR e4)⟩

theorem c_viaductref01_First {H : AH} {b_list : Nat} {hd_list_2 : Value} {fp_list_2 : Fp} {hd_list_4 : Value} {fp_list_4 : Fp} {list_ : Int} {list_2 : List (Int × Int)} {list_3 : Int} {list_4 : List (Int × Int)} {r : Int × List (Int × Int)}
  (wf : WF H) (h_list_2 : Sq enc_i64_i64 2 H hd_list_2 list_2 fp_list_2) (h_list_4 : Sq enc_i64_i64 2 H hd_list_4 list_4 fp_list_4) (h_list : Row H b_list [.int .i64 list_, hd_list_2, .int .i64 list_3, hd_list_4]) (hr : z_viaductref01_First list_ list_2 list_3 list_4 = some r) :
  ACalls Tryd.prog 60 #[.slice (some ⟨b_list, 0, none⟩) 2 2] H fun v H' => ∃ (s3 : Value) (f4 : Fp), v = .agg #[.int .i64 r.1, s3] ∧ FrS [] H H' ∧ Sq enc_i64_i64 2 H' s3 r.2 f4 ∧ Inn (fp_list_2 ++ fp_list_4) H f4 := by
 refine acalls_of_body mixed Tryd.func60 rfl (Nat.le_of_ble_eq_true rfl) ?_
 unfold z_viaductref01_First at hr
 refine w_seqk fun K6 k6 => ?_
 refine w_reg (by kernel_rfl) ?_
 refine s_rwk wf [.int .i64 0, .slice none 0 0] (by kernel_rfl) fun b7 H8 e9 hb10 r11 => ?_
 refine s_nil ?_
 refine k6 _ _ ?_
 refine w_seqk fun K13 k13 => ?_
 refine w_seqk fun K14 k14 => ?_
 refine w_reg (by kernel_rfl) ?_
 refine s_qk (.slice (some ⟨b_list, 0, none⟩) 2 2) (by kernel_rfl) ?_
 refine s_qk (.int .i64 2) (by kernel_rfl) ?_
 refine s_qk (.int .i64 0) (by kernel_rfl) ?_
 refine s_nil ?_
 refine k14 _ _ ?_
 refine w_block ?_
 refine w_unroll ?_
 refine w_seqk fun K15 k15 => ?_
 refine w_reg (by kernel_rfl) ?_
 refine s_qk (.bool true) (by kernel_rfl) ?_
 refine s_nil ?_
 refine k15 _ _ ?_
 refine w_seqk fun K16 k16 => ?_
 refine w_cond true (by kernel_rfl) rfl (fun _ => ?_) (fun h => by cases h)
 refine w_skip ?_
 refine k16 _ _ ?_
 refine w_seqk fun K17 k17 => ?_
 refine w_block ?_
 refine w_seqk fun K18 k18 => ?_
 refine w_reg (by kernel_rfl) ?_
 refine s_qk (.pointer (some ⟨b_list, 0, none⟩)) (by kernel_rfl) ?_
 have u19 := (h_list.ext e9)
 refine s_ql (.agg #[.int .i64 list_, hd_list_2]) (x := aLoad Tryd.prog 33 (.pointer (some ⟨b_list, 0, none⟩)) H8) (by kernel_rfl) (u19.ld (by kernel_rfl)) ?_
 refine s_rwk e9.wf [.int .i64 0, .slice none 0 0] (by kernel_rfl) fun b20 H21 e22 hb23 r24 => ?_
 have u30 := ((h_list_2.ext e9).ext e22)
 obtain ⟨H26, q27, e28, r29⟩ := Row.store (P := Tryd.prog) (t := 33) (p := 0) e22.wf r24 (.agg #[.int .i64 list_, hd_list_2]) [.int .i64 list_, hd_list_2] (by kernel_rfl) (by kernel_rfl) (one_cons (rfl) (one_cons (u30.one1) (one_nil))) (Nat.le_of_ble_eq_true (by kernel_rfl)) [.int .i64 list_, hd_list_2] (by kernel_rfl)
 refine s_ek (undef) (by kernel_rfl) (map_ok q27) ?_
 refine s_nil ?_
 refine k18 _ _ ?_
 refine w_seqk fun K31 k31 => ?_
 refine w_reg (by kernel_rfl) ?_
 refine s_ql (.agg #[.int .i64 list_, hd_list_2]) (x := aLoad Tryd.prog 33 (.pointer (some ⟨b20, 0, none⟩)) H26) (by kernel_rfl) (r29.ld (by kernel_rfl)) ?_
 have u32 := (u30.fr e28 (hb23.djn (h_list_2.lt.le e9.next)))
 obtain ⟨y33, hy34, r35⟩ := bind_some hr
 refine s_ck 53 #[.agg #[.int .i64 list_, hd_list_2]] (by kernel_rfl) (c_viaductref01_Err_Bad e28.wf u32 hy34) ?_
 rintro _ H36 ⟨rfl, e37⟩
 refine s_nil ?_
 refine k31 _ _ ?_
 refine w_cond (y33) (by kernel_rfl) rfl (fun h38 => ?_) (fun h38 => ?_)
 ·have r39 := ite_t h38 r35
  refine w_seqk fun K40 k40 => ?_
  refine w_reg (by kernel_rfl) ?_
  have u41 := (r29.frS e37 Dj.nil_l)
  refine s_ql (.agg #[.int .i64 list_, hd_list_2]) (x := aLoad Tryd.prog 33 (.pointer (some ⟨b20, 0, none⟩)) H36) (by kernel_rfl) (u41.ld (by kernel_rfl)) ?_
  have u46 := (((r11.ext e22).frS e28 (hb23.djn r11.ltF)).frS e37 Dj.nil_l)
  have u47 := (u32.fr e37 Dj.nil_l)
  obtain ⟨H42, q43, e44, r45⟩ := Row.store (P := Tryd.prog) (t := 33) (p := 0) e37.wf u46 (.agg #[.int .i64 list_, hd_list_2]) [.int .i64 list_, hd_list_2] (by kernel_rfl) (by kernel_rfl) (one_cons (rfl) (one_cons (u47.one1) (one_nil))) (Nat.le_of_ble_eq_true (by kernel_rfl)) [.int .i64 list_, hd_list_2] (by kernel_rfl)
  refine s_ek (undef) (by kernel_rfl) (map_ok q43) ?_
  refine s_nil ?_
  refine k40 _ _ ?_
  refine w_ret (bl_ret (th_ret (th_ret (bl_ret (th_ret ?_)))))
  refine b_ret (fn := Tryd.f60) (vs := [.agg #[.int .i64 list_, hd_list_2]]) (aRes_cell (Eq.trans (b := aLoad Tryd.prog 33 (.pointer (some ⟨b7, 0, none⟩)) H42) (by kernel_rfl) (r45.ld (by kernel_rfl))) (rfl)) ?_
  have u48 := (u47.fr e44 (hb10.djn h_list_2.lt))
  obtain rfl := Option.some.inj r39
  exact ⟨(hd_list_2), fp_list_2, rfl, (FrS.step wf (FrS.step wf (FrS.step wf (((FrS.refl (W := []) wf).extR e9).extR e22) e28 (hb23.fresh e9.next)) e37 Inn.nil) e44 (hb10.fresh (Nat.le_refl _))), u48, Inn.left⟩
 ·have r49 := ite_bf h38 r35
  refine w_skip ?_
  refine k17 _ _ ?_
  refine w_reg (by kernel_rfl) ?_
  refine s_qk (.int .i64 1) (by kernel_rfl) ?_
  refine s_qk (.int .i64 1) (by kernel_rfl) ?_
  refine s_nil ?_
  refine w_unroll ?_
  refine w_seqk fun K50 k50 => ?_
  refine w_reg (by kernel_rfl) ?_
  refine s_qk (.bool true) (by kernel_rfl) ?_
  refine s_nil ?_
  refine k50 _ _ ?_
  refine w_seqk fun K51 k51 => ?_
  refine w_cond true (by kernel_rfl) rfl (fun _ => ?_) (fun h => by cases h)
  refine w_skip ?_
  refine k51 _ _ ?_
  refine w_seqk fun K52 k52 => ?_
  refine w_block ?_
  refine w_seqk fun K53 k53 => ?_
  refine w_reg (by kernel_rfl) ?_
  refine s_qk (.pointer (some ⟨b_list, 2, none⟩)) (by kernel_rfl) ?_
  have u54 := (((u19.ext e22).frS e28 (hb23.djn (h_list.ltF.le e9.next))).frS e37 Dj.nil_l)
  refine s_ql (.agg #[.int .i64 list_3, hd_list_4]) (x := aLoad Tryd.prog 33 (.pointer (some ⟨b_list, 2, none⟩)) H36) (by kernel_rfl) (u54.ld (by kernel_rfl)) ?_
  refine s_rwk e37.wf [.int .i64 0, .slice none 0 0] (by kernel_rfl) fun b55 H56 e57 hb58 r59 => ?_
  have u65 := (((((h_list_4.ext e9).ext e22).fr e28 (hb23.djn (h_list_4.lt.le e9.next))).fr e37 Dj.nil_l).ext e57)
  obtain ⟨H61, q62, e63, r64⟩ := Row.store (P := Tryd.prog) (t := 33) (p := 0) e57.wf r59 (.agg #[.int .i64 list_3, hd_list_4]) [.int .i64 list_3, hd_list_4] (by kernel_rfl) (by kernel_rfl) (one_cons (rfl) (one_cons (u65.one1) (one_nil))) (Nat.le_of_ble_eq_true (by kernel_rfl)) [.int .i64 list_3, hd_list_4] (by kernel_rfl)
  refine s_ek (undef) (by kernel_rfl) (map_ok q62) ?_
  refine s_nil ?_
  refine k53 _ _ ?_
  refine w_seqk fun K66 k66 => ?_
  refine w_reg (by kernel_rfl) ?_
  refine s_ql (.agg #[.int .i64 list_3, hd_list_4]) (x := aLoad Tryd.prog 33 (.pointer (some ⟨b55, 0, none⟩)) H61) (by kernel_rfl) (r64.ld (by kernel_rfl)) ?_
  have u67 := (u65.fr e63 (hb58.djn (h_list_4.lt.le (ntr (ntr (ntr e9.next e22.next) e28.next) e37.next))))
  obtain ⟨y68, hy69, r70⟩ := bind_some r49
  refine s_ck 53 #[.agg #[.int .i64 list_3, hd_list_4]] (by kernel_rfl) (c_viaductref01_Err_Bad e63.wf u67 hy69) ?_
  rintro _ H71 ⟨rfl, e72⟩
  refine s_nil ?_
  refine k66 _ _ ?_
  refine w_cond (y68) (by kernel_rfl) rfl (fun h73 => ?_) (fun h73 => ?_)
  ·have r74 := ite_t h73 r70
   refine w_seqk fun K75 k75 => ?_
   refine w_reg (by kernel_rfl) ?_
   have u76 := (r64.frS e72 Dj.nil_l)
   refine s_ql (.agg #[.int .i64 list_3, hd_list_4]) (x := aLoad Tryd.prog 33 (.pointer (some ⟨b55, 0, none⟩)) H71) (by kernel_rfl) (u76.ld (by kernel_rfl)) ?_
   have u81 := ((((((r11.ext e22).frS e28 (hb23.djn r11.ltF)).frS e37 Dj.nil_l).ext e57).frS e63 (hb58.djn (r11.ltF.le (ntr (ntr e22.next e28.next) e37.next)))).frS e72 Dj.nil_l)
   have u82 := (u67.fr e72 Dj.nil_l)
   obtain ⟨H77, q78, e79, r80⟩ := Row.store (P := Tryd.prog) (t := 33) (p := 0) e72.wf u81 (.agg #[.int .i64 list_3, hd_list_4]) [.int .i64 list_3, hd_list_4] (by kernel_rfl) (by kernel_rfl) (one_cons (rfl) (one_cons (u82.one1) (one_nil))) (Nat.le_of_ble_eq_true (by kernel_rfl)) [.int .i64 list_3, hd_list_4] (by kernel_rfl)
   refine s_ek (undef) (by kernel_rfl) (map_ok q78) ?_
   refine s_nil ?_
   refine k75 _ _ ?_
   refine w_ret (bl_ret (th_ret (th_ret (bl_ret (th_ret ?_)))))
   refine b_ret (fn := Tryd.f60) (vs := [.agg #[.int .i64 list_3, hd_list_4]]) (aRes_cell (Eq.trans (b := aLoad Tryd.prog 33 (.pointer (some ⟨b7, 0, none⟩)) H77) (by kernel_rfl) (r80.ld (by kernel_rfl))) (rfl)) ?_
   have u83 := (u82.fr e79 (hb10.djn h_list_4.lt))
   obtain rfl := Option.some.inj r74
   exact ⟨(hd_list_4), fp_list_4, rfl, (FrS.step wf (FrS.step wf (FrS.step wf ((FrS.step wf (FrS.step wf (((FrS.refl (W := []) wf).extR e9).extR e22) e28 (hb23.fresh e9.next)) e37 Inn.nil).extR e57) e63 (hb58.fresh (ntr (ntr (ntr e9.next e22.next) e28.next) e37.next))) e72 Inn.nil) e79 (hb10.fresh (Nat.le_refl _))), u83, (Inn.right Inn.refl')⟩
  ·have r84 := ite_bf h73 r70
   refine w_skip ?_
   refine k52 _ _ ?_
   refine w_reg (by kernel_rfl) ?_
   refine s_qk (.int .i64 2) (by kernel_rfl) ?_
   refine s_qk (.int .i64 2) (by kernel_rfl) ?_
   refine s_nil ?_
   refine w_unroll ?_
   refine w_seqk fun K85 k85 => ?_
   refine w_reg (by kernel_rfl) ?_
   refine s_qk (.bool false) (by kernel_rfl) ?_
   refine s_nil ?_
   refine k85 _ _ ?_
   refine w_seqk fun K86 k86 => ?_
   refine w_cond false (by kernel_rfl) rfl (fun h => by cases h) (fun _ => ?_)
   refine w_exit (th_exit (th_exit (bl_eq ?_)))
   refine k13 _ _ ?_
   refine w_seqk fun K87 k87 => ?_
   refine w_reg (by kernel_rfl) ?_
   refine s_qk (.agg #[.int .i64 0, .slice none 0 0]) (by kernel_rfl) ?_
   have u92 := ((((((r11.ext e22).frS e28 (hb23.djn r11.ltF)).frS e37 Dj.nil_l).ext e57).frS e63 (hb58.djn (r11.ltF.le (ntr (ntr e22.next e28.next) e37.next)))).frS e72 Dj.nil_l)
   obtain ⟨H88, q89, e90, r91⟩ := Row.store (P := Tryd.prog) (t := 33) (p := 0) e72.wf u92 (.agg #[.int .i64 0, .slice none 0 0]) [.int .i64 0, .slice none 0 0] (by kernel_rfl) (by kernel_rfl) (one_cons (rfl) (one_cons (rfl) (one_nil))) (Nat.le_of_ble_eq_true (by kernel_rfl)) [.int .i64 0, .slice none 0 0] (by kernel_rfl)
   refine s_ek (undef) (by kernel_rfl) (map_ok q89) ?_
   refine s_nil ?_
   refine k87 _ _ ?_
   refine w_ret ?_
   refine b_ret (fn := Tryd.f60) (vs := [.agg #[.int .i64 0, .slice none 0 0]]) (aRes_cell (Eq.trans (b := aLoad Tryd.prog 33 (.pointer (some ⟨b7, 0, none⟩)) H88) (by kernel_rfl) (r91.ld (by kernel_rfl))) (rfl)) ?_
   obtain rfl := Option.some.inj r84
   exact ⟨(.slice none 0 0), [], rfl, (FrS.step wf (FrS.step wf (FrS.step wf ((FrS.step wf (FrS.step wf (((FrS.refl (W := []) wf).extR e9).extR e22) e28 (hb23.fresh e9.next)) e37 Inn.nil).extR e57) e63 (hb58.fresh (ntr (ntr (ntr e9.next e22.next) e28.next) e37.next))) e72 Inn.nil) e90 (hb10.fresh (Nat.le_refl _))), (Sq.nil (by decide)), Inn.nil⟩

theorem c_viaductref03_Twin {H : AH} {hd_Arcs : Value} {fp_Arcs : Fp} {N_ : Int} {Arcs : List (Int × Int × Int)} {r : Int × List (Int × Int × Int)}
  (wf : WF H) (h_Arcs : Sq enc_i64_i64_i64 3 H hd_Arcs Arcs fp_Arcs) (hr : z_viaductref03_Twin N_ Arcs = some r) :
  ACalls Tryd.prog 61 #[.agg #[.int .i64 N_, hd_Arcs]] H fun v H' => ∃ (s3 : Value) (f4 : Fp), v = .agg #[.int .i64 r.1, s3] ∧ FrS [] H H' ∧ Ow enc_i64_i64_i64 3 H' s3 r.2 f4 ∧ Inn [] H f4 := by
 refine acalls_of_body mixed Tryd.func61 rfl (Nat.le_of_ble_eq_true rfl) ?_
 unfold z_viaductref03_Twin at hr
 refine w_seqk fun K6 k6 => ?_
 refine w_reg (by kernel_rfl) ?_
 refine s_rwl wf [.int .i64 N_, hd_Arcs] (one_cons (rfl) (one_cons (h_Arcs.one1) (one_nil))) (by kernel_rfl) fun b7 H8 e9 hb10 r11 => ?_
 refine s_rwk e9.wf [.int .i64 0, .slice none 0 0] (by kernel_rfl) fun b13 H14 e15 hb16 r17 => ?_
 refine s_nil ?_
 refine k6 _ _ ?_
 refine w_seqk fun K19 k19 => ?_
 refine w_reg (by kernel_rfl) ?_
 refine s_qk (.pointer (some ⟨b7, 0, none⟩)) (by kernel_rfl) ?_
 have u20 := (r11.ext e15)
 refine s_ql (.int .i64 N_) (x := aLoad Tryd.prog 3 (.pointer (some ⟨b7, 0, none⟩)) H14) (by kernel_rfl) (u20.ld (by kernel_rfl)) ?_
 refine s_qk (.agg #[.int .i64 N_, .slice none 0 0]) (by kernel_rfl) ?_
 refine s_rwk e15.wf [.int .i64 0, .slice none 0 0] (by kernel_rfl) fun b21 H22 e23 hb24 r25 => ?_
 obtain ⟨H27, q28, e29, r30⟩ := Row.store (P := Tryd.prog) (t := 24) (p := 0) e23.wf r25 (.agg #[.int .i64 N_, .slice none 0 0]) [.int .i64 N_, .slice none 0 0] (by kernel_rfl) (by kernel_rfl) (one_cons (rfl) (one_cons (rfl) (one_nil))) (Nat.le_of_ble_eq_true (by kernel_rfl)) [.int .i64 N_, .slice none 0 0] (by kernel_rfl)
 refine s_ek (undef) (by kernel_rfl) (map_ok q28) ?_
 refine s_nil ?_
 refine k19 _ _ ?_
 refine w_seqk fun K31 k31 => ?_
 refine w_seqk fun K32 k32 => ?_
 refine w_reg (by kernel_rfl) ?_
 refine s_qk (.pointer (some ⟨b7, 1, none⟩)) (by kernel_rfl) ?_
 have u33 := ((u20.ext e23).frS e29 (hb24.djn (r11.ltF.le e15.next)))
 refine s_ql (hd_Arcs) (x := aLoad Tryd.prog 22 (.pointer (some ⟨b7, 1, none⟩)) H27) (by kernel_rfl) (u33.ld (by kernel_rfl)) ?_
 have u34 := ((((h_Arcs.ext e9).ext e15).ext e23).fr e29 (hb24.djn (h_Arcs.lt.le (ntr e9.next e15.next))))
 refine s_ql (.int .i64 (Arcs.length : Int)) (x := aLen Tryd.prog 22 hd_Arcs H27) (by kernel_rfl) (u34.lenb (by kernel_rfl)) ?_
 refine s_qk (.int .i64 0) (by kernel_rfl) ?_
 refine s_nil ?_
 refine k32 _ _ ?_
 obtain ⟨o35, hx36, r37⟩ := bind_some hr
 refine w_mid (fun α H38 => ∃ (s42 : Value) (f43 : Fp), Has α [(2, .pointer (some ⟨b13, 0, none⟩)), (3, .pointer (some ⟨b21, 0, none⟩))] ∧ FrS [b21] H27 H38 ∧ Ow enc_i64_i64_i64 3 H38 s42 o35 f43 ∧ Row H38 b21 [.int .i64 N_, s42] ∧ Inn [] H27 f43) (fun K47 k47 => ?_) (fun α H38 hM => ?_)
 ·refine w_block ?_
  obtain ⟨n49, hn50⟩ := loopO_iff.1 hx36
  refine w_loopn (fun n α H51 => ∃ (i0 : Int), ∃ (c1 : List (Int × Int × Int)), ∃ (s55 : Value), ∃ (f56 : Fp), iterO (fun zz_ => z_viaductref03_Twin_l0 Arcs zz_.1 zz_.2) n (i0, c1) = some o35 ∧ Has α [(2, .pointer (some ⟨b13, 0, none⟩)), (3, .pointer (some ⟨b21, 0, none⟩)), (10, hd_Arcs), (11, .int .i64 (Arcs.length : Int)), (12, .int .i64 i0)] ∧ FrS [b21] H27 H51 ∧ Ow enc_i64_i64_i64 3 H51 s55 c1 f56 ∧ Row H51 b21 [.int .i64 N_, s55] ∧ Inn [] H27 f56) n49 ⟨0, [], (.slice none 0 0), [], hn50, ⟨by kernel_rfl, by kernel_rfl, by kernel_rfl, by kernel_rfl, by kernel_rfl, trivial⟩, (FrS.refl (W := [b21]) e29.wf), (Ow.nil (by decide)), r30, Inn.nil⟩ ?_
  rintro n49 α H51 ⟨i0, c1, s55, f56, hi61, hh60, e52, m54, m58, i59⟩ K66 k66
  obtain ⟨n62, z63, rfl, hz64, hn65⟩ := iter_succ hi61
  obtain ⟨β, rfl⟩ := has_ex hh60
  clear hh60
  replace hz64 : z_viaductref03_Twin_l0 Arcs i0 c1 = some z63 := hz64
  unfold z_viaductref03_Twin_l0 at hz64
  obtain ⟨a67, n68, c69, rfl⟩ := m54.form
  refine w_seqk fun K70 k70 => ?_
  refine w_reg (by kernel_rfl) ?_
  refine s_qk (.bool (decide (i0 < (Arcs.length : Int)))) (by kernel_rfl) ?_
  refine s_nil ?_
  refine k70 _ _ ?_
  refine w_seqk fun K71 k71 => ?_
  refine w_condp (i0 < (Arcs.length : Int)) (by kernel_rfl) rfl (fun h72 => ?_) (fun h72 => ?_)
  ·have r73 := ite_t h72 hz64
   refine w_skip ?_
   refine k71 _ _ ?_
   refine w_seqk fun K74 k74 => ?_
   refine w_block ?_
   refine w_seqk fun K75 k75 => ?_
   refine w_reg (by kernel_rfl) ?_
   obtain ⟨g76, r77⟩ := G_some r73
   have u78 := (u34.fr e52 (hb24.djn (h_Arcs.lt.le (ntr e9.next e15.next))))
   refine s_ql (elp hd_Arcs 3 i0.toNat 0) (x := aIndexAddr Tryd.prog 22 hd_Arcs (.int .i64 i0)) (by kernel_rfl) (u78.idxb (by kernel_rfl) g76 h72) ?_
   refine s_ql (.agg #[.int .i64 ((gt Arcs i0).1), .int .i64 ((gt Arcs i0).2.1), .int .i64 ((gt Arcs i0).2.2)]) (x := aLoad Tryd.prog 51 (elp hd_Arcs 3 i0.toNat 0) H51) (by kernel_rfl) (u78.ld g76 h72 (by kernel_rfl)) ?_
   refine s_rwk e52.wf [.int .i64 0, .int .i64 0, .int .i64 0] (by kernel_rfl) fun b79 H80 e81 hb82 r83 => ?_
   obtain ⟨H85, q86, e87, r88⟩ := Row.store (P := Tryd.prog) (t := 51) (p := 0) e81.wf r83 (.agg #[.int .i64 ((gt Arcs i0).1), .int .i64 ((gt Arcs i0).2.1), .int .i64 ((gt Arcs i0).2.2)]) [.int .i64 ((gt Arcs i0).1), .int .i64 ((gt Arcs i0).2.1), .int .i64 ((gt Arcs i0).2.2)] (by kernel_rfl) (by kernel_rfl) (one_cons (rfl) (one_cons (rfl) (one_cons (rfl) (one_nil)))) (Nat.le_of_ble_eq_true (by kernel_rfl)) [.int .i64 ((gt Arcs i0).1), .int .i64 ((gt Arcs i0).2.1), .int .i64 ((gt Arcs i0).2.2)] (by kernel_rfl)
   refine s_ek (undef) (by kernel_rfl) (map_ok q86) ?_
   refine s_nil ?_
   refine k75 _ _ ?_
   refine w_reg (by kernel_rfl) ?_
   refine s_qk (.pointer (some ⟨b21, 1, none⟩)) (by kernel_rfl) ?_
   have u89 := ((m58.ext e81).frS e87 (hb82.djn (r25.ltF.le (ntr e29.next e52.next))))
   refine s_ql (.slice a67 n68 c69) (x := aLoad Tryd.prog 22 (.pointer (some ⟨b21, 1, none⟩)) H85) (by kernel_rfl) (u89.ld (by kernel_rfl)) ?_
   refine s_ql (.agg #[.int .i64 ((gt Arcs i0).1), .int .i64 ((gt Arcs i0).2.1), .int .i64 ((gt Arcs i0).2.2)]) (x := aLoad Tryd.prog 51 (.pointer (some ⟨b79, 0, none⟩)) H85) (by kernel_rfl) (r88.ld (by kernel_rfl)) ?_
   refine s_owk (enc := enc_i64_i64_i64) (sz := 3) e87.wf [((gt Arcs i0).1, (gt Arcs i0).2.1, (gt Arcs i0).2.2)] 1 (by decide) (fun _ _ => rfl) (fun _ _ => rfl) rfl (by kernel_rfl) fun s90 f91 H92 e93 hf94 hm95 => ?_
   obtain ⟨a96, n97, c98, rfl⟩ := hm95.form
   have u100 := (((m54.ext e81).fr e87 (hb82.djn m54.lt)).ext e93)
   obtain ⟨g101, r102⟩ := G_some r77
   obtain ⟨s103, H104, f105, q109, e106, hm107, hf108⟩ := Ow.append (P := Tryd.prog) 24 e93.wf u100 hm95.sq (fun _ _ => rfl) (at_ := #[22, 22]) rfl rfl (by kernel_rfl) (by kernel_rfl) (by decide) (by have := g101; first | omega | (simp only [List.length_cons, List.length_nil] at this ⊢; omega) | (simp at this ⊢; omega))
   obtain ⟨a110, n111, c112, rfl⟩ := hm107.form
   refine s_ek (.slice a110 n111 c112) (by kernel_rfl) (q109) ?_
   refine s_qk (.pointer (some ⟨b21, 1, none⟩)) (by kernel_rfl) ?_
   have u118 := ((u89.ext e93).frS e106 (i59.djn (r25.ltF.le e29.next)))
   obtain ⟨H114, q115, e116, r117⟩ := Row.store (P := Tryd.prog) (t := 22) (p := 1) e106.wf u118 (.slice a110 n111 c112) [.slice a110 n111 c112] (by kernel_rfl) (by kernel_rfl) (one_cons (hm107.one1) (one_nil)) (Nat.le_of_ble_eq_true (by kernel_rfl)) [.int .i64 N_, .slice a110 n111 c112] (by kernel_rfl)
   refine s_ek (undef) (by kernel_rfl) (map_ok q115) ?_
   refine s_nil ?_
   refine k74 _ _ ?_
   refine w_reg (by kernel_rfl) ?_
   obtain ⟨g119, r120⟩ := G_some r102
   refine s_w ((i0 + 1)) (k := .i64) (x := (i0 + 1)) (by kernel_rfl) (wrap64 (by have := g119; omega)) ?_
   refine s_qk (.int .i64 (i0 + 1)) (by kernel_rfl) ?_
   refine s_nil ?_
   have u121 := (hm107.fr e116 (Dj.symm (hf108.dj (i59.djn (r25.ltF.le e29.next)) (r25.ltF.le (ntr (ntr (ntr (ntr e29.next e52.next) e81.next) e87.next) e93.next)))))
   obtain rfl := Option.some.inj r120
   exact k66 n62 _ _ (Nat.lt_succ_self _) ⟨(i0 + 1), (c1 ++ [((gt Arcs i0).1, (gt Arcs i0).2.1, (gt Arcs i0).2.2)]), (.slice a110 n111 c112), f105, hn65, ⟨by kernel_rfl, by kernel_rfl, by kernel_rfl, by kernel_rfl, by kernel_rfl, trivial⟩, (FrS.step e29.wf (FrS.step e29.wf ((FrS.step e29.wf ((FrS.step e29.wf (FrS.refl (W := [b21]) e29.wf) e52 Inn.refl').extR e81) e87 (hb82.fresh e52.next)).extR e93) e106 (i59.fresh (Nat.le_refl _))) e116 Inn.refl'), u121, r117, (Inn.trans (i59.fresh (Nat.le_refl _)) (ntr (ntr (ntr e52.next e81.next) e87.next) e93.next) hf108)⟩
  ·have r122 := ite_f h72 hz64
   refine w_exit (th_exit (th_exit (bl_eq ?_)))
   obtain rfl := Option.some.inj r122
   obtain rfl := it_inr hn65
   exact k47 _ _ ⟨(.slice a67 n68 c69), f56, ⟨by kernel_rfl, by kernel_rfl, trivial⟩, (FrS.step e29.wf (FrS.refl (W := [b21]) e29.wf) e52 Inn.refl'), m54, m58, (i59.fresh (Nat.le_refl _))⟩
 ·obtain ⟨s42, f43, hh48, e39, m41, m45, i46⟩ := hM
  obtain ⟨β, rfl⟩ := has_ex hh48
  clear hh48
  obtain ⟨a123, n124, c125, rfl⟩ := m41.form
  refine k31 _ _ ?_
  refine w_seqk fun K126 k126 => ?_
  refine w_reg (by kernel_rfl) ?_
  refine s_ql (.agg #[.int .i64 N_, .slice a123 n124 c125]) (x := aLoad Tryd.prog 24 (.pointer (some ⟨b21, 0, none⟩)) H38) (by kernel_rfl) (m45.ld (by kernel_rfl)) ?_
  have u131 := (((r17.ext e23).frS e29 (hb24.djn r17.ltF)).frS e39 (hb24.djn r17.ltF))
  obtain ⟨H127, q128, e129, r130⟩ := Row.store (P := Tryd.prog) (t := 24) (p := 0) e39.wf u131 (.agg #[.int .i64 N_, .slice a123 n124 c125]) [.int .i64 N_, .slice a123 n124 c125] (by kernel_rfl) (by kernel_rfl) (one_cons (rfl) (one_cons (m41.one1) (one_nil))) (Nat.le_of_ble_eq_true (by kernel_rfl)) [.int .i64 N_, .slice a123 n124 c125] (by kernel_rfl)
  refine s_ek (undef) (by kernel_rfl) (map_ok q128) ?_
  refine s_nil ?_
  refine k126 _ _ ?_
  refine w_ret ?_
  refine b_ret (fn := Tryd.f61) (vs := [.agg #[.int .i64 N_, .slice a123 n124 c125]]) (aRes_cell (Eq.trans (b := aLoad Tryd.prog 24 (.pointer (some ⟨b13, 0, none⟩)) H127) (by kernel_rfl) (r130.ld (by kernel_rfl))) (rfl)) ?_
  have u132 := (m41.fr e129 (Dj.symm (i46.djn (r17.ltF.le (ntr e23.next e29.next)))))
  obtain rfl := Option.some.inj r37
  exact ⟨(.slice a123 n124 c125), f43, rfl, (FrS.step wf (FrS.step wf (FrS.step wf ((((FrS.refl (W := []) wf).extR e9).extR e15).extR e23) e29 (hb24.fresh (ntr e9.next e15.next))) e39 (hb24.fresh (ntr e9.next e15.next))) e129 (hb16.fresh e9.next)), u132, (i46.fresh (ntr (ntr (ntr e9.next e15.next) e23.next) e29.next))⟩

theorem c_viaductref04_DocMerge {H : AH} {hd_Arcs : Value} {fp_Arcs : Fp} {hd_Arcs_ : Value} {fp_Arcs_ : Fp} {N_ : Int} {Arcs : List (Int × Int × Int)} {N_2 : Int} {Arcs_ : List (Int × Int × Int)} {r : Int × List (Int × Int × Int) × Int × List (Int × Int)}
  (wf : WF H) (h_Arcs : Sq enc_i64_i64_i64 3 H hd_Arcs Arcs fp_Arcs) (h_Arcs_ : Sq enc_i64_i64_i64 3 H hd_Arcs_ Arcs_ fp_Arcs_) (hr : z_viaductref04_DocMerge N_ Arcs N_2 Arcs_ = some r) :
  ACalls Tryd.prog 25 #[.agg #[.int .i64 N_, hd_Arcs], .agg #[.int .i64 N_2, hd_Arcs_]] H fun v H' => ∃ (s3 : Value) (f4 : Fp) (s7 : Value) (f8 : Fp), v = .tuple #[.agg #[.int .i64 r.1, s3], .agg #[.int .i64 r.2.2.1, s7]] ∧ FrS [] H H' ∧ Ow enc_i64_i64_i64 3 H' s3 r.2.1 f4 ∧ Sq enc_i64_i64 2 H' s7 r.2.2.2 f8 ∧ Inn [] H f4 ∧ Inn [] H f8 ∧ Dj f4 f8 := by
 refine acalls_of_body mixed Tryd.func25 rfl (Nat.le_of_ble_eq_true rfl) ?_
 unfold z_viaductref04_DocMerge at hr
 refine w_seqk fun K12 k12 => ?_
 refine w_reg (by kernel_rfl) ?_
 refine s_rwl wf [.int .i64 N_, hd_Arcs] (one_cons (rfl) (one_cons (h_Arcs.one1) (one_nil))) (by kernel_rfl) fun b13 H14 e15 hb16 r17 => ?_
 have u24 := (h_Arcs_.ext e15)
 refine s_rwl e15.wf [.int .i64 N_2, hd_Arcs_] (one_cons (rfl) (one_cons (u24.one1) (one_nil))) (by kernel_rfl) fun b19 H20 e21 hb22 r23 => ?_
 refine s_rwk e21.wf [.int .i64 0, .slice none 0 0] (by kernel_rfl) fun b26 H27 e28 hb29 r30 => ?_
 refine s_rwk e28.wf [.int .i64 0, .slice none 0 0] (by kernel_rfl) fun b32 H33 e34 hb35 r36 => ?_
 refine s_nil ?_
 refine k12 _ _ ?_
 refine w_seqk fun K38 k38 => ?_
 refine w_draw [0, 2, 6, 1, 3, 4, 5, 7] (by kernel_rfl) ?_
 have u39 := (((r17.ext e21).ext e28).ext e34)
 refine d_ql (.agg #[.int .i64 N_, hd_Arcs]) (x := aLoad Tryd.prog 24 (.pointer (some ⟨b13, 0, none⟩)) H33) (by kernel_rfl) (u39.ld (by kernel_rfl)) ?_
 have u40 := ((r23.ext e28).ext e34)
 refine d_fl (.agg #[.int .i64 N_2, hd_Arcs_]) (x := aLoad Tryd.prog 24 (.pointer (some ⟨b19, 0, none⟩)) H33) (by kernel_rfl) (u40.ld (by kernel_rfl)) ?_
 refine d_rwk e34.wf [.int .i64 0, .slice none 0 0] (by kernel_rfl) fun b41 H42 e43 hb44 r45 => ?_
 have u47 := (((((h_Arcs.ext e15).ext e21).ext e28).ext e34).ext e43)
 obtain ⟨y48, hy49, r50⟩ := bind_some hr
 refine d_ck 52 #[.agg #[.int .i64 N_, hd_Arcs]] (by kernel_rfl) (c_viaductref03_DocCheck e43.wf u47 hy49) ?_
 rintro _ H53 ⟨s51, f52, rfl, e54, m55, i56⟩
 obtain ⟨a58, n59, c60, rfl⟩ := m55.form
 have u61 := ((u40.ext e43).frS e54 Dj.nil_l)
 refine ⟨st_ql (y := aLoad Tryd.prog 24 (.pointer (some ⟨b19, 0, none⟩)) H53) (by kernel_rfl) (u61.ld (by kernel_rfl)) (st_nil), ?_⟩
 have u62 := (((((u24.ext e21).ext e28).ext e34).ext e43).fr e54 Dj.nil_l)
 obtain ⟨y63, hy64, r65⟩ := bind_some r50
 refine d_ck 52 #[.agg #[.int .i64 N_2, hd_Arcs_]] (by kernel_rfl) (c_viaductref03_DocCheck e54.wf u62 hy64) ?_
 rintro _ H68 ⟨s66, f67, rfl, e69, m70, i71⟩
 obtain ⟨a73, n74, c75, rfl⟩ := m70.form
 refine ⟨st_anc (by kernel_rfl) (st_nil), ?_⟩
 have u81 := (m55.fr e69 Dj.nil_l)
 refine d_lsl e69.wf [.int .i64 y48.1, .slice a58 n59 c60, .int .i64 y63.1, .slice a73 n74 c75] 2 (one_cons (rfl) (one_cons (u81.one1) (one_cons (rfl) (one_cons (m70.one1) (one_nil))))) (by kernel_rfl) fun b76 H77 e78 hb79 r80 => ?_
 have u83 := (u81.ext e78)
 have u84 := (m70.ext e78)
 obtain ⟨y85, hy86, r87⟩ := bind_some r65
 refine d_ck 60 #[.slice (some ⟨b76, 0, none⟩) 2 2] (by kernel_rfl) (c_viaductref01_First e78.wf u83.sq u84.sq r80 hy86) ?_
 rintro _ H90 ⟨s88, f89, rfl, e91, m92, i93⟩
 obtain ⟨a95, n96, c97, rfl⟩ := m92.form
 refine ⟨st_anc (by kernel_rfl) (st_nil), ?_⟩
 have u102 := ((((r45.frS e54 Dj.nil_l).frS e69 Dj.nil_l).ext e78).frS e91 Dj.nil_l)
 obtain ⟨H98, q99, e100, r101⟩ := Row.store (P := Tryd.prog) (t := 33) (p := 0) e91.wf u102 (.agg #[.int .i64 y85.1, .slice a95 n96 c97]) [.int .i64 y85.1, .slice a95 n96 c97] (by kernel_rfl) (by kernel_rfl) (one_cons (rfl) (one_cons (m92.one1) (one_nil))) (Nat.le_of_ble_eq_true (by kernel_rfl)) [.int .i64 y85.1, .slice a95 n96 c97] (by kernel_rfl)
 refine d_ek (undef) (by kernel_rfl) (map_ok q99) (st_anc (by kernel_rfl) (st_nil)) ?_
 refine d_nil ?_
 refine k38 _ _ ?_
 refine w_seqk fun K103 k103 => ?_
 refine w_block ?_
 refine w_seqk fun K104 k104 => ?_
 refine w_reg (by kernel_rfl) ?_
 refine s_ql (.agg #[.int .i64 y85.1, .slice a95 n96 c97]) (x := aLoad Tryd.prog 33 (.pointer (some ⟨b41, 0, none⟩)) H98) (by kernel_rfl) (r101.ld (by kernel_rfl)) ?_
 have u105 := (m92.fr e100 (Dj.symm (i93.dj (Dj.app (i56.djn r45.ltF) (i71.djn (r45.ltF.le e54.next))) (r45.ltF.le (ntr (ntr e54.next e69.next) e78.next)))))
 obtain ⟨y106, hy107, r108⟩ := bind_some r87
 refine s_ck 53 #[.agg #[.int .i64 y85.1, .slice a95 n96 c97]] (by kernel_rfl) (c_viaductref01_Err_Bad e100.wf u105 hy107) ?_
 rintro _ H109 ⟨rfl, e110⟩
 refine s_qk (.bool y106) (by kernel_rfl) ?_
 refine s_nil ?_
 refine k104 _ _ ?_
 refine w_cond (y106) (by kernel_rfl) rfl (fun h111 => ?_) (fun h111 => ?_)
 ·have r112 := ite_t h111 r108
  refine w_seqk fun K113 k113 => ?_
  refine w_draw [0, 1, 2, 3] (by kernel_rfl) ?_
  refine d_qk (.agg #[.int .i64 0, .slice none 0 0]) (by kernel_rfl) ?_
  have u114 := (r101.frS e110 Dj.nil_l)
  refine d_fl (.agg #[.int .i64 y85.1, .slice a95 n96 c97]) (x := aLoad Tryd.prog 33 (.pointer (some ⟨b41, 0, none⟩)) H109) (by kernel_rfl) (u114.ld (by kernel_rfl)) ?_
  have u119 := ((((((((r30.ext e34).ext e43).frS e54 Dj.nil_l).frS e69 Dj.nil_l).ext e78).frS e91 Dj.nil_l).frS e100 (hb44.djn (r30.ltF.le e34.next))).frS e110 Dj.nil_l)
  obtain ⟨H115, q116, e117, r118⟩ := Row.store (P := Tryd.prog) (t := 24) (p := 0) e110.wf u119 (.agg #[.int .i64 0, .slice none 0 0]) [.int .i64 0, .slice none 0 0] (by kernel_rfl) (by kernel_rfl) (one_cons (rfl) (one_cons (rfl) (one_nil))) (Nat.le_of_ble_eq_true (by kernel_rfl)) [.int .i64 0, .slice none 0 0] (by kernel_rfl)
  have u120 := (u114.frS e117 (Dj.symm (hb44.djn (r30.ltF.le e34.next))))
  refine d_ek (undef) (by kernel_rfl) (map_ok q116) (st_ql (y := aLoad Tryd.prog 33 (.pointer (some ⟨b41, 0, none⟩)) H115) (by kernel_rfl) (u120.ld (by kernel_rfl)) (st_nil)) ?_
  have u125 := ((((((((r36.ext e43).frS e54 Dj.nil_l).frS e69 Dj.nil_l).ext e78).frS e91 Dj.nil_l).frS e100 (hb44.djn r36.ltF)).frS e110 Dj.nil_l).frS e117 (Dj.symm (hb35.djn r30.ltF)))
  have u126 := ((u105.fr e110 Dj.nil_l).fr e117 (Dj.symm (i93.dj (Dj.app (i56.djn (r30.ltF.le (ntr e34.next e43.next))) (i71.djn (r30.ltF.le (ntr (ntr e34.next e43.next) e54.next)))) (r30.ltF.le (ntr (ntr (ntr (ntr e34.next e43.next) e54.next) e69.next) e78.next)))))
  obtain ⟨H121, q122, e123, r124⟩ := Row.store (P := Tryd.prog) (t := 33) (p := 0) e117.wf u125 (.agg #[.int .i64 y85.1, .slice a95 n96 c97]) [.int .i64 y85.1, .slice a95 n96 c97] (by kernel_rfl) (by kernel_rfl) (one_cons (rfl) (one_cons (u126.one1) (one_nil))) (Nat.le_of_ble_eq_true (by kernel_rfl)) [.int .i64 y85.1, .slice a95 n96 c97] (by kernel_rfl)
  refine d_ek (undef) (by kernel_rfl) (map_ok q122) (st_anc (by kernel_rfl) (st_nil)) ?_
  refine d_nil ?_
  refine k113 _ _ ?_
  refine w_ret (bl_ret (th_ret ?_))
  have u127 := (r118.frS e123 (hb35.djn r30.ltF))
  refine b_ret (fn := Tryd.f25) (vs := [.agg #[.int .i64 0, .slice none 0 0], .agg #[.int .i64 y85.1, .slice a95 n96 c97]]) (aRes_cell (Eq.trans (b := aLoad Tryd.prog 24 (.pointer (some ⟨b26, 0, none⟩)) H121) (by kernel_rfl) (u127.ld (by kernel_rfl))) (aRes_cell (Eq.trans (b := aLoad Tryd.prog 33 (.pointer (some ⟨b32, 0, none⟩)) H121) (by kernel_rfl) (r124.ld (by kernel_rfl))) (rfl))) ?_
  have u128 := (u126.fr e123 (Dj.symm (i93.dj (Dj.app (i56.djn (r36.ltF.le e43.next)) (i71.djn (r36.ltF.le (ntr e43.next e54.next)))) (r36.ltF.le (ntr (ntr (ntr e43.next e54.next) e69.next) e78.next)))))
  obtain rfl := Option.some.inj r112
  exact ⟨(.slice none 0 0), [], (.slice a95 n96 c97), f89, rfl, (FrS.step wf (FrS.step wf (FrS.step wf (FrS.step wf (FrS.step wf ((FrS.step wf (FrS.step wf ((((((FrS.refl (W := []) wf).extR e15).extR e21).extR e28).extR e34).extR e43) e54 Inn.nil) e69 Inn.nil).extR e78) e91 Inn.nil) e100 (hb44.fresh (ntr (ntr (ntr e15.next e21.next) e28.next) e34.next))) e110 Inn.nil) e117 (hb29.fresh (ntr e15.next e21.next))) e123 (hb35.fresh (ntr (ntr e15.next e21.next) e28.next))), (Ow.nil (by decide)), u128, Inn.nil, (Inn.trans (Inn.app (i56.fresh (ntr (ntr (ntr (ntr e15.next e21.next) e28.next) e34.next) e43.next)) (i71.fresh (ntr (ntr (ntr (ntr (ntr e15.next e21.next) e28.next) e34.next) e43.next) e54.next))) (ntr (ntr (ntr (ntr (ntr (ntr (ntr e15.next e21.next) e28.next) e34.next) e43.next) e54.next) e69.next) e78.next) i93), Dj.nil_l⟩
 ·have r129 := ite_bf h111 r108
  refine w_seqk fun K130 k130 => ?_
  refine w_reg (by kernel_rfl) ?_
  refine s_qk (.pointer (some ⟨b13, 0, none⟩)) (by kernel_rfl) ?_
  have u131 := (((((((u39.ext e43).frS e54 Dj.nil_l).frS e69 Dj.nil_l).ext e78).frS e91 Dj.nil_l).frS e100 (hb44.djn (r17.ltF.le (ntr (ntr e21.next e28.next) e34.next)))).frS e110 Dj.nil_l)
  refine s_ql (.int .i64 N_) (x := aLoad Tryd.prog 3 (.pointer (some ⟨b13, 0, none⟩)) H109) (by kernel_rfl) (u131.ld (by kernel_rfl)) ?_
  refine s_qk (.pointer (some ⟨b19, 0, none⟩)) (by kernel_rfl) ?_
  have u132 := (((((u61.frS e69 Dj.nil_l).ext e78).frS e91 Dj.nil_l).frS e100 (hb44.djn (r23.ltF.le (ntr e28.next e34.next)))).frS e110 Dj.nil_l)
  refine s_ql (.int .i64 N_2) (x := aLoad Tryd.prog 3 (.pointer (some ⟨b19, 0, none⟩)) H109) (by kernel_rfl) (u132.ld (by kernel_rfl)) ?_
  refine s_qk (.bool (!decide (N_ = N_2))) (by kernel_rfl) ?_
  refine s_qk (.bool (!decide (N_ = N_2))) (by kernel_rfl) ?_
  refine s_nil ?_
  refine k130 _ _ ?_
  refine w_condn (N_ = N_2) (by kernel_rfl) rfl (fun h133 => ?_) (fun h133 => ?_)
  ·have r134 := ite_f h133 r129
   refine w_seqk fun K135 k135 => ?_
   refine w_reg (by kernel_rfl) ?_
   refine s_qk (.agg #[.int .i64 0, .slice none 0 0]) (by kernel_rfl) ?_
   obtain ⟨y136, hy137, r138⟩ := bind_some r134
   refine s_ck 26 #[.int .i64 1] (by kernel_rfl) (c_viaductref01_E e110.wf hy137) ?_
   rintro _ H139 ⟨rfl, e140⟩
   have u145 := (((((((((r30.ext e34).ext e43).frS e54 Dj.nil_l).frS e69 Dj.nil_l).ext e78).frS e91 Dj.nil_l).frS e100 (hb44.djn (r30.ltF.le e34.next))).frS e110 Dj.nil_l).frS e140 Dj.nil_l)
   obtain ⟨H141, q142, e143, r144⟩ := Row.store (P := Tryd.prog) (t := 24) (p := 0) e140.wf u145 (.agg #[.int .i64 0, .slice none 0 0]) [.int .i64 0, .slice none 0 0] (by kernel_rfl) (by kernel_rfl) (one_cons (rfl) (one_cons (rfl) (one_nil))) (Nat.le_of_ble_eq_true (by kernel_rfl)) [.int .i64 0, .slice none 0 0] (by kernel_rfl)
   refine s_ek (undef) (by kernel_rfl) (map_ok q142) ?_
   have u150 := (((((((((r36.ext e43).frS e54 Dj.nil_l).frS e69 Dj.nil_l).ext e78).frS e91 Dj.nil_l).frS e100 (hb44.djn r36.ltF)).frS e110 Dj.nil_l).frS e140 Dj.nil_l).frS e143 (Dj.symm (hb35.djn r30.ltF)))
   obtain ⟨H146, q147, e148, r149⟩ := Row.store (P := Tryd.prog) (t := 33) (p := 0) e143.wf u150 (.agg #[.int .i64 y136, .slice none 0 0]) [.int .i64 y136, .slice none 0 0] (by kernel_rfl) (by kernel_rfl) (one_cons (rfl) (one_cons (rfl) (one_nil))) (Nat.le_of_ble_eq_true (by kernel_rfl)) [.int .i64 y136, .slice none 0 0] (by kernel_rfl)
   refine s_ek (undef) (by kernel_rfl) (map_ok q147) ?_
   refine s_nil ?_
   refine k135 _ _ ?_
   refine w_ret (bl_ret (th_ret ?_))
   have u151 := (r144.frS e148 (hb35.djn r30.ltF))
   refine b_ret (fn := Tryd.f25) (vs := [.agg #[.int .i64 0, .slice none 0 0], .agg #[.int .i64 y136, .slice none 0 0]]) (aRes_cell (Eq.trans (b := aLoad Tryd.prog 24 (.pointer (some ⟨b26, 0, none⟩)) H146) (by kernel_rfl) (u151.ld (by kernel_rfl))) (aRes_cell (Eq.trans (b := aLoad Tryd.prog 33 (.pointer (some ⟨b32, 0, none⟩)) H146) (by kernel_rfl) (r149.ld (by kernel_rfl))) (rfl))) ?_
   obtain rfl := Option.some.inj r138
   exact ⟨(.slice none 0 0), [], (.slice none 0 0), [], rfl, (FrS.step wf (FrS.step wf (FrS.step wf (FrS.step wf (FrS.step wf (FrS.step wf ((FrS.step wf (FrS.step wf ((((((FrS.refl (W := []) wf).extR e15).extR e21).extR e28).extR e34).extR e43) e54 Inn.nil) e69 Inn.nil).extR e78) e91 Inn.nil) e100 (hb44.fresh (ntr (ntr (ntr e15.next e21.next) e28.next) e34.next))) e110 Inn.nil) e140 Inn.nil) e143 (hb29.fresh (ntr e15.next e21.next))) e148 (hb35.fresh (ntr (ntr e15.next e21.next) e28.next))), (Ow.nil (by decide)), (Sq.nil (by decide)), Inn.nil, Inn.nil, Dj.nil_l⟩
  ·have r152 := ite_t h133 r129
   refine w_seqk fun K153 k153 => ?_
   refine w_reg (by kernel_rfl) ?_
   refine s_qk (.pointer (some ⟨b13, 1, none⟩)) (by kernel_rfl) ?_
   refine s_ql (hd_Arcs) (x := aLoad Tryd.prog 22 (.pointer (some ⟨b13, 1, none⟩)) H109) (by kernel_rfl) (u131.ld (by kernel_rfl)) ?_
   have u154 := ((((((u47.fr e54 Dj.nil_l).fr e69 Dj.nil_l).ext e78).fr e91 Dj.nil_l).fr e100 (hb44.djn (h_Arcs.lt.le (ntr (ntr (ntr e15.next e21.next) e28.next) e34.next)))).fr e110 Dj.nil_l)
   refine s_ql (.int .i64 (Arcs.length : Int)) (x := aLen Tryd.prog 22 hd_Arcs H109) (by kernel_rfl) (u154.lenb (by kernel_rfl)) ?_
   refine s_qk (.pointer (some ⟨b19, 1, none⟩)) (by kernel_rfl) ?_
   refine s_ql (hd_Arcs_) (x := aLoad Tryd.prog 22 (.pointer (some ⟨b19, 1, none⟩)) H109) (by kernel_rfl) (u132.ld (by kernel_rfl)) ?_
   have u155 := (((((u62.fr e69 Dj.nil_l).ext e78).fr e91 Dj.nil_l).fr e100 (hb44.djn (h_Arcs_.lt.le (ntr (ntr (ntr e15.next e21.next) e28.next) e34.next)))).fr e110 Dj.nil_l)
   refine s_ql (.int .i64 (Arcs_.length : Int)) (x := aLen Tryd.prog 22 hd_Arcs_ H109) (by kernel_rfl) (u155.lenb (by kernel_rfl)) ?_
   obtain ⟨g156, r157⟩ := G_some r152
   refine s_w (((Arcs.length : Int) + (Arcs_.length : Int))) (k := .i64) (x := ((Arcs.length : Int) + (Arcs_.length : Int))) (by kernel_rfl) (wrap64 g156) ?_
   refine s_qk (.bool (decide (((Arcs.length : Int) + (Arcs_.length : Int)) > 262144))) (by kernel_rfl) ?_
   refine s_qk (.bool (decide (((Arcs.length : Int) + (Arcs_.length : Int)) > 262144))) (by kernel_rfl) ?_
   refine s_nil ?_
   refine k153 _ _ ?_
   refine w_condp (((Arcs.length : Int) + (Arcs_.length : Int)) > 262144) (by kernel_rfl) rfl (fun h158 => ?_) (fun h158 => ?_)
   ·have r159 := ite_t h158 r157
    refine w_seqk fun K160 k160 => ?_
    refine w_reg (by kernel_rfl) ?_
    refine s_qk (.agg #[.int .i64 0, .slice none 0 0]) (by kernel_rfl) ?_
    obtain ⟨y161, hy162, r163⟩ := bind_some r159
    refine s_ck 26 #[.int .i64 9] (by kernel_rfl) (c_viaductref01_E e110.wf hy162) ?_
    rintro _ H164 ⟨rfl, e165⟩
    have u170 := (((((((((r30.ext e34).ext e43).frS e54 Dj.nil_l).frS e69 Dj.nil_l).ext e78).frS e91 Dj.nil_l).frS e100 (hb44.djn (r30.ltF.le e34.next))).frS e110 Dj.nil_l).frS e165 Dj.nil_l)
    obtain ⟨H166, q167, e168, r169⟩ := Row.store (P := Tryd.prog) (t := 24) (p := 0) e165.wf u170 (.agg #[.int .i64 0, .slice none 0 0]) [.int .i64 0, .slice none 0 0] (by kernel_rfl) (by kernel_rfl) (one_cons (rfl) (one_cons (rfl) (one_nil))) (Nat.le_of_ble_eq_true (by kernel_rfl)) [.int .i64 0, .slice none 0 0] (by kernel_rfl)
    refine s_ek (undef) (by kernel_rfl) (map_ok q167) ?_
    have u175 := (((((((((r36.ext e43).frS e54 Dj.nil_l).frS e69 Dj.nil_l).ext e78).frS e91 Dj.nil_l).frS e100 (hb44.djn r36.ltF)).frS e110 Dj.nil_l).frS e165 Dj.nil_l).frS e168 (Dj.symm (hb35.djn r30.ltF)))
    obtain ⟨H171, q172, e173, r174⟩ := Row.store (P := Tryd.prog) (t := 33) (p := 0) e168.wf u175 (.agg #[.int .i64 y161, .slice none 0 0]) [.int .i64 y161, .slice none 0 0] (by kernel_rfl) (by kernel_rfl) (one_cons (rfl) (one_cons (rfl) (one_nil))) (Nat.le_of_ble_eq_true (by kernel_rfl)) [.int .i64 y161, .slice none 0 0] (by kernel_rfl)
    refine s_ek (undef) (by kernel_rfl) (map_ok q172) ?_
    refine s_nil ?_
    refine k160 _ _ ?_
    refine w_ret (bl_ret (th_ret ?_))
    have u176 := (r169.frS e173 (hb35.djn r30.ltF))
    refine b_ret (fn := Tryd.f25) (vs := [.agg #[.int .i64 0, .slice none 0 0], .agg #[.int .i64 y161, .slice none 0 0]]) (aRes_cell (Eq.trans (b := aLoad Tryd.prog 24 (.pointer (some ⟨b26, 0, none⟩)) H171) (by kernel_rfl) (u176.ld (by kernel_rfl))) (aRes_cell (Eq.trans (b := aLoad Tryd.prog 33 (.pointer (some ⟨b32, 0, none⟩)) H171) (by kernel_rfl) (r174.ld (by kernel_rfl))) (rfl))) ?_
    obtain rfl := Option.some.inj r163
    exact ⟨(.slice none 0 0), [], (.slice none 0 0), [], rfl, (FrS.step wf (FrS.step wf (FrS.step wf (FrS.step wf (FrS.step wf (FrS.step wf ((FrS.step wf (FrS.step wf ((((((FrS.refl (W := []) wf).extR e15).extR e21).extR e28).extR e34).extR e43) e54 Inn.nil) e69 Inn.nil).extR e78) e91 Inn.nil) e100 (hb44.fresh (ntr (ntr (ntr e15.next e21.next) e28.next) e34.next))) e110 Inn.nil) e165 Inn.nil) e168 (hb29.fresh (ntr e15.next e21.next))) e173 (hb35.fresh (ntr (ntr e15.next e21.next) e28.next))), (Ow.nil (by decide)), (Sq.nil (by decide)), Inn.nil, Inn.nil, Dj.nil_l⟩
   ·have r177 := ite_f h158 r157
    refine w_skip ?_
    refine k103 _ _ ?_
    refine w_seqk fun K178 k178 => ?_
    refine w_reg (by kernel_rfl) ?_
    refine s_ql (.agg #[.int .i64 N_, hd_Arcs]) (x := aLoad Tryd.prog 24 (.pointer (some ⟨b13, 0, none⟩)) H109) (by kernel_rfl) (u131.ld (by kernel_rfl)) ?_
    obtain ⟨y179, hy180, r181⟩ := bind_some r177
    refine s_ck 61 #[.agg #[.int .i64 N_, hd_Arcs]] (by kernel_rfl) (c_viaductref03_Twin e110.wf u154 hy180) ?_
    rintro _ H184 ⟨s182, f183, rfl, e185, m186, i187⟩
    obtain ⟨a189, n190, c191, rfl⟩ := m186.form
    refine s_rwk e185.wf [.int .i64 0, .slice none 0 0] (by kernel_rfl) fun b192 H193 e194 hb195 r196 => ?_
    have u202 := (m186.ext e194)
    obtain ⟨H198, q199, e200, r201⟩ := Row.store (P := Tryd.prog) (t := 24) (p := 0) e194.wf r196 (.agg #[.int .i64 y179.1, .slice a189 n190 c191]) [.int .i64 y179.1, .slice a189 n190 c191] (by kernel_rfl) (by kernel_rfl) (one_cons (rfl) (one_cons (u202.one1) (one_nil))) (Nat.le_of_ble_eq_true (by kernel_rfl)) [.int .i64 y179.1, .slice a189 n190 c191] (by kernel_rfl)
    refine s_ek (undef) (by kernel_rfl) (map_ok q199) ?_
    refine s_nil ?_
    refine k178 _ _ ?_
    refine w_seqk fun K203 k203 => ?_
    refine w_seqk fun K204 k204 => ?_
    refine w_reg (by kernel_rfl) ?_
    refine s_qk (.pointer (some ⟨b19, 1, none⟩)) (by kernel_rfl) ?_
    have u205 := (((u132.frS e185 Dj.nil_l).ext e194).frS e200 (hb195.djn (r23.ltF.le (ntr (ntr (ntr (ntr (ntr (ntr (ntr (ntr (ntr e28.next e34.next) e43.next) e54.next) e69.next) e78.next) e91.next) e100.next) e110.next) e185.next))))
    refine s_ql (hd_Arcs_) (x := aLoad Tryd.prog 22 (.pointer (some ⟨b19, 1, none⟩)) H198) (by kernel_rfl) (u205.ld (by kernel_rfl)) ?_
    have u206 := (((u155.fr e185 Dj.nil_l).ext e194).fr e200 (hb195.djn (h_Arcs_.lt.le (ntr (ntr (ntr (ntr (ntr (ntr (ntr (ntr (ntr (ntr (ntr e15.next e21.next) e28.next) e34.next) e43.next) e54.next) e69.next) e78.next) e91.next) e100.next) e110.next) e185.next))))
    refine s_ql (.int .i64 (Arcs_.length : Int)) (x := aLen Tryd.prog 22 hd_Arcs_ H198) (by kernel_rfl) (u206.lenb (by kernel_rfl)) ?_
    refine s_qk (.int .i64 0) (by kernel_rfl) ?_
    refine s_nil ?_
    refine k204 _ _ ?_
    obtain ⟨o207, hx208, r209⟩ := bind_some r181
    refine w_mid (fun α H210 => ∃ (s214 : Value) (f215 : Fp), Has α [(4, .pointer (some ⟨b26, 0, none⟩)), (5, .pointer (some ⟨b32, 0, none⟩)), (7, .pointer (some ⟨b192, 0, none⟩))] ∧ FrS ([b192] ++ f183) H198 H210 ∧ Ow enc_i64_i64_i64 3 H210 s214 o207 f215 ∧ Row H210 b192 [.int .i64 y179.1, s214] ∧ Inn f183 H198 f215) (fun K219 k219 => ?_) (fun α H210 hM => ?_)
    ·refine w_block ?_
     obtain ⟨n221, hn222⟩ := loopO_iff.1 hx208
     have u238 := (u202.fr e200 (hb195.djn m186.lt))
     refine w_loopn (fun n α H223 => ∃ (i0 : Int), ∃ (c1 : List (Int × Int × Int)), ∃ (s227 : Value), ∃ (f228 : Fp), iterO (fun zz_ => z_viaductref04_DocMerge_l0 Arcs_ zz_.1 zz_.2) n (i0, c1) = some o207 ∧ Has α [(4, .pointer (some ⟨b26, 0, none⟩)), (5, .pointer (some ⟨b32, 0, none⟩)), (7, .pointer (some ⟨b192, 0, none⟩)), (43, hd_Arcs_), (44, .int .i64 (Arcs_.length : Int)), (45, .int .i64 i0)] ∧ FrS ([b192] ++ f183) H198 H223 ∧ Ow enc_i64_i64_i64 3 H223 s227 c1 f228 ∧ Row H223 b192 [.int .i64 y179.1, s227] ∧ Inn f183 H198 f228) n221 ⟨0, y179.2, (.slice a189 n190 c191), f183, hn222, ⟨by kernel_rfl, by kernel_rfl, by kernel_rfl, by kernel_rfl, by kernel_rfl, by kernel_rfl, trivial⟩, (FrS.refl (W := ([b192] ++ f183)) e200.wf), u238, r201, Inn.refl'⟩ ?_
     rintro n221 α H223 ⟨i0, c1, s227, f228, hi233, hh232, e224, m226, m230, i231⟩ K239 k239
     obtain ⟨n234, z235, rfl, hz236, hn237⟩ := iter_succ hi233
     obtain ⟨β, rfl⟩ := has_ex hh232
     clear hh232
     replace hz236 : z_viaductref04_DocMerge_l0 Arcs_ i0 c1 = some z235 := hz236
     unfold z_viaductref04_DocMerge_l0 at hz236
     obtain ⟨a240, n241, c242, rfl⟩ := m226.form
     refine w_seqk fun K243 k243 => ?_
     refine w_reg (by kernel_rfl) ?_
     refine s_qk (.bool (decide (i0 < (Arcs_.length : Int)))) (by kernel_rfl) ?_
     refine s_nil ?_
     refine k243 _ _ ?_
     refine w_seqk fun K244 k244 => ?_
     refine w_condp (i0 < (Arcs_.length : Int)) (by kernel_rfl) rfl (fun h245 => ?_) (fun h245 => ?_)
     ·have r246 := ite_t h245 hz236
      refine w_skip ?_
      refine k244 _ _ ?_
      refine w_seqk fun K247 k247 => ?_
      refine w_block ?_
      refine w_seqk fun K248 k248 => ?_
      refine w_reg (by kernel_rfl) ?_
      obtain ⟨g249, r250⟩ := G_some r246
      have u251 := (u206.fr e224 (Dj.app (hb195.djn (h_Arcs_.lt.le (ntr (ntr (ntr (ntr (ntr (ntr (ntr (ntr (ntr (ntr (ntr e15.next e21.next) e28.next) e34.next) e43.next) e54.next) e69.next) e78.next) e91.next) e100.next) e110.next) e185.next))) (i187.djn (h_Arcs_.lt.le (ntr (ntr (ntr (ntr (ntr (ntr (ntr (ntr (ntr (ntr e15.next e21.next) e28.next) e34.next) e43.next) e54.next) e69.next) e78.next) e91.next) e100.next) e110.next)))))
      refine s_ql (elp hd_Arcs_ 3 i0.toNat 0) (x := aIndexAddr Tryd.prog 22 hd_Arcs_ (.int .i64 i0)) (by kernel_rfl) (u251.idxb (by kernel_rfl) g249 h245) ?_
      refine s_ql (.agg #[.int .i64 ((gt Arcs_ i0).1), .int .i64 ((gt Arcs_ i0).2.1), .int .i64 ((gt Arcs_ i0).2.2)]) (x := aLoad Tryd.prog 51 (elp hd_Arcs_ 3 i0.toNat 0) H223) (by kernel_rfl) (u251.ld g249 h245 (by kernel_rfl)) ?_
      refine s_rwk e224.wf [.int .i64 0, .int .i64 0, .int .i64 0] (by kernel_rfl) fun b252 H253 e254 hb255 r256 => ?_
      obtain ⟨H258, q259, e260, r261⟩ := Row.store (P := Tryd.prog) (t := 51) (p := 0) e254.wf r256 (.agg #[.int .i64 ((gt Arcs_ i0).1), .int .i64 ((gt Arcs_ i0).2.1), .int .i64 ((gt Arcs_ i0).2.2)]) [.int .i64 ((gt Arcs_ i0).1), .int .i64 ((gt Arcs_ i0).2.1), .int .i64 ((gt Arcs_ i0).2.2)] (by kernel_rfl) (by kernel_rfl) (one_cons (rfl) (one_cons (rfl) (one_cons (rfl) (one_nil)))) (Nat.le_of_ble_eq_true (by kernel_rfl)) [.int .i64 ((gt Arcs_ i0).1), .int .i64 ((gt Arcs_ i0).2.1), .int .i64 ((gt Arcs_ i0).2.2)] (by kernel_rfl)
      refine s_ek (undef) (by kernel_rfl) (map_ok q259) ?_
      refine s_nil ?_
      refine k248 _ _ ?_
      refine w_reg (by kernel_rfl) ?_
      refine s_qk (.pointer (some ⟨b192, 1, none⟩)) (by kernel_rfl) ?_
      have u262 := ((m230.ext e254).frS e260 (hb255.djn (r196.ltF.le (ntr e200.next e224.next))))
      refine s_ql (.slice a240 n241 c242) (x := aLoad Tryd.prog 22 (.pointer (some ⟨b192, 1, none⟩)) H258) (by kernel_rfl) (u262.ld (by kernel_rfl)) ?_
      refine s_ql (.agg #[.int .i64 ((gt Arcs_ i0).1), .int .i64 ((gt Arcs_ i0).2.1), .int .i64 ((gt Arcs_ i0).2.2)]) (x := aLoad Tryd.prog 51 (.pointer (some ⟨b252, 0, none⟩)) H258) (by kernel_rfl) (r261.ld (by kernel_rfl)) ?_
      refine s_owk (enc := enc_i64_i64_i64) (sz := 3) e260.wf [((gt Arcs_ i0).1, (gt Arcs_ i0).2.1, (gt Arcs_ i0).2.2)] 1 (by decide) (fun _ _ => rfl) (fun _ _ => rfl) rfl (by kernel_rfl) fun s263 f264 H265 e266 hf267 hm268 => ?_
      obtain ⟨a269, n270, c271, rfl⟩ := hm268.form
      have u273 := (((m226.ext e254).fr e260 (hb255.djn m226.lt)).ext e266)
      obtain ⟨g274, r275⟩ := G_some r250
      obtain ⟨s276, H277, f278, q282, e279, hm280, hf281⟩ := Ow.append (P := Tryd.prog) 24 e266.wf u273 hm268.sq (fun _ _ => rfl) (at_ := #[22, 22]) rfl rfl (by kernel_rfl) (by kernel_rfl) (by decide) (by have := g274; first | omega | (simp only [List.length_cons, List.length_nil] at this ⊢; omega) | (simp at this ⊢; omega))
      obtain ⟨a283, n284, c285, rfl⟩ := hm280.form
      refine s_ek (.slice a283 n284 c285) (by kernel_rfl) (q282) ?_
      refine s_qk (.pointer (some ⟨b192, 1, none⟩)) (by kernel_rfl) ?_
      have u291 := ((u262.ext e266).frS e279 (i231.dj (Dj.symm (hb195.djn m186.lt)) (r196.ltF.le e200.next)))
      obtain ⟨H287, q288, e289, r290⟩ := Row.store (P := Tryd.prog) (t := 22) (p := 1) e279.wf u291 (.slice a283 n284 c285) [.slice a283 n284 c285] (by kernel_rfl) (by kernel_rfl) (one_cons (hm280.one1) (one_nil)) (Nat.le_of_ble_eq_true (by kernel_rfl)) [.int .i64 y179.1, .slice a283 n284 c285] (by kernel_rfl)
      refine s_ek (undef) (by kernel_rfl) (map_ok q288) ?_
      refine s_nil ?_
      refine k247 _ _ ?_
      refine w_reg (by kernel_rfl) ?_
      obtain ⟨g292, r293⟩ := G_some r275
      refine s_w ((i0 + 1)) (k := .i64) (x := (i0 + 1)) (by kernel_rfl) (wrap64 (by have := g292; omega)) ?_
      refine s_qk (.int .i64 (i0 + 1)) (by kernel_rfl) ?_
      refine s_nil ?_
      have u294 := (hm280.fr e289 (Dj.symm (hf281.dj (i231.dj (Dj.symm (hb195.djn m186.lt)) (r196.ltF.le e200.next)) (r196.ltF.le (ntr (ntr (ntr (ntr e200.next e224.next) e254.next) e260.next) e266.next)))))
      obtain rfl := Option.some.inj r293
      exact k239 n234 _ _ (Nat.lt_succ_self _) ⟨(i0 + 1), (c1 ++ [((gt Arcs_ i0).1, (gt Arcs_ i0).2.1, (gt Arcs_ i0).2.2)]), (.slice a283 n284 c285), f278, hn237, ⟨by kernel_rfl, by kernel_rfl, by kernel_rfl, by kernel_rfl, by kernel_rfl, by kernel_rfl, trivial⟩, (FrS.step e200.wf (FrS.step e200.wf ((FrS.step e200.wf ((FrS.step e200.wf (FrS.refl (W := ([b192] ++ f183)) e200.wf) e224 (Inn.app Inn.left (Inn.right Inn.refl'))).extR e254) e260 (hb255.fresh e224.next)).extR e266) e279 (Inn.trans (Inn.right Inn.refl') (Nat.le_refl _) i231)) e289 Inn.left), u294, r290, (Inn.trans (Inn.trans Inn.refl' (Nat.le_refl _) i231) (ntr (ntr (ntr e224.next e254.next) e260.next) e266.next) hf281)⟩
     ·have r295 := ite_f h245 hz236
      refine w_exit (th_exit (th_exit (bl_eq ?_)))
      obtain rfl := Option.some.inj r295
      obtain rfl := it_inr hn237
      exact k219 _ _ ⟨(.slice a240 n241 c242), f228, ⟨by kernel_rfl, by kernel_rfl, by kernel_rfl, trivial⟩, (FrS.step e200.wf (FrS.refl (W := ([b192] ++ f183)) e200.wf) e224 (Inn.app Inn.left (Inn.right Inn.refl'))), m226, m230, (Inn.trans Inn.refl' (Nat.le_refl _) i231)⟩
    ·obtain ⟨s214, f215, hh220, e211, m213, m217, i218⟩ := hM
     obtain ⟨β, rfl⟩ := has_ex hh220
     clear hh220
     obtain ⟨a296, n297, c298, rfl⟩ := m213.form
     refine k203 _ _ ?_
     refine w_seqk fun K299 k299 => ?_
     refine w_reg (by kernel_rfl) ?_
     refine s_ql (.agg #[.int .i64 y179.1, .slice a296 n297 c298]) (x := aLoad Tryd.prog 24 (.pointer (some ⟨b192, 0, none⟩)) H210) (by kernel_rfl) (m217.ld (by kernel_rfl)) ?_
     refine s_qk (.agg #[.int .i64 0, .slice none 0 0]) (by kernel_rfl) ?_
     have u304 := ((((((((((((r30.ext e34).ext e43).frS e54 Dj.nil_l).frS e69 Dj.nil_l).ext e78).frS e91 Dj.nil_l).frS e100 (hb44.djn (r30.ltF.le e34.next))).frS e110 Dj.nil_l).frS e185 Dj.nil_l).ext e194).frS e200 (hb195.djn (r30.ltF.le (ntr (ntr (ntr (ntr (ntr (ntr (ntr (ntr e34.next e43.next) e54.next) e69.next) e78.next) e91.next) e100.next) e110.next) e185.next)))).frS e211 (Dj.app (hb195.djn (r30.ltF.le (ntr (ntr (ntr (ntr (ntr (ntr (ntr (ntr e34.next e43.next) e54.next) e69.next) e78.next) e91.next) e100.next) e110.next) e185.next))) (i187.djn (r30.ltF.le (ntr (ntr (ntr (ntr (ntr (ntr (ntr e34.next e43.next) e54.next) e69.next) e78.next) e91.next) e100.next) e110.next)))))
     obtain ⟨H300, q301, e302, r303⟩ := Row.store (P := Tryd.prog) (t := 24) (p := 0) e211.wf u304 (.agg #[.int .i64 y179.1, .slice a296 n297 c298]) [.int .i64 y179.1, .slice a296 n297 c298] (by kernel_rfl) (by kernel_rfl) (one_cons (rfl) (one_cons (m213.one1) (one_nil))) (Nat.le_of_ble_eq_true (by kernel_rfl)) [.int .i64 y179.1, .slice a296 n297 c298] (by kernel_rfl)
     refine s_ek (undef) (by kernel_rfl) (map_ok q301) ?_
     have u309 := ((((((((((((r36.ext e43).frS e54 Dj.nil_l).frS e69 Dj.nil_l).ext e78).frS e91 Dj.nil_l).frS e100 (hb44.djn r36.ltF)).frS e110 Dj.nil_l).frS e185 Dj.nil_l).ext e194).frS e200 (hb195.djn (r36.ltF.le (ntr (ntr (ntr (ntr (ntr (ntr (ntr e43.next e54.next) e69.next) e78.next) e91.next) e100.next) e110.next) e185.next)))).frS e211 (Dj.app (hb195.djn (r36.ltF.le (ntr (ntr (ntr (ntr (ntr (ntr (ntr e43.next e54.next) e69.next) e78.next) e91.next) e100.next) e110.next) e185.next))) (i187.djn (r36.ltF.le (ntr (ntr (ntr (ntr (ntr (ntr e43.next e54.next) e69.next) e78.next) e91.next) e100.next) e110.next))))).frS e302 (Dj.symm (hb35.djn r30.ltF)))
     obtain ⟨H305, q306, e307, r308⟩ := Row.store (P := Tryd.prog) (t := 33) (p := 0) e302.wf u309 (.agg #[.int .i64 0, .slice none 0 0]) [.int .i64 0, .slice none 0 0] (by kernel_rfl) (by kernel_rfl) (one_cons (rfl) (one_cons (rfl) (one_nil))) (Nat.le_of_ble_eq_true (by kernel_rfl)) [.int .i64 0, .slice none 0 0] (by kernel_rfl)
     refine s_ek (undef) (by kernel_rfl) (map_ok q306) ?_
     refine s_nil ?_
     refine k299 _ _ ?_
     refine w_ret ?_
     have u310 := (r303.frS e307 (hb35.djn r30.ltF))
     refine b_ret (fn := Tryd.f25) (vs := [.agg #[.int .i64 y179.1, .slice a296 n297 c298], .agg #[.int .i64 0, .slice none 0 0]]) (aRes_cell (Eq.trans (b := aLoad Tryd.prog 24 (.pointer (some ⟨b26, 0, none⟩)) H305) (by kernel_rfl) (u310.ld (by kernel_rfl))) (aRes_cell (Eq.trans (b := aLoad Tryd.prog 33 (.pointer (some ⟨b32, 0, none⟩)) H305) (by kernel_rfl) (r308.ld (by kernel_rfl))) (rfl))) ?_
     have u311 := ((m213.fr e302 (Dj.symm (i218.dj (i187.djn (r30.ltF.le (ntr (ntr (ntr (ntr (ntr (ntr (ntr e34.next e43.next) e54.next) e69.next) e78.next) e91.next) e100.next) e110.next))) (r30.ltF.le (ntr (ntr (ntr (ntr (ntr (ntr (ntr (ntr (ntr (ntr e34.next e43.next) e54.next) e69.next) e78.next) e91.next) e100.next) e110.next) e185.next) e194.next) e200.next))))).fr e307 (Dj.symm (i218.dj (i187.djn (r36.ltF.le (ntr (ntr (ntr (ntr (ntr (ntr e43.next e54.next) e69.next) e78.next) e91.next) e100.next) e110.next))) (r36.ltF.le (ntr (ntr (ntr (ntr (ntr (ntr (ntr (ntr (ntr e43.next e54.next) e69.next) e78.next) e91.next) e100.next) e110.next) e185.next) e194.next) e200.next)))))
     obtain rfl := Option.some.inj r209
     exact ⟨(.slice a296 n297 c298), f215, (.slice none 0 0), [], rfl, (FrS.step wf (FrS.step wf (FrS.step wf (FrS.step wf ((FrS.step wf (FrS.step wf (FrS.step wf (FrS.step wf ((FrS.step wf (FrS.step wf ((((((FrS.refl (W := []) wf).extR e15).extR e21).extR e28).extR e34).extR e43) e54 Inn.nil) e69 Inn.nil).extR e78) e91 Inn.nil) e100 (hb44.fresh (ntr (ntr (ntr e15.next e21.next) e28.next) e34.next))) e110 Inn.nil) e185 Inn.nil).extR e194) e200 (hb195.fresh (ntr (ntr (ntr (ntr (ntr (ntr (ntr (ntr (ntr (ntr (ntr e15.next e21.next) e28.next) e34.next) e43.next) e54.next) e69.next) e78.next) e91.next) e100.next) e110.next) e185.next))) e211 (Inn.app (hb195.fresh (ntr (ntr (ntr (ntr (ntr (ntr (ntr (ntr (ntr (ntr (ntr e15.next e21.next) e28.next) e34.next) e43.next) e54.next) e69.next) e78.next) e91.next) e100.next) e110.next) e185.next)) (i187.fresh (ntr (ntr (ntr (ntr (ntr (ntr (ntr (ntr (ntr (ntr e15.next e21.next) e28.next) e34.next) e43.next) e54.next) e69.next) e78.next) e91.next) e100.next) e110.next)))) e302 (hb29.fresh (ntr e15.next e21.next))) e307 (hb35.fresh (ntr (ntr e15.next e21.next) e28.next))), u311, (Sq.nil (by decide)), (Inn.trans (i187.fresh (ntr (ntr (ntr (ntr (ntr (ntr (ntr (ntr (ntr (ntr e15.next e21.next) e28.next) e34.next) e43.next) e54.next) e69.next) e78.next) e91.next) e100.next) e110.next)) (ntr (ntr (ntr (ntr (ntr (ntr (ntr (ntr (ntr (ntr (ntr (ntr (ntr e15.next e21.next) e28.next) e34.next) e43.next) e54.next) e69.next) e78.next) e91.next) e100.next) e110.next) e185.next) e194.next) e200.next) i218), Inn.nil, Dj.nil_r⟩

theorem c_viaductref03_SameArcs {H : AH} {hd_a : Value} {fp_a : Fp} {hd_b : Value} {fp_b : Fp} {a : List (Int × Int × Int)} {b : List (Int × Int × Int)} {r : Bool}
  (wf : WF H) (h_a : Sq enc_i64_i64_i64 3 H hd_a a fp_a) (h_b : Sq enc_i64_i64_i64 3 H hd_b b fp_b) (hr : z_viaductref03_SameArcs a b = some r) :
  ACalls Tryd.prog 36 #[hd_a, hd_b] H fun v H' => v = .bool r ∧ H = H' := by
 refine acalls_of_body mixed Tryd.func36 rfl (Nat.le_of_ble_eq_true rfl) ?_
 unfold z_viaductref03_SameArcs at hr
 refine w_seqk fun K1 k1 => ?_
 refine w_reg (by kernel_rfl) ?_
 refine s_qk (.bool false) (by kernel_rfl) ?_
 refine s_nil ?_
 refine k1 _ _ ?_
 refine w_seqk fun K2 k2 => ?_
 refine w_seqk fun K3 k3 => ?_
 refine w_reg (by kernel_rfl) ?_
 refine s_qk (hd_a) (by kernel_rfl) ?_
 refine s_ql (.int .i64 (a.length : Int)) (x := aLen Tryd.prog 22 hd_a H) (by kernel_rfl) (h_a.lenb (by kernel_rfl)) ?_
 refine s_qk (hd_b) (by kernel_rfl) ?_
 refine s_ql (.int .i64 (b.length : Int)) (x := aLen Tryd.prog 22 hd_b H) (by kernel_rfl) (h_b.lenb (by kernel_rfl)) ?_
 refine s_qk (.bool (!decide ((a.length : Int) = (b.length : Int)))) (by kernel_rfl) ?_
 refine s_nil ?_
 refine k3 _ _ ?_
 refine w_condn ((a.length : Int) = (b.length : Int)) (by kernel_rfl) rfl (fun h4 => ?_) (fun h4 => ?_)
 ·have r5 := ite_f h4 hr
  refine w_seqk fun K6 k6 => ?_
  refine w_reg (by kernel_rfl) ?_
  refine s_qk (.bool false) (by kernel_rfl) ?_
  refine s_nil ?_
  refine k6 _ _ ?_
  refine w_ret (th_ret ?_)
  refine b_ret (fn := Tryd.f36) (vs := [.bool false]) (aRes_tmp (by kernel_rfl) (rfl)) ?_
  obtain rfl := Option.some.inj r5
  exact ⟨rfl, rfl⟩
 ·have r7 := ite_t h4 hr
  refine w_skip ?_
  refine k2 _ _ ?_
  refine w_seqk fun K8 k8 => ?_
  refine w_seqk fun K9 k9 => ?_
  refine w_reg (by kernel_rfl) ?_
  refine s_qk (hd_a) (by kernel_rfl) ?_
  refine s_ql (.int .i64 (a.length : Int)) (x := aLen Tryd.prog 22 hd_a H) (by kernel_rfl) (h_a.lenb (by kernel_rfl)) ?_
  refine s_qk (.int .i64 0) (by kernel_rfl) ?_
  refine s_nil ?_
  refine k9 _ _ ?_
  obtain ⟨z13, hx11, r12⟩ := bind_some r7
  refine w_mid (fun α H14 => ∃ o10, z13 = Sum.inr o10 ∧ Has α [] ∧ H = H14) (fun K16 k16 => ?_) (fun α H14 hM => ?_)
  ·refine w_block ?_
   obtain ⟨n18, hn19⟩ := loopO_iff.1 hx11
   refine w_loopn (fun n α H20 => ∃ (i0 : Int), iterO (fun zz_ => z_viaductref03_SameArcs_l0 a b zz_) n i0 = some z13 ∧ Has α [(0, hd_a), (1, hd_b), (12, .int .i64 (a.length : Int)), (13, .int .i64 i0)] ∧ H = H20) n18 ⟨0, hn19, ⟨by kernel_rfl, by kernel_rfl, by kernel_rfl, by kernel_rfl, trivial⟩, rfl⟩ ?_
   rintro n18 α H20 ⟨i0, hi23, hh22, rfl⟩ K28 k28
   obtain ⟨n24, z25, rfl, hz26, hn27⟩ := iter_succ hi23
   obtain ⟨β, rfl⟩ := has_ex hh22
   clear hh22
   replace hz26 : z_viaductref03_SameArcs_l0 a b i0 = some z25 := hz26
   unfold z_viaductref03_SameArcs_l0 at hz26
   refine w_seqk fun K29 k29 => ?_
   refine w_reg (by kernel_rfl) ?_
   refine s_qk (.bool (decide (i0 < (a.length : Int)))) (by kernel_rfl) ?_
   refine s_nil ?_
   refine k29 _ _ ?_
   refine w_seqk fun K30 k30 => ?_
   refine w_condp (i0 < (a.length : Int)) (by kernel_rfl) rfl (fun h31 => ?_) (fun h31 => ?_)
   ·have r32 := ite_t h31 hz26
    refine w_skip ?_
    refine k30 _ _ ?_
    refine w_seqk fun K33 k33 => ?_
    refine w_block ?_
    refine w_seqk fun K34 k34 => ?_
    refine w_reg (by kernel_rfl) ?_
    refine s_qk (.int .i64 i0) (by kernel_rfl) ?_
    refine s_qk (.int .i64 i0) (by kernel_rfl) ?_
    refine s_nil ?_
    refine k34 _ _ ?_
    refine w_seqk fun K35 k35 => ?_
    refine w_draw [0, 1, 2, 3, 4, 5, 6, 7, 8] (by kernel_rfl) ?_
    refine d_qk (hd_a) (by kernel_rfl) ?_
    refine d_qk (.int .i64 i0) (by kernel_rfl) ?_
    obtain ⟨g36, r37⟩ := G_some r32
    refine d_ql (elp hd_a 3 i0.toNat 0) (x := aIndexAddr Tryd.prog 22 hd_a (.int .i64 i0)) (by kernel_rfl) (h_a.idxb (by kernel_rfl) g36 h31) ?_
    refine d_ql (.agg #[.int .i64 ((gt a i0).1), .int .i64 ((gt a i0).2.1), .int .i64 ((gt a i0).2.2)]) (x := aLoad Tryd.prog 51 (elp hd_a 3 i0.toNat 0) H) (by kernel_rfl) (h_a.ld g36 h31 (by kernel_rfl)) ?_
    refine d_qk (hd_b) (by kernel_rfl) ?_
    refine d_qk (.int .i64 i0) (by kernel_rfl) ?_
    obtain ⟨g38, r39⟩ := G_some r37
    refine d_ql (elp hd_b 3 i0.toNat 0) (x := aIndexAddr Tryd.prog 22 hd_b (.int .i64 i0)) (by kernel_rfl) (h_b.idxb (by kernel_rfl) g36 g38) ?_
    refine d_ql (.agg #[.int .i64 ((gt b i0).1), .int .i64 ((gt b i0).2.1), .int .i64 ((gt b i0).2.2)]) (x := aLoad Tryd.prog 51 (elp hd_b 3 i0.toNat 0) H) (by kernel_rfl) (h_b.ld g36 g38 (by kernel_rfl)) ?_
    refine d_ql (.bool (!decide (((gt a i0).1) = ((gt b i0).1) ∧ ((gt a i0).2.1) = ((gt b i0).2.1) ∧ ((gt a i0).2.2) = ((gt b i0).2.2)))) (x := aBin Tryd.prog .neq 51 (.tmp 19) (.tmp 23) (.agg #[.int .i64 ((gt a i0).1), .int .i64 ((gt a i0).2.1), .int .i64 ((gt a i0).2.2)]) (.agg #[.int .i64 ((gt b i0).1), .int .i64 ((gt b i0).2.1), .int .i64 ((gt b i0).2.2)])) (by kernel_rfl) (aBin_neq51 _ _ ((gt a i0).1) ((gt a i0).2.1) ((gt a i0).2.2) ((gt b i0).1) ((gt b i0).2.1) ((gt b i0).2.2)) ?_
    refine d_nil ?_
    refine k35 _ _ ?_
    refine w_condn (((gt a i0).1) = ((gt b i0).1) ∧ ((gt a i0).2.1) = ((gt b i0).2.1) ∧ ((gt a i0).2.2) = ((gt b i0).2.2)) (by kernel_rfl) rfl (fun h40 => ?_) (fun h40 => ?_)
    ·have r41 := ite_f h40 r39
     refine w_seqk fun K42 k42 => ?_
     refine w_reg (by kernel_rfl) ?_
     refine s_qk (.bool false) (by kernel_rfl) ?_
     refine s_nil ?_
     refine k42 _ _ ?_
     refine w_ret (bl_ret (th_ret (th_ret (bl_ret (th_ret (th_ret ?_))))))
     obtain ⟨v43, hv44, hz45⟩ := map_some r41
     subst hz45
     obtain rfl := it_inr hn27
     have hq46 := elim_inl r12
     rw [hq46] at hv44
     refine b_ret (fn := Tryd.f36) (vs := [.bool false]) (aRes_tmp (by kernel_rfl) (rfl)) ?_
     obtain rfl := Option.some.inj hv44
     exact ⟨rfl, rfl⟩
    ·have r47 := ite_t h40 r39
     refine w_skip ?_
     refine k33 _ _ ?_
     refine w_reg (by kernel_rfl) ?_
     obtain ⟨g48, r49⟩ := G_some r47
     refine s_w ((i0 + 1)) (k := .i64) (x := (i0 + 1)) (by kernel_rfl) (wrap64 (by have := g48; omega)) ?_
     refine s_qk (.int .i64 (i0 + 1)) (by kernel_rfl) ?_
     refine s_nil ?_
     obtain rfl := Option.some.inj r49
     exact k28 n24 _ _ (Nat.lt_succ_self _) ⟨(i0 + 1), hn27, ⟨by kernel_rfl, by kernel_rfl, by kernel_rfl, by kernel_rfl, trivial⟩, rfl⟩
   ·have r50 := ite_f h31 hz26
    refine w_exit (th_exit (th_exit (bl_eq ?_)))
    obtain rfl := Option.some.inj r50
    obtain rfl := it_inr hn27
    exact k16 _ _ ⟨_, rfl, trivial, rfl⟩
  ·obtain ⟨o10, rfl, hh17, rfl⟩ := hM
   have r51 := elim_inr r12
   obtain ⟨β, rfl⟩ := has_ex hh17
   clear hh17
   refine k8 _ _ ?_
   refine w_seqk fun K52 k52 => ?_
   refine w_reg (by kernel_rfl) ?_
   refine s_qk (.bool true) (by kernel_rfl) ?_
   refine s_nil ?_
   refine k52 _ _ ?_
   refine w_ret ?_
   refine b_ret (fn := Tryd.f36) (vs := [.bool true]) (aRes_tmp (by kernel_rfl) (rfl)) ?_
   obtain rfl := Option.some.inj r51
   exact ⟨rfl, rfl⟩

theorem c_viaductref03_Same {H : AH} {hd_Arcs : Value} {fp_Arcs : Fp} {hd_Arcs_ : Value} {fp_Arcs_ : Fp} {N_ : Int} {Arcs : List (Int × Int × Int)} {N_2 : Int} {Arcs_ : List (Int × Int × Int)} {r : Bool}
  (wf : WF H) (h_Arcs : Sq enc_i64_i64_i64 3 H hd_Arcs Arcs fp_Arcs) (h_Arcs_ : Sq enc_i64_i64_i64 3 H hd_Arcs_ Arcs_ fp_Arcs_) (hr : z_viaductref03_Same N_ Arcs N_2 Arcs_ = some r) :
  ACalls Tryd.prog 15 #[.agg #[.int .i64 N_, hd_Arcs], .agg #[.int .i64 N_2, hd_Arcs_]] H fun v H' => v = .bool r ∧ FrS [] H H' := by
 refine acalls_of_body mixed Tryd.func15 rfl (Nat.le_of_ble_eq_true rfl) ?_
 unfold z_viaductref03_Same at hr
 refine w_seqk fun K1 k1 => ?_
 refine w_reg (by kernel_rfl) ?_
 refine s_rwl wf [.int .i64 N_, hd_Arcs] (one_cons (rfl) (one_cons (h_Arcs.one1) (one_nil))) (by kernel_rfl) fun b2 H3 e4 hb5 r6 => ?_
 have u13 := (h_Arcs_.ext e4)
 refine s_rwl e4.wf [.int .i64 N_2, hd_Arcs_] (one_cons (rfl) (one_cons (u13.one1) (one_nil))) (by kernel_rfl) fun b8 H9 e10 hb11 r12 => ?_
 refine s_qk (.bool false) (by kernel_rfl) ?_
 refine s_nil ?_
 refine k1 _ _ ?_
 refine w_seqk fun K15 k15 => ?_
 refine w_reg (by kernel_rfl) ?_
 refine s_qk (.pointer (some ⟨b2, 0, none⟩)) (by kernel_rfl) ?_
 have u16 := (r6.ext e10)
 refine s_ql (.int .i64 N_) (x := aLoad Tryd.prog 3 (.pointer (some ⟨b2, 0, none⟩)) H9) (by kernel_rfl) (u16.ld (by kernel_rfl)) ?_
 refine s_qk (.pointer (some ⟨b8, 0, none⟩)) (by kernel_rfl) ?_
 refine s_ql (.int .i64 N_2) (x := aLoad Tryd.prog 3 (.pointer (some ⟨b8, 0, none⟩)) H9) (by kernel_rfl) (r12.ld (by kernel_rfl)) ?_
 refine s_b (N_ = N_2) (by kernel_rfl) (fun h17 => ?_) (fun h17 => ?_)
 ·have r18 := ite_t h17 hr
  refine s_qk (.bool true) (by kernel_rfl) ?_
  refine s_qk (.pointer (some ⟨b2, 1, none⟩)) (by kernel_rfl) ?_
  refine s_ql (hd_Arcs) (x := aLoad Tryd.prog 22 (.pointer (some ⟨b2, 1, none⟩)) H9) (by kernel_rfl) (u16.ld (by kernel_rfl)) ?_
  refine s_qk (.pointer (some ⟨b8, 1, none⟩)) (by kernel_rfl) ?_
  refine s_ql (hd_Arcs_) (x := aLoad Tryd.prog 22 (.pointer (some ⟨b8, 1, none⟩)) H9) (by kernel_rfl) (r12.ld (by kernel_rfl)) ?_
  have u19 := ((h_Arcs.ext e4).ext e10)
  have u20 := (u13.ext e10)
  obtain ⟨y21, hy22, r23⟩ := bind_some r18
  refine s_ck 36 #[hd_Arcs, hd_Arcs_] (by kernel_rfl) (c_viaductref03_SameArcs e10.wf u19 u20 hy22) ?_
  rintro _ _ ⟨rfl, rfl⟩
  refine s_qk (.bool y21) (by kernel_rfl) ?_
  refine s_qk (.bool y21) (by kernel_rfl) ?_
  refine s_nil ?_
  refine k15 _ _ ?_
  refine w_ret ?_
  refine b_ret (fn := Tryd.f15) (vs := [.bool y21]) (aRes_tmp (by kernel_rfl) (rfl)) ?_
  obtain rfl := Option.some.inj r23
  exact ⟨rfl, (((FrS.refl (W := []) wf).extR e4).extR e10)⟩
 ·have r26 := ite_f h17 hr
  refine s_qk (.bool false) (by kernel_rfl) ?_
  refine s_no (by kernel_rfl) ?_
  refine s_no (by kernel_rfl) ?_
  refine s_no (by kernel_rfl) ?_
  refine s_no (by kernel_rfl) ?_
  refine s_no (by kernel_rfl) ?_
  refine s_qk (.bool false) (by kernel_rfl) ?_
  refine s_qk (.bool false) (by kernel_rfl) ?_
  refine s_nil ?_
  refine k15 _ _ ?_
  refine w_ret ?_
  refine b_ret (fn := Tryd.f15) (vs := [.bool false]) (aRes_tmp (by kernel_rfl) (rfl)) ?_
  obtain rfl := Option.some.inj r26
  exact ⟨rfl, (((FrS.refl (W := []) wf).extR e4).extR e10)⟩


end Go.Vd

/-! (KNm2) -/

set_option maxRecDepth 100000
set_option maxHeartbeats 4000000
set_option linter.unusedVariables false
namespace Go.Vd
open Go.Proofs
attribute [local irreducible] wpSeq wpOrd aWp
theorem c_viaductseen_Same {H : AH} {ev_err : Value} {fp_err : Fp} {hd_Places : Value} {fp_Places : Fp} {err : Er} {Code : Int} {Places : List (Int × Int)} {r : Bool}
  (wf : WF H) (h_err : Ev 53 90 H ev_err err fp_err) (h_Places : Sq enc_i64_i64 2 H hd_Places Places fp_Places) (hr : z_viaductseen_Same err Code Places = some r) :
  ACalls Tryd.prog 16 #[ev_err, .agg #[.int .i64 Code, hd_Places]] H fun v H' => v = .bool r ∧ FrS [] H H' := by
 refine acalls_of_body mixed Tryd.func16 rfl (Nat.le_of_ble_eq_true rfl) ?_
 unfold z_viaductseen_Same at hr
 refine w_seqk fun K1 k1 => ?_
 refine w_reg (by kernel_rfl) ?_
 refine s_rwl wf [.int .i64 Code, hd_Places] (one_cons (rfl) (one_cons (h_Places.one1) (one_nil))) (by kernel_rfl) fun b2 H3 e4 hb5 r6 => ?_
 refine s_qk (.bool false) (by kernel_rfl) ?_
 refine s_nil ?_
 refine k1 _ _ ?_
 refine w_seqk fun K8 k8 => ?_
 refine w_seqk fun K9 k9 => ?_
 refine w_reg (by kernel_rfl) ?_
 refine s_ql (.agg #[.int .i64 Code, hd_Places]) (x := aLoad Tryd.prog 33 (.pointer (some ⟨b2, 0, none⟩)) H3) (by kernel_rfl) (r6.ld (by kernel_rfl)) ?_
 have u10 := (h_Places.ext e4)
 obtain ⟨y11, hy12, r13⟩ := bind_some hr
 refine s_ck 53 #[.agg #[.int .i64 Code, hd_Places]] (by kernel_rfl) (c_viaductref01_Err_Bad e4.wf u10 hy12) ?_
 rintro _ H14 ⟨rfl, e15⟩
 refine s_qk (.bool (!y11)) (by kernel_rfl) ?_
 refine s_nil ?_
 refine k9 _ _ ?_
 refine w_cond ((!y11)) (by kernel_rfl) rfl (fun h16 => ?_) (fun h16 => ?_)
 ·have r17 := ite_t h16 r13
  refine w_seqk fun K18 k18 => ?_
  refine w_reg (by kernel_rfl) ?_
  refine s_qk (ev_err) (by kernel_rfl) ?_
  have u22 := ((h_err.ext e4).fr e15 Dj.nil_l)
  rcases (u22).cases with ⟨h19, rfl⟩ | ⟨h19, t20, x21, rfl⟩
  ·have r23 := ite_t h19 r17
   refine s_qk (.bool true) (by kernel_rfl) ?_
   refine s_qk (.bool true) (by kernel_rfl) ?_
   refine s_nil ?_
   refine k18 _ _ ?_
   refine w_ret (th_ret ?_)
   refine b_ret (fn := Tryd.f16) (vs := [.bool true]) (aRes_tmp (by kernel_rfl) (rfl)) ?_
   obtain rfl := Option.some.inj r23
   exact ⟨rfl, (FrS.step wf ((FrS.refl (W := []) wf).extR e4) e15 Inn.nil)⟩
  ·have r24 := ite_f h19 r17
   refine s_ql (.bool false) (x := aBin Tryd.prog .eql 28 (.tmp 15) (.const .nilIface) (.iface t20 x21) .nilIface) (by kernel_rfl) (aBin_nil (by kernel_rfl)) ?_
   refine s_qk (.bool false) (by kernel_rfl) ?_
   refine s_nil ?_
   refine k18 _ _ ?_
   refine w_ret (th_ret ?_)
   refine b_ret (fn := Tryd.f16) (vs := [.bool false]) (aRes_tmp (by kernel_rfl) (rfl)) ?_
   obtain rfl := Option.some.inj r24
   exact ⟨rfl, (FrS.step wf ((FrS.refl (W := []) wf).extR e4) e15 Inn.nil)⟩
 ·have r25 := ite_bf h16 r13
  refine w_skip ?_
  refine k8 _ _ ?_
  refine w_seqk fun K26 k26 => ?_
  refine w_seqk fun K27 k27 => ?_
  refine w_reg (by kernel_rfl) ?_
  refine s_qk (ev_err) (by kernel_rfl) ?_
  have u31 := ((h_err.ext e4).fr e15 Dj.nil_l)
  rcases (u31).cases with ⟨h28, rfl⟩ | ⟨h28, t29, x30, rfl⟩
  ·have r32 := ite_t h28 r25
   refine s_qk (.bool true) (by kernel_rfl) ?_
   refine s_nil ?_
   refine k27 _ _ ?_
   refine w_cond true (by kernel_rfl) rfl (fun _ => ?_) (fun h => by cases h)
   refine w_seqk fun K33 k33 => ?_
   refine w_reg (by kernel_rfl) ?_
   refine s_qk (.bool false) (by kernel_rfl) ?_
   refine s_nil ?_
   refine k33 _ _ ?_
   refine w_ret (th_ret ?_)
   refine b_ret (fn := Tryd.f16) (vs := [.bool false]) (aRes_tmp (by kernel_rfl) (rfl)) ?_
   obtain rfl := Option.some.inj r32
   exact ⟨rfl, (FrS.step wf ((FrS.refl (W := []) wf).extR e4) e15 Inn.nil)⟩
  ·have r34 := ite_f h28 r25
   refine s_ql (.bool false) (x := aBin Tryd.prog .eql 28 (.tmp 17) (.const .nilIface) (.iface t29 x30) .nilIface) (by kernel_rfl) (aBin_nil (by kernel_rfl)) ?_
   refine s_nil ?_
   refine k27 _ _ ?_
   refine w_cond false (by kernel_rfl) rfl (fun h => by cases h) (fun _ => ?_)
   refine w_skip ?_
   refine k26 _ _ ?_
   refine w_seqk fun K35 k35 => ?_
   refine w_reg (by kernel_rfl) ?_
   refine s_qk (.iface t29 x30) (by kernel_rfl) ?_
   refine s_qk (.iface t29 x30) (by kernel_rfl) ?_
   refine s_nil ?_
   refine k35 _ _ ?_
   refine w_seqk fun K36 k36 => ?_
   refine w_seqk fun K37 k37 => ?_
   refine w_reg (by kernel_rfl) ?_
   refine s_qk (.pointer (some ⟨b2, 1, none⟩)) (by kernel_rfl) ?_
   have u38 := (r6.frS e15 Dj.nil_l)
   refine s_ql (hd_Places) (x := aLoad Tryd.prog 31 (.pointer (some ⟨b2, 1, none⟩)) H14) (by kernel_rfl) (u38.ld (by kernel_rfl)) ?_
   have u39 := (u10.fr e15 Dj.nil_l)
   refine s_ql (.int .i64 (Places.length : Int)) (x := aLen Tryd.prog 31 hd_Places H14) (by kernel_rfl) (u39.lenb (by kernel_rfl)) ?_
   refine s_qk (.int .i64 0) (by kernel_rfl) ?_
   refine s_nil ?_
   refine k37 _ _ ?_
   obtain ⟨z43, hx41, r42⟩ := bind_some r34
   refine w_mid (fun α H44 => ∃ o40, z43 = Sum.inr o40 ∧ ∃ (v48 : Value), Has α [(0, .iface t29 x30), (3, .pointer (some ⟨b2, 0, none⟩)), (5, v48)] ∧ FrS [] H14 H44 ∧ Ev 53 90 H44 v48 o40 fp_err) (fun K49 k49 => ?_) (fun α H44 hM => ?_)
   ·refine w_block ?_
    obtain ⟨n51, hn52⟩ := loopO_iff.1 hx41
    refine w_loopn (fun n α H53 => ∃ (i0 : Int), ∃ (e1 : Er), ∃ (v57 : Value), iterO (fun zz_ => z_viaductseen_Same_l0 Places zz_.1 zz_.2) n (i0, e1) = some z43 ∧ Has α [(0, .iface t29 x30), (3, .pointer (some ⟨b2, 0, none⟩)), (5, v57), (21, hd_Places), (22, .int .i64 (Places.length : Int)), (23, .int .i64 i0)] ∧ FrS [] H14 H53 ∧ Ev 53 90 H53 v57 e1 fp_err) n51 ⟨0, err, (.iface t29 x30), hn52, ⟨by kernel_rfl, by kernel_rfl, by kernel_rfl, by kernel_rfl, by kernel_rfl, by kernel_rfl, trivial⟩, (FrS.refl (W := []) e15.wf), u31⟩ ?_
    rintro n51 α H53 ⟨i0, e1, v57, hi59, hh58, e54, m56⟩ K64 k64
    obtain ⟨n60, z61, rfl, hz62, hn63⟩ := iter_succ hi59
    obtain ⟨β, rfl⟩ := has_ex hh58
    clear hh58
    replace hz62 : z_viaductseen_Same_l0 Places i0 e1 = some z61 := hz62
    unfold z_viaductseen_Same_l0 at hz62
    refine w_seqk fun K65 k65 => ?_
    refine w_reg (by kernel_rfl) ?_
    refine s_qk (.bool (decide (i0 < (Places.length : Int)))) (by kernel_rfl) ?_
    refine s_nil ?_
    refine k65 _ _ ?_
    refine w_seqk fun K66 k66 => ?_
    refine w_condp (i0 < (Places.length : Int)) (by kernel_rfl) rfl (fun h67 => ?_) (fun h67 => ?_)
    ·have r68 := ite_t h67 hz62
     refine w_skip ?_
     refine k66 _ _ ?_
     refine w_seqk fun K69 k69 => ?_
     refine w_block ?_
     refine w_seqk fun K70 k70 => ?_
     refine w_reg (by kernel_rfl) ?_
     obtain ⟨g71, r72⟩ := G_some r68
     have u73 := (u39.fr e54 Dj.nil_l)
     refine s_ql (elp hd_Places 2 i0.toNat 0) (x := aIndexAddr Tryd.prog 31 hd_Places (.int .i64 i0)) (by kernel_rfl) (u73.idxb (by kernel_rfl) g71 h67) ?_
     refine s_ql (.agg #[.int .i64 ((gt Places i0).1), .int .i64 ((gt Places i0).2)]) (x := aLoad Tryd.prog 89 (elp hd_Places 2 i0.toNat 0) H53) (by kernel_rfl) (u73.ld g71 h67 (by kernel_rfl)) ?_
     refine s_rwk e54.wf [.int .i64 0, .int .i64 0] (by kernel_rfl) fun b74 H75 e76 hb77 r78 => ?_
     obtain ⟨H80, q81, e82, r83⟩ := Row.store (P := Tryd.prog) (t := 89) (p := 0) e76.wf r78 (.agg #[.int .i64 ((gt Places i0).1), .int .i64 ((gt Places i0).2)]) [.int .i64 ((gt Places i0).1), .int .i64 ((gt Places i0).2)] (by kernel_rfl) (by kernel_rfl) (one_cons (rfl) (one_cons (rfl) (one_nil))) (Nat.le_of_ble_eq_true (by kernel_rfl)) [.int .i64 ((gt Places i0).1), .int .i64 ((gt Places i0).2)] (by kernel_rfl)
     refine s_ek (undef) (by kernel_rfl) (map_ok q81) ?_
     refine s_nil ?_
     refine k70 _ _ ?_
     refine w_seqk fun K84 k84 => ?_
     refine w_reg (by kernel_rfl) ?_
     refine s_rwk e82.wf [.pointer none] (by kernel_rfl) fun b85 H86 e87 hb88 r89 => ?_
     refine s_nil ?_
     refine k84 _ _ ?_
     refine w_seqk fun K91 k91 => ?_
     refine w_seqk fun K92 k92 => ?_
     refine w_draw [0, 1, 2, 3, 4, 5, 6, 7, 8, 9, 10, 11, 12, 13, 14, 15] (by kernel_rfl) ?_
     refine d_qk (v57) (by kernel_rfl) ?_
     refine d_qk (.iface 92 (.pointer (some ⟨b85, 0, none⟩))) (by kernel_rfl) ?_
     by_cases h93 : Er.isAt e1 = true
     ·have r94 := ite_t h93 r72
      have u103 := (((m56.ext e76).fr e82 (hb77.djn (h_err.lt.le (ntr (ntr e4.next e15.next) e54.next)))).ext e87)
      refine d_ck 55 #[v57, .iface 92 (.pointer (some ⟨b85, 0, none⟩))] (by kernel_rfl) (a_asF_at e87.wf r89 (hb88.djn (h_err.lt.le (ntr (ntr (ntr (ntr e4.next e15.next) e54.next) e76.next) e82.next))) u103 h93) ?_
      rintro _ H95 ⟨rfl, e96, b98, u99, -, i100, r97, r101, v102⟩
      refine ⟨st_nil, ?_⟩
      refine d_qk (.bool false) (by kernel_rfl) ?_
      refine d_qk (.bool false) (by kernel_rfl) ?_
      refine d_ql (.pointer (some ⟨b98, 0, none⟩)) (x := aLoad Tryd.prog 90 (.pointer (some ⟨b85, 0, none⟩)) H95) (by kernel_rfl) (r97.ld (by kernel_rfl)) ?_
      refine d_qk (.bool false) (by kernel_rfl) ?_
      refine d_qk (.bool false) (by kernel_rfl) ?_
      refine d_qk (.bool false) (by kernel_rfl) ?_
      refine d_ql (.pointer (some ⟨b98, 0, none⟩)) (x := aLoad Tryd.prog 90 (.pointer (some ⟨b85, 0, none⟩)) H95) (by kernel_rfl) (r97.ld (by kernel_rfl)) ?_
      refine d_qk (.pointer (some ⟨b98, 0, none⟩)) (by kernel_rfl) ?_
      refine d_qk (.pointer (some ⟨b98, 0, none⟩)) (by kernel_rfl) ?_
      refine d_ql (.agg #[.int .i64 (Er.fk e1), .int .i64 (Er.fi e1)]) (x := aLoad Tryd.prog 89 (.pointer (some ⟨b98, 0, none⟩)) H95) (by kernel_rfl) (r101.ld (by kernel_rfl)) ?_
      have u106 := ((r83.ext e87).frS e96 (hb88.djn (r78.ltF.le e82.next)))
      refine d_ql (.agg #[.int .i64 ((gt Places i0).1), .int .i64 ((gt Places i0).2)]) (x := aLoad Tryd.prog 89 (.pointer (some ⟨b74, 0, none⟩)) H95) (by kernel_rfl) (u106.ld (by kernel_rfl)) ?_
      refine d_ql (.bool (!decide ((Er.fk e1) = ((gt Places i0).1) ∧ (Er.fi e1) = ((gt Places i0).2)))) (x := aBin Tryd.prog .neq 89 (.tmp 39) (.tmp 40) (.agg #[.int .i64 (Er.fk e1), .int .i64 (Er.fi e1)]) (.agg #[.int .i64 ((gt Places i0).1), .int .i64 ((gt Places i0).2)])) (by kernel_rfl) (aBin_neq89 _ _ (Er.fk e1) (Er.fi e1) ((gt Places i0).1) ((gt Places i0).2)) ?_
      refine d_qk (.bool (!decide ((Er.fk e1) = ((gt Places i0).1) ∧ (Er.fi e1) = ((gt Places i0).2)))) (by kernel_rfl) ?_
      refine d_nil ?_
      refine k92 _ _ ?_
      refine w_condn ((Er.fk e1) = ((gt Places i0).1) ∧ (Er.fi e1) = ((gt Places i0).2)) (by kernel_rfl) rfl (fun h107 => ?_) (fun h107 => ?_)
      ·have r108 := ite_f h107 r94
       refine w_seqk fun K109 k109 => ?_
       refine w_reg (by kernel_rfl) ?_
       refine s_qk (.bool false) (by kernel_rfl) ?_
       refine s_nil ?_
       refine k109 _ _ ?_
       refine w_ret (th_ret (bl_ret (th_ret (th_ret (bl_ret (th_ret (th_ret ?_)))))))
       obtain ⟨v110, hv111, hz112⟩ := map_some r108
       subst hz112
       obtain rfl := it_inr hn63
       have hq113 := elim_inl r42
       rw [hq113] at hv111
       refine b_ret (fn := Tryd.f16) (vs := [.bool false]) (aRes_tmp (by kernel_rfl) (rfl)) ?_
       obtain rfl := Option.some.inj hv111
       exact ⟨rfl, (FrS.step wf ((FrS.step wf ((FrS.step wf (FrS.step wf ((FrS.refl (W := []) wf).extR e4) e15 Inn.nil) e54 Inn.nil).extR e76) e82 (hb77.fresh (ntr (ntr e4.next e15.next) e54.next))).extR e87) e96 (hb88.fresh (ntr (ntr (ntr (ntr e4.next e15.next) e54.next) e76.next) e82.next)))⟩
      ·have r114 := ite_t h107 r94
       refine w_skip ?_
       refine k91 _ _ ?_
       refine w_reg (by kernel_rfl) ?_
       refine s_ql (.pointer (some ⟨b98, 0, none⟩)) (x := aLoad Tryd.prog 90 (.pointer (some ⟨b85, 0, none⟩)) H95) (by kernel_rfl) (r97.ld (by kernel_rfl)) ?_
       refine s_qk (.pointer (some ⟨b98, 0, none⟩)) (by kernel_rfl) ?_
       refine s_qk (.pointer (some ⟨b98, 2, none⟩)) (by kernel_rfl) ?_
       refine s_ql (u99) (x := aLoad Tryd.prog 28 (.pointer (some ⟨b98, 2, none⟩)) H95) (by kernel_rfl) (r101.ld (by kernel_rfl)) ?_
       refine s_qk (u99) (by kernel_rfl) ?_
       refine s_nil ?_
       refine k69 _ _ ?_
       refine w_reg (by kernel_rfl) ?_
       obtain ⟨g115, r116⟩ := G_some r114
       refine s_w ((i0 + 1)) (k := .i64) (x := (i0 + 1)) (by kernel_rfl) (wrap64 (by have := g115; omega)) ?_
       refine s_qk (.int .i64 (i0 + 1)) (by kernel_rfl) ?_
       refine s_nil ?_
       obtain rfl := Option.some.inj r116
       exact k64 n60 _ _ (Nat.lt_succ_self _) ⟨(i0 + 1), (Er.fe e1), (u99), hn63, ⟨by kernel_rfl, by kernel_rfl, by kernel_rfl, by kernel_rfl, by kernel_rfl, by kernel_rfl, trivial⟩, (FrS.step e15.wf ((FrS.step e15.wf ((FrS.step e15.wf (FrS.refl (W := []) e15.wf) e54 Inn.nil).extR e76) e82 (hb77.fresh e54.next)).extR e87) e96 (hb88.fresh (ntr (ntr e54.next e76.next) e82.next))), v102⟩
     ·have r117 := ite_f h93 r72
      have u118 := (((m56.ext e76).fr e82 (hb77.djn (h_err.lt.le (ntr (ntr e4.next e15.next) e54.next)))).ext e87)
      refine d_ck 55 #[v57, .iface 92 (.pointer (some ⟨b85, 0, none⟩))] (by kernel_rfl) (a_asF_no r89 u118 h93) ?_
      rintro _ _ ⟨rfl, rfl⟩
      refine ⟨st_nil, ?_⟩
      refine d_qk (.bool true) (by kernel_rfl) ?_
      refine d_qk (.bool true) (by kernel_rfl) ?_
      refine d_idle (by kernel_rfl) ?_
      refine d_idle (by kernel_rfl) ?_
      refine d_qk (.bool true) (by kernel_rfl) ?_
      refine d_qk (.bool true) (by kernel_rfl) ?_
      refine d_idle (by kernel_rfl) ?_
      refine d_idle (by kernel_rfl) ?_
      refine d_idle (by kernel_rfl) ?_
      refine d_idle (by kernel_rfl) ?_
      refine d_idle (by kernel_rfl) ?_
      refine d_idle (by kernel_rfl) ?_
      refine d_qk (.bool true) (by kernel_rfl) ?_
      refine d_nil ?_
      refine k92 _ _ ?_
      refine w_cond true (by kernel_rfl) rfl (fun _ => ?_) (fun h => by cases h)
      refine w_seqk fun K119 k119 => ?_
      refine w_reg (by kernel_rfl) ?_
      refine s_qk (.bool false) (by kernel_rfl) ?_
      refine s_nil ?_
      refine k119 _ _ ?_
      refine w_ret (th_ret (bl_ret (th_ret (th_ret (bl_ret (th_ret (th_ret ?_)))))))
      obtain ⟨v120, hv121, hz122⟩ := map_some r117
      subst hz122
      obtain rfl := it_inr hn63
      have hq123 := elim_inl r42
      rw [hq123] at hv121
      refine b_ret (fn := Tryd.f16) (vs := [.bool false]) (aRes_tmp (by kernel_rfl) (rfl)) ?_
      obtain rfl := Option.some.inj hv121
      exact ⟨rfl, ((FrS.step wf ((FrS.step wf (FrS.step wf ((FrS.refl (W := []) wf).extR e4) e15 Inn.nil) e54 Inn.nil).extR e76) e82 (hb77.fresh (ntr (ntr e4.next e15.next) e54.next))).extR e87)⟩
    ·have r124 := ite_f h67 hz62
     refine w_exit (th_exit (th_exit (bl_eq ?_)))
     obtain rfl := Option.some.inj r124
     obtain rfl := it_inr hn63
     exact k49 _ _ ⟨_, rfl, (v57), ⟨by kernel_rfl, by kernel_rfl, by kernel_rfl, trivial⟩, (FrS.step e15.wf (FrS.refl (W := []) e15.wf) e54 Inn.nil), m56⟩
   ·obtain ⟨o40, rfl, v48, hh50, e45, m47⟩ := hM
    have r125 := elim_inr r42
    obtain ⟨β, rfl⟩ := has_ex hh50
    clear hh50
    refine k36 _ _ ?_
    refine w_seqk fun K126 k126 => ?_
    refine w_reg (by kernel_rfl) ?_
    refine s_rwk e45.wf [.pointer none] (by kernel_rfl) fun b127 H128 e129 hb130 r131 => ?_
    refine s_nil ?_
    refine k126 _ _ ?_
    refine w_seqk fun K133 k133 => ?_
    refine w_seqk fun K134 k134 => ?_
    refine w_reg (by kernel_rfl) ?_
    refine s_qk (v48) (by kernel_rfl) ?_
    refine s_qk (.iface 92 (.pointer (some ⟨b127, 0, none⟩))) (by kernel_rfl) ?_
    by_cases h135 : Er.isAt o40 = true
    ·have r136 := ite_t h135 r125
     have u145 := (m47.ext e129)
     refine s_ck 55 #[v48, .iface 92 (.pointer (some ⟨b127, 0, none⟩))] (by kernel_rfl) (a_asF_at e129.wf r131 (hb130.djn (h_err.lt.le (ntr (ntr e4.next e15.next) e45.next))) u145 h135) ?_
     rintro _ H137 ⟨rfl, e138, b140, u141, -, i142, r139, r143, v144⟩
     refine s_nil ?_
     refine k134 _ _ ?_
     refine w_cond true (by kernel_rfl) rfl (fun _ => ?_) (fun h => by cases h)
     refine w_seqk fun K148 k148 => ?_
     refine w_reg (by kernel_rfl) ?_
     refine s_qk (.bool false) (by kernel_rfl) ?_
     refine s_nil ?_
     refine k148 _ _ ?_
     refine w_ret (th_ret ?_)
     refine b_ret (fn := Tryd.f16) (vs := [.bool false]) (aRes_tmp (by kernel_rfl) (rfl)) ?_
     obtain rfl := Option.some.inj r136
     exact ⟨rfl, (FrS.step wf ((FrS.step wf (FrS.step wf ((FrS.refl (W := []) wf).extR e4) e15 Inn.nil) e45 Inn.nil).extR e129) e138 (hb130.fresh (ntr (ntr e4.next e15.next) e45.next)))⟩
    ·have r149 := ite_f h135 r125
     have u150 := (m47.ext e129)
     refine s_ck 55 #[v48, .iface 92 (.pointer (some ⟨b127, 0, none⟩))] (by kernel_rfl) (a_asF_no r131 u150 h135) ?_
     rintro _ _ ⟨rfl, rfl⟩
     refine s_nil ?_
     refine k134 _ _ ?_
     refine w_cond false (by kernel_rfl) rfl (fun h => by cases h) (fun _ => ?_)
     refine w_skip ?_
     refine k133 _ _ ?_
     refine w_seqk fun K151 k151 => ?_
     refine w_reg (by kernel_rfl) ?_
     refine s_rwk e129.wf [.int .i64 0] (by kernel_rfl) fun b152 H153 e154 hb155 r156 => ?_
     refine s_nil ?_
     refine k151 _ _ ?_
     refine w_seqk fun K158 k158 => ?_
     refine w_seqk fun K159 k159 => ?_
     obtain ⟨o160, hx161, r162⟩ := bind_some r149
     refine w_mid (fun α H163 => Has α [(0, .iface t29 x30), (3, .pointer (some ⟨b2, 0, none⟩)), (60, .bool o160)] ∧ FrS [b152] H153 H163) (fun K165 k165 => ?_) (fun α H163 hM => ?_)
     ·refine w_reg (by kernel_rfl) ?_
      refine s_qk (.iface t29 x30) (by kernel_rfl) ?_
      refine s_qk (.iface 95 (.pointer (some ⟨b152, 0, none⟩))) (by kernel_rfl) ?_
      by_cases h167 : (Er.num err).isSome = true
      ·have r168 := ite_t h167 hx161
       have u172 := (((u31.fr e45 Dj.nil_l).ext e129).ext e154)
       refine s_ck 55 #[.iface t29 x30, .iface 95 (.pointer (some ⟨b152, 0, none⟩))] (by kernel_rfl) (a_asN_y e154.wf r156 u172 h28 h167) ?_
       rintro _ H169 ⟨rfl, e170, r171⟩
       refine s_qk (.bool false) (by kernel_rfl) ?_
       refine s_qk (.bool false) (by kernel_rfl) ?_
       refine s_ql (.int .i64 ((Er.num err).getD 0)) (x := aLoad Tryd.prog 53 (.pointer (some ⟨b152, 0, none⟩)) H169) (by kernel_rfl) (r171.ld (by kernel_rfl)) ?_
       refine s_qk (.pointer (some ⟨b2, 0, none⟩)) (by kernel_rfl) ?_
       have u173 := ((((u38.frS e45 Dj.nil_l).ext e129).ext e154).frS e170 (hb155.djn (r6.ltF.le (ntr (ntr e15.next e45.next) e129.next))))
       refine s_ql (.int .i64 Code) (x := aLoad Tryd.prog 3 (.pointer (some ⟨b2, 0, none⟩)) H169) (by kernel_rfl) (u173.ld (by kernel_rfl)) ?_
       refine s_qk (.bool (!decide (((Er.num err).getD 0) = Code))) (by kernel_rfl) ?_
       refine s_qk (.bool (!decide (((Er.num err).getD 0) = Code))) (by kernel_rfl) ?_
       refine s_nil ?_
       obtain rfl := Option.some.inj r168
       exact k165 _ _ ⟨⟨by kernel_rfl, by kernel_rfl, by kernel_rfl, trivial⟩, (FrS.step e154.wf (FrS.refl (W := [b152]) e154.wf) e170 Inn.refl')⟩
      ·have r174 := ite_f h167 hx161
       have u178 := (((u31.fr e45 Dj.nil_l).ext e129).ext e154)
       refine s_ck 55 #[.iface t29 x30, .iface 95 (.pointer (some ⟨b152, 0, none⟩))] (by kernel_rfl) (a_asN_n e154.wf r156 u178 h28 h167) ?_
       rintro _ H175 ⟨rfl, e176, r177⟩
       refine s_qk (.bool true) (by kernel_rfl) ?_
       refine s_qk (.bool true) (by kernel_rfl) ?_
       refine s_no (by kernel_rfl) ?_
       refine s_no (by kernel_rfl) ?_
       refine s_no (by kernel_rfl) ?_
       refine s_no (by kernel_rfl) ?_
       refine s_qk (.bool true) (by kernel_rfl) ?_
       refine s_nil ?_
       obtain rfl := Option.some.inj r174
       exact k165 _ _ ⟨⟨by kernel_rfl, by kernel_rfl, by kernel_rfl, trivial⟩, (FrS.step e154.wf (FrS.refl (W := [b152]) e154.wf) e176 Inn.refl')⟩
     ·obtain ⟨hh166, e164⟩ := hM
      obtain ⟨β, rfl⟩ := has_ex hh166
      clear hh166
      refine k159 _ _ ?_
      refine w_cond (o160) (by kernel_rfl) rfl (fun h179 => ?_) (fun h179 => ?_)
      ·have r180 := ite_t h179 r162
       refine w_seqk fun K181 k181 => ?_
       refine w_reg (by kernel_rfl) ?_
       refine s_qk (.bool false) (by kernel_rfl) ?_
       refine s_nil ?_
       refine k181 _ _ ?_
       refine w_ret (th_ret ?_)
       refine b_ret (fn := Tryd.f16) (vs := [.bool false]) (aRes_tmp (by kernel_rfl) (rfl)) ?_
       obtain rfl := Option.some.inj r180
       exact ⟨rfl, (FrS.step wf (((FrS.step wf (FrS.step wf ((FrS.refl (W := []) wf).extR e4) e15 Inn.nil) e45 Inn.nil).extR e129).extR e154) e164 (hb155.fresh (ntr (ntr (ntr e4.next e15.next) e45.next) e129.next)))⟩
      ·have r182 := ite_bf h179 r162
       refine w_skip ?_
       refine k158 _ _ ?_
       refine w_seqk fun K183 k183 => ?_
       refine w_seqk fun K184 k184 => ?_
       refine w_reg (by kernel_rfl) ?_
       refine s_qk (.int .i64 1) (by kernel_rfl) ?_
       refine s_nil ?_
       refine k184 _ _ ?_
       obtain ⟨z188, hx186, r187⟩ := bind_some r182
       refine w_mid (fun α H189 => ∃ o185, z188 = Sum.inr o185 ∧ Has α [] ∧ H163 = H189) (fun K191 k191 => ?_) (fun α H189 hM => ?_)
       ·refine w_block ?_
        obtain ⟨n193, hn194⟩ := loopO_iff.1 hx186
        refine w_loopn (fun n α H195 => ∃ (i2 : Int), iterO (fun zz_ => z_viaductseen_Same_l1 err Code zz_) n i2 = some z188 ∧ Has α [(0, .iface t29 x30), (3, .pointer (some ⟨b2, 0, none⟩)), (11, .int .i64 i2)] ∧ H163 = H195) n193 ⟨1, hn194, ⟨by kernel_rfl, by kernel_rfl, by kernel_rfl, trivial⟩, rfl⟩ ?_
        rintro n193 α H195 ⟨i2, hi198, hh197, rfl⟩ K203 k203
        obtain ⟨n199, z200, rfl, hz201, hn202⟩ := iter_succ hi198
        obtain ⟨β, rfl⟩ := has_ex hh197
        clear hh197
        replace hz201 : z_viaductseen_Same_l1 err Code i2 = some z200 := hz201
        unfold z_viaductseen_Same_l1 at hz201
        refine w_seqk fun K204 k204 => ?_
        refine w_seqk fun K205 k205 => ?_
        refine w_reg (by kernel_rfl) ?_
        refine s_qk (.int .i64 i2) (by kernel_rfl) ?_
        refine s_qk (.bool (decide (i2 ≤ 20))) (by kernel_rfl) ?_
        refine s_nil ?_
        refine k205 _ _ ?_
        refine w_condp (i2 ≤ 20) (by kernel_rfl) rfl (fun h206 => ?_) (fun h206 => ?_)
        ·have r207 := ite_t h206 hz201
         refine w_skip ?_
         refine k204 _ _ ?_
         refine w_seqk fun K208 k208 => ?_
         refine w_block ?_
         refine w_seqk fun K209 k209 => ?_
         refine w_draw [0, 1, 2, 4, 5, 6, 7, 3, 8] (by kernel_rfl) ?_
         refine d_qk (.iface t29 x30) (by kernel_rfl) ?_
         refine d_qk (.int .i64 i2) (by kernel_rfl) ?_
         refine d_qk (.iface 53 (.int .i64 i2)) (by kernel_rfl) ?_
         refine d_qk (.int .i64 i2) (by kernel_rfl) ?_
         refine d_qk (.pointer (some ⟨b2, 0, none⟩)) (by kernel_rfl) ?_
         have u210 := ((((u38.frS e45 Dj.nil_l).ext e129).ext e154).frS e164 (hb155.djn (r6.ltF.le (ntr (ntr e15.next e45.next) e129.next))))
         refine d_fl (.int .i64 Code) (x := aLoad Tryd.prog 3 (.pointer (some ⟨b2, 0, none⟩)) H163) (by kernel_rfl) (u210.ld (by kernel_rfl)) ?_
         refine d_qk (.bool (decide (i2 = Code))) (by kernel_rfl) ?_
         have u211 := ((((u31.fr e45 Dj.nil_l).ext e129).ext e154).fr e164 (hb155.djn (h_err.lt.le (ntr (ntr (ntr e4.next e15.next) e45.next) e129.next))))
         refine d_ck 56 #[.iface t29 x30, .iface 53 (.int .i64 i2)] (by kernel_rfl) (a_isN u211 h28) ?_
         rintro _ _ ⟨rfl, rfl⟩
         refine ⟨st_ql (y := aLoad Tryd.prog 3 (.pointer (some ⟨b2, 0, none⟩)) H163) (by kernel_rfl) (u210.ld (by kernel_rfl)) (st_nil), ?_⟩
         refine d_qk (.bool (!decide ((decide (Er.num err = some i2)) = (decide (i2 = Code))))) (by kernel_rfl) ?_
         refine d_nil ?_
         refine k209 _ _ ?_
         refine w_condn ((decide (Er.num err = some i2)) = (decide (i2 = Code))) (by kernel_rfl) rfl (fun h212 => ?_) (fun h212 => ?_)
         ·have r213 := ite_f h212 r207
          refine w_seqk fun K214 k214 => ?_
          refine w_reg (by kernel_rfl) ?_
          refine s_qk (.bool false) (by kernel_rfl) ?_
          refine s_nil ?_
          refine k214 _ _ ?_
          refine w_ret (bl_ret (th_ret (th_ret (bl_ret (th_ret (th_ret ?_))))))
          obtain ⟨v215, hv216, hz217⟩ := map_some r213
          subst hz217
          obtain rfl := it_inr hn202
          have hq218 := elim_inl r187
          rw [hq218] at hv216
          refine b_ret (fn := Tryd.f16) (vs := [.bool false]) (aRes_tmp (by kernel_rfl) (rfl)) ?_
          obtain rfl := Option.some.inj hv216
          exact ⟨rfl, (FrS.step wf (((FrS.step wf (FrS.step wf ((FrS.refl (W := []) wf).extR e4) e15 Inn.nil) e45 Inn.nil).extR e129).extR e154) e164 (hb155.fresh (ntr (ntr (ntr e4.next e15.next) e45.next) e129.next)))⟩
         ·have r219 := ite_t h212 r207
          refine w_skip ?_
          refine k208 _ _ ?_
          refine w_reg (by kernel_rfl) ?_
          refine s_qk (.int .i64 i2) (by kernel_rfl) ?_
          obtain ⟨g220, r221⟩ := G_some r219
          refine s_w ((i2 + 1)) (k := .i64) (x := (i2 + 1)) (by kernel_rfl) (wrap64 g220) ?_
          refine s_qk (.int .i64 (i2 + 1)) (by kernel_rfl) ?_
          refine s_nil ?_
          obtain rfl := Option.some.inj r221
          exact k203 n199 _ _ (Nat.lt_succ_self _) ⟨(i2 + 1), hn202, ⟨by kernel_rfl, by kernel_rfl, by kernel_rfl, trivial⟩, rfl⟩
        ·have r222 := ite_f h206 hz201
         refine w_exit (th_exit (th_exit (bl_eq ?_)))
         obtain rfl := Option.some.inj r222
         obtain rfl := it_inr hn202
         exact k191 _ _ ⟨_, rfl, trivial, rfl⟩
       ·obtain ⟨o185, rfl, hh192, rfl⟩ := hM
        have r223 := elim_inr r187
        obtain ⟨β, rfl⟩ := has_ex hh192
        clear hh192
        refine k183 _ _ ?_
        refine w_seqk fun K224 k224 => ?_
        refine w_reg (by kernel_rfl) ?_
        refine s_qk (.bool true) (by kernel_rfl) ?_
        refine s_nil ?_
        refine k224 _ _ ?_
        refine w_ret ?_
        refine b_ret (fn := Tryd.f16) (vs := [.bool true]) (aRes_tmp (by kernel_rfl) (rfl)) ?_
        obtain rfl := Option.some.inj r223
        exact ⟨rfl, (FrS.step wf (((FrS.step wf (FrS.step wf ((FrS.refl (W := []) wf).extR e4) e15 Inn.nil) e45 Inn.nil).extR e129).extR e154) e164 (hb155.fresh (ntr (ntr (ntr e4.next e15.next) e45.next) e129.next)))⟩

theorem c_viaductlaw04_NormalMerges {H : AH} {hd_Arcs : Value} {fp_Arcs : Fp} {hd_Arcs_ : Value} {fp_Arcs_ : Fp} {N_ : Int} {Arcs : List (Int × Int × Int)} {N_2 : Int} {Arcs_ : List (Int × Int × Int)} {r : Bool}
  (wf : WF H) (h_Arcs : Sq enc_i64_i64_i64 3 H hd_Arcs Arcs fp_Arcs) (h_Arcs_ : Sq enc_i64_i64_i64 3 H hd_Arcs_ Arcs_ fp_Arcs_) (hr : z_viaductlaw04_NormalMerges N_ Arcs N_2 Arcs_ = some r) :
  ACalls Tryd.prog 5 #[.agg #[.int .i64 N_, hd_Arcs], .agg #[.int .i64 N_2, hd_Arcs_]] H fun v H' => v = .bool r ∧ FrS [] H H' := by
 refine acalls_of_body mixed Tryd.func5 rfl (Nat.le_of_ble_eq_true rfl) ?_
 unfold z_viaductlaw04_NormalMerges at hr
 refine w_seqk fun K1 k1 => ?_
 refine w_reg (by kernel_rfl) ?_
 refine s_rwl wf [.int .i64 N_, hd_Arcs] (one_cons (rfl) (one_cons (h_Arcs.one1) (one_nil))) (by kernel_rfl) fun b2 H3 e4 hb5 r6 => ?_
 have u13 := (h_Arcs_.ext e4)
 refine s_rwl e4.wf [.int .i64 N_2, hd_Arcs_] (one_cons (rfl) (one_cons (u13.one1) (one_nil))) (by kernel_rfl) fun b8 H9 e10 hb11 r12 => ?_
 refine s_qk (.bool false) (by kernel_rfl) ?_
 refine s_nil ?_
 refine k1 _ _ ?_
 refine w_seqk fun K15 k15 => ?_
 refine w_seqk fun K16 k16 => ?_
 refine w_reg (by kernel_rfl) ?_
 refine s_ck 11 #[] (by kernel_rfl) c_viaductlaw04_awake ?_
 rintro _ _ ⟨rfl, rfl⟩
 refine s_qk (.bool false) (by kernel_rfl) ?_
 refine s_nil ?_
 refine k16 _ _ ?_
 refine w_cond false (by kernel_rfl) rfl (fun h => by cases h) (fun _ => ?_)
 refine w_skip ?_
 refine k15 _ _ ?_
 refine w_seqk fun K17 k17 => ?_
 refine w_reg (by kernel_rfl) ?_
 have u18 := (r6.ext e10)
 refine s_ql (.agg #[.int .i64 N_, hd_Arcs]) (x := aLoad Tryd.prog 24 (.pointer (some ⟨b2, 0, none⟩)) H9) (by kernel_rfl) (u18.ld (by kernel_rfl)) ?_
 refine s_ql (.agg #[.int .i64 N_2, hd_Arcs_]) (x := aLoad Tryd.prog 24 (.pointer (some ⟨b8, 0, none⟩)) H9) (by kernel_rfl) (r12.ld (by kernel_rfl)) ?_
 have u19 := ((h_Arcs.ext e4).ext e10)
 have u20 := (u13.ext e10)
 obtain ⟨y21, hy22, r23⟩ := bind_some hr
 refine s_ck 24 #[.agg #[.int .i64 N_, hd_Arcs], .agg #[.int .i64 N_2, hd_Arcs_]] (by kernel_rfl) (c_normal_Merge e10.wf u19 u20 hy22) ?_
 rintro _ H28 ⟨s24, f25, v26, f27, rfl, e29, m30, m31, i32, i33, d34⟩
 obtain ⟨a37, n38, c39, rfl⟩ := m30.form
 refine s_qk (.tuple #[.agg #[.int .i64 y21.1, .slice a37 n38 c39], v26]) (by kernel_rfl) ?_
 refine s_qk (.agg #[.int .i64 y21.1, .slice a37 n38 c39]) (by kernel_rfl) ?_
 refine s_qk (v26) (by kernel_rfl) ?_
 refine s_rwk e29.wf [.int .i64 0, .slice none 0 0] (by kernel_rfl) fun b40 H41 e42 hb43 r44 => ?_
 have u50 := (m30.ext e42)
 obtain ⟨H46, q47, e48, r49⟩ := Row.store (P := Tryd.prog) (t := 24) (p := 0) e42.wf r44 (.agg #[.int .i64 y21.1, .slice a37 n38 c39]) [.int .i64 y21.1, .slice a37 n38 c39] (by kernel_rfl) (by kernel_rfl) (one_cons (rfl) (one_cons (u50.one1) (one_nil))) (Nat.le_of_ble_eq_true (by kernel_rfl)) [.int .i64 y21.1, .slice a37 n38 c39] (by kernel_rfl)
 refine s_ek (undef) (by kernel_rfl) (map_ok q47) ?_
 refine s_qk (v26) (by kernel_rfl) ?_
 refine s_nil ?_
 refine k17 _ _ ?_
 refine w_seqk fun K51 k51 => ?_
 refine w_reg (by kernel_rfl) ?_
 have u52 := (((u18.frS e29 Dj.nil_l).ext e42).frS e48 (hb43.djn (r6.ltF.le (ntr e10.next e29.next))))
 refine s_ql (.agg #[.int .i64 N_, hd_Arcs]) (x := aLoad Tryd.prog 24 (.pointer (some ⟨b2, 0, none⟩)) H46) (by kernel_rfl) (u52.ld (by kernel_rfl)) ?_
 have u53 := (((r12.frS e29 Dj.nil_l).ext e42).frS e48 (hb43.djn (r12.ltF.le e29.next)))
 refine s_ql (.agg #[.int .i64 N_2, hd_Arcs_]) (x := aLoad Tryd.prog 24 (.pointer (some ⟨b8, 0, none⟩)) H46) (by kernel_rfl) (u53.ld (by kernel_rfl)) ?_
 have u54 := (((u19.fr e29 Dj.nil_l).ext e42).fr e48 (hb43.djn (h_Arcs.lt.le (ntr (ntr e4.next e10.next) e29.next))))
 have u55 := (((u20.fr e29 Dj.nil_l).ext e42).fr e48 (hb43.djn (h_Arcs_.lt.le (ntr (ntr e4.next e10.next) e29.next))))
 obtain ⟨y56, hy57, r58⟩ := bind_some r23
 refine s_ck 25 #[.agg #[.int .i64 N_, hd_Arcs], .agg #[.int .i64 N_2, hd_Arcs_]] (by kernel_rfl) (c_viaductref04_DocMerge e48.wf u54 u55 hy57) ?_
 rintro _ H63 ⟨s59, f60, s61, f62, rfl, e64, m65, m66, i67, i68, d69⟩
 obtain ⟨a72, n73, c74, rfl⟩ := m65.form
 obtain ⟨a75, n76, c77, rfl⟩ := m66.form
 refine s_qk (.tuple #[.agg #[.int .i64 y56.1, .slice a72 n73 c74], .agg #[.int .i64 y56.2.2.1, .slice a75 n76 c77]]) (by kernel_rfl) ?_
 refine s_qk (.agg #[.int .i64 y56.1, .slice a72 n73 c74]) (by kernel_rfl) ?_
 refine s_qk (.agg #[.int .i64 y56.2.2.1, .slice a75 n76 c77]) (by kernel_rfl) ?_
 refine s_rwk e64.wf [.int .i64 0, .slice none 0 0] (by kernel_rfl) fun b78 H79 e80 hb81 r82 => ?_
 refine s_rwk e80.wf [.int .i64 0, .slice none 0 0] (by kernel_rfl) fun b84 H85 e86 hb87 r88 => ?_
 have u94 := (r82.ext e86)
 have u95 := ((m65.ext e80).ext e86)
 obtain ⟨H90, q91, e92, r93⟩ := Row.store (P := Tryd.prog) (t := 24) (p := 0) e86.wf u94 (.agg #[.int .i64 y56.1, .slice a72 n73 c74]) [.int .i64 y56.1, .slice a72 n73 c74] (by kernel_rfl) (by kernel_rfl) (one_cons (rfl) (one_cons (u95.one1) (one_nil))) (Nat.le_of_ble_eq_true (by kernel_rfl)) [.int .i64 y56.1, .slice a72 n73 c74] (by kernel_rfl)
 refine s_ek (undef) (by kernel_rfl) (map_ok q91) ?_
 have u100 := (r88.frS e92 (Dj.symm (hb87.djn r82.ltF)))
 have u101 := (((m66.ext e80).ext e86).fr e92 (hb81.djn m66.lt))
 obtain ⟨H96, q97, e98, r99⟩ := Row.store (P := Tryd.prog) (t := 33) (p := 0) e92.wf u100 (.agg #[.int .i64 y56.2.2.1, .slice a75 n76 c77]) [.int .i64 y56.2.2.1, .slice a75 n76 c77] (by kernel_rfl) (by kernel_rfl) (one_cons (rfl) (one_cons (u101.one1) (one_nil))) (Nat.le_of_ble_eq_true (by kernel_rfl)) [.int .i64 y56.2.2.1, .slice a75 n76 c77] (by kernel_rfl)
 refine s_ek (undef) (by kernel_rfl) (map_ok q97) ?_
 refine s_nil ?_
 refine k51 _ _ ?_
 refine w_seqk fun K102 k102 => ?_
 refine w_reg (by kernel_rfl) ?_
 have u103 := (((((r49.frS e64 Dj.nil_l).ext e80).ext e86).frS e92 (hb81.djn (r44.ltF.le (ntr e48.next e64.next)))).frS e98 (hb87.djn (r44.ltF.le (ntr (ntr e48.next e64.next) e80.next))))
 refine s_ql (.agg #[.int .i64 y21.1, .slice a37 n38 c39]) (x := aLoad Tryd.prog 24 (.pointer (some ⟨b40, 0, none⟩)) H96) (by kernel_rfl) (u103.ld (by kernel_rfl)) ?_
 have u104 := (r93.frS e98 (hb87.djn r82.ltF))
 refine s_ql (.agg #[.int .i64 y56.1, .slice a72 n73 c74]) (x := aLoad Tryd.prog 24 (.pointer (some ⟨b78, 0, none⟩)) H96) (by kernel_rfl) (u104.ld (by kernel_rfl)) ?_
 have u105 := ((((((u50.fr e48 (hb43.djn m30.lt)).fr e64 Dj.nil_l).ext e80).ext e86).fr e92 (hb81.djn (m30.lt.le (ntr (ntr e42.next e48.next) e64.next)))).fr e98 (hb87.djn (m30.lt.le (ntr (ntr (ntr e42.next e48.next) e64.next) e80.next))))
 have u106 := ((u95.fr e92 (hb81.djn m65.lt)).fr e98 (hb87.djn (m65.lt.le e80.next)))
 obtain ⟨y107, hy108, r109⟩ := bind_some r58
 refine s_ck 15 #[.agg #[.int .i64 y21.1, .slice a37 n38 c39], .agg #[.int .i64 y56.1, .slice a72 n73 c74]] (by kernel_rfl) (c_viaductref03_Same e98.wf u105.sq u106.sq hy108) ?_
 rintro _ H110 ⟨rfl, e111⟩
 by_cases h112 : y107 = true
 ·have r113 := ite_t h112 r109
  rw [h112]
  refine s_qk (.bool true) (by kernel_rfl) ?_
  refine s_qk (v26) (by kernel_rfl) ?_
  have u115 := (r99.frS e111 Dj.nil_l)
  refine s_ql (.agg #[.int .i64 y56.2.2.1, .slice a75 n76 c77]) (x := aLoad Tryd.prog 33 (.pointer (some ⟨b84, 0, none⟩)) H110) (by kernel_rfl) (u115.ld (by kernel_rfl)) ?_
  have u116 := ((((((((m31.ext e42).fr e48 (hb43.djn m31.lt)).fr e64 Dj.nil_l).ext e80).ext e86).fr e92 (hb81.djn (m31.lt.le (ntr (ntr e42.next e48.next) e64.next)))).fr e98 (hb87.djn (m31.lt.le (ntr (ntr (ntr e42.next e48.next) e64.next) e80.next)))).fr e111 Dj.nil_l)
  have u117 := ((u101.fr e98 (hb87.djn (m66.lt.le e80.next))).fr e111 Dj.nil_l)
  obtain ⟨y118, hy119, r120⟩ := bind_some r113
  refine s_ck 16 #[v26, .agg #[.int .i64 y56.2.2.1, .slice a75 n76 c77]] (by kernel_rfl) (c_viaductseen_Same e111.wf u116 u117 hy119) ?_
  rintro _ H121 ⟨rfl, e122⟩
  refine s_qk (.bool y118) (by kernel_rfl) ?_
  refine s_qk (.bool y118) (by kernel_rfl) ?_
  refine s_nil ?_
  refine k102 _ _ ?_
  refine w_ret ?_
  refine b_ret (fn := Tryd.f5) (vs := [.bool y118]) (aRes_tmp (by kernel_rfl) (rfl)) ?_
  obtain rfl := Option.some.inj r120
  exact ⟨rfl, (FrS.step wf (FrS.step wf (FrS.step wf (FrS.step wf (((FrS.step wf (FrS.step wf ((FrS.step wf (((FrS.refl (W := []) wf).extR e4).extR e10) e29 Inn.nil).extR e42) e48 (hb43.fresh (ntr (ntr e4.next e10.next) e29.next))) e64 Inn.nil).extR e80).extR e86) e92 (hb81.fresh (ntr (ntr (ntr (ntr (ntr e4.next e10.next) e29.next) e42.next) e48.next) e64.next))) e98 (hb87.fresh (ntr (ntr (ntr (ntr (ntr (ntr e4.next e10.next) e29.next) e42.next) e48.next) e64.next) e80.next))) e111 Inn.nil) e122 Inn.nil)⟩
 ·have r123 := ite_f h112 r109
  rw [nb h112]
  refine s_qk (.bool false) (by kernel_rfl) ?_
  refine s_no (by kernel_rfl) ?_
  refine s_no (by kernel_rfl) ?_
  refine s_no (by kernel_rfl) ?_
  refine s_qk (.bool false) (by kernel_rfl) ?_
  refine s_qk (.bool false) (by kernel_rfl) ?_
  refine s_nil ?_
  refine k102 _ _ ?_
  refine w_ret ?_
  refine b_ret (fn := Tryd.f5) (vs := [.bool false]) (aRes_tmp (by kernel_rfl) (rfl)) ?_
  obtain rfl := Option.some.inj r123
  exact ⟨rfl, (FrS.step wf (FrS.step wf (FrS.step wf (((FrS.step wf (FrS.step wf ((FrS.step wf (((FrS.refl (W := []) wf).extR e4).extR e10) e29 Inn.nil).extR e42) e48 (hb43.fresh (ntr (ntr e4.next e10.next) e29.next))) e64 Inn.nil).extR e80).extR e86) e92 (hb81.fresh (ntr (ntr (ntr (ntr (ntr e4.next e10.next) e29.next) e42.next) e48.next) e64.next))) e98 (hb87.fresh (ntr (ntr (ntr (ntr (ntr (ntr e4.next e10.next) e29.next) e42.next) e48.next) e64.next) e80.next))) e111 Inn.nil)⟩


end Go.Vd
