/- The walks of the functions (printed by a program of ours). -/
import Derived.Test.YtjfplpkmbijfpaaDoorPnf0
import Derived.Test.YtjfplpkmbijfpaaDoorDrG
import Derived.Test.YtjfplpkmbijfpaaDoorINf
import Derived.Test.YtjfplpkmbijfpaaDoorVeN
import Derived.Test.YtjfplpkmbijfpaaDoorSoA
import Derived.Test.YtjfplpkmbijfpaaDoorVeV
set_option linter.unusedVariables false
set_option linter.unusedSimpArgs false
set_option linter.unusedSectionVars false
/-! (KNf0) -/

set_option maxRecDepth 100000
set_option maxHeartbeats 4000000
set_option linter.unusedVariables false
namespace Go.Vd
open Go.Proofs
attribute [local irreducible] wpSeq wpOrd aWp
set_option linter.unusedSimpArgs false
theorem e_pure {α : Type} (P : Program) (a : α) : pr P (pure a : Sem α) = some a := rfl
theorem e_prog {P : Program} : pr P (program : Sem Program) = some P := rfl
theorem e_und {P : Program} {t : TypeId} {d : TypeDesc} (h : P.underlying t = some d) : pr P (underlying t) = some d := by
 simp only [underlying, pr_bind]
 show ((pr P (program : Sem Program)).bind _) = _
 simp [show pr P (program : Sem Program) = some P from rfl, h]
 rfl
theorem e_int {P : Program} (d : Nat) (t : TypeId) (k : IntKind) (h : P.underlying t = some (.int k)) (a c : Int) : pr P (Op.equalIn (d+1) t (.int k a) (.int k c)) = some (a == c) := by
 simp only [Op.equalIn, pr_bind, e_und h]
 simp [e_pure]
theorem e_bool {P : Program} (d : Nat) (t : TypeId) (h : P.underlying t = some .bool) (a c : Bool) : pr P (Op.equalIn (d+1) t (.bool a) (.bool c)) = some (a == c) := by
 simp only [Op.equalIn, pr_bind, e_und h]
 simp [e_pure]

theorem e51_p0 (a0 : Int) (a1 : Int) (a2 : Int) : pr Tryd.prog (part 3 #[.int .i64 a0, .int .i64 a1, .int .i64 a2] 0) = some (.int .i64 a0) := by kernel_rfl
theorem e51_q0 (a c : Int) : pr Tryd.prog (Op.equalIn 9999 3 (.int .i64 a) (.int .i64 c)) = some (a == c) := e_int 9998 3 .i64 Go.Proofs.Tryd.underlying3 a c
theorem e51_p1 (a0 : Int) (a1 : Int) (a2 : Int) : pr Tryd.prog (part 3 #[.int .i64 a0, .int .i64 a1, .int .i64 a2] 1) = some (.int .i64 a1) := by kernel_rfl
theorem e51_q1 (a c : Int) : pr Tryd.prog (Op.equalIn 9999 3 (.int .i64 a) (.int .i64 c)) = some (a == c) := e_int 9998 3 .i64 Go.Proofs.Tryd.underlying3 a c
theorem e51_p2 (a0 : Int) (a1 : Int) (a2 : Int) : pr Tryd.prog (part 3 #[.int .i64 a0, .int .i64 a1, .int .i64 a2] 2) = some (.int .i64 a2) := by kernel_rfl
theorem e51_q2 (a c : Int) : pr Tryd.prog (Op.equalIn 9999 3 (.int .i64 a) (.int .i64 c)) = some (a == c) := e_int 9998 3 .i64 Go.Proofs.Tryd.underlying3 a c
theorem e51_stood : Tryd.prog.stoodInHeld 51 = false := by kernel_rfl
theorem e51_eq (a0 : Int) (a1 : Int) (a2 : Int) (c0 : Int) (c1 : Int) (c2 : Int) : pr Tryd.prog (Op.equalIn Op.maxDepth 51 (.agg #[.int .i64 a0, .int .i64 a1, .int .i64 a2]) (.agg #[.int .i64 c0, .int .i64 c1, .int .i64 c2])) = some (a0 == c0 && a1 == c1 && a2 == c2) := by
 rw [show Op.maxDepth = 9998 + 1 + 1 from rfl, Op.equalIn]
 rw [pr_bind, e_und Go.Proofs.Tryd.underlying51]
 simp only [Option.bind_some, pr_bind, e_prog, e51_stood, Bool.false_eq_true, if_false]
 simp [pr_bind, e51_p0, e51_p1, e51_p2, e51_q0, e51_q1, e51_q2]
 by_cases h0 : a0 = c0
 ·subst h0
  by_cases h1 : a1 = c1
  ·subst h1
   by_cases h2 : a2 = c2
   ·subst h2
    simp [e_pure, pr_bind, e51_p0, e51_p1, e51_p2, e51_q0, e51_q1, e51_q2]
   ·simp [e_pure, pr_bind, e51_p0, e51_p1, e51_p2, e51_q0, e51_q1, e51_q2, h2]
  ·simp [e_pure, pr_bind, e51_p0, e51_p1, e51_p2, e51_q0, e51_q1, e51_q2, h1]
 ·simp [e_pure, pr_bind, e51_p0, e51_p1, e51_p2, e51_q0, e51_q1, e51_q2, h0]
theorem e51_gneq (x y : Operand) (a0 : Int) (a1 : Int) (a2 : Int) (c0 : Int) (c1 : Int) (c2 : Int) : pr Tryd.prog (eqGuard .neq 51 x y (.agg #[.int .i64 a0, .int .i64 a1, .int .i64 a2]) (.agg #[.int .i64 c0, .int .i64 c1, .int .i64 c2])) = some () := by kernel_rfl
theorem aBin_neq51 (x y : Operand) (a0 : Int) (a1 : Int) (a2 : Int) (c0 : Int) (c1 : Int) (c2 : Int) : aBin Tryd.prog .neq 51 x y (.agg #[.int .i64 a0, .int .i64 a1, .int .i64 a2]) (.agg #[.int .i64 c0, .int .i64 c1, .int .i64 c2]) = some (.bool (!decide (a0 = c0 ∧ a1 = c1 ∧ a2 = c2))) := by
 unfold aBin
 rw [if_pos (show (plain (.agg #[.int .i64 a0, .int .i64 a1, .int .i64 a2]) && plain (.agg #[.int .i64 c0, .int .i64 c1, .int .i64 c2])) = true from rfl), pr_bind, e51_gneq]
 have : pr Tryd.prog (binOp .neq 51 (.agg #[.int .i64 a0, .int .i64 a1, .int .i64 a2]) (.agg #[.int .i64 c0, .int .i64 c1, .int .i64 c2])) = some (.bool (!decide (a0 = c0 ∧ a1 = c1 ∧ a2 = c2))) := by
  simp only [binOp, Op.equal, pr_bind, e51_eq]
  by_cases g0 : a0 = c0 <;> by_cases g1 : a1 = c1 <;> by_cases g2 : a2 = c2 <;> simp [e_pure, g0, g1, g2]
 simp only [Option.bind_some, this]
 rfl
theorem e51_geql (x y : Operand) (a0 : Int) (a1 : Int) (a2 : Int) (c0 : Int) (c1 : Int) (c2 : Int) : pr Tryd.prog (eqGuard .eql 51 x y (.agg #[.int .i64 a0, .int .i64 a1, .int .i64 a2]) (.agg #[.int .i64 c0, .int .i64 c1, .int .i64 c2])) = some () := by kernel_rfl
theorem aBin_eql51 (x y : Operand) (a0 : Int) (a1 : Int) (a2 : Int) (c0 : Int) (c1 : Int) (c2 : Int) : aBin Tryd.prog .eql 51 x y (.agg #[.int .i64 a0, .int .i64 a1, .int .i64 a2]) (.agg #[.int .i64 c0, .int .i64 c1, .int .i64 c2]) = some (.bool (decide (a0 = c0 ∧ a1 = c1 ∧ a2 = c2))) := by
 unfold aBin
 rw [if_pos (show (plain (.agg #[.int .i64 a0, .int .i64 a1, .int .i64 a2]) && plain (.agg #[.int .i64 c0, .int .i64 c1, .int .i64 c2])) = true from rfl), pr_bind, e51_geql]
 have : pr Tryd.prog (binOp .eql 51 (.agg #[.int .i64 a0, .int .i64 a1, .int .i64 a2]) (.agg #[.int .i64 c0, .int .i64 c1, .int .i64 c2])) = some (.bool (decide (a0 = c0 ∧ a1 = c1 ∧ a2 = c2))) := by
  simp only [binOp, Op.equal, pr_bind, e51_eq]
  by_cases g0 : a0 = c0 <;> by_cases g1 : a1 = c1 <;> by_cases g2 : a2 = c2 <;> simp [e_pure, g0, g1, g2]
 simp only [Option.bind_some, this]
 rfl
theorem e89_p0 (a0 : Int) (a1 : Int) : pr Tryd.prog (part 55 #[.int .i64 a0, .int .i64 a1] 0) = some (.int .i64 a0) := by kernel_rfl
theorem e89_q0 (a c : Int) : pr Tryd.prog (Op.equalIn 9999 55 (.int .i64 a) (.int .i64 c)) = some (a == c) := e_int 9998 55 .i64 Go.Proofs.Tryd.underlying55 a c
theorem e89_p1 (a0 : Int) (a1 : Int) : pr Tryd.prog (part 3 #[.int .i64 a0, .int .i64 a1] 1) = some (.int .i64 a1) := by kernel_rfl
theorem e89_q1 (a c : Int) : pr Tryd.prog (Op.equalIn 9999 3 (.int .i64 a) (.int .i64 c)) = some (a == c) := e_int 9998 3 .i64 Go.Proofs.Tryd.underlying3 a c
theorem e89_stood : Tryd.prog.stoodInHeld 89 = false := by kernel_rfl
theorem e89_eq (a0 : Int) (a1 : Int) (c0 : Int) (c1 : Int) : pr Tryd.prog (Op.equalIn Op.maxDepth 89 (.agg #[.int .i64 a0, .int .i64 a1]) (.agg #[.int .i64 c0, .int .i64 c1])) = some (a0 == c0 && a1 == c1) := by
 rw [show Op.maxDepth = 9998 + 1 + 1 from rfl, Op.equalIn]
 rw [pr_bind, e_und Go.Proofs.Tryd.underlying89]
 simp only [Option.bind_some, pr_bind, e_prog, e89_stood, Bool.false_eq_true, if_false]
 simp [pr_bind, e89_p0, e89_p1, e89_q0, e89_q1]
 by_cases h0 : a0 = c0
 ·subst h0
  by_cases h1 : a1 = c1
  ·subst h1
   simp [e_pure, pr_bind, e89_p0, e89_p1, e89_q0, e89_q1]
  ·simp [e_pure, pr_bind, e89_p0, e89_p1, e89_q0, e89_q1, h1]
 ·simp [e_pure, pr_bind, e89_p0, e89_p1, e89_q0, e89_q1, h0]
theorem e89_gneq (x y : Operand) (a0 : Int) (a1 : Int) (c0 : Int) (c1 : Int) : pr Tryd.prog (eqGuard .neq 89 x y (.agg #[.int .i64 a0, .int .i64 a1]) (.agg #[.int .i64 c0, .int .i64 c1])) = some () := by kernel_rfl
theorem aBin_neq89 (x y : Operand) (a0 : Int) (a1 : Int) (c0 : Int) (c1 : Int) : aBin Tryd.prog .neq 89 x y (.agg #[.int .i64 a0, .int .i64 a1]) (.agg #[.int .i64 c0, .int .i64 c1]) = some (.bool (!decide (a0 = c0 ∧ a1 = c1))) := by
 unfold aBin
 rw [if_pos (show (plain (.agg #[.int .i64 a0, .int .i64 a1]) && plain (.agg #[.int .i64 c0, .int .i64 c1])) = true from rfl), pr_bind, e89_gneq]
 have : pr Tryd.prog (binOp .neq 89 (.agg #[.int .i64 a0, .int .i64 a1]) (.agg #[.int .i64 c0, .int .i64 c1])) = some (.bool (!decide (a0 = c0 ∧ a1 = c1))) := by
  simp only [binOp, Op.equal, pr_bind, e89_eq]
  by_cases g0 : a0 = c0 <;> by_cases g1 : a1 = c1 <;> simp [e_pure, g0, g1]
 simp only [Option.bind_some, this]
 rfl
theorem e89_geql (x y : Operand) (a0 : Int) (a1 : Int) (c0 : Int) (c1 : Int) : pr Tryd.prog (eqGuard .eql 89 x y (.agg #[.int .i64 a0, .int .i64 a1]) (.agg #[.int .i64 c0, .int .i64 c1])) = some () := by kernel_rfl
theorem aBin_eql89 (x y : Operand) (a0 : Int) (a1 : Int) (c0 : Int) (c1 : Int) : aBin Tryd.prog .eql 89 x y (.agg #[.int .i64 a0, .int .i64 a1]) (.agg #[.int .i64 c0, .int .i64 c1]) = some (.bool (decide (a0 = c0 ∧ a1 = c1))) := by
 unfold aBin
 rw [if_pos (show (plain (.agg #[.int .i64 a0, .int .i64 a1]) && plain (.agg #[.int .i64 c0, .int .i64 c1])) = true from rfl), pr_bind, e89_geql]
 have : pr Tryd.prog (binOp .eql 89 (.agg #[.int .i64 a0, .int .i64 a1]) (.agg #[.int .i64 c0, .int .i64 c1])) = some (.bool (decide (a0 = c0 ∧ a1 = c1))) := by
  simp only [binOp, Op.equal, pr_bind, e89_eq]
  by_cases g0 : a0 = c0 <;> by_cases g1 : a1 = c1 <;> simp [e_pure, g0, g1]
 simp only [Option.bind_some, this]
 rfl
theorem c_viaductlaw04_awake_ev : evB Tryd.prog 100000 11 #[] = some true := by kernel_rfl
theorem c_viaductlaw04_awake {H : AH} : ACalls Tryd.prog 11 #[] H fun v H' => H = H' ∧ v = .bool true :=
 (acalls_evB mixed c_viaductlaw04_awake_ev rfl H).mono fun _ _ ⟨a, b⟩ => ⟨b.symm, a⟩

theorem c_gtext_within {H : AH} {x : Int} {n_ : Int} {r : Bool}
  (wf : WF H) (hr : z_gtext_within x n_ = some r) :
  ACalls Tryd.prog 88 #[.int .i64 x, .int .i64 n_] H fun v H' => v = .bool r ∧ H = H' := by
 refine acalls_of_body mixed Tryd.func88 rfl (Nat.le_of_ble_eq_true rfl) ?_
 unfold z_gtext_within at hr
 refine w_seqk fun K1 k1 => ?_
 refine w_reg (by kernel_rfl) ?_
 refine s_qk (.bool false) (by kernel_rfl) ?_
 refine s_nil ?_
 refine k1 _ _ ?_
 refine w_seqk fun K2 k2 => ?_
 refine w_reg (by kernel_rfl) ?_
 refine s_qk (.int .i64 x) (by kernel_rfl) ?_
 refine s_b (x ≥ 0) (by kernel_rfl) (fun h3 => ?_) (fun h3 => ?_)
 ·have r4 := ite_t h3 hr
  refine s_qk (.bool true) (by kernel_rfl) ?_
  refine s_qk (.int .i64 x) (by kernel_rfl) ?_
  refine s_qk (.int .i64 n_) (by kernel_rfl) ?_
  refine s_qk (.bool (decide (x < n_))) (by kernel_rfl) ?_
  refine s_qk (.bool (decide (x < n_))) (by kernel_rfl) ?_
  refine s_qk (.bool (decide (x < n_))) (by kernel_rfl) ?_
  refine s_nil ?_
  refine k2 _ _ ?_
  refine w_ret ?_
  refine b_ret (fn := Tryd.f88) (vs := [.bool (decide (x < n_))]) (aRes_tmp (by kernel_rfl) (rfl)) ?_
  obtain rfl := Option.some.inj r4
  exact ⟨rfl, rfl⟩
 ·have r5 := ite_f h3 hr
  refine s_qk (.bool false) (by kernel_rfl) ?_
  refine s_no (by kernel_rfl) ?_
  refine s_no (by kernel_rfl) ?_
  refine s_no (by kernel_rfl) ?_
  refine s_qk (.bool false) (by kernel_rfl) ?_
  refine s_qk (.bool false) (by kernel_rfl) ?_
  refine s_nil ?_
  refine k2 _ _ ?_
  refine w_ret ?_
  refine b_ret (fn := Tryd.f88) (vs := [.bool false]) (aRes_tmp (by kernel_rfl) (rfl)) ?_
  obtain rfl := Option.some.inj r5
  exact ⟨rfl, rfl⟩

theorem c_gtext_arc {H : AH} {From : Int} {To : Int} {Weight : Int} {n_ : Int} {r : Er}
  (wf : WF H) (hr : z_gtext_arc From To Weight n_ = some r) :
  ACalls Tryd.prog 74 #[.agg #[.int .i64 From, .int .i64 To, .int .i64 Weight], .int .i64 n_] H fun v H' => ∃ (v3 : Value) (f4 : Fp), v = v3 ∧ FrS [] H H' ∧ Ev 53 90 H' v3 r f4 ∧ Inn [] H f4 := by
 refine acalls_of_body mixed Tryd.func74 rfl (Nat.le_of_ble_eq_true rfl) ?_
 unfold z_gtext_arc at hr
 refine w_seqk fun K6 k6 => ?_
 refine w_reg (by kernel_rfl) ?_
 refine s_rwl wf [.int .i64 From, .int .i64 To, .int .i64 Weight] (one_cons (rfl) (one_cons (rfl) (one_cons (rfl) (one_nil)))) (by kernel_rfl) fun b7 H8 e9 hb10 r11 => ?_
 refine s_qk (.nilIface) (by kernel_rfl) ?_
 refine s_nil ?_
 refine k6 _ _ ?_
 refine w_seqk fun K13 k13 => ?_
 refine w_block ?_
 refine w_seqk fun K14 k14 => ?_
 obtain ⟨o15, hx16, r17⟩ := bind_some hr
 refine w_mid (fun α H18 => Has α [(2, .pointer (some ⟨b7, 0, none⟩)), (5, .bool o15)] ∧ H8 = H18) (fun K20 k20 => ?_) (fun α H18 hM => ?_)
 ·refine w_reg (by kernel_rfl) ?_
  refine s_qk (.pointer (some ⟨b7, 0, none⟩)) (by kernel_rfl) ?_
  refine s_ql (.int .i64 From) (x := aLoad Tryd.prog 3 (.pointer (some ⟨b7, 0, none⟩)) H8) (by kernel_rfl) (r11.ld (by kernel_rfl)) ?_
  refine s_qk (.int .i64 n_) (by kernel_rfl) ?_
  obtain ⟨y22, hy23, r24⟩ := bind_some hx16
  refine s_ck 88 #[.int .i64 From, .int .i64 n_] (by kernel_rfl) (c_gtext_within e9.wf hy23) ?_
  rintro _ _ ⟨rfl, rfl⟩
  by_cases h27 : y22 = true
  ·have r28 := ite_t h27 r24
   rw [h27]
   refine s_qk (.bool false) (by kernel_rfl) ?_
   refine s_qk (.bool false) (by kernel_rfl) ?_
   refine s_qk (.pointer (some ⟨b7, 1, none⟩)) (by kernel_rfl) ?_
   refine s_ql (.int .i64 To) (x := aLoad Tryd.prog 3 (.pointer (some ⟨b7, 1, none⟩)) H8) (by kernel_rfl) (r11.ld (by kernel_rfl)) ?_
   refine s_qk (.int .i64 n_) (by kernel_rfl) ?_
   obtain ⟨y30, hy31, r32⟩ := bind_some r28
   refine s_ck 88 #[.int .i64 To, .int .i64 n_] (by kernel_rfl) (c_gtext_within e9.wf hy31) ?_
   rintro _ _ ⟨rfl, rfl⟩
   refine s_qk (.bool (!y30)) (by kernel_rfl) ?_
   refine s_qk (.bool (!y30)) (by kernel_rfl) ?_
   refine s_qk (.bool (!y30)) (by kernel_rfl) ?_
   refine s_nil ?_
   obtain rfl := Option.some.inj r32
   exact k20 _ _ ⟨⟨by kernel_rfl, by kernel_rfl, trivial⟩, rfl⟩
  ·have r35 := ite_f h27 r24
   rw [nb h27]
   refine s_qk (.bool true) (by kernel_rfl) ?_
   refine s_qk (.bool true) (by kernel_rfl) ?_
   refine s_no (by kernel_rfl) ?_
   refine s_no (by kernel_rfl) ?_
   refine s_no (by kernel_rfl) ?_
   refine s_no (by kernel_rfl) ?_
   refine s_no (by kernel_rfl) ?_
   refine s_qk (.bool true) (by kernel_rfl) ?_
   refine s_qk (.bool true) (by kernel_rfl) ?_
   refine s_nil ?_
   obtain rfl := Option.some.inj r35
   exact k20 _ _ ⟨⟨by kernel_rfl, by kernel_rfl, trivial⟩, rfl⟩
 ·obtain ⟨hh21, rfl⟩ := hM
  obtain ⟨β, rfl⟩ := has_ex hh21
  clear hh21
  refine k14 _ _ ?_
  refine w_cond (o15) (by kernel_rfl) rfl (fun h37 => ?_) (fun h37 => ?_)
  ·have r38 := ite_t h37 r17
   refine w_seqk fun K39 k39 => ?_
   refine w_reg (by kernel_rfl) ?_
   refine s_qk (.iface 53 (.int .i64 7)) (by kernel_rfl) ?_
   refine s_qk (.iface 53 (.int .i64 7)) (by kernel_rfl) ?_
   refine s_nil ?_
   refine k39 _ _ ?_
   refine w_ret (bl_ret (th_ret ?_))
   refine b_ret (fn := Tryd.f74) (vs := [.iface 53 (.int .i64 7)]) (aRes_tmp (by kernel_rfl) (rfl)) ?_
   obtain rfl := Option.some.inj r38
   exact ⟨(.iface 53 (.int .i64 7)), [], rfl, ((FrS.refl (W := []) wf).extR e9), Ev.no, Inn.nil⟩
  ·have r40 := ite_bf h37 r17
   refine w_seqk fun K41 k41 => ?_
   refine w_reg (by kernel_rfl) ?_
   refine s_qk (.pointer (some ⟨b7, 2, none⟩)) (by kernel_rfl) ?_
   refine s_ql (.int .i64 Weight) (x := aLoad Tryd.prog 3 (.pointer (some ⟨b7, 2, none⟩)) H8) (by kernel_rfl) (r11.ld (by kernel_rfl)) ?_
   refine s_b (Weight < 0) (by kernel_rfl) (fun h42 => ?_) (fun h42 => ?_)
   ·have r43 := ite_t h42 r40
    refine s_qk (.bool true) (by kernel_rfl) ?_
    refine s_no (by kernel_rfl) ?_
    refine s_no (by kernel_rfl) ?_
    refine s_no (by kernel_rfl) ?_
    refine s_qk (.bool true) (by kernel_rfl) ?_
    refine s_qk (.bool true) (by kernel_rfl) ?_
    refine s_nil ?_
    refine k41 _ _ ?_
    refine w_cond true (by kernel_rfl) rfl (fun _ => ?_) (fun h => by cases h)
    refine w_seqk fun K44 k44 => ?_
    refine w_reg (by kernel_rfl) ?_
    refine s_qk (.iface 53 (.int .i64 8)) (by kernel_rfl) ?_
    refine s_qk (.iface 53 (.int .i64 8)) (by kernel_rfl) ?_
    refine s_nil ?_
    refine k44 _ _ ?_
    refine w_ret (bl_ret (th_ret ?_))
    refine b_ret (fn := Tryd.f74) (vs := [.iface 53 (.int .i64 8)]) (aRes_tmp (by kernel_rfl) (rfl)) ?_
    obtain rfl := Option.some.inj r43
    exact ⟨(.iface 53 (.int .i64 8)), [], rfl, ((FrS.refl (W := []) wf).extR e9), Ev.no, Inn.nil⟩
   ·have r45 := ite_f h42 r40
    refine s_qk (.bool false) (by kernel_rfl) ?_
    refine s_qk (.pointer (some ⟨b7, 2, none⟩)) (by kernel_rfl) ?_
    refine s_ql (.int .i64 Weight) (x := aLoad Tryd.prog 3 (.pointer (some ⟨b7, 2, none⟩)) H8) (by kernel_rfl) (r11.ld (by kernel_rfl)) ?_
    refine s_qk (.bool (decide (Weight > 2147483647))) (by kernel_rfl) ?_
    refine s_qk (.bool (decide (Weight > 2147483647))) (by kernel_rfl) ?_
    refine s_qk (.bool (decide (Weight > 2147483647))) (by kernel_rfl) ?_
    refine s_nil ?_
    refine k41 _ _ ?_
    refine w_condp (Weight > 2147483647) (by kernel_rfl) rfl (fun h46 => ?_) (fun h46 => ?_)
    ·have r47 := ite_t h46 r45
     refine w_seqk fun K48 k48 => ?_
     refine w_reg (by kernel_rfl) ?_
     refine s_qk (.iface 53 (.int .i64 8)) (by kernel_rfl) ?_
     refine s_qk (.iface 53 (.int .i64 8)) (by kernel_rfl) ?_
     refine s_nil ?_
     refine k48 _ _ ?_
     refine w_ret (bl_ret (th_ret ?_))
     refine b_ret (fn := Tryd.f74) (vs := [.iface 53 (.int .i64 8)]) (aRes_tmp (by kernel_rfl) (rfl)) ?_
     obtain rfl := Option.some.inj r47
     exact ⟨(.iface 53 (.int .i64 8)), [], rfl, ((FrS.refl (W := []) wf).extR e9), Ev.no, Inn.nil⟩
    ·have r49 := ite_f h46 r45
     refine w_skip ?_
     refine k13 _ _ ?_
     refine w_seqk fun K50 k50 => ?_
     refine w_reg (by kernel_rfl) ?_
     refine s_qk (.nilIface) (by kernel_rfl) ?_
     refine s_nil ?_
     refine k50 _ _ ?_
     refine w_ret ?_
     refine b_ret (fn := Tryd.f74) (vs := [.nilIface]) (aRes_tmp (by kernel_rfl) (rfl)) ?_
     obtain rfl := Option.some.inj r49
     exact ⟨(.nilIface), [], rfl, ((FrS.refl (W := []) wf).extR e9), Ev.nil, Inn.nil⟩

theorem c_fault_At {H : AH} {ev_err : Value} {fp_err : Fp} {kind : Int} {at_ : Int} {err : Er} {r : Er}
  (wf : WF H) (h_err : Ev 53 90 H ev_err err fp_err) (hr : z_fault_At kind at_ err = some r) :
  ACalls Tryd.prog 63 #[.int .i64 kind, .int .i64 at_, ev_err] H fun v H' => ∃ (v3 : Value) (f4 : Fp), v = v3 ∧ FrS [] H H' ∧ Ev 53 90 H' v3 r f4 ∧ Inn fp_err H f4 := by
 refine acalls_of_body mixed Tryd.func63 rfl (Nat.le_of_ble_eq_true rfl) ?_
 unfold z_fault_At at hr
 refine w_seqk fun K6 k6 => ?_
 refine w_reg (by kernel_rfl) ?_
 refine s_qk (.nilIface) (by kernel_rfl) ?_
 refine s_nil ?_
 refine k6 _ _ ?_
 refine w_seqk fun K7 k7 => ?_
 refine w_seqk fun K8 k8 => ?_
 refine w_reg (by kernel_rfl) ?_
 refine s_qk (ev_err) (by kernel_rfl) ?_
 rcases (h_err).cases with ⟨h9, rfl⟩ | ⟨h9, t10, x11, rfl⟩
 ·have r12 := ite_t h9 hr
  refine s_qk (.bool true) (by kernel_rfl) ?_
  refine s_nil ?_
  refine k8 _ _ ?_
  refine w_cond true (by kernel_rfl) rfl (fun _ => ?_) (fun h => by cases h)
  refine w_seqk fun K13 k13 => ?_
  refine w_reg (by kernel_rfl) ?_
  refine s_qk (.nilIface) (by kernel_rfl) ?_
  refine s_nil ?_
  refine k13 _ _ ?_
  refine w_ret (th_ret ?_)
  refine b_ret (fn := Tryd.f63) (vs := [.nilIface]) (aRes_tmp (by kernel_rfl) (rfl)) ?_
  obtain rfl := Option.some.inj r12
  exact ⟨(.nilIface), [], rfl, (FrS.refl (W := []) wf), Ev.nil, Inn.nil⟩
 ·have r14 := ite_f h9 hr
  refine s_ql (.bool false) (x := aBin Tryd.prog .eql 28 (.tmp 7) (.const .nilIface) (.iface t10 x11) .nilIface) (by kernel_rfl) (aBin_nil (by kernel_rfl)) ?_
  refine s_nil ?_
  refine k8 _ _ ?_
  refine w_cond false (by kernel_rfl) rfl (fun h => by cases h) (fun _ => ?_)
  refine w_skip ?_
  refine k7 _ _ ?_
  refine w_seqk fun K15 k15 => ?_
  refine w_reg (by kernel_rfl) ?_
  refine s_qk (.int .i64 kind) (by kernel_rfl) ?_
  refine s_qk (.int .i64 at_) (by kernel_rfl) ?_
  refine s_qk (.agg #[.int .i64 kind, .int .i64 at_]) (by kernel_rfl) ?_
  refine s_qk (.iface t10 x11) (by kernel_rfl) ?_
  refine s_qk (.agg #[.int .i64 kind, .int .i64 at_, .iface t10 x11]) (by kernel_rfl) ?_
  refine s_rwl wf [.int .i64 kind, .int .i64 at_, .iface t10 x11] (one_cons (rfl) (one_cons (rfl) (one_cons (h_err.one1) (one_nil)))) (by kernel_rfl) fun b16 H17 e18 hb19 r20 => ?_
  have u22 := (h_err.ext e18)
  obtain ⟨fq23, he24, hi25⟩ := Ev.at r20 u22 hb19
  refine s_qk (.iface 90 (.pointer (some ⟨b16, 0, none⟩))) (by kernel_rfl) ?_
  refine s_qk (.iface 90 (.pointer (some ⟨b16, 0, none⟩))) (by kernel_rfl) ?_
  refine s_nil ?_
  refine k15 _ _ ?_
  refine w_ret ?_
  refine b_ret (fn := Tryd.f63) (vs := [.iface 90 (.pointer (some ⟨b16, 0, none⟩))]) (aRes_tmp (by kernel_rfl) (rfl)) ?_
  obtain rfl := Option.some.inj r14
  exact ⟨(.iface 90 (.pointer (some ⟨b16, 0, none⟩))), fq23, rfl, ((FrS.refl (W := []) wf).extR e18), he24, (Inn.trans Inn.refl' (Nat.le_refl _) hi25)⟩

theorem c_gtext_Check {H : AH} {hd_Arcs : Value} {fp_Arcs : Fp} {N_ : Int} {Arcs : List (Int × Int × Int)} {r : Er}
  (wf : WF H) (h_Arcs : Sq enc_i64_i64_i64 3 H hd_Arcs Arcs fp_Arcs) (hr : z_gtext_Check N_ Arcs = some r) :
  ACalls Tryd.prog 47 #[.agg #[.int .i64 N_, hd_Arcs]] H fun v H' => ∃ (v3 : Value) (f4 : Fp), v = v3 ∧ FrS [] H H' ∧ Ev 53 90 H' v3 r f4 ∧ Inn [] H f4 := by
 refine acalls_of_body mixed Tryd.func47 rfl (Nat.le_of_ble_eq_true rfl) ?_
 unfold z_gtext_Check at hr
 refine w_seqk fun K6 k6 => ?_
 refine w_reg (by kernel_rfl) ?_
 refine s_rwl wf [.int .i64 N_, hd_Arcs] (one_cons (rfl) (one_cons (h_Arcs.one1) (one_nil))) (by kernel_rfl) fun b7 H8 e9 hb10 r11 => ?_
 refine s_qk (.nilIface) (by kernel_rfl) ?_
 refine s_nil ?_
 refine k6 _ _ ?_
 refine w_seqk fun K13 k13 => ?_
 refine w_seqk fun K14 k14 => ?_
 obtain ⟨o15, hx16, r17⟩ := bind_some hr
 refine w_mid (fun α H18 => Has α [(1, .pointer (some ⟨b7, 0, none⟩)), (19, .bool o15)] ∧ H8 = H18) (fun K20 k20 => ?_) (fun α H18 hM => ?_)
 ·refine w_reg (by kernel_rfl) ?_
  refine s_qk (.pointer (some ⟨b7, 0, none⟩)) (by kernel_rfl) ?_
  refine s_ql (.int .i64 N_) (x := aLoad Tryd.prog 3 (.pointer (some ⟨b7, 0, none⟩)) H8) (by kernel_rfl) (r11.ld (by kernel_rfl)) ?_
  refine s_b (N_ < 0) (by kernel_rfl) (fun h22 => ?_) (fun h22 => ?_)
  ·have r23 := ite_t h22 hx16
   refine s_qk (.bool true) (by kernel_rfl) ?_
   refine s_no (by kernel_rfl) ?_
   refine s_no (by kernel_rfl) ?_
   refine s_no (by kernel_rfl) ?_
   refine s_qk (.bool true) (by kernel_rfl) ?_
   refine s_qk (.bool true) (by kernel_rfl) ?_
   refine s_no (by kernel_rfl) ?_
   refine s_no (by kernel_rfl) ?_
   refine s_no (by kernel_rfl) ?_
   refine s_no (by kernel_rfl) ?_
   refine s_qk (.bool true) (by kernel_rfl) ?_
   refine s_nil ?_
   obtain rfl := Option.some.inj r23
   exact k20 _ _ ⟨⟨by kernel_rfl, by kernel_rfl, trivial⟩, rfl⟩
  ·have r24 := ite_f h22 hx16
   refine s_qk (.bool false) (by kernel_rfl) ?_
   refine s_qk (.pointer (some ⟨b7, 0, none⟩)) (by kernel_rfl) ?_
   refine s_ql (.int .i64 N_) (x := aLoad Tryd.prog 3 (.pointer (some ⟨b7, 0, none⟩)) H8) (by kernel_rfl) (r11.ld (by kernel_rfl)) ?_
   refine s_b (N_ > 65536) (by kernel_rfl) (fun h25 => ?_) (fun h25 => ?_)
   ·have r26 := ite_t h25 r24
    refine s_qk (.bool true) (by kernel_rfl) ?_
    refine s_qk (.bool true) (by kernel_rfl) ?_
    refine s_no (by kernel_rfl) ?_
    refine s_no (by kernel_rfl) ?_
    refine s_no (by kernel_rfl) ?_
    refine s_no (by kernel_rfl) ?_
    refine s_qk (.bool true) (by kernel_rfl) ?_
    refine s_nil ?_
    obtain rfl := Option.some.inj r26
    exact k20 _ _ ⟨⟨by kernel_rfl, by kernel_rfl, trivial⟩, rfl⟩
   ·have r27 := ite_f h25 r24
    refine s_qk (.bool false) (by kernel_rfl) ?_
    refine s_qk (.bool false) (by kernel_rfl) ?_
    refine s_qk (.pointer (some ⟨b7, 1, none⟩)) (by kernel_rfl) ?_
    refine s_ql (hd_Arcs) (x := aLoad Tryd.prog 22 (.pointer (some ⟨b7, 1, none⟩)) H8) (by kernel_rfl) (r11.ld (by kernel_rfl)) ?_
    have u28 := (h_Arcs.ext e9)
    refine s_ql (.int .i64 (Arcs.length : Int)) (x := aLen Tryd.prog 22 hd_Arcs H8) (by kernel_rfl) (u28.lenb (by kernel_rfl)) ?_
    refine s_qk (.bool (decide ((Arcs.length : Int) > 262144))) (by kernel_rfl) ?_
    refine s_qk (.bool (decide ((Arcs.length : Int) > 262144))) (by kernel_rfl) ?_
    refine s_nil ?_
    obtain rfl := Option.some.inj r27
    exact k20 _ _ ⟨⟨by kernel_rfl, by kernel_rfl, trivial⟩, rfl⟩
 ·obtain ⟨hh21, rfl⟩ := hM
  obtain ⟨β, rfl⟩ := has_ex hh21
  clear hh21
  refine k14 _ _ ?_
  refine w_cond (o15) (by kernel_rfl) rfl (fun h29 => ?_) (fun h29 => ?_)
  ·have r30 := ite_t h29 r17
   refine w_seqk fun K31 k31 => ?_
   refine w_reg (by kernel_rfl) ?_
   refine s_qk (.iface 53 (.int .i64 9)) (by kernel_rfl) ?_
   refine s_qk (.iface 53 (.int .i64 9)) (by kernel_rfl) ?_
   refine s_nil ?_
   refine k31 _ _ ?_
   refine w_ret (th_ret ?_)
   refine b_ret (fn := Tryd.f47) (vs := [.iface 53 (.int .i64 9)]) (aRes_tmp (by kernel_rfl) (rfl)) ?_
   obtain rfl := Option.some.inj r30
   exact ⟨(.iface 53 (.int .i64 9)), [], rfl, ((FrS.refl (W := []) wf).extR e9), Ev.no, Inn.nil⟩
  ·have r32 := ite_bf h29 r17
   refine w_skip ?_
   refine k13 _ _ ?_
   refine w_seqk fun K33 k33 => ?_
   refine w_seqk fun K34 k34 => ?_
   refine w_reg (by kernel_rfl) ?_
   refine s_qk (.pointer (some ⟨b7, 1, none⟩)) (by kernel_rfl) ?_
   refine s_ql (hd_Arcs) (x := aLoad Tryd.prog 22 (.pointer (some ⟨b7, 1, none⟩)) H8) (by kernel_rfl) (r11.ld (by kernel_rfl)) ?_
   have u35 := (h_Arcs.ext e9)
   refine s_ql (.int .i64 (Arcs.length : Int)) (x := aLen Tryd.prog 22 hd_Arcs H8) (by kernel_rfl) (u35.lenb (by kernel_rfl)) ?_
   refine s_qk (.int .i64 0) (by kernel_rfl) ?_
   refine s_nil ?_
   refine k34 _ _ ?_
   obtain ⟨z39, hx37, r38⟩ := bind_some r32
   refine w_mid (fun α H40 => ∃ o36, z39 = Sum.inr o36 ∧ Has α [] ∧ FrS [] H8 H40) (fun K42 k42 => ?_) (fun α H40 hM => ?_)
   ·refine w_block ?_
    obtain ⟨n44, hn45⟩ := loopO_iff.1 hx37
    refine w_loopn (fun n α H46 => ∃ (i0 : Int), iterO (fun zz_ => z_gtext_Check_l0 N_ Arcs zz_) n i0 = some z39 ∧ Has α [(1, .pointer (some ⟨b7, 0, none⟩)), (22, hd_Arcs), (23, .int .i64 (Arcs.length : Int)), (24, .int .i64 i0)] ∧ FrS [] H8 H46) n44 ⟨0, hn45, ⟨by kernel_rfl, by kernel_rfl, by kernel_rfl, by kernel_rfl, trivial⟩, (FrS.refl (W := []) e9.wf)⟩ ?_
    rintro n44 α H46 ⟨i0, hi49, hh48, e47⟩ K54 k54
    obtain ⟨n50, z51, rfl, hz52, hn53⟩ := iter_succ hi49
    obtain ⟨β, rfl⟩ := has_ex hh48
    clear hh48
    replace hz52 : z_gtext_Check_l0 N_ Arcs i0 = some z51 := hz52
    unfold z_gtext_Check_l0 at hz52
    refine w_seqk fun K55 k55 => ?_
    refine w_reg (by kernel_rfl) ?_
    refine s_qk (.bool (decide (i0 < (Arcs.length : Int)))) (by kernel_rfl) ?_
    refine s_nil ?_
    refine k55 _ _ ?_
    refine w_seqk fun K56 k56 => ?_
    refine w_condp (i0 < (Arcs.length : Int)) (by kernel_rfl) rfl (fun h57 => ?_) (fun h57 => ?_)
    ·have r58 := ite_t h57 hz52
     refine w_skip ?_
     refine k56 _ _ ?_
     refine w_seqk fun K59 k59 => ?_
     refine w_block ?_
     refine w_seqk fun K60 k60 => ?_
     refine w_reg (by kernel_rfl) ?_
     refine s_qk (.int .i64 i0) (by kernel_rfl) ?_
     obtain ⟨g61, r62⟩ := G_some r58
     have u63 := (u35.fr e47 Dj.nil_l)
     refine s_ql (elp hd_Arcs 3 i0.toNat 0) (x := aIndexAddr Tryd.prog 22 hd_Arcs (.int .i64 i0)) (by kernel_rfl) (u63.idxb (by kernel_rfl) g61 h57) ?_
     refine s_ql (.agg #[.int .i64 ((gt Arcs i0).1), .int .i64 ((gt Arcs i0).2.1), .int .i64 ((gt Arcs i0).2.2)]) (x := aLoad Tryd.prog 51 (elp hd_Arcs 3 i0.toNat 0) H46) (by kernel_rfl) (u63.ld g61 h57 (by kernel_rfl)) ?_
     refine s_rwk e47.wf [.int .i64 0, .int .i64 0, .int .i64 0] (by kernel_rfl) fun b64 H65 e66 hb67 r68 => ?_
     refine s_qk (.int .i64 i0) (by kernel_rfl) ?_
     obtain ⟨H70, q71, e72, r73⟩ := Row.store (P := Tryd.prog) (t := 51) (p := 0) e66.wf r68 (.agg #[.int .i64 ((gt Arcs i0).1), .int .i64 ((gt Arcs i0).2.1), .int .i64 ((gt Arcs i0).2.2)]) [.int .i64 ((gt Arcs i0).1), .int .i64 ((gt Arcs i0).2.1), .int .i64 ((gt Arcs i0).2.2)] (by kernel_rfl) (by kernel_rfl) (one_cons (rfl) (one_cons (rfl) (one_cons (rfl) (one_nil)))) (Nat.le_of_ble_eq_true (by kernel_rfl)) [.int .i64 ((gt Arcs i0).1), .int .i64 ((gt Arcs i0).2.1), .int .i64 ((gt Arcs i0).2.2)] (by kernel_rfl)
     refine s_ek (undef) (by kernel_rfl) (map_ok q71) ?_
     refine s_nil ?_
     refine k60 _ _ ?_
     refine w_seqk fun K74 k74 => ?_
     refine w_reg (by kernel_rfl) ?_
     refine s_ql (.agg #[.int .i64 ((gt Arcs i0).1), .int .i64 ((gt Arcs i0).2.1), .int .i64 ((gt Arcs i0).2.2)]) (x := aLoad Tryd.prog 51 (.pointer (some ⟨b64, 0, none⟩)) H70) (by kernel_rfl) (r73.ld (by kernel_rfl)) ?_
     refine s_qk (.pointer (some ⟨b7, 0, none⟩)) (by kernel_rfl) ?_
     have u75 := (((r11.frS e47 Dj.nil_l).ext e66).frS e72 (hb67.djn (r11.ltF.le e47.next)))
     refine s_ql (.int .i64 N_) (x := aLoad Tryd.prog 3 (.pointer (some ⟨b7, 0, none⟩)) H70) (by kernel_rfl) (u75.ld (by kernel_rfl)) ?_
     obtain ⟨y76, hy77, r78⟩ := bind_some r62
     refine s_ck 74 #[.agg #[.int .i64 ((gt Arcs i0).1), .int .i64 ((gt Arcs i0).2.1), .int .i64 ((gt Arcs i0).2.2)], .int .i64 N_] (by kernel_rfl) (c_gtext_arc e72.wf hy77) ?_
     rintro v79 H81 ⟨_, f80, rfl, e82, m83, i84⟩
     refine s_qk (v79) (by kernel_rfl) ?_
     refine s_nil ?_
     refine k74 _ _ ?_
     refine w_seqk fun K86 k86 => ?_
     refine w_reg (by kernel_rfl) ?_
     refine s_qk (v79) (by kernel_rfl) ?_
     rcases (m83).cases with ⟨h87, rfl⟩ | ⟨h87, t88, x89, rfl⟩
     ·have r90 := ite_t h87 r78
      refine s_qk (.bool false) (by kernel_rfl) ?_
      refine s_nil ?_
      refine k86 _ _ ?_
      refine w_cond false (by kernel_rfl) rfl (fun h => by cases h) (fun _ => ?_)
      refine w_skip ?_
      refine k59 _ _ ?_
      refine w_reg (by kernel_rfl) ?_
      obtain ⟨g91, r92⟩ := G_some r90
      refine s_w ((i0 + 1)) (k := .i64) (x := (i0 + 1)) (by kernel_rfl) (wrap64 (by have := g91; omega)) ?_
      refine s_qk (.int .i64 (i0 + 1)) (by kernel_rfl) ?_
      refine s_nil ?_
      obtain rfl := Option.some.inj r92
      exact k54 n50 _ _ (Nat.lt_succ_self _) ⟨(i0 + 1), hn53, ⟨by kernel_rfl, by kernel_rfl, by kernel_rfl, by kernel_rfl, trivial⟩, (FrS.step e9.wf (FrS.step e9.wf ((FrS.step e9.wf (FrS.refl (W := []) e9.wf) e47 Inn.nil).extR e66) e72 (hb67.fresh e47.next)) e82 Inn.nil)⟩
     ·have r93 := ite_f h87 r78
      refine s_ql (.bool true) (x := aBin Tryd.prog .neq 28 (.tmp 33) (.const .nilIface) (.iface t88 x89) .nilIface) (by kernel_rfl) (aBin_nnil (by kernel_rfl)) ?_
      refine s_nil ?_
      refine k86 _ _ ?_
      refine w_cond true (by kernel_rfl) rfl (fun _ => ?_) (fun h => by cases h)
      refine w_seqk fun K94 k94 => ?_
      refine w_reg (by kernel_rfl) ?_
      refine s_qk (.int .i64 i0) (by kernel_rfl) ?_
      refine s_qk (.iface t88 x89) (by kernel_rfl) ?_
      obtain ⟨y95, hy96, r97⟩ := bind_some r93
      refine s_ck 63 #[.int .i64 4, .int .i64 i0, .iface t88 x89] (by kernel_rfl) (c_fault_At e82.wf m83 hy96) ?_
      rintro v98 H100 ⟨_, f99, rfl, e101, m102, i103⟩
      refine s_qk (v98) (by kernel_rfl) ?_
      refine s_nil ?_
      refine k94 _ _ ?_
      refine w_ret (bl_ret (th_ret (th_ret (bl_ret (th_ret (th_ret ?_))))))
      obtain ⟨v105, hv106, hz107⟩ := map_some r97
      subst hz107
      obtain rfl := it_inr hn53
      have hq108 := elim_inl r38
      rw [hq108] at hv106
      refine b_ret (fn := Tryd.f47) (vs := [v98]) (aRes_tmp (by kernel_rfl) (rfl)) ?_
      obtain rfl := Option.some.inj hv106
      exact ⟨(v98), f99, rfl, (FrS.step wf (FrS.step wf (FrS.step wf ((FrS.step wf ((FrS.refl (W := []) wf).extR e9) e47 Inn.nil).extR e66) e72 (hb67.fresh (ntr e9.next e47.next))) e82 Inn.nil) e101 Inn.nil), m102, (Inn.trans (i84.fresh (ntr (ntr (ntr e9.next e47.next) e66.next) e72.next)) (ntr (ntr (ntr (ntr e9.next e47.next) e66.next) e72.next) e82.next) i103)⟩
    ·have r109 := ite_f h57 hz52
     refine w_exit (th_exit (th_exit (bl_eq ?_)))
     obtain rfl := Option.some.inj r109
     obtain rfl := it_inr hn53
     exact k42 _ _ ⟨_, rfl, trivial, (FrS.step e9.wf (FrS.refl (W := []) e9.wf) e47 Inn.nil)⟩
   ·obtain ⟨o36, rfl, hh43, e41⟩ := hM
    have r110 := elim_inr r38
    obtain ⟨β, rfl⟩ := has_ex hh43
    clear hh43
    refine k33 _ _ ?_
    refine w_seqk fun K111 k111 => ?_
    refine w_reg (by kernel_rfl) ?_
    refine s_qk (.nilIface) (by kernel_rfl) ?_
    refine s_nil ?_
    refine k111 _ _ ?_
    refine w_ret ?_
    refine b_ret (fn := Tryd.f47) (vs := [.nilIface]) (aRes_tmp (by kernel_rfl) (rfl)) ?_
    obtain rfl := Option.some.inj r110
    exact ⟨(.nilIface), [], rfl, (FrS.step wf ((FrS.refl (W := []) wf).extR e9) e41 Inn.nil), Ev.nil, Inn.nil⟩

theorem c_normal_Reverse {H : AH} {hd_Arcs : Value} {fp_Arcs : Fp} {N_ : Int} {Arcs : List (Int × Int × Int)} {r : Int × List (Int × Int × Int) × Er}
  (wf : WF H) (h_Arcs : Sq enc_i64_i64_i64 3 H hd_Arcs Arcs fp_Arcs) (hr : z_normal_Reverse N_ Arcs = some r) :
  ACalls Tryd.prog 19 #[.agg #[.int .i64 N_, hd_Arcs]] H fun v H' => ∃ (s3 : Value) (f4 : Fp) (v7 : Value) (f8 : Fp), v = .tuple #[.agg #[.int .i64 r.1, s3], v7] ∧ FrS [] H H' ∧ Ow enc_i64_i64_i64 3 H' s3 r.2.1 f4 ∧ Ev 53 90 H' v7 r.2.2 f8 ∧ Inn [] H f4 ∧ Inn [] H f8 ∧ Dj f4 f8 := by
 refine acalls_of_body mixed Tryd.func19 rfl (Nat.le_of_ble_eq_true rfl) ?_
 unfold z_normal_Reverse at hr
 refine w_seqk fun K12 k12 => ?_
 refine w_reg (by kernel_rfl) ?_
 refine s_rwl wf [.int .i64 N_, hd_Arcs] (one_cons (rfl) (one_cons (h_Arcs.one1) (one_nil))) (by kernel_rfl) fun b13 H14 e15 hb16 r17 => ?_
 refine s_rwk e15.wf [.int .i64 0, .slice none 0 0] (by kernel_rfl) fun b19 H20 e21 hb22 r23 => ?_
 refine s_qk (.nilIface) (by kernel_rfl) ?_
 refine s_nil ?_
 refine k12 _ _ ?_
 refine w_seqk fun K25 k25 => ?_
 refine w_seqk fun K26 k26 => ?_
 refine w_reg (by kernel_rfl) ?_
 have u27 := (r17.ext e21)
 refine s_ql (.agg #[.int .i64 N_, hd_Arcs]) (x := aLoad Tryd.prog 24 (.pointer (some ⟨b13, 0, none⟩)) H20) (by kernel_rfl) (u27.ld (by kernel_rfl)) ?_
 have u28 := ((h_Arcs.ext e15).ext e21)
 obtain ⟨y29, hy30, r31⟩ := bind_some hr
 refine s_ck 47 #[.agg #[.int .i64 N_, hd_Arcs]] (by kernel_rfl) (c_gtext_Check e21.wf u28 hy30) ?_
 rintro v32 H34 ⟨_, f33, rfl, e35, m36, i37⟩
 refine s_qk (v32) (by kernel_rfl) ?_
 refine s_nil ?_
 refine k26 _ _ ?_
 refine w_seqk fun K39 k39 => ?_
 refine w_reg (by kernel_rfl) ?_
 refine s_qk (v32) (by kernel_rfl) ?_
 rcases (m36).cases with ⟨h40, rfl⟩ | ⟨h40, t41, x42, rfl⟩
 ·have r43 := ite_t h40 r31
  refine s_qk (.bool false) (by kernel_rfl) ?_
  refine s_nil ?_
  refine k39 _ _ ?_
  refine w_cond false (by kernel_rfl) rfl (fun h => by cases h) (fun _ => ?_)
  refine w_skip ?_
  refine k25 _ _ ?_
  refine w_seqk fun K44 k44 => ?_
  refine w_reg (by kernel_rfl) ?_
  refine s_qk (.pointer (some ⟨b13, 0, none⟩)) (by kernel_rfl) ?_
  have u45 := (u27.frS e35 Dj.nil_l)
  refine s_ql (.int .i64 N_) (x := aLoad Tryd.prog 3 (.pointer (some ⟨b13, 0, none⟩)) H34) (by kernel_rfl) (u45.ld (by kernel_rfl)) ?_
  refine s_qk (.agg #[.int .i64 N_, .slice none 0 0]) (by kernel_rfl) ?_
  refine s_rwk e35.wf [.int .i64 0, .slice none 0 0] (by kernel_rfl) fun b46 H47 e48 hb49 r50 => ?_
  obtain ⟨H52, q53, e54, r55⟩ := Row.store (P := Tryd.prog) (t := 24) (p := 0) e48.wf r50 (.agg #[.int .i64 N_, .slice none 0 0]) [.int .i64 N_, .slice none 0 0] (by kernel_rfl) (by kernel_rfl) (one_cons (rfl) (one_cons (rfl) (one_nil))) (Nat.le_of_ble_eq_true (by kernel_rfl)) [.int .i64 N_, .slice none 0 0] (by kernel_rfl)
  refine s_ek (undef) (by kernel_rfl) (map_ok q53) ?_
  refine s_nil ?_
  refine k44 _ _ ?_
  refine w_seqk fun K56 k56 => ?_
  refine w_seqk fun K57 k57 => ?_
  refine w_reg (by kernel_rfl) ?_
  refine s_qk (.pointer (some ⟨b13, 1, none⟩)) (by kernel_rfl) ?_
  have u58 := ((u45.ext e48).frS e54 (hb49.djn (r17.ltF.le (ntr e21.next e35.next))))
  refine s_ql (hd_Arcs) (x := aLoad Tryd.prog 22 (.pointer (some ⟨b13, 1, none⟩)) H52) (by kernel_rfl) (u58.ld (by kernel_rfl)) ?_
  have u59 := (((u28.fr e35 Dj.nil_l).ext e48).fr e54 (hb49.djn (h_Arcs.lt.le (ntr (ntr e15.next e21.next) e35.next))))
  refine s_ql (.int .i64 (Arcs.length : Int)) (x := aLen Tryd.prog 22 hd_Arcs H52) (by kernel_rfl) (u59.lenb (by kernel_rfl)) ?_
  refine s_qk (.int .i64 0) (by kernel_rfl) ?_
  refine s_nil ?_
  refine k57 _ _ ?_
  obtain ⟨o60, hx61, r62⟩ := bind_some r43
  refine w_mid (fun α H63 => ∃ (s67 : Value) (f68 : Fp), Has α [(2, .pointer (some ⟨b19, 0, none⟩)), (5, .pointer (some ⟨b46, 0, none⟩))] ∧ FrS [b46] H52 H63 ∧ Ow enc_i64_i64_i64 3 H63 s67 o60 f68 ∧ Row H63 b46 [.int .i64 N_, s67] ∧ Inn [] H52 f68) (fun K72 k72 => ?_) (fun α H63 hM => ?_)
  ·refine w_block ?_
   obtain ⟨n74, hn75⟩ := loopO_iff.1 hx61
   refine w_loopn (fun n α H76 => ∃ (i0 : Int), ∃ (c1 : List (Int × Int × Int)), ∃ (s80 : Value), ∃ (f81 : Fp), iterO (fun zz_ => z_normal_Reverse_l0 Arcs zz_.1 zz_.2) n (i0, c1) = some o60 ∧ Has α [(2, .pointer (some ⟨b19, 0, none⟩)), (5, .pointer (some ⟨b46, 0, none⟩)), (18, hd_Arcs), (19, .int .i64 (Arcs.length : Int)), (20, .int .i64 i0)] ∧ FrS [b46] H52 H76 ∧ Ow enc_i64_i64_i64 3 H76 s80 c1 f81 ∧ Row H76 b46 [.int .i64 N_, s80] ∧ Inn [] H52 f81) n74 ⟨0, [], (.slice none 0 0), [], hn75, ⟨by kernel_rfl, by kernel_rfl, by kernel_rfl, by kernel_rfl, by kernel_rfl, trivial⟩, (FrS.refl (W := [b46]) e54.wf), (Ow.nil (by decide)), r55, Inn.nil⟩ ?_
   rintro n74 α H76 ⟨i0, c1, s80, f81, hi86, hh85, e77, m79, m83, i84⟩ K91 k91
   obtain ⟨n87, z88, rfl, hz89, hn90⟩ := iter_succ hi86
   obtain ⟨β, rfl⟩ := has_ex hh85
   clear hh85
   replace hz89 : z_normal_Reverse_l0 Arcs i0 c1 = some z88 := hz89
   unfold z_normal_Reverse_l0 at hz89
   obtain ⟨a92, n93, c94, rfl⟩ := m79.form
   refine w_seqk fun K95 k95 => ?_
   refine w_reg (by kernel_rfl) ?_
   refine s_qk (.bool (decide (i0 < (Arcs.length : Int)))) (by kernel_rfl) ?_
   refine s_nil ?_
   refine k95 _ _ ?_
   refine w_seqk fun K96 k96 => ?_
   refine w_condp (i0 < (Arcs.length : Int)) (by kernel_rfl) rfl (fun h97 => ?_) (fun h97 => ?_)
   ·have r98 := ite_t h97 hz89
    refine w_skip ?_
    refine k96 _ _ ?_
    refine w_seqk fun K99 k99 => ?_
    refine w_block ?_
    refine w_seqk fun K100 k100 => ?_
    refine w_reg (by kernel_rfl) ?_
    obtain ⟨g101, r102⟩ := G_some r98
    have u103 := (u59.fr e77 (hb49.djn (h_Arcs.lt.le (ntr (ntr e15.next e21.next) e35.next))))
    refine s_ql (elp hd_Arcs 3 i0.toNat 0) (x := aIndexAddr Tryd.prog 22 hd_Arcs (.int .i64 i0)) (by kernel_rfl) (u103.idxb (by kernel_rfl) g101 h97) ?_
    refine s_ql (.agg #[.int .i64 ((gt Arcs i0).1), .int .i64 ((gt Arcs i0).2.1), .int .i64 ((gt Arcs i0).2.2)]) (x := aLoad Tryd.prog 51 (elp hd_Arcs 3 i0.toNat 0) H76) (by kernel_rfl) (u103.ld g101 h97 (by kernel_rfl)) ?_
    refine s_rwk e77.wf [.int .i64 0, .int .i64 0, .int .i64 0] (by kernel_rfl) fun b104 H105 e106 hb107 r108 => ?_
    obtain ⟨H110, q111, e112, r113⟩ := Row.store (P := Tryd.prog) (t := 51) (p := 0) e106.wf r108 (.agg #[.int .i64 ((gt Arcs i0).1), .int .i64 ((gt Arcs i0).2.1), .int .i64 ((gt Arcs i0).2.2)]) [.int .i64 ((gt Arcs i0).1), .int .i64 ((gt Arcs i0).2.1), .int .i64 ((gt Arcs i0).2.2)] (by kernel_rfl) (by kernel_rfl) (one_cons (rfl) (one_cons (rfl) (one_cons (rfl) (one_nil)))) (Nat.le_of_ble_eq_true (by kernel_rfl)) [.int .i64 ((gt Arcs i0).1), .int .i64 ((gt Arcs i0).2.1), .int .i64 ((gt Arcs i0).2.2)] (by kernel_rfl)
    refine s_ek (undef) (by kernel_rfl) (map_ok q111) ?_
    refine s_nil ?_
    refine k100 _ _ ?_
    refine w_reg (by kernel_rfl) ?_
    refine s_qk (.pointer (some ⟨b46, 1, none⟩)) (by kernel_rfl) ?_
    have u114 := ((m83.ext e106).frS e112 (hb107.djn (r50.ltF.le (ntr e54.next e77.next))))
    refine s_ql (.slice a92 n93 c94) (x := aLoad Tryd.prog 22 (.pointer (some ⟨b46, 1, none⟩)) H110) (by kernel_rfl) (u114.ld (by kernel_rfl)) ?_
    refine s_qk (.pointer (some ⟨b104, 1, none⟩)) (by kernel_rfl) ?_
    refine s_ql (.int .i64 ((gt Arcs i0).2.1)) (x := aLoad Tryd.prog 3 (.pointer (some ⟨b104, 1, none⟩)) H110) (by kernel_rfl) (r113.ld (by kernel_rfl)) ?_
    refine s_qk (.pointer (some ⟨b104, 0, none⟩)) (by kernel_rfl) ?_
    refine s_ql (.int .i64 ((gt Arcs i0).1)) (x := aLoad Tryd.prog 3 (.pointer (some ⟨b104, 0, none⟩)) H110) (by kernel_rfl) (r113.ld (by kernel_rfl)) ?_
    refine s_qk (.pointer (some ⟨b104, 2, none⟩)) (by kernel_rfl) ?_
    refine s_ql (.int .i64 ((gt Arcs i0).2.2)) (x := aLoad Tryd.prog 3 (.pointer (some ⟨b104, 2, none⟩)) H110) (by kernel_rfl) (r113.ld (by kernel_rfl)) ?_
    refine s_qk (.agg #[.int .i64 ((gt Arcs i0).2.1), .int .i64 ((gt Arcs i0).1), .int .i64 ((gt Arcs i0).2.2)]) (by kernel_rfl) ?_
    refine s_owk (enc := enc_i64_i64_i64) (sz := 3) e112.wf [((gt Arcs i0).2.1, (gt Arcs i0).1, (gt Arcs i0).2.2)] 1 (by decide) (fun _ _ => rfl) (fun _ _ => rfl) rfl (by kernel_rfl) fun s115 f116 H117 e118 hf119 hm120 => ?_
    obtain ⟨a121, n122, c123, rfl⟩ := hm120.form
    have u125 := (((m79.ext e106).fr e112 (hb107.djn m79.lt)).ext e118)
    obtain ⟨g126, r127⟩ := G_some r102
    obtain ⟨s128, H129, f130, q134, e131, hm132, hf133⟩ := Ow.append (P := Tryd.prog) 24 e118.wf u125 hm120.sq (fun _ _ => rfl) (at_ := #[22, 22]) rfl rfl (by kernel_rfl) (by kernel_rfl) (by decide) (by have := g126; first | omega | (simp only [List.length_cons, List.length_nil] at this ⊢; omega) | (simp at this ⊢; omega))
    obtain ⟨a135, n136, c137, rfl⟩ := hm132.form
    refine s_ek (.slice a135 n136 c137) (by kernel_rfl) (q134) ?_
    refine s_qk (.pointer (some ⟨b46, 1, none⟩)) (by kernel_rfl) ?_
    have u143 := ((u114.ext e118).frS e131 (i84.djn (r50.ltF.le e54.next)))
    obtain ⟨H139, q140, e141, r142⟩ := Row.store (P := Tryd.prog) (t := 22) (p := 1) e131.wf u143 (.slice a135 n136 c137) [.slice a135 n136 c137] (by kernel_rfl) (by kernel_rfl) (one_cons (hm132.one1) (one_nil)) (Nat.le_of_ble_eq_true (by kernel_rfl)) [.int .i64 N_, .slice a135 n136 c137] (by kernel_rfl)
    refine s_ek (undef) (by kernel_rfl) (map_ok q140) ?_
    refine s_nil ?_
    refine k99 _ _ ?_
    refine w_reg (by kernel_rfl) ?_
    obtain ⟨g144, r145⟩ := G_some r127
    refine s_w ((i0 + 1)) (k := .i64) (x := (i0 + 1)) (by kernel_rfl) (wrap64 (by have := g144; omega)) ?_
    refine s_qk (.int .i64 (i0 + 1)) (by kernel_rfl) ?_
    refine s_nil ?_
    have u146 := (hm132.fr e141 (Dj.symm (hf133.dj (i84.djn (r50.ltF.le e54.next)) (r50.ltF.le (ntr (ntr (ntr (ntr e54.next e77.next) e106.next) e112.next) e118.next)))))
    obtain rfl := Option.some.inj r145
    exact k91 n87 _ _ (Nat.lt_succ_self _) ⟨(i0 + 1), (c1 ++ [((gt Arcs i0).2.1, (gt Arcs i0).1, (gt Arcs i0).2.2)]), (.slice a135 n136 c137), f130, hn90, ⟨by kernel_rfl, by kernel_rfl, by kernel_rfl, by kernel_rfl, by kernel_rfl, trivial⟩, (FrS.step e54.wf (FrS.step e54.wf ((FrS.step e54.wf ((FrS.step e54.wf (FrS.refl (W := [b46]) e54.wf) e77 Inn.refl').extR e106) e112 (hb107.fresh e77.next)).extR e118) e131 (i84.fresh (Nat.le_refl _))) e141 Inn.refl'), u146, r142, (Inn.trans (i84.fresh (Nat.le_refl _)) (ntr (ntr (ntr e77.next e106.next) e112.next) e118.next) hf133)⟩
   ·have r147 := ite_f h97 hz89
    refine w_exit (th_exit (th_exit (bl_eq ?_)))
    obtain rfl := Option.some.inj r147
    obtain rfl := it_inr hn90
    exact k72 _ _ ⟨(.slice a92 n93 c94), f81, ⟨by kernel_rfl, by kernel_rfl, trivial⟩, (FrS.step e54.wf (FrS.refl (W := [b46]) e54.wf) e77 Inn.refl'), m79, m83, (i84.fresh (Nat.le_refl _))⟩
  ·obtain ⟨s67, f68, hh73, e64, m66, m70, i71⟩ := hM
   obtain ⟨β, rfl⟩ := has_ex hh73
   clear hh73
   obtain ⟨a148, n149, c150, rfl⟩ := m66.form
   refine k56 _ _ ?_
   refine w_seqk fun K151 k151 => ?_
   refine w_reg (by kernel_rfl) ?_
   refine s_ql (.agg #[.int .i64 N_, .slice a148 n149 c150]) (x := aLoad Tryd.prog 24 (.pointer (some ⟨b46, 0, none⟩)) H63) (by kernel_rfl) (m70.ld (by kernel_rfl)) ?_
   have u156 := ((((r23.frS e35 Dj.nil_l).ext e48).frS e54 (hb49.djn (r23.ltF.le e35.next))).frS e64 (hb49.djn (r23.ltF.le e35.next)))
   obtain ⟨H152, q153, e154, r155⟩ := Row.store (P := Tryd.prog) (t := 24) (p := 0) e64.wf u156 (.agg #[.int .i64 N_, .slice a148 n149 c150]) [.int .i64 N_, .slice a148 n149 c150] (by kernel_rfl) (by kernel_rfl) (one_cons (rfl) (one_cons (m66.one1) (one_nil))) (Nat.le_of_ble_eq_true (by kernel_rfl)) [.int .i64 N_, .slice a148 n149 c150] (by kernel_rfl)
   refine s_ek (undef) (by kernel_rfl) (map_ok q153) ?_
   refine s_qk (.nilIface) (by kernel_rfl) ?_
   refine s_nil ?_
   refine k151 _ _ ?_
   refine w_ret ?_
   refine b_ret (fn := Tryd.f19) (vs := [.agg #[.int .i64 N_, .slice a148 n149 c150], .nilIface]) (aRes_cell (Eq.trans (b := aLoad Tryd.prog 24 (.pointer (some ⟨b19, 0, none⟩)) H152) (by kernel_rfl) (r155.ld (by kernel_rfl))) (aRes_tmp (by kernel_rfl) (rfl))) ?_
   have u157 := (m66.fr e154 (Dj.symm (i71.djn (r23.ltF.le (ntr (ntr e35.next e48.next) e54.next)))))
   obtain rfl := Option.some.inj r62
   exact ⟨(.slice a148 n149 c150), f68, (.nilIface), [], rfl, (FrS.step wf (FrS.step wf (FrS.step wf ((FrS.step wf (((FrS.refl (W := []) wf).extR e15).extR e21) e35 Inn.nil).extR e48) e54 (hb49.fresh (ntr (ntr e15.next e21.next) e35.next))) e64 (hb49.fresh (ntr (ntr e15.next e21.next) e35.next))) e154 (hb22.fresh e15.next)), u157, Ev.nil, (i71.fresh (ntr (ntr (ntr (ntr e15.next e21.next) e35.next) e48.next) e54.next)), Inn.nil, Dj.nil_r⟩
 ·have r158 := ite_f h40 r31
  refine s_ql (.bool true) (x := aBin Tryd.prog .neq 28 (.tmp 10) (.const .nilIface) (.iface t41 x42) .nilIface) (by kernel_rfl) (aBin_nnil (by kernel_rfl)) ?_
  refine s_nil ?_
  refine k39 _ _ ?_
  refine w_cond true (by kernel_rfl) rfl (fun _ => ?_) (fun h => by cases h)
  refine w_seqk fun K159 k159 => ?_
  refine w_reg (by kernel_rfl) ?_
  refine s_qk (.agg #[.int .i64 0, .slice none 0 0]) (by kernel_rfl) ?_
  refine s_qk (.iface t41 x42) (by kernel_rfl) ?_
  have u164 := (r23.frS e35 Dj.nil_l)
  obtain ⟨H160, q161, e162, r163⟩ := Row.store (P := Tryd.prog) (t := 24) (p := 0) e35.wf u164 (.agg #[.int .i64 0, .slice none 0 0]) [.int .i64 0, .slice none 0 0] (by kernel_rfl) (by kernel_rfl) (one_cons (rfl) (one_cons (rfl) (one_nil))) (Nat.le_of_ble_eq_true (by kernel_rfl)) [.int .i64 0, .slice none 0 0] (by kernel_rfl)
  refine s_ek (undef) (by kernel_rfl) (map_ok q161) ?_
  refine s_qk (.iface t41 x42) (by kernel_rfl) ?_
  refine s_nil ?_
  refine k159 _ _ ?_
  refine w_ret (th_ret ?_)
  refine b_ret (fn := Tryd.f19) (vs := [.agg #[.int .i64 0, .slice none 0 0], .iface t41 x42]) (aRes_cell (Eq.trans (b := aLoad Tryd.prog 24 (.pointer (some ⟨b19, 0, none⟩)) H160) (by kernel_rfl) (r163.ld (by kernel_rfl))) (aRes_tmp (by kernel_rfl) (rfl))) ?_
  have u165 := (m36.fr e162 (Dj.symm (i37.djn r23.ltF)))
  obtain rfl := Option.some.inj r158
  exact ⟨(.slice none 0 0), [], (.iface t41 x42), f33, rfl, (FrS.step wf (FrS.step wf (((FrS.refl (W := []) wf).extR e15).extR e21) e35 Inn.nil) e162 (hb22.fresh e15.next)), (Ow.nil (by decide)), u165, Inn.nil, (i37.fresh (ntr e15.next e21.next)), Dj.nil_l⟩

theorem c_normal_Degrees {H : AH} {hd_Arcs : Value} {fp_Arcs : Fp} {N_ : Int} {Arcs : List (Int × Int × Int)} {r : List (Int) × List (Int) × Er}
  (wf : WF H) (h_Arcs : Sq enc_i64_i64_i64 3 H hd_Arcs Arcs fp_Arcs) (hr : z_normal_Degrees N_ Arcs = some r) :
  ACalls Tryd.prog 21 #[.agg #[.int .i64 N_, hd_Arcs]] H fun v H' => ∃ (s3 : Value) (f4 : Fp) (s7 : Value) (f8 : Fp) (v11 : Value) (f12 : Fp), v = .tuple #[s3, s7, v11] ∧ FrS [] H H' ∧ Ow (encI .i64) 1 H' s3 r.1 f4 ∧ Ow (encI .i64) 1 H' s7 r.2.1 f8 ∧ Ev 53 90 H' v11 r.2.2 f12 ∧ Inn [] H f4 ∧ Inn [] H f8 ∧ Inn [] H f12 ∧ Dj f4 f8 ∧ Dj f4 f12 ∧ Dj f8 f12 := by
 refine acalls_of_body mixed Tryd.func21 rfl (Nat.le_of_ble_eq_true rfl) ?_
 unfold z_normal_Degrees at hr
 refine w_seqk fun K19 k19 => ?_
 refine w_reg (by kernel_rfl) ?_
 refine s_rwl wf [.int .i64 N_, hd_Arcs] (one_cons (rfl) (one_cons (h_Arcs.one1) (one_nil))) (by kernel_rfl) fun b20 H21 e22 hb23 r24 => ?_
 refine s_qk (.slice none 0 0) (by kernel_rfl) ?_
 refine s_qk (.slice none 0 0) (by kernel_rfl) ?_
 refine s_qk (.nilIface) (by kernel_rfl) ?_
 refine s_nil ?_
 refine k19 _ _ ?_
 refine w_seqk fun K26 k26 => ?_
 refine w_seqk fun K27 k27 => ?_
 refine w_reg (by kernel_rfl) ?_
 refine s_ql (.agg #[.int .i64 N_, hd_Arcs]) (x := aLoad Tryd.prog 24 (.pointer (some ⟨b20, 0, none⟩)) H21) (by kernel_rfl) (r24.ld (by kernel_rfl)) ?_
 have u28 := (h_Arcs.ext e22)
 obtain ⟨y29, hy30, r31⟩ := bind_some hr
 refine s_ck 47 #[.agg #[.int .i64 N_, hd_Arcs]] (by kernel_rfl) (c_gtext_Check e22.wf u28 hy30) ?_
 rintro v32 H34 ⟨_, f33, rfl, e35, m36, i37⟩
 refine s_qk (v32) (by kernel_rfl) ?_
 refine s_nil ?_
 refine k27 _ _ ?_
 refine w_seqk fun K39 k39 => ?_
 refine w_reg (by kernel_rfl) ?_
 refine s_qk (v32) (by kernel_rfl) ?_
 rcases (m36).cases with ⟨h40, rfl⟩ | ⟨h40, t41, x42, rfl⟩
 ·have r43 := ite_t h40 r31
  refine s_qk (.bool false) (by kernel_rfl) ?_
  refine s_nil ?_
  refine k39 _ _ ?_
  refine w_cond false (by kernel_rfl) rfl (fun h => by cases h) (fun _ => ?_)
  refine w_skip ?_
  refine k26 _ _ ?_
  refine w_seqk fun K44 k44 => ?_
  refine w_draw [0, 1, 2, 3, 4, 5, 6, 7] (by kernel_rfl) ?_
  refine d_qk (.pointer (some ⟨b20, 0, none⟩)) (by kernel_rfl) ?_
  have u45 := (r24.frS e35 Dj.nil_l)
  refine d_ql (.int .i64 N_) (x := aLoad Tryd.prog 3 (.pointer (some ⟨b20, 0, none⟩)) H34) (by kernel_rfl) (u45.ld (by kernel_rfl)) ?_
  obtain ⟨g46, r47⟩ := G_some r43
  refine d_mks (t := 42) (m := 8) (l := N_) (c := N_) (enc := (encI .i64)) (sz := 1) e35.wf (0 : Int) (by kernel_rfl) (by decide) g46.1 (Int.le_refl _) (by omega) (by have := g46; omega) (by kernel_rfl) fun s48 f49 H50 e51 hf52 hm53 => ?_
  obtain ⟨a54, n55, c56, rfl⟩ := hm53.form
  have hm53 : Ow (encI .i64) 1 H50 (.slice a54 n55 c56) (List.replicate N_.toNat (0 : Int)) f49 := hm53
  refine d_qk (.pointer (some ⟨b20, 0, none⟩)) (by kernel_rfl) ?_
  have u58 := (u45.ext e51)
  refine d_ql (.int .i64 N_) (x := aLoad Tryd.prog 3 (.pointer (some ⟨b20, 0, none⟩)) H50) (by kernel_rfl) (u58.ld (by kernel_rfl)) ?_
  refine d_mks (t := 42) (m := 8) (l := N_) (c := N_) (enc := (encI .i64)) (sz := 1) e51.wf (0 : Int) (by kernel_rfl) (by decide) g46.1 (Int.le_refl _) (by omega) (by have := g46; omega) (by kernel_rfl) fun s59 f60 H61 e62 hf63 hm64 => ?_
  obtain ⟨a65, n66, c67, rfl⟩ := hm64.form
  have hm64 : Ow (encI .i64) 1 H61 (.slice a65 n66 c67) (List.replicate N_.toNat (0 : Int)) f60 := hm64
  refine d_qk (.slice a54 n55 c56) (by kernel_rfl) ?_
  refine d_qk (.slice a65 n66 c67) (by kernel_rfl) ?_
  refine d_nil ?_
  refine k44 _ _ ?_
  refine w_seqk fun K69 k69 => ?_
  refine w_seqk fun K70 k70 => ?_
  refine w_reg (by kernel_rfl) ?_
  refine s_qk (.pointer (some ⟨b20, 1, none⟩)) (by kernel_rfl) ?_
  have u71 := (u58.ext e62)
  refine s_ql (hd_Arcs) (x := aLoad Tryd.prog 22 (.pointer (some ⟨b20, 1, none⟩)) H61) (by kernel_rfl) (u71.ld (by kernel_rfl)) ?_
  have u72 := (((u28.fr e35 Dj.nil_l).ext e51).ext e62)
  refine s_ql (.int .i64 (Arcs.length : Int)) (x := aLen Tryd.prog 22 hd_Arcs H61) (by kernel_rfl) (u72.lenb (by kernel_rfl)) ?_
  refine s_qk (.int .i64 0) (by kernel_rfl) ?_
  refine s_nil ?_
  refine k70 _ _ ?_
  obtain ⟨o73, hx74, r75⟩ := bind_some r47
  refine w_mid (fun α H76 => Has α [(6, .slice a54 n55 c56), (7, .slice a65 n66 c67)] ∧ FrS (f49 ++ f60) H61 H76 ∧ Ow (encI .i64) 1 H76 (.slice a54 n55 c56) o73.1 f49 ∧ Ow (encI .i64) 1 H76 (.slice a65 n66 c67) o73.2 f60) (fun K82 k82 => ?_) (fun α H76 hM => ?_)
  ·refine w_block ?_
   obtain ⟨n84, hn85⟩ := loopO_iff.1 hx74
   have u98 := (hm53.ext e62)
   refine w_loopn (fun n α H86 => ∃ (i0 : Int), ∃ (out1 : List (Int)), ∃ (in2 : List (Int)), iterO (fun zz_ => z_normal_Degrees_l0 Arcs zz_.1 zz_.2.1 zz_.2.2) n (i0, out1, in2) = some o73 ∧ Has α [(6, .slice a54 n55 c56), (7, .slice a65 n66 c67), (22, hd_Arcs), (23, .int .i64 (Arcs.length : Int)), (24, .int .i64 i0)] ∧ FrS (f49 ++ f60) H61 H86 ∧ Ow (encI .i64) 1 H86 (.slice a54 n55 c56) out1 f49 ∧ Ow (encI .i64) 1 H86 (.slice a65 n66 c67) in2 f60) n84 ⟨0, (List.replicate N_.toNat (0 : Int)), (List.replicate N_.toNat (0 : Int)), hn85, ⟨by kernel_rfl, by kernel_rfl, by kernel_rfl, by kernel_rfl, by kernel_rfl, trivial⟩, (FrS.refl (W := (f49 ++ f60)) e62.wf), u98, hm64⟩ ?_
   rintro n84 α H86 ⟨i0, out1, in2, hi93, hh92, e87, m89, m91⟩ K99 k99
   obtain ⟨n94, z95, rfl, hz96, hn97⟩ := iter_succ hi93
   obtain ⟨β, rfl⟩ := has_ex hh92
   clear hh92
   replace hz96 : z_normal_Degrees_l0 Arcs i0 out1 in2 = some z95 := hz96
   unfold z_normal_Degrees_l0 at hz96
   refine w_seqk fun K100 k100 => ?_
   refine w_reg (by kernel_rfl) ?_
   refine s_qk (.bool (decide (i0 < (Arcs.length : Int)))) (by kernel_rfl) ?_
   refine s_nil ?_
   refine k100 _ _ ?_
   refine w_seqk fun K101 k101 => ?_
   refine w_condp (i0 < (Arcs.length : Int)) (by kernel_rfl) rfl (fun h102 => ?_) (fun h102 => ?_)
   ·have r103 := ite_t h102 hz96
    refine w_skip ?_
    refine k101 _ _ ?_
    refine w_seqk fun K104 k104 => ?_
    refine w_block ?_
    refine w_seqk fun K105 k105 => ?_
    refine w_reg (by kernel_rfl) ?_
    obtain ⟨g106, r107⟩ := G_some r103
    have u108 := (u72.fr e87 (Dj.app (hf52.djn (h_Arcs.lt.le (ntr e22.next e35.next))) (hf63.djn (h_Arcs.lt.le (ntr (ntr e22.next e35.next) e51.next)))))
    refine s_ql (elp hd_Arcs 3 i0.toNat 0) (x := aIndexAddr Tryd.prog 22 hd_Arcs (.int .i64 i0)) (by kernel_rfl) (u108.idxb (by kernel_rfl) g106 h102) ?_
    refine s_ql (.agg #[.int .i64 ((gt Arcs i0).1), .int .i64 ((gt Arcs i0).2.1), .int .i64 ((gt Arcs i0).2.2)]) (x := aLoad Tryd.prog 51 (elp hd_Arcs 3 i0.toNat 0) H86) (by kernel_rfl) (u108.ld g106 h102 (by kernel_rfl)) ?_
    refine s_rwk e87.wf [.int .i64 0, .int .i64 0, .int .i64 0] (by kernel_rfl) fun b109 H110 e111 hb112 r113 => ?_
    obtain ⟨H115, q116, e117, r118⟩ := Row.store (P := Tryd.prog) (t := 51) (p := 0) e111.wf r113 (.agg #[.int .i64 ((gt Arcs i0).1), .int .i64 ((gt Arcs i0).2.1), .int .i64 ((gt Arcs i0).2.2)]) [.int .i64 ((gt Arcs i0).1), .int .i64 ((gt Arcs i0).2.1), .int .i64 ((gt Arcs i0).2.2)] (by kernel_rfl) (by kernel_rfl) (one_cons (rfl) (one_cons (rfl) (one_cons (rfl) (one_nil)))) (Nat.le_of_ble_eq_true (by kernel_rfl)) [.int .i64 ((gt Arcs i0).1), .int .i64 ((gt Arcs i0).2.1), .int .i64 ((gt Arcs i0).2.2)] (by kernel_rfl)
    refine s_ek (undef) (by kernel_rfl) (map_ok q116) ?_
    refine s_nil ?_
    refine k105 _ _ ?_
    refine w_seqk fun K119 k119 => ?_
    refine w_reg (by kernel_rfl) ?_
    refine s_qk (.slice a54 n55 c56) (by kernel_rfl) ?_
    refine s_qk (.pointer (some ⟨b109, 0, none⟩)) (by kernel_rfl) ?_
    refine s_ql (.int .i64 ((gt Arcs i0).1)) (x := aLoad Tryd.prog 3 (.pointer (some ⟨b109, 0, none⟩)) H115) (by kernel_rfl) (r118.ld (by kernel_rfl)) ?_
    obtain ⟨g120, r121⟩ := G_some r107
    have u122 := ((m89.ext e111).fr e117 (hb112.djn (hm53.lt.le (ntr e62.next e87.next))))
    refine s_ql (elp (.slice a54 n55 c56) 1 ((gt Arcs i0).1).toNat 0) (x := aIndexAddr Tryd.prog 42 (.slice a54 n55 c56) (.int .i64 ((gt Arcs i0).1))) (by kernel_rfl) (u122.sq.idxb (by kernel_rfl) g120.1 g120.2) ?_
    refine s_ql (.int .i64 (gt out1 ((gt Arcs i0).1))) (x := aLoad Tryd.prog 3 (elp (.slice a54 n55 c56) 1 ((gt Arcs i0).1).toNat 0) H115) (by kernel_rfl) (u122.sq.ld g120.1 g120.2 (by kernel_rfl)) ?_
    obtain ⟨g123, r124⟩ := G_some r121
    refine s_w (((gt out1 ((gt Arcs i0).1)) + 1)) (k := .i64) (x := ((gt out1 ((gt Arcs i0).1)) + 1)) (by kernel_rfl) (wrap64 g123) ?_
    refine s_ql (elp (.slice a54 n55 c56) 1 ((gt Arcs i0).1).toNat 0) (x := aIndexAddr Tryd.prog 42 (.slice a54 n55 c56) (.int .i64 ((gt Arcs i0).1))) (by kernel_rfl) (u122.sq.idxb (by kernel_rfl) g120.1 g120.2) ?_
    obtain ⟨H125, q126, e127, hm128⟩ := Ow.store (P := Tryd.prog) (t := 3) (off := 0) e117.wf u122 g120.1 g120.2 (.int .i64 ((gt out1 ((gt Arcs i0).1)) + 1)) [.int .i64 ((gt out1 ((gt Arcs i0).1)) + 1)] (by kernel_rfl) (by kernel_rfl) rfl ((gt out1 ((gt Arcs i0).1)) + 1) (Nat.le_of_ble_eq_true rfl) (by kernel_rfl)
    refine s_ek (undef) (by kernel_rfl) (map_ok q126) ?_
    refine s_nil ?_
    refine k119 _ _ ?_
    refine w_reg (by kernel_rfl) ?_
    refine s_qk (.slice a65 n66 c67) (by kernel_rfl) ?_
    refine s_qk (.pointer (some ⟨b109, 1, none⟩)) (by kernel_rfl) ?_
    have u129 := (r118.frS e127 (Dj.symm (hb112.djn (hm53.lt.le (ntr e62.next e87.next)))))
    refine s_ql (.int .i64 ((gt Arcs i0).2.1)) (x := aLoad Tryd.prog 3 (.pointer (some ⟨b109, 1, none⟩)) H125) (by kernel_rfl) (u129.ld (by kernel_rfl)) ?_
    obtain ⟨g130, r131⟩ := G_some r124
    have u132 := (((m91.ext e111).fr e117 (hb112.djn (hm64.lt.le e87.next))).fr e127 (Dj.symm (hf63.djn hm53.lt)))
    refine s_ql (elp (.slice a65 n66 c67) 1 ((gt Arcs i0).2.1).toNat 0) (x := aIndexAddr Tryd.prog 42 (.slice a65 n66 c67) (.int .i64 ((gt Arcs i0).2.1))) (by kernel_rfl) (u132.sq.idxb (by kernel_rfl) g130.1 g130.2) ?_
    refine s_ql (.int .i64 (gt in2 ((gt Arcs i0).2.1))) (x := aLoad Tryd.prog 3 (elp (.slice a65 n66 c67) 1 ((gt Arcs i0).2.1).toNat 0) H125) (by kernel_rfl) (u132.sq.ld g130.1 g130.2 (by kernel_rfl)) ?_
    obtain ⟨g133, r134⟩ := G_some r131
    refine s_w (((gt in2 ((gt Arcs i0).2.1)) + 1)) (k := .i64) (x := ((gt in2 ((gt Arcs i0).2.1)) + 1)) (by kernel_rfl) (wrap64 g133) ?_
    refine s_ql (elp (.slice a65 n66 c67) 1 ((gt Arcs i0).2.1).toNat 0) (x := aIndexAddr Tryd.prog 42 (.slice a65 n66 c67) (.int .i64 ((gt Arcs i0).2.1))) (by kernel_rfl) (u132.sq.idxb (by kernel_rfl) g130.1 g130.2) ?_
    obtain ⟨H135, q136, e137, hm138⟩ := Ow.store (P := Tryd.prog) (t := 3) (off := 0) e127.wf u132 g130.1 g130.2 (.int .i64 ((gt in2 ((gt Arcs i0).2.1)) + 1)) [.int .i64 ((gt in2 ((gt Arcs i0).2.1)) + 1)] (by kernel_rfl) (by kernel_rfl) rfl ((gt in2 ((gt Arcs i0).2.1)) + 1) (Nat.le_of_ble_eq_true rfl) (by kernel_rfl)
    refine s_ek (undef) (by kernel_rfl) (map_ok q136) ?_
    refine s_nil ?_
    refine k104 _ _ ?_
    refine w_reg (by kernel_rfl) ?_
    obtain ⟨g139, r140⟩ := G_some r134
    refine s_w ((i0 + 1)) (k := .i64) (x := (i0 + 1)) (by kernel_rfl) (wrap64 (by have := g139; omega)) ?_
    refine s_qk (.int .i64 (i0 + 1)) (by kernel_rfl) ?_
    refine s_nil ?_
    have u141 := (hm128.fr e137 (hf63.djn hm53.lt))
    obtain rfl := Option.some.inj r140
    exact k99 n94 _ _ (Nat.lt_succ_self _) ⟨(i0 + 1), (out1.set ((gt Arcs i0).1).toNat ((gt out1 ((gt Arcs i0).1)) + 1)), (in2.set ((gt Arcs i0).2.1).toNat ((gt in2 ((gt Arcs i0).2.1)) + 1)), hn97, ⟨by kernel_rfl, by kernel_rfl, by kernel_rfl, by kernel_rfl, by kernel_rfl, trivial⟩, (FrS.step e62.wf (FrS.step e62.wf (FrS.step e62.wf ((FrS.step e62.wf (FrS.refl (W := (f49 ++ f60)) e62.wf) e87 (Inn.app Inn.left (Inn.right Inn.refl'))).extR e111) e117 (hb112.fresh e87.next)) e127 Inn.left) e137 (Inn.right Inn.refl')), u141, hm138⟩
   ·have r142 := ite_f h102 hz96
    refine w_exit (th_exit (th_exit (bl_eq ?_)))
    obtain rfl := Option.some.inj r142
    obtain rfl := it_inr hn97
    exact k82 _ _ ⟨⟨by kernel_rfl, by kernel_rfl, trivial⟩, (FrS.step e62.wf (FrS.refl (W := (f49 ++ f60)) e62.wf) e87 (Inn.app Inn.left (Inn.right Inn.refl'))), m89, m91⟩
  ·obtain ⟨hh83, e77, m79, m81⟩ := hM
   obtain ⟨β, rfl⟩ := has_ex hh83
   clear hh83
   refine k69 _ _ ?_
   refine w_seqk fun K143 k143 => ?_
   refine w_reg (by kernel_rfl) ?_
   refine s_qk (.slice a54 n55 c56) (by kernel_rfl) ?_
   refine s_qk (.slice a65 n66 c67) (by kernel_rfl) ?_
   refine s_qk (.slice a54 n55 c56) (by kernel_rfl) ?_
   refine s_qk (.slice a65 n66 c67) (by kernel_rfl) ?_
   refine s_qk (.nilIface) (by kernel_rfl) ?_
   refine s_nil ?_
   refine k143 _ _ ?_
   refine w_ret ?_
   refine b_ret (fn := Tryd.f21) (vs := [.slice a54 n55 c56, .slice a65 n66 c67, .nilIface]) (aRes_tmp (by kernel_rfl) (aRes_tmp (by kernel_rfl) (aRes_tmp (by kernel_rfl) (rfl)))) ?_
   obtain rfl := Option.some.inj r75
   exact ⟨(.slice a54 n55 c56), f49, (.slice a65 n66 c67), f60, (.nilIface), [], rfl, (FrS.step wf (((FrS.step wf ((FrS.refl (W := []) wf).extR e22) e35 Inn.nil).extR e51).extR e62) e77 (Inn.app (hf52.fresh (ntr e22.next e35.next)) (hf63.fresh (ntr (ntr e22.next e35.next) e51.next)))), m79, m81, Ev.nil, (hf52.fresh (ntr e22.next e35.next)), (hf63.fresh (ntr (ntr e22.next e35.next) e51.next)), Inn.nil, (Dj.symm (hf63.djn hm53.lt)), Dj.nil_r, Dj.nil_r⟩
 ·have r144 := ite_f h40 r31
  refine s_ql (.bool true) (x := aBin Tryd.prog .neq 28 (.tmp 12) (.const .nilIface) (.iface t41 x42) .nilIface) (by kernel_rfl) (aBin_nnil (by kernel_rfl)) ?_
  refine s_nil ?_
  refine k39 _ _ ?_
  refine w_cond true (by kernel_rfl) rfl (fun _ => ?_) (fun h => by cases h)
  refine w_seqk fun K145 k145 => ?_
  refine w_reg (by kernel_rfl) ?_
  refine s_qk (.iface t41 x42) (by kernel_rfl) ?_
  refine s_qk (.slice none 0 0) (by kernel_rfl) ?_
  refine s_qk (.slice none 0 0) (by kernel_rfl) ?_
  refine s_qk (.iface t41 x42) (by kernel_rfl) ?_
  refine s_nil ?_
  refine k145 _ _ ?_
  refine w_ret (th_ret ?_)
  refine b_ret (fn := Tryd.f21) (vs := [.slice none 0 0, .slice none 0 0, .iface t41 x42]) (aRes_tmp (by kernel_rfl) (aRes_tmp (by kernel_rfl) (aRes_tmp (by kernel_rfl) (rfl)))) ?_
  obtain rfl := Option.some.inj r144
  exact ⟨(.slice none 0 0), [], (.slice none 0 0), [], (.iface t41 x42), f33, rfl, (FrS.step wf ((FrS.refl (W := []) wf).extR e22) e35 Inn.nil), (Ow.nil (by decide)), (Ow.nil (by decide)), m36, Inn.nil, Inn.nil, (i37.fresh e22.next), Dj.nil_l, Dj.nil_l, Dj.nil_l⟩

theorem c_cmp_isNaN {H : AH} {x : Int} {r : Bool}
  (wf : WF H) (hr : z_cmp_isNaN x = some r) :
  ACalls Tryd.prog 99 #[.int .i64 x] H fun v H' => v = .bool r ∧ H = H' := by
 refine acalls_of_body mixed Tryd.func99 rfl (Nat.le_of_ble_eq_true rfl) ?_
 unfold z_cmp_isNaN at hr
 refine w_seqk fun K1 k1 => ?_
 refine w_reg (by kernel_rfl) ?_
 refine s_qk (.bool false) (by kernel_rfl) ?_
 refine s_nil ?_
 refine k1 _ _ ?_
 refine w_seqk fun K2 k2 => ?_
 refine w_reg (by kernel_rfl) ?_
 refine s_qk (.int .i64 x) (by kernel_rfl) ?_
 refine s_qk (.int .i64 x) (by kernel_rfl) ?_
 refine s_qk (.bool (!decide (x = x))) (by kernel_rfl) ?_
 refine s_qk (.bool (!decide (x = x))) (by kernel_rfl) ?_
 refine s_nil ?_
 refine k2 _ _ ?_
 refine w_ret ?_
 refine b_ret (fn := Tryd.f99) (vs := [.bool (!decide (x = x))]) (aRes_tmp (by kernel_rfl) (rfl)) ?_
 obtain rfl := Option.some.inj hr
 exact ⟨rfl, rfl⟩

theorem c_cmp_Compare {H : AH} {x : Int} {y : Int} {r : Int}
  (wf : WF H) (hr : z_cmp_Compare x y = some r) :
  ACalls Tryd.prog 78 #[.int .i64 x, .int .i64 y] H fun v H' => v = .int .i64 r ∧ H = H' := by
 refine acalls_of_body mixed Tryd.func78 rfl (Nat.le_of_ble_eq_true rfl) ?_
 unfold z_cmp_Compare at hr
 refine w_seqk fun K1 k1 => ?_
 refine w_reg (by kernel_rfl) ?_
 refine s_qk (.int .i64 0) (by kernel_rfl) ?_
 refine s_nil ?_
 refine k1 _ _ ?_
 refine w_seqk fun K2 k2 => ?_
 refine w_reg (by kernel_rfl) ?_
 refine s_qk (.int .i64 x) (by kernel_rfl) ?_
 obtain ⟨y3, hy4, r5⟩ := bind_some hr
 refine s_ck 99 #[.int .i64 x] (by kernel_rfl) (c_cmp_isNaN wf hy4) ?_
 rintro _ _ ⟨rfl, rfl⟩
 refine s_qk (.bool y3) (by kernel_rfl) ?_
 refine s_nil ?_
 refine k2 _ _ ?_
 refine w_seqk fun K8 k8 => ?_
 refine w_reg (by kernel_rfl) ?_
 refine s_qk (.int .i64 y) (by kernel_rfl) ?_
 obtain ⟨y9, hy10, r11⟩ := bind_some r5
 refine s_ck 99 #[.int .i64 y] (by kernel_rfl) (c_cmp_isNaN wf hy10) ?_
 rintro _ _ ⟨rfl, rfl⟩
 refine s_qk (.bool y9) (by kernel_rfl) ?_
 refine s_nil ?_
 refine k8 _ _ ?_
 refine w_seqk fun K14 k14 => ?_
 refine w_seqk fun K15 k15 => ?_
 refine w_reg (by kernel_rfl) ?_
 refine s_qk (.bool y3) (by kernel_rfl) ?_
 refine s_nil ?_
 refine k15 _ _ ?_
 refine w_cond (y3) (by kernel_rfl) rfl (fun h16 => ?_) (fun h16 => ?_)
 ·have r17 := ite_t h16 r11
  refine w_seqk fun K18 k18 => ?_
  refine w_seqk fun K19 k19 => ?_
  refine w_reg (by kernel_rfl) ?_
  refine s_qk (.bool y9) (by kernel_rfl) ?_
  refine s_nil ?_
  refine k19 _ _ ?_
  refine w_cond (y9) (by kernel_rfl) rfl (fun h20 => ?_) (fun h20 => ?_)
  ·have r21 := ite_t h20 r17
   refine w_seqk fun K22 k22 => ?_
   refine w_reg (by kernel_rfl) ?_
   refine s_qk (.int .i64 0) (by kernel_rfl) ?_
   refine s_nil ?_
   refine k22 _ _ ?_
   refine w_ret (th_ret (th_ret ?_))
   refine b_ret (fn := Tryd.f78) (vs := [.int .i64 0]) (aRes_tmp (by kernel_rfl) (rfl)) ?_
   obtain rfl := Option.some.inj r21
   exact ⟨rfl, rfl⟩
  ·have r23 := ite_bf h20 r17
   refine w_skip ?_
   refine k18 _ _ ?_
   refine w_seqk fun K24 k24 => ?_
   refine w_reg (by kernel_rfl) ?_
   refine s_qk (.int .i64 (-1)) (by kernel_rfl) ?_
   refine s_nil ?_
   refine k24 _ _ ?_
   refine w_ret (th_ret ?_)
   refine b_ret (fn := Tryd.f78) (vs := [.int .i64 (-1)]) (aRes_tmp (by kernel_rfl) (rfl)) ?_
   obtain rfl := Option.some.inj r23
   exact ⟨rfl, rfl⟩
 ·have r25 := ite_bf h16 r11
  refine w_skip ?_
  refine k14 _ _ ?_
  refine w_seqk fun K26 k26 => ?_
  refine w_seqk fun K27 k27 => ?_
  refine w_reg (by kernel_rfl) ?_
  refine s_qk (.bool y9) (by kernel_rfl) ?_
  refine s_nil ?_
  refine k27 _ _ ?_
  refine w_cond (y9) (by kernel_rfl) rfl (fun h28 => ?_) (fun h28 => ?_)
  ·have r29 := ite_t h28 r25
   refine w_seqk fun K30 k30 => ?_
   refine w_reg (by kernel_rfl) ?_
   refine s_qk (.int .i64 1) (by kernel_rfl) ?_
   refine s_nil ?_
   refine k30 _ _ ?_
   refine w_ret (th_ret ?_)
   refine b_ret (fn := Tryd.f78) (vs := [.int .i64 1]) (aRes_tmp (by kernel_rfl) (rfl)) ?_
   obtain rfl := Option.some.inj r29
   exact ⟨rfl, rfl⟩
  ·have r31 := ite_bf h28 r25
   refine w_skip ?_
   refine k26 _ _ ?_
   refine w_seqk fun K32 k32 => ?_
   refine w_seqk fun K33 k33 => ?_
   refine w_reg (by kernel_rfl) ?_
   refine s_qk (.int .i64 x) (by kernel_rfl) ?_
   refine s_qk (.int .i64 y) (by kernel_rfl) ?_
   refine s_qk (.bool (decide (x < y))) (by kernel_rfl) ?_
   refine s_nil ?_
   refine k33 _ _ ?_
   refine w_condp (x < y) (by kernel_rfl) rfl (fun h34 => ?_) (fun h34 => ?_)
   ·have r35 := ite_t h34 r31
    refine w_seqk fun K36 k36 => ?_
    refine w_reg (by kernel_rfl) ?_
    refine s_qk (.int .i64 (-1)) (by kernel_rfl) ?_
    refine s_nil ?_
    refine k36 _ _ ?_
    refine w_ret (th_ret ?_)
    refine b_ret (fn := Tryd.f78) (vs := [.int .i64 (-1)]) (aRes_tmp (by kernel_rfl) (rfl)) ?_
    obtain rfl := Option.some.inj r35
    exact ⟨rfl, rfl⟩
   ·have r37 := ite_f h34 r31
    refine w_skip ?_
    refine k32 _ _ ?_
    refine w_seqk fun K38 k38 => ?_
    refine w_seqk fun K39 k39 => ?_
    refine w_reg (by kernel_rfl) ?_
    refine s_qk (.int .i64 x) (by kernel_rfl) ?_
    refine s_qk (.int .i64 y) (by kernel_rfl) ?_
    refine s_qk (.bool (decide (x > y))) (by kernel_rfl) ?_
    refine s_nil ?_
    refine k39 _ _ ?_
    refine w_condp (x > y) (by kernel_rfl) rfl (fun h40 => ?_) (fun h40 => ?_)
    ·have r41 := ite_t h40 r37
     refine w_seqk fun K42 k42 => ?_
     refine w_reg (by kernel_rfl) ?_
     refine s_qk (.int .i64 1) (by kernel_rfl) ?_
     refine s_nil ?_
     refine k42 _ _ ?_
     refine w_ret (th_ret ?_)
     refine b_ret (fn := Tryd.f78) (vs := [.int .i64 1]) (aRes_tmp (by kernel_rfl) (rfl)) ?_
     obtain rfl := Option.some.inj r41
     exact ⟨rfl, rfl⟩
    ·have r43 := ite_f h40 r37
     refine w_skip ?_
     refine k38 _ _ ?_
     refine w_seqk fun K44 k44 => ?_
     refine w_reg (by kernel_rfl) ?_
     refine s_qk (.int .i64 0) (by kernel_rfl) ?_
     refine s_nil ?_
     refine k44 _ _ ?_
     refine w_ret ?_
     refine b_ret (fn := Tryd.f78) (vs := [.int .i64 0]) (aRes_tmp (by kernel_rfl) (rfl)) ?_
     obtain rfl := Option.some.inj r43
     exact ⟨rfl, rfl⟩

theorem c_cmp_Or {H : AH} {hd_vals : Value} {fp_vals : Fp} {vals : List (Int)} {r : Int}
  (wf : WF H) (h_vals : Sq (encI .i64) 1 H hd_vals vals fp_vals) (hr : z_cmp_Or vals = some r) :
  ACalls Tryd.prog 77 #[hd_vals] H fun v H' => v = .int .i64 r ∧ H = H' := by
 refine acalls_of_body mixed Tryd.func77 rfl (Nat.le_of_ble_eq_true rfl) ?_
 unfold z_cmp_Or at hr
 refine w_seqk fun K1 k1 => ?_
 refine w_reg (by kernel_rfl) ?_
 refine s_qk (.int .i64 0) (by kernel_rfl) ?_
 refine s_nil ?_
 refine k1 _ _ ?_
 refine w_seqk fun K2 k2 => ?_
 refine w_reg (by kernel_rfl) ?_
 refine s_qk (.int .i64 0) (by kernel_rfl) ?_
 refine s_nil ?_
 refine k2 _ _ ?_
 refine w_seqk fun K3 k3 => ?_
 refine w_seqk fun K4 k4 => ?_
 refine w_reg (by kernel_rfl) ?_
 refine s_qk (hd_vals) (by kernel_rfl) ?_
 refine s_ql (.int .i64 (vals.length : Int)) (x := aLen Tryd.prog 42 hd_vals H) (by kernel_rfl) (h_vals.lenb (by kernel_rfl)) ?_
 refine s_qk (.int .i64 0) (by kernel_rfl) ?_
 refine s_nil ?_
 refine k4 _ _ ?_
 obtain ⟨z8, hx6, r7⟩ := bind_some hr
 refine w_mid (fun α H9 => ∃ o5, z8 = Sum.inr o5 ∧ Has α [(3, .int .i64 0)] ∧ H = H9) (fun K11 k11 => ?_) (fun α H9 hM => ?_)
 ·refine w_block ?_
  obtain ⟨n13, hn14⟩ := loopO_iff.1 hx6
  refine w_loopn (fun n α H15 => ∃ (i0 : Int), iterO (fun zz_ => z_cmp_Or_l0 vals zz_) n i0 = some z8 ∧ Has α [(3, .int .i64 0), (6, hd_vals), (7, .int .i64 (vals.length : Int)), (8, .int .i64 i0)] ∧ H = H15) n13 ⟨0, hn14, ⟨by kernel_rfl, by kernel_rfl, by kernel_rfl, by kernel_rfl, trivial⟩, rfl⟩ ?_
  rintro n13 α H15 ⟨i0, hi18, hh17, rfl⟩ K23 k23
  obtain ⟨n19, z20, rfl, hz21, hn22⟩ := iter_succ hi18
  obtain ⟨β, rfl⟩ := has_ex hh17
  clear hh17
  replace hz21 : z_cmp_Or_l0 vals i0 = some z20 := hz21
  unfold z_cmp_Or_l0 at hz21
  refine w_seqk fun K24 k24 => ?_
  refine w_reg (by kernel_rfl) ?_
  refine s_qk (.bool (decide (i0 < (vals.length : Int)))) (by kernel_rfl) ?_
  refine s_nil ?_
  refine k24 _ _ ?_
  refine w_seqk fun K25 k25 => ?_
  refine w_condp (i0 < (vals.length : Int)) (by kernel_rfl) rfl (fun h26 => ?_) (fun h26 => ?_)
  ·have r27 := ite_t h26 hz21
   refine w_skip ?_
   refine k25 _ _ ?_
   refine w_seqk fun K28 k28 => ?_
   refine w_block ?_
   refine w_seqk fun K29 k29 => ?_
   refine w_reg (by kernel_rfl) ?_
   obtain ⟨g30, r31⟩ := G_some r27
   refine s_ql (elp hd_vals 1 i0.toNat 0) (x := aIndexAddr Tryd.prog 42 hd_vals (.int .i64 i0)) (by kernel_rfl) (h_vals.idxb (by kernel_rfl) g30 h26) ?_
   refine s_ql (.int .i64 (gt vals i0)) (x := aLoad Tryd.prog 3 (elp hd_vals 1 i0.toNat 0) H) (by kernel_rfl) (h_vals.ld g30 h26 (by kernel_rfl)) ?_
   refine s_qk (.int .i64 (gt vals i0)) (by kernel_rfl) ?_
   refine s_nil ?_
   refine k29 _ _ ?_
   refine w_seqk fun K32 k32 => ?_
   refine w_reg (by kernel_rfl) ?_
   refine s_qk (.int .i64 (gt vals i0)) (by kernel_rfl) ?_
   refine s_qk (.int .i64 0) (by kernel_rfl) ?_
   refine s_qk (.bool (!decide ((gt vals i0) = 0))) (by kernel_rfl) ?_
   refine s_nil ?_
   refine k32 _ _ ?_
   refine w_condn ((gt vals i0) = 0) (by kernel_rfl) rfl (fun h33 => ?_) (fun h33 => ?_)
   ·have r34 := ite_f h33 r31
    refine w_seqk fun K35 k35 => ?_
    refine w_reg (by kernel_rfl) ?_
    refine s_qk (.int .i64 (gt vals i0)) (by kernel_rfl) ?_
    refine s_qk (.int .i64 (gt vals i0)) (by kernel_rfl) ?_
    refine s_nil ?_
    refine k35 _ _ ?_
    refine w_ret (bl_ret (th_ret (th_ret (bl_ret (th_ret (th_ret ?_))))))
    obtain ⟨v36, hv37, hz38⟩ := map_some r34
    subst hz38
    obtain rfl := it_inr hn22
    have hq39 := elim_inl r7
    rw [hq39] at hv37
    refine b_ret (fn := Tryd.f77) (vs := [.int .i64 (gt vals i0)]) (aRes_tmp (by kernel_rfl) (rfl)) ?_
    obtain rfl := Option.some.inj hv37
    exact ⟨rfl, rfl⟩
   ·have r40 := ite_t h33 r31
    refine w_skip ?_
    refine k28 _ _ ?_
    refine w_reg (by kernel_rfl) ?_
    obtain ⟨g41, r42⟩ := G_some r40
    refine s_w ((i0 + 1)) (k := .i64) (x := (i0 + 1)) (by kernel_rfl) (wrap64 (by have := g41; omega)) ?_
    refine s_qk (.int .i64 (i0 + 1)) (by kernel_rfl) ?_
    refine s_nil ?_
    obtain rfl := Option.some.inj r42
    exact k23 n19 _ _ (Nat.lt_succ_self _) ⟨(i0 + 1), hn22, ⟨by kernel_rfl, by kernel_rfl, by kernel_rfl, by kernel_rfl, trivial⟩, rfl⟩
  ·have r43 := ite_f h26 hz21
   refine w_exit (th_exit (th_exit (bl_eq ?_)))
   obtain rfl := Option.some.inj r43
   obtain rfl := it_inr hn22
   exact k11 _ _ ⟨_, rfl, ⟨by kernel_rfl, trivial⟩, rfl⟩
 ·obtain ⟨o5, rfl, hh12, rfl⟩ := hM
  have r44 := elim_inr r7
  obtain ⟨β, rfl⟩ := has_ex hh12
  clear hh12
  refine k3 _ _ ?_
  refine w_seqk fun K45 k45 => ?_
  refine w_reg (by kernel_rfl) ?_
  refine s_qk (.int .i64 0) (by kernel_rfl) ?_
  refine s_qk (.int .i64 0) (by kernel_rfl) ?_
  refine s_nil ?_
  refine k45 _ _ ?_
  refine w_ret ?_
  refine b_ret (fn := Tryd.f77) (vs := [.int .i64 0]) (aRes_tmp (by kernel_rfl) (rfl)) ?_
  obtain rfl := Option.some.inj r44
  exact ⟨rfl, rfl⟩

theorem c_normal_order {H : AH} {From : Int} {To : Int} {Weight : Int} {From_ : Int} {To_ : Int} {Weight_ : Int} {r : Int}
  (wf : WF H) (hr : z_normal_order From To Weight From_ To_ Weight_ = some r) :
  ACalls Tryd.prog 49 #[.agg #[.int .i64 From, .int .i64 To, .int .i64 Weight], .agg #[.int .i64 From_, .int .i64 To_, .int .i64 Weight_]] H fun v H' => v = .int .i64 r ∧ FrS [] H H' := by
 refine acalls_of_body mixed Tryd.func49 rfl (Nat.le_of_ble_eq_true rfl) ?_
 unfold z_normal_order at hr
 refine w_seqk fun K1 k1 => ?_
 refine w_reg (by kernel_rfl) ?_
 refine s_rwl wf [.int .i64 From, .int .i64 To, .int .i64 Weight] (one_cons (rfl) (one_cons (rfl) (one_cons (rfl) (one_nil)))) (by kernel_rfl) fun b2 H3 e4 hb5 r6 => ?_
 refine s_rwl e4.wf [.int .i64 From_, .int .i64 To_, .int .i64 Weight_] (one_cons (rfl) (one_cons (rfl) (one_cons (rfl) (one_nil)))) (by kernel_rfl) fun b8 H9 e10 hb11 r12 => ?_
 refine s_qk (.int .i64 0) (by kernel_rfl) ?_
 refine s_nil ?_
 refine k1 _ _ ?_
 refine w_seqk fun K14 k14 => ?_
 refine w_draw [0, 1, 2, 3, 5, 6, 7, 8, 10, 11, 12, 13, 4, 9, 14, 15, 16, 17] (by kernel_rfl) ?_
 refine d_qk (.pointer (some ⟨b2, 0, none⟩)) (by kernel_rfl) ?_
 have u15 := (r6.ext e10)
 refine d_ql (.int .i64 From) (x := aLoad Tryd.prog 3 (.pointer (some ⟨b2, 0, none⟩)) H9) (by kernel_rfl) (u15.ld (by kernel_rfl)) ?_
 refine d_qk (.pointer (some ⟨b8, 0, none⟩)) (by kernel_rfl) ?_
 refine d_ql (.int .i64 From_) (x := aLoad Tryd.prog 3 (.pointer (some ⟨b8, 0, none⟩)) H9) (by kernel_rfl) (r12.ld (by kernel_rfl)) ?_
 refine d_qk (.pointer (some ⟨b2, 1, none⟩)) (by kernel_rfl) ?_
 refine d_fl (.int .i64 To) (x := aLoad Tryd.prog 3 (.pointer (some ⟨b2, 1, none⟩)) H9) (by kernel_rfl) (u15.ld (by kernel_rfl)) ?_
 refine d_qk (.pointer (some ⟨b8, 1, none⟩)) (by kernel_rfl) ?_
 refine d_fl (.int .i64 To_) (x := aLoad Tryd.prog 3 (.pointer (some ⟨b8, 1, none⟩)) H9) (by kernel_rfl) (r12.ld (by kernel_rfl)) ?_
 refine d_qk (.pointer (some ⟨b2, 2, none⟩)) (by kernel_rfl) ?_
 refine d_fl (.int .i64 Weight) (x := aLoad Tryd.prog 3 (.pointer (some ⟨b2, 2, none⟩)) H9) (by kernel_rfl) (u15.ld (by kernel_rfl)) ?_
 refine d_qk (.pointer (some ⟨b8, 2, none⟩)) (by kernel_rfl) ?_
 refine d_fl (.int .i64 Weight_) (x := aLoad Tryd.prog 3 (.pointer (some ⟨b8, 2, none⟩)) H9) (by kernel_rfl) (r12.ld (by kernel_rfl)) ?_
 obtain ⟨y16, hy17, r18⟩ := bind_some hr
 refine d_ck 78 #[.int .i64 From, .int .i64 From_] (by kernel_rfl) (c_cmp_Compare e10.wf hy17) ?_
 rintro _ _ ⟨rfl, rfl⟩
 refine ⟨st_ql (y := aLoad Tryd.prog 3 (.pointer (some ⟨b8, 2, none⟩)) H9) (by kernel_rfl) (r12.ld (by kernel_rfl)) (st_ql (y := aLoad Tryd.prog 3 (.pointer (some ⟨b2, 2, none⟩)) H9) (by kernel_rfl) (u15.ld (by kernel_rfl)) (st_ql (y := aLoad Tryd.prog 3 (.pointer (some ⟨b8, 1, none⟩)) H9) (by kernel_rfl) (r12.ld (by kernel_rfl)) (st_ql (y := aLoad Tryd.prog 3 (.pointer (some ⟨b2, 1, none⟩)) H9) (by kernel_rfl) (u15.ld (by kernel_rfl)) (st_nil)))), ?_⟩
 obtain ⟨y21, hy22, r23⟩ := bind_some r18
 refine d_ck 78 #[.int .i64 To, .int .i64 To_] (by kernel_rfl) (c_cmp_Compare e10.wf hy22) ?_
 rintro _ _ ⟨rfl, rfl⟩
 refine ⟨st_ql (y := aLoad Tryd.prog 3 (.pointer (some ⟨b8, 2, none⟩)) H9) (by kernel_rfl) (r12.ld (by kernel_rfl)) (st_ql (y := aLoad Tryd.prog 3 (.pointer (some ⟨b2, 2, none⟩)) H9) (by kernel_rfl) (u15.ld (by kernel_rfl)) (st_anc (by kernel_rfl) (st_anc (by kernel_rfl) (st_nil)))), ?_⟩
 obtain ⟨y26, hy27, r28⟩ := bind_some r23
 refine d_ck 78 #[.int .i64 Weight, .int .i64 Weight_] (by kernel_rfl) (c_cmp_Compare e10.wf hy27) ?_
 rintro _ _ ⟨rfl, rfl⟩
 refine ⟨st_anc (by kernel_rfl) (st_anc (by kernel_rfl) (st_anc (by kernel_rfl) (st_anc (by kernel_rfl) (st_nil)))), ?_⟩
 refine d_owk (enc := (encI .i64)) (sz := 1) e10.wf [y16, y21, y26] 3 (by decide) (fun _ _ => rfl) (fun _ _ => rfl) rfl (by kernel_rfl) fun s31 f32 H33 e34 hf35 hm36 => ?_
 obtain ⟨a37, n38, c39, rfl⟩ := hm36.form
 obtain ⟨y41, hy42, r43⟩ := bind_some r28
 refine d_ck 77 #[.slice a37 n38 c39] (by kernel_rfl) (c_cmp_Or e34.wf hm36.sq hy42) ?_
 rintro _ _ ⟨rfl, rfl⟩
 refine ⟨st_anc (by kernel_rfl) (st_anc (by kernel_rfl) (st_anc (by kernel_rfl) (st_anc (by kernel_rfl) (st_nil)))), ?_⟩
 refine d_qk (.int .i64 y41) (by kernel_rfl) ?_
 refine d_nil ?_
 refine k14 _ _ ?_
 refine w_ret ?_
 refine b_ret (fn := Tryd.f49) (vs := [.int .i64 y41]) (aRes_tmp (by kernel_rfl) (rfl)) ?_
 obtain rfl := Option.some.inj r43
 exact ⟨rfl, ((((FrS.refl (W := []) wf).extR e4).extR e10).extR e34)⟩

theorem c_normal_Of_1 {H : AH} {From : Int} {To : Int} {Weight : Int} {From_ : Int} {To_ : Int} {Weight_ : Int} {r : Bool}
  (wf : WF H) (hr : z_normal_Of_1 From To Weight From_ To_ Weight_ = some r) :
  ACalls Tryd.prog 51 #[.agg #[.int .i64 From, .int .i64 To, .int .i64 Weight], .agg #[.int .i64 From_, .int .i64 To_, .int .i64 Weight_]] H fun v H' => v = .bool r ∧ FrS [] H H' := by
 refine acalls_of_body mixed Tryd.func51 rfl (Nat.le_of_ble_eq_true rfl) ?_
 unfold z_normal_Of_1 at hr
 refine w_seqk fun K1 k1 => ?_
 refine w_reg (by kernel_rfl) ?_
 refine s_rwl wf [.int .i64 From, .int .i64 To, .int .i64 Weight] (one_cons (rfl) (one_cons (rfl) (one_cons (rfl) (one_nil)))) (by kernel_rfl) fun b2 H3 e4 hb5 r6 => ?_
 refine s_rwl e4.wf [.int .i64 From_, .int .i64 To_, .int .i64 Weight_] (one_cons (rfl) (one_cons (rfl) (one_cons (rfl) (one_nil)))) (by kernel_rfl) fun b8 H9 e10 hb11 r12 => ?_
 refine s_qk (.bool false) (by kernel_rfl) ?_
 refine s_nil ?_
 refine k1 _ _ ?_
 refine w_seqk fun K14 k14 => ?_
 refine w_reg (by kernel_rfl) ?_
 refine s_qk (.pointer (some ⟨b2, 0, none⟩)) (by kernel_rfl) ?_
 have u15 := (r6.ext e10)
 refine s_ql (.int .i64 From) (x := aLoad Tryd.prog 3 (.pointer (some ⟨b2, 0, none⟩)) H9) (by kernel_rfl) (u15.ld (by kernel_rfl)) ?_
 refine s_qk (.pointer (some ⟨b8, 0, none⟩)) (by kernel_rfl) ?_
 refine s_ql (.int .i64 From_) (x := aLoad Tryd.prog 3 (.pointer (some ⟨b8, 0, none⟩)) H9) (by kernel_rfl) (r12.ld (by kernel_rfl)) ?_
 refine s_b (From = From_) (by kernel_rfl) (fun h16 => ?_) (fun h16 => ?_)
 ·have r17 := ite_t h16 hr
  refine s_qk (.bool true) (by kernel_rfl) ?_
  refine s_qk (.pointer (some ⟨b2, 1, none⟩)) (by kernel_rfl) ?_
  refine s_ql (.int .i64 To) (x := aLoad Tryd.prog 3 (.pointer (some ⟨b2, 1, none⟩)) H9) (by kernel_rfl) (u15.ld (by kernel_rfl)) ?_
  refine s_qk (.pointer (some ⟨b8, 1, none⟩)) (by kernel_rfl) ?_
  refine s_ql (.int .i64 To_) (x := aLoad Tryd.prog 3 (.pointer (some ⟨b8, 1, none⟩)) H9) (by kernel_rfl) (r12.ld (by kernel_rfl)) ?_
  refine s_qk (.bool (decide (To = To_))) (by kernel_rfl) ?_
  refine s_qk (.bool (decide (To = To_))) (by kernel_rfl) ?_
  refine s_qk (.bool (decide (To = To_))) (by kernel_rfl) ?_
  refine s_nil ?_
  refine k14 _ _ ?_
  refine w_ret ?_
  refine b_ret (fn := Tryd.f51) (vs := [.bool (decide (To = To_))]) (aRes_tmp (by kernel_rfl) (rfl)) ?_
  obtain rfl := Option.some.inj r17
  exact ⟨rfl, (((FrS.refl (W := []) wf).extR e4).extR e10)⟩
 ·have r18 := ite_f h16 hr
  refine s_qk (.bool false) (by kernel_rfl) ?_
  refine s_no (by kernel_rfl) ?_
  refine s_no (by kernel_rfl) ?_
  refine s_no (by kernel_rfl) ?_
  refine s_no (by kernel_rfl) ?_
  refine s_no (by kernel_rfl) ?_
  refine s_qk (.bool false) (by kernel_rfl) ?_
  refine s_qk (.bool false) (by kernel_rfl) ?_
  refine s_nil ?_
  refine k14 _ _ ?_
  refine w_ret ?_
  refine b_ret (fn := Tryd.f51) (vs := [.bool false]) (aRes_tmp (by kernel_rfl) (rfl)) ?_
  obtain rfl := Option.some.inj r18
  exact ⟨rfl, (((FrS.refl (W := []) wf).extR e4).extR e10)⟩


end Go.Vd

/-! (KNf1) -/

set_option maxRecDepth 100000
set_option maxHeartbeats 4000000
set_option linter.unusedVariables false
namespace Go.Vd
open Go.Proofs
attribute [local irreducible] wpSeq wpOrd aWp
theorem c_slices_CompactFunc {H : AH} {hd_s : Value} {fp_s : Fp} {s : List (Int × Int × Int)} {r : List (Int × Int × Int) × List (Int × Int × Int)}
  (wf : WF H) (h_s : Ow enc_i64_i64_i64 3 H hd_s s fp_s) (hr : z_slices_CompactFunc s = some r) :
  ACalls Tryd.prog 50 #[hd_s, .func (.func 51) #[] #[]] H fun v H' => ∃ (s3 : Value), v = s3 ∧ FrS fp_s H H' ∧ Ow enc_i64_i64_i64 3 H' s3 r.1 fp_s ∧ Ow enc_i64_i64_i64 3 H' hd_s r.2 fp_s := by
 refine acalls_of_body mixed Tryd.func50 rfl (Nat.le_of_ble_eq_true rfl) ?_
 unfold z_slices_CompactFunc at hr
 refine w_seqk fun K6 k6 => ?_
 refine w_reg (by kernel_rfl) ?_
 refine s_qk (.slice none 0 0) (by kernel_rfl) ?_
 refine s_nil ?_
 refine k6 _ _ ?_
 refine w_seqk fun K7 k7 => ?_
 refine w_seqk fun K8 k8 => ?_
 refine w_reg (by kernel_rfl) ?_
 refine s_qk (hd_s) (by kernel_rfl) ?_
 refine s_ql (.int .i64 (s.length : Int)) (x := aLen Tryd.prog 22 hd_s H) (by kernel_rfl) (h_s.sq.lenb (by kernel_rfl)) ?_
 refine s_qk (.bool (decide ((s.length : Int) < 2))) (by kernel_rfl) ?_
 refine s_nil ?_
 refine k8 _ _ ?_
 refine w_condp ((s.length : Int) < 2) (by kernel_rfl) rfl (fun h9 => ?_) (fun h9 => ?_)
 ·have r10 := ite_t h9 hr
  refine w_seqk fun K11 k11 => ?_
  refine w_reg (by kernel_rfl) ?_
  refine s_qk (hd_s) (by kernel_rfl) ?_
  refine s_qk (hd_s) (by kernel_rfl) ?_
  refine s_nil ?_
  refine k11 _ _ ?_
  refine w_ret (th_ret ?_)
  refine b_ret (fn := Tryd.f50) (vs := [hd_s]) (aRes_tmp (by kernel_rfl) (rfl)) ?_
  obtain rfl := Option.some.inj r10
  exact ⟨(hd_s), rfl, (FrS.refl (W := fp_s) wf), h_s, h_s⟩
 ·have r12 := ite_f h9 hr
  refine w_skip ?_
  refine k7 _ _ ?_
  refine w_seqk fun K13 k13 => ?_
  refine w_seqk fun K14 k14 => ?_
  refine w_reg (by kernel_rfl) ?_
  refine s_qk (.int .i64 1) (by kernel_rfl) ?_
  refine s_nil ?_
  refine k14 _ _ ?_
  obtain ⟨z18, hx16, r17⟩ := bind_some r12
  refine w_mid (fun α H19 => ∃ o15, z18 = Sum.inr o15 ∧ Has α [(0, hd_s)] ∧ FrS [] H H19) (fun K21 k21 => ?_) (fun α H19 hM => ?_)
  ·refine w_block ?_
   obtain ⟨n23, hn24⟩ := loopO_iff.1 hx16
   refine w_loopn (fun n α H25 => ∃ (k3 : Int), iterO (fun zz_ => z_slices_CompactFunc_l1 s zz_) n k3 = some z18 ∧ Has α [(0, hd_s), (1, .func (.func 51) #[] #[]), (5, .int .i64 k3)] ∧ FrS [] H H25) n23 ⟨1, hn24, ⟨by kernel_rfl, by kernel_rfl, by kernel_rfl, trivial⟩, (FrS.refl (W := []) wf)⟩ ?_
   rintro n23 α H25 ⟨k3, hi28, hh27, e26⟩ K33 k33
   obtain ⟨n29, z30, rfl, hz31, hn32⟩ := iter_succ hi28
   obtain ⟨β, rfl⟩ := has_ex hh27
   clear hh27
   replace hz31 : z_slices_CompactFunc_l1 s k3 = some z30 := hz31
   unfold z_slices_CompactFunc_l1 at hz31
   refine w_seqk fun K34 k34 => ?_
   refine w_seqk fun K35 k35 => ?_
   refine w_reg (by kernel_rfl) ?_
   refine s_qk (.int .i64 k3) (by kernel_rfl) ?_
   refine s_qk (hd_s) (by kernel_rfl) ?_
   have u36 := (h_s.fr e26 Dj.nil_l)
   refine s_ql (.int .i64 (s.length : Int)) (x := aLen Tryd.prog 22 hd_s H25) (by kernel_rfl) (u36.sq.lenb (by kernel_rfl)) ?_
   refine s_qk (.bool (decide (k3 < (s.length : Int)))) (by kernel_rfl) ?_
   refine s_nil ?_
   refine k35 _ _ ?_
   refine w_condp (k3 < (s.length : Int)) (by kernel_rfl) rfl (fun h37 => ?_) (fun h37 => ?_)
   ·have r38 := ite_t h37 hz31
    refine w_skip ?_
    refine k34 _ _ ?_
    refine w_seqk fun K39 k39 => ?_
    refine w_block ?_
    refine w_seqk fun K40 k40 => ?_
    refine w_draw [0, 1, 2, 3, 4, 5, 6, 7, 8, 9, 10] (by kernel_rfl) ?_
    refine d_qk (.func (.func 51) #[] #[]) (by kernel_rfl) ?_
    refine d_qk (hd_s) (by kernel_rfl) ?_
    refine d_qk (.int .i64 k3) (by kernel_rfl) ?_
    obtain ⟨g41, r42⟩ := G_some r38
    refine d_ql (elp hd_s 3 k3.toNat 0) (x := aIndexAddr Tryd.prog 22 hd_s (.int .i64 k3)) (by kernel_rfl) (u36.sq.idxb (by kernel_rfl) g41 h37) ?_
    refine d_ql (.agg #[.int .i64 ((gt s k3).1), .int .i64 ((gt s k3).2.1), .int .i64 ((gt s k3).2.2)]) (x := aLoad Tryd.prog 51 (elp hd_s 3 k3.toNat 0) H25) (by kernel_rfl) (u36.sq.ld g41 h37 (by kernel_rfl)) ?_
    refine d_qk (hd_s) (by kernel_rfl) ?_
    refine d_qk (.int .i64 k3) (by kernel_rfl) ?_
    obtain ⟨g43, r44⟩ := G_some r42
    refine d_w ((k3 - 1)) (k := .i64) (x := (k3 - 1)) (by kernel_rfl) (wrap64 g43) ?_
    obtain ⟨g45, r46⟩ := G_some r44
    refine d_ql (elp hd_s 3 (k3 - 1).toNat 0) (x := aIndexAddr Tryd.prog 22 hd_s (.int .i64 (k3 - 1))) (by kernel_rfl) (u36.sq.idxb (by kernel_rfl) g45.1 g45.2) ?_
    refine d_ql (.agg #[.int .i64 ((gt s (k3 - 1)).1), .int .i64 ((gt s (k3 - 1)).2.1), .int .i64 ((gt s (k3 - 1)).2.2)]) (x := aLoad Tryd.prog 51 (elp hd_s 3 (k3 - 1).toNat 0) H25) (by kernel_rfl) (u36.sq.ld g45.1 g45.2 (by kernel_rfl)) ?_
    obtain ⟨y47, hy48, r49⟩ := bind_some r46
    refine d_ck 51 #[.agg #[.int .i64 ((gt s k3).1), .int .i64 ((gt s k3).2.1), .int .i64 ((gt s k3).2.2)], .agg #[.int .i64 ((gt s (k3 - 1)).1), .int .i64 ((gt s (k3 - 1)).2.1), .int .i64 ((gt s (k3 - 1)).2.2)]] (by kernel_rfl) (c_normal_Of_1 e26.wf hy48) ?_
    rintro _ H50 ⟨rfl, e51⟩
    refine ⟨st_nil, ?_⟩
    refine d_nil ?_
    refine k40 _ _ ?_
    refine w_cond (y47) (by kernel_rfl) rfl (fun h52 => ?_) (fun h52 => ?_)
    ·have r53 := ite_t h52 r49
     refine w_seqk fun K54 k54 => ?_
     refine w_reg (by kernel_rfl) ?_
     refine s_qk (hd_s) (by kernel_rfl) ?_
     refine s_qk (.int .i64 k3) (by kernel_rfl) ?_
     obtain ⟨g55, r56⟩ := G_some r53
     have u60 := (u36.fr e51 Dj.nil_l)
     obtain ⟨s57, q58, vw59⟩ := Ow.view (P := Tryd.prog) u60 (t := 22) (by kernel_rfl) (lo := some (.int .i64 k3)) (l := k3.toNat) (aBound_int _ (by have := g55; omega)) (by have := g55; omega)
     obtain ⟨a61, n62, c63, rfl⟩ := vw59.form
     refine s_ql (.slice a61 n62 c63) (by kernel_rfl) q58 ?_
     refine s_qk (.slice a61 n62 c63) (by kernel_rfl) ?_
     refine s_nil ?_
     refine k54 _ _ ?_
     refine w_seqk fun K64 k64 => ?_
     refine w_seqk fun K65 k65 => ?_
     refine w_reg (by kernel_rfl) ?_
     refine s_qk (.int .i64 1) (by kernel_rfl) ?_
     refine s_nil ?_
     refine k65 _ _ ?_
     obtain ⟨o66, hx67, r68⟩ := bind_some r56
     refine w_mid (fun α H69 => Has α [(0, hd_s), (5, .int .i64 o66.2)] ∧ FrS fp_s H50 H69 ∧ Ow enc_i64_i64_i64 3 H69 hd_s o66.1 fp_s) (fun K73 k73 => ?_) (fun α H69 hM => ?_)
     ·refine w_block ?_
      obtain ⟨n75, hn76⟩ := loopO_iff.1 hx67
      refine w_loopn (fun n α H77 => ∃ (s0 : List (Int × Int × Int)), ∃ (k1 : Int), ∃ (k22 : Int), iterO (fun zz_ => z_slices_CompactFunc_l0 k3 zz_.1 zz_.2.1 zz_.2.2) n (s0, k1, k22) = some o66 ∧ Has α [(0, hd_s), (1, .func (.func 51) #[] #[]), (5, .int .i64 k1), (6, .slice a61 n62 c63), (7, .int .i64 k22)] ∧ FrS fp_s H50 H77 ∧ Ow enc_i64_i64_i64 3 H77 hd_s s0 fp_s) n75 ⟨s, k3, 1, hn76, ⟨by kernel_rfl, by kernel_rfl, by kernel_rfl, by kernel_rfl, by kernel_rfl, trivial⟩, (FrS.refl (W := fp_s) e51.wf), u60⟩ ?_
      rintro n75 α H77 ⟨s0, k1, k22, hi82, hh81, e78, m80⟩ K87 k87
      obtain ⟨n83, z84, rfl, hz85, hn86⟩ := iter_succ hi82
      obtain ⟨β, rfl⟩ := has_ex hh81
      clear hh81
      replace hz85 : z_slices_CompactFunc_l0 k3 s0 k1 k22 = some z84 := hz85
      unfold z_slices_CompactFunc_l0 at hz85
      refine w_seqk fun K88 k88 => ?_
      refine w_seqk fun K89 k89 => ?_
      refine w_reg (by kernel_rfl) ?_
      refine s_qk (.int .i64 k22) (by kernel_rfl) ?_
      refine s_qk (.slice a61 n62 c63) (by kernel_rfl) ?_
      obtain ⟨hs90, hl91⟩ := vw59.sq m80
      refine s_ql (.int .i64 ((s0.drop k3.toNat).length : Int)) (x := aLen Tryd.prog 22 (.slice a61 n62 c63) H77) (by kernel_rfl) (hs90.lenb (by kernel_rfl)) ?_
      refine s_qk (.bool (decide (k22 < ((s0.drop k3.toNat).length : Int)))) (by kernel_rfl) ?_
      refine s_nil ?_
      refine k89 _ _ ?_
      refine w_condp (k22 < ((s0.drop k3.toNat).length : Int)) (by kernel_rfl) rfl (fun h93 => ?_) (fun h93 => ?_)
      ·have r94 := ite_t h93 hz85
       refine w_skip ?_
       refine k88 _ _ ?_
       refine w_seqk fun K95 k95 => ?_
       refine w_block ?_
       refine w_seqk fun K96 k96 => ?_
       refine w_draw [0, 1, 2, 3, 4, 5, 6, 7, 8, 9, 10, 11] (by kernel_rfl) ?_
       refine d_qk (.func (.func 51) #[] #[]) (by kernel_rfl) ?_
       refine d_qk (.slice a61 n62 c63) (by kernel_rfl) ?_
       refine d_qk (.int .i64 k22) (by kernel_rfl) ?_
       obtain ⟨hs97, hl98⟩ := vw59.sq m80
       obtain ⟨g100, r101⟩ := G_some r94
       refine d_ql (elp (.slice a61 n62 c63) 3 k22.toNat 0) (x := aIndexAddr Tryd.prog 22 (.slice a61 n62 c63) (.int .i64 k22)) (by kernel_rfl) (hs97.idxb (by kernel_rfl) g100 h93) ?_
       refine d_ql (.agg #[.int .i64 ((gt (s0.drop k3.toNat) k22).1), .int .i64 ((gt (s0.drop k3.toNat) k22).2.1), .int .i64 ((gt (s0.drop k3.toNat) k22).2.2)]) (x := aLoad Tryd.prog 51 (elp (.slice a61 n62 c63) 3 k22.toNat 0) H77) (by kernel_rfl) (hs97.ld g100 h93 (by kernel_rfl)) ?_
       refine d_qk (.slice a61 n62 c63) (by kernel_rfl) ?_
       refine d_qk (.int .i64 k22) (by kernel_rfl) ?_
       obtain ⟨g102, r103⟩ := G_some r101
       refine d_w ((k22 - 1)) (k := .i64) (x := (k22 - 1)) (by kernel_rfl) (wrap64 g102) ?_
       obtain ⟨hs104, hl105⟩ := vw59.sq m80
       obtain ⟨g107, r108⟩ := G_some r103
       refine d_ql (elp (.slice a61 n62 c63) 3 (k22 - 1).toNat 0) (x := aIndexAddr Tryd.prog 22 (.slice a61 n62 c63) (.int .i64 (k22 - 1))) (by kernel_rfl) (hs104.idxb (by kernel_rfl) g107.1 g107.2) ?_
       refine d_ql (.agg #[.int .i64 ((gt (s0.drop k3.toNat) (k22 - 1)).1), .int .i64 ((gt (s0.drop k3.toNat) (k22 - 1)).2.1), .int .i64 ((gt (s0.drop k3.toNat) (k22 - 1)).2.2)]) (x := aLoad Tryd.prog 51 (elp (.slice a61 n62 c63) 3 (k22 - 1).toNat 0) H77) (by kernel_rfl) (hs104.ld g107.1 g107.2 (by kernel_rfl)) ?_
       obtain ⟨y109, hy110, r111⟩ := bind_some r108
       refine d_ck 51 #[.agg #[.int .i64 ((gt (s0.drop k3.toNat) k22).1), .int .i64 ((gt (s0.drop k3.toNat) k22).2.1), .int .i64 ((gt (s0.drop k3.toNat) k22).2.2)], .agg #[.int .i64 ((gt (s0.drop k3.toNat) (k22 - 1)).1), .int .i64 ((gt (s0.drop k3.toNat) (k22 - 1)).2.1), .int .i64 ((gt (s0.drop k3.toNat) (k22 - 1)).2.2)]] (by kernel_rfl) (c_normal_Of_1 e78.wf hy110) ?_
       rintro _ H112 ⟨rfl, e113⟩
       refine ⟨st_nil, ?_⟩
       refine d_qk (.bool (!y109)) (by kernel_rfl) ?_
       refine d_nil ?_
       refine k96 _ _ ?_
       refine w_cond ((!y109)) (by kernel_rfl) rfl (fun h114 => ?_) (fun h114 => ?_)
       ·have r115 := ite_t h114 r111
        refine w_seqk fun K116 k116 => ?_
        refine w_reg (by kernel_rfl) ?_
        refine s_qk (hd_s) (by kernel_rfl) ?_
        refine s_qk (.int .i64 k1) (by kernel_rfl) ?_
        refine s_qk (.slice a61 n62 c63) (by kernel_rfl) ?_
        refine s_qk (.int .i64 k22) (by kernel_rfl) ?_
        have u119 := (m80.fr e113 Dj.nil_l)
        obtain ⟨hs117, hl118⟩ := vw59.sq u119
        refine s_ql (elp (.slice a61 n62 c63) 3 k22.toNat 0) (x := aIndexAddr Tryd.prog 22 (.slice a61 n62 c63) (.int .i64 k22)) (by kernel_rfl) (hs117.idxb (by kernel_rfl) g100 h93) ?_
        refine s_ql (.agg #[.int .i64 ((gt (s0.drop k3.toNat) k22).1), .int .i64 ((gt (s0.drop k3.toNat) k22).2.1), .int .i64 ((gt (s0.drop k3.toNat) k22).2.2)]) (x := aLoad Tryd.prog 51 (elp (.slice a61 n62 c63) 3 k22.toNat 0) H112) (by kernel_rfl) (hs117.ld g100 h93 (by kernel_rfl)) ?_
        obtain ⟨g121, r122⟩ := G_some r115
        refine s_ql (elp hd_s 3 k1.toNat 0) (x := aIndexAddr Tryd.prog 22 hd_s (.int .i64 k1)) (by kernel_rfl) (u119.sq.idxb (by kernel_rfl) g121.1 g121.2) ?_
        obtain ⟨H123, q124, e125, hm126⟩ := Ow.store (P := Tryd.prog) (t := 51) (off := 0) e113.wf u119 g121.1 g121.2 (.agg #[.int .i64 ((gt (s0.drop k3.toNat) k22).1), .int .i64 ((gt (s0.drop k3.toNat) k22).2.1), .int .i64 ((gt (s0.drop k3.toNat) k22).2.2)]) [.int .i64 ((gt (s0.drop k3.toNat) k22).1), .int .i64 ((gt (s0.drop k3.toNat) k22).2.1), .int .i64 ((gt (s0.drop k3.toNat) k22).2.2)] (by kernel_rfl) (by kernel_rfl) rfl ((gt (s0.drop k3.toNat) k22).1, (gt (s0.drop k3.toNat) k22).2.1, (gt (s0.drop k3.toNat) k22).2.2) (Nat.le_of_ble_eq_true rfl) (by kernel_rfl)
        refine s_ek (undef) (by kernel_rfl) (map_ok q124) ?_
        refine s_nil ?_
        refine k116 _ _ ?_
        refine w_reg (by kernel_rfl) ?_
        refine s_qk (.int .i64 k1) (by kernel_rfl) ?_
        obtain ⟨g127, r128⟩ := G_some r122
        refine s_w ((k1 + 1)) (k := .i64) (x := (k1 + 1)) (by kernel_rfl) (wrap64 (by have := g127; omega)) ?_
        refine s_qk (.int .i64 (k1 + 1)) (by kernel_rfl) ?_
        refine s_nil ?_
        refine k95 _ _ ?_
        refine w_reg (by kernel_rfl) ?_
        refine s_qk (.int .i64 k22) (by kernel_rfl) ?_
        obtain ⟨g129, r130⟩ := G_some r128
        refine s_w ((k22 + 1)) (k := .i64) (x := (k22 + 1)) (by kernel_rfl) (wrap64 (by have := g129; omega)) ?_
        refine s_qk (.int .i64 (k22 + 1)) (by kernel_rfl) ?_
        refine s_nil ?_
        obtain rfl := Option.some.inj r130
        exact k87 n83 _ _ (Nat.lt_succ_self _) ⟨(s0.set k1.toNat ((gt (s0.drop k3.toNat) k22).1, (gt (s0.drop k3.toNat) k22).2.1, (gt (s0.drop k3.toNat) k22).2.2)), (k1 + 1), (k22 + 1), hn86, ⟨by kernel_rfl, by kernel_rfl, by kernel_rfl, by kernel_rfl, by kernel_rfl, trivial⟩, (FrS.step e51.wf (FrS.step e51.wf (FrS.step e51.wf (FrS.refl (W := fp_s) e51.wf) e78 Inn.refl') e113 Inn.nil) e125 Inn.refl'), hm126⟩
       ·have r131 := ite_bf h114 r111
        refine w_skip ?_
        refine k95 _ _ ?_
        refine w_reg (by kernel_rfl) ?_
        refine s_qk (.int .i64 k22) (by kernel_rfl) ?_
        obtain ⟨g132, r133⟩ := G_some r131
        refine s_w ((k22 + 1)) (k := .i64) (x := (k22 + 1)) (by kernel_rfl) (wrap64 (by have := g132; omega)) ?_
        refine s_qk (.int .i64 (k22 + 1)) (by kernel_rfl) ?_
        refine s_nil ?_
        have u134 := (m80.fr e113 Dj.nil_l)
        obtain rfl := Option.some.inj r133
        exact k87 n83 _ _ (Nat.lt_succ_self _) ⟨s0, k1, (k22 + 1), hn86, ⟨by kernel_rfl, by kernel_rfl, by kernel_rfl, by kernel_rfl, by kernel_rfl, trivial⟩, (FrS.step e51.wf (FrS.step e51.wf (FrS.refl (W := fp_s) e51.wf) e78 Inn.refl') e113 Inn.nil), u134⟩
      ·have r135 := ite_f h93 hz85
       refine w_exit (th_exit (th_exit (bl_eq ?_)))
       obtain rfl := Option.some.inj r135
       obtain rfl := it_inr hn86
       exact k73 _ _ ⟨⟨by kernel_rfl, by kernel_rfl, trivial⟩, (FrS.step e51.wf (FrS.refl (W := fp_s) e51.wf) e78 Inn.refl'), m80⟩
     ·obtain ⟨hh74, e70, m72⟩ := hM
      obtain ⟨β, rfl⟩ := has_ex hh74
      clear hh74
      refine k64 _ _ ?_
      refine w_seqk fun K136 k136 => ?_
      refine w_reg (by kernel_rfl) ?_
      refine s_qk (hd_s) (by kernel_rfl) ?_
      refine s_qk (.int .i64 o66.2) (by kernel_rfl) ?_
      obtain ⟨g137, r138⟩ := G_some r68
      obtain ⟨s139, q140, vw141⟩ := Ow.view (P := Tryd.prog) m72 (t := 22) (by kernel_rfl) (lo := some (.int .i64 o66.2)) (l := o66.2.toNat) (aBound_int _ (by have := g137; omega)) (by have := g137; omega)
      obtain ⟨a142, n143, c144, rfl⟩ := vw141.form
      refine s_ql (.slice a142 n143 c144) (by kernel_rfl) q140 ?_
      obtain ⟨g145, r146⟩ := G_some r138
      obtain ⟨H147, q148, e149, hm150⟩ := View.clear (P := Tryd.prog) (m := 24) (at_ := #[22]) vw141 ((0, 0, 0) : Int × Int × Int) e70.wf m72 g145 rfl (by kernel_rfl)
      refine s_ek (.tuple #[]) (by kernel_rfl) (map_ok q148) ?_
      refine s_nil ?_
      refine k136 _ _ ?_
      refine w_seqk fun K151 k151 => ?_
      refine w_reg (by kernel_rfl) ?_
      refine s_qk (hd_s) (by kernel_rfl) ?_
      refine s_qk (.int .i64 o66.2) (by kernel_rfl) ?_
      obtain ⟨g152, r153⟩ := G_some r146
      obtain ⟨s154, q155, hs156⟩ := Ow.head (P := Tryd.prog) hm150 (t := 22) (by kernel_rfl) (hi := (some (.int .i64 o66.2))) (r := o66.2.toNat) (aBound_int _ (by have := g152; omega)) (by have := g152; omega)
      obtain ⟨a157, n158, c159, rfl⟩ := hs156.form
      refine s_ql (.slice a157 n158 c159) (by kernel_rfl) q155 ?_
      refine s_qk (.slice a157 n158 c159) (by kernel_rfl) ?_
      refine s_nil ?_
      refine k151 _ _ ?_
      refine w_ret (bl_ret (th_ret (th_ret (bl_ret (th_ret (th_ret ?_))))))
      obtain ⟨v161, hv162, hz163⟩ := map_some r153
      subst hz163
      obtain rfl := it_inr hn32
      have hq164 := elim_inl r17
      rw [hq164] at hv162
      refine b_ret (fn := Tryd.f50) (vs := [.slice a157 n158 c159]) (aRes_tmp (by kernel_rfl) (rfl)) ?_
      obtain rfl := Option.some.inj hv162
      exact ⟨(.slice a157 n158 c159), rfl, (FrS.step wf (FrS.step wf (FrS.step wf (FrS.step wf (FrS.refl (W := fp_s) wf) e26 Inn.nil) e51 Inn.nil) e70 Inn.refl') e149 Inn.refl'), hs156, hm150⟩
    ·have r165 := ite_bf h52 r49
     refine w_skip ?_
     refine k39 _ _ ?_
     refine w_reg (by kernel_rfl) ?_
     refine s_qk (.int .i64 k3) (by kernel_rfl) ?_
     obtain ⟨g166, r167⟩ := G_some r165
     refine s_w ((k3 + 1)) (k := .i64) (x := (k3 + 1)) (by kernel_rfl) (wrap64 (by have := g166; omega)) ?_
     refine s_qk (.int .i64 (k3 + 1)) (by kernel_rfl) ?_
     refine s_nil ?_
     obtain rfl := Option.some.inj r167
     exact k33 n29 _ _ (Nat.lt_succ_self _) ⟨(k3 + 1), hn32, ⟨by kernel_rfl, by kernel_rfl, by kernel_rfl, trivial⟩, (FrS.step wf (FrS.step wf (FrS.refl (W := []) wf) e26 Inn.nil) e51 Inn.nil)⟩
   ·have r168 := ite_f h37 hz31
    refine w_exit (th_exit (th_exit (bl_eq ?_)))
    obtain rfl := Option.some.inj r168
    obtain rfl := it_inr hn32
    exact k21 _ _ ⟨_, rfl, ⟨by kernel_rfl, trivial⟩, (FrS.step wf (FrS.refl (W := []) wf) e26 Inn.nil)⟩
  ·obtain ⟨o15, rfl, hh22, e20⟩ := hM
   have r169 := elim_inr r17
   obtain ⟨β, rfl⟩ := has_ex hh22
   clear hh22
   refine k13 _ _ ?_
   refine w_seqk fun K170 k170 => ?_
   refine w_reg (by kernel_rfl) ?_
   refine s_qk (hd_s) (by kernel_rfl) ?_
   refine s_qk (hd_s) (by kernel_rfl) ?_
   refine s_nil ?_
   refine k170 _ _ ?_
   refine w_ret ?_
   refine b_ret (fn := Tryd.f50) (vs := [hd_s]) (aRes_tmp (by kernel_rfl) (rfl)) ?_
   have u171 := (h_s.fr e20 Dj.nil_l)
   obtain rfl := Option.some.inj r169
   exact ⟨(hd_s), rfl, (FrS.step wf (FrS.refl (W := fp_s) wf) e20 Inn.nil), u171, u171⟩

theorem c_normal_Of {H : AH} {hd_Arcs : Value} {fp_Arcs : Fp} {N_ : Int} {Arcs : List (Int × Int × Int)} {r : Int × List (Int × Int × Int) × Er}
  (wf : WF H) (h_Arcs : Sq enc_i64_i64_i64 3 H hd_Arcs Arcs fp_Arcs) (hr : z_normal_Of N_ Arcs = some r) :
  ACalls Tryd.prog 13 #[.agg #[.int .i64 N_, hd_Arcs]] H fun v H' => ∃ (s3 : Value) (f4 : Fp) (v7 : Value) (f8 : Fp), v = .tuple #[.agg #[.int .i64 r.1, s3], v7] ∧ FrS [] H H' ∧ Ow enc_i64_i64_i64 3 H' s3 r.2.1 f4 ∧ Ev 53 90 H' v7 r.2.2 f8 ∧ Inn [] H f4 ∧ Inn [] H f8 ∧ Dj f4 f8 := by
 refine acalls_of_body mixed Tryd.func13 rfl (Nat.le_of_ble_eq_true rfl) ?_
 unfold z_normal_Of at hr
 refine w_seqk fun K12 k12 => ?_
 refine w_reg (by kernel_rfl) ?_
 refine s_rwl wf [.int .i64 N_, hd_Arcs] (one_cons (rfl) (one_cons (h_Arcs.one1) (one_nil))) (by kernel_rfl) fun b13 H14 e15 hb16 r17 => ?_
 refine s_rwk e15.wf [.int .i64 0, .slice none 0 0] (by kernel_rfl) fun b19 H20 e21 hb22 r23 => ?_
 refine s_qk (.nilIface) (by kernel_rfl) ?_
 refine s_nil ?_
 refine k12 _ _ ?_
 refine w_seqk fun K25 k25 => ?_
 refine w_seqk fun K26 k26 => ?_
 refine w_reg (by kernel_rfl) ?_
 have u27 := (r17.ext e21)
 refine s_ql (.agg #[.int .i64 N_, hd_Arcs]) (x := aLoad Tryd.prog 24 (.pointer (some ⟨b13, 0, none⟩)) H20) (by kernel_rfl) (u27.ld (by kernel_rfl)) ?_
 have u28 := ((h_Arcs.ext e15).ext e21)
 obtain ⟨y29, hy30, r31⟩ := bind_some hr
 refine s_ck 47 #[.agg #[.int .i64 N_, hd_Arcs]] (by kernel_rfl) (c_gtext_Check e21.wf u28 hy30) ?_
 rintro v32 H34 ⟨_, f33, rfl, e35, m36, i37⟩
 refine s_qk (v32) (by kernel_rfl) ?_
 refine s_nil ?_
 refine k26 _ _ ?_
 refine w_seqk fun K39 k39 => ?_
 refine w_reg (by kernel_rfl) ?_
 refine s_qk (v32) (by kernel_rfl) ?_
 rcases (m36).cases with ⟨h40, rfl⟩ | ⟨h40, t41, x42, rfl⟩
 ·have r43 := ite_t h40 r31
  refine s_qk (.bool false) (by kernel_rfl) ?_
  refine s_nil ?_
  refine k39 _ _ ?_
  refine w_cond false (by kernel_rfl) rfl (fun h => by cases h) (fun _ => ?_)
  refine w_skip ?_
  refine k25 _ _ ?_
  refine w_seqk fun K44 k44 => ?_
  refine w_reg (by kernel_rfl) ?_
  refine s_qk (.pointer (some ⟨b13, 0, none⟩)) (by kernel_rfl) ?_
  have u45 := (u27.frS e35 Dj.nil_l)
  refine s_ql (.int .i64 N_) (x := aLoad Tryd.prog 3 (.pointer (some ⟨b13, 0, none⟩)) H34) (by kernel_rfl) (u45.ld (by kernel_rfl)) ?_
  refine s_qk (.agg #[.int .i64 N_, .slice none 0 0]) (by kernel_rfl) ?_
  refine s_rwk e35.wf [.int .i64 0, .slice none 0 0] (by kernel_rfl) fun b46 H47 e48 hb49 r50 => ?_
  obtain ⟨H52, q53, e54, r55⟩ := Row.store (P := Tryd.prog) (t := 24) (p := 0) e48.wf r50 (.agg #[.int .i64 N_, .slice none 0 0]) [.int .i64 N_, .slice none 0 0] (by kernel_rfl) (by kernel_rfl) (one_cons (rfl) (one_cons (rfl) (one_nil))) (Nat.le_of_ble_eq_true (by kernel_rfl)) [.int .i64 N_, .slice none 0 0] (by kernel_rfl)
  refine s_ek (undef) (by kernel_rfl) (map_ok q53) ?_
  refine s_nil ?_
  refine k44 _ _ ?_
  refine w_seqk fun K56 k56 => ?_
  refine w_seqk fun K57 k57 => ?_
  refine w_reg (by kernel_rfl) ?_
  refine s_qk (.pointer (some ⟨b13, 1, none⟩)) (by kernel_rfl) ?_
  have u58 := ((u45.ext e48).frS e54 (hb49.djn (r17.ltF.le (ntr e21.next e35.next))))
  refine s_ql (hd_Arcs) (x := aLoad Tryd.prog 22 (.pointer (some ⟨b13, 1, none⟩)) H52) (by kernel_rfl) (u58.ld (by kernel_rfl)) ?_
  have u59 := (((u28.fr e35 Dj.nil_l).ext e48).fr e54 (hb49.djn (h_Arcs.lt.le (ntr (ntr e15.next e21.next) e35.next))))
  refine s_ql (.int .i64 (Arcs.length : Int)) (x := aLen Tryd.prog 22 hd_Arcs H52) (by kernel_rfl) (u59.lenb (by kernel_rfl)) ?_
  refine s_qk (.int .i64 0) (by kernel_rfl) ?_
  refine s_nil ?_
  refine k57 _ _ ?_
  obtain ⟨o60, hx61, r62⟩ := bind_some r43
  refine w_mid (fun α H63 => ∃ (s67 : Value) (f68 : Fp), Has α [(2, .pointer (some ⟨b19, 0, none⟩)), (5, .pointer (some ⟨b46, 0, none⟩))] ∧ FrS [b46] H52 H63 ∧ Ow enc_i64_i64_i64 3 H63 s67 o60 f68 ∧ Row H63 b46 [.int .i64 N_, s67] ∧ Inn [] H52 f68) (fun K72 k72 => ?_) (fun α H63 hM => ?_)
  ·refine w_block ?_
   obtain ⟨n74, hn75⟩ := loopO_iff.1 hx61
   refine w_loopn (fun n α H76 => ∃ (i0 : Int), ∃ (c1 : List (Int × Int × Int)), ∃ (s80 : Value), ∃ (f81 : Fp), iterO (fun zz_ => z_normal_Of_l0 Arcs zz_.1 zz_.2) n (i0, c1) = some o60 ∧ Has α [(2, .pointer (some ⟨b19, 0, none⟩)), (5, .pointer (some ⟨b46, 0, none⟩)), (18, hd_Arcs), (19, .int .i64 (Arcs.length : Int)), (20, .int .i64 i0)] ∧ FrS [b46] H52 H76 ∧ Ow enc_i64_i64_i64 3 H76 s80 c1 f81 ∧ Row H76 b46 [.int .i64 N_, s80] ∧ Inn [] H52 f81) n74 ⟨0, [], (.slice none 0 0), [], hn75, ⟨by kernel_rfl, by kernel_rfl, by kernel_rfl, by kernel_rfl, by kernel_rfl, trivial⟩, (FrS.refl (W := [b46]) e54.wf), (Ow.nil (by decide)), r55, Inn.nil⟩ ?_
   rintro n74 α H76 ⟨i0, c1, s80, f81, hi86, hh85, e77, m79, m83, i84⟩ K91 k91
   obtain ⟨n87, z88, rfl, hz89, hn90⟩ := iter_succ hi86
   obtain ⟨β, rfl⟩ := has_ex hh85
   clear hh85
   replace hz89 : z_normal_Of_l0 Arcs i0 c1 = some z88 := hz89
   unfold z_normal_Of_l0 at hz89
   obtain ⟨a92, n93, c94, rfl⟩ := m79.form
   refine w_seqk fun K95 k95 => ?_
   refine w_reg (by kernel_rfl) ?_
   refine s_qk (.bool (decide (i0 < (Arcs.length : Int)))) (by kernel_rfl) ?_
   refine s_nil ?_
   refine k95 _ _ ?_
   refine w_seqk fun K96 k96 => ?_
   refine w_condp (i0 < (Arcs.length : Int)) (by kernel_rfl) rfl (fun h97 => ?_) (fun h97 => ?_)
   ·have r98 := ite_t h97 hz89
    refine w_skip ?_
    refine k96 _ _ ?_
    refine w_seqk fun K99 k99 => ?_
    refine w_block ?_
    refine w_seqk fun K100 k100 => ?_
    refine w_reg (by kernel_rfl) ?_
    obtain ⟨g101, r102⟩ := G_some r98
    have u103 := (u59.fr e77 (hb49.djn (h_Arcs.lt.le (ntr (ntr e15.next e21.next) e35.next))))
    refine s_ql (elp hd_Arcs 3 i0.toNat 0) (x := aIndexAddr Tryd.prog 22 hd_Arcs (.int .i64 i0)) (by kernel_rfl) (u103.idxb (by kernel_rfl) g101 h97) ?_
    refine s_ql (.agg #[.int .i64 ((gt Arcs i0).1), .int .i64 ((gt Arcs i0).2.1), .int .i64 ((gt Arcs i0).2.2)]) (x := aLoad Tryd.prog 51 (elp hd_Arcs 3 i0.toNat 0) H76) (by kernel_rfl) (u103.ld g101 h97 (by kernel_rfl)) ?_
    refine s_rwk e77.wf [.int .i64 0, .int .i64 0, .int .i64 0] (by kernel_rfl) fun b104 H105 e106 hb107 r108 => ?_
    obtain ⟨H110, q111, e112, r113⟩ := Row.store (P := Tryd.prog) (t := 51) (p := 0) e106.wf r108 (.agg #[.int .i64 ((gt Arcs i0).1), .int .i64 ((gt Arcs i0).2.1), .int .i64 ((gt Arcs i0).2.2)]) [.int .i64 ((gt Arcs i0).1), .int .i64 ((gt Arcs i0).2.1), .int .i64 ((gt Arcs i0).2.2)] (by kernel_rfl) (by kernel_rfl) (one_cons (rfl) (one_cons (rfl) (one_cons (rfl) (one_nil)))) (Nat.le_of_ble_eq_true (by kernel_rfl)) [.int .i64 ((gt Arcs i0).1), .int .i64 ((gt Arcs i0).2.1), .int .i64 ((gt Arcs i0).2.2)] (by kernel_rfl)
    refine s_ek (undef) (by kernel_rfl) (map_ok q111) ?_
    refine s_nil ?_
    refine k100 _ _ ?_
    refine w_seqk fun K114 k114 => ?_
    refine w_reg (by kernel_rfl) ?_
    refine s_qk (.pointer (some ⟨b104, 0, none⟩)) (by kernel_rfl) ?_
    refine s_ql (.int .i64 ((gt Arcs i0).1)) (x := aLoad Tryd.prog 3 (.pointer (some ⟨b104, 0, none⟩)) H110) (by kernel_rfl) (r113.ld (by kernel_rfl)) ?_
    refine s_qk (.pointer (some ⟨b104, 1, none⟩)) (by kernel_rfl) ?_
    refine s_ql (.int .i64 ((gt Arcs i0).2.1)) (x := aLoad Tryd.prog 3 (.pointer (some ⟨b104, 1, none⟩)) H110) (by kernel_rfl) (r113.ld (by kernel_rfl)) ?_
    refine s_qk (.bool (!decide (((gt Arcs i0).1) = ((gt Arcs i0).2.1)))) (by kernel_rfl) ?_
    refine s_nil ?_
    refine k114 _ _ ?_
    refine w_condn (((gt Arcs i0).1) = ((gt Arcs i0).2.1)) (by kernel_rfl) rfl (fun h115 => ?_) (fun h115 => ?_)
    ·have r116 := ite_f h115 r102
     refine w_reg (by kernel_rfl) ?_
     refine s_qk (.pointer (some ⟨b46, 1, none⟩)) (by kernel_rfl) ?_
     have u117 := ((m83.ext e106).frS e112 (hb107.djn (r50.ltF.le (ntr e54.next e77.next))))
     refine s_ql (.slice a92 n93 c94) (x := aLoad Tryd.prog 22 (.pointer (some ⟨b46, 1, none⟩)) H110) (by kernel_rfl) (u117.ld (by kernel_rfl)) ?_
     refine s_ql (.agg #[.int .i64 ((gt Arcs i0).1), .int .i64 ((gt Arcs i0).2.1), .int .i64 ((gt Arcs i0).2.2)]) (x := aLoad Tryd.prog 51 (.pointer (some ⟨b104, 0, none⟩)) H110) (by kernel_rfl) (r113.ld (by kernel_rfl)) ?_
     refine s_owk (enc := enc_i64_i64_i64) (sz := 3) e112.wf [((gt Arcs i0).1, (gt Arcs i0).2.1, (gt Arcs i0).2.2)] 1 (by decide) (fun _ _ => rfl) (fun _ _ => rfl) rfl (by kernel_rfl) fun s118 f119 H120 e121 hf122 hm123 => ?_
     obtain ⟨a124, n125, c126, rfl⟩ := hm123.form
     have u128 := (((m79.ext e106).fr e112 (hb107.djn m79.lt)).ext e121)
     obtain ⟨g129, r130⟩ := G_some r116
     obtain ⟨s131, H132, f133, q137, e134, hm135, hf136⟩ := Ow.append (P := Tryd.prog) 24 e121.wf u128 hm123.sq (fun _ _ => rfl) (at_ := #[22, 22]) rfl rfl (by kernel_rfl) (by kernel_rfl) (by decide) (by have := g129; first | omega | (simp only [List.length_cons, List.length_nil] at this ⊢; omega) | (simp at this ⊢; omega))
     obtain ⟨a138, n139, c140, rfl⟩ := hm135.form
     refine s_ek (.slice a138 n139 c140) (by kernel_rfl) (q137) ?_
     refine s_qk (.pointer (some ⟨b46, 1, none⟩)) (by kernel_rfl) ?_
     have u146 := ((u117.ext e121).frS e134 (i84.djn (r50.ltF.le e54.next)))
     obtain ⟨H142, q143, e144, r145⟩ := Row.store (P := Tryd.prog) (t := 22) (p := 1) e134.wf u146 (.slice a138 n139 c140) [.slice a138 n139 c140] (by kernel_rfl) (by kernel_rfl) (one_cons (hm135.one1) (one_nil)) (Nat.le_of_ble_eq_true (by kernel_rfl)) [.int .i64 N_, .slice a138 n139 c140] (by kernel_rfl)
     refine s_ek (undef) (by kernel_rfl) (map_ok q143) ?_
     refine s_nil ?_
     refine k99 _ _ ?_
     refine w_reg (by kernel_rfl) ?_
     obtain ⟨g147, r148⟩ := G_some r130
     refine s_w ((i0 + 1)) (k := .i64) (x := (i0 + 1)) (by kernel_rfl) (wrap64 (by have := g147; omega)) ?_
     refine s_qk (.int .i64 (i0 + 1)) (by kernel_rfl) ?_
     refine s_nil ?_
     have u149 := (hm135.fr e144 (Dj.symm (hf136.dj (i84.djn (r50.ltF.le e54.next)) (r50.ltF.le (ntr (ntr (ntr (ntr e54.next e77.next) e106.next) e112.next) e121.next)))))
     obtain rfl := Option.some.inj r148
     exact k91 n87 _ _ (Nat.lt_succ_self _) ⟨(i0 + 1), (c1 ++ [((gt Arcs i0).1, (gt Arcs i0).2.1, (gt Arcs i0).2.2)]), (.slice a138 n139 c140), f133, hn90, ⟨by kernel_rfl, by kernel_rfl, by kernel_rfl, by kernel_rfl, by kernel_rfl, trivial⟩, (FrS.step e54.wf (FrS.step e54.wf ((FrS.step e54.wf ((FrS.step e54.wf (FrS.refl (W := [b46]) e54.wf) e77 Inn.refl').extR e106) e112 (hb107.fresh e77.next)).extR e121) e134 (i84.fresh (Nat.le_refl _))) e144 Inn.refl'), u149, r145, (Inn.trans (i84.fresh (Nat.le_refl _)) (ntr (ntr (ntr e77.next e106.next) e112.next) e121.next) hf136)⟩
    ·have r150 := ite_t h115 r102
     refine w_skip ?_
     refine k99 _ _ ?_
     refine w_reg (by kernel_rfl) ?_
     obtain ⟨g151, r152⟩ := G_some r150
     refine s_w ((i0 + 1)) (k := .i64) (x := (i0 + 1)) (by kernel_rfl) (wrap64 (by have := g151; omega)) ?_
     refine s_qk (.int .i64 (i0 + 1)) (by kernel_rfl) ?_
     refine s_nil ?_
     have u153 := ((m79.ext e106).fr e112 (hb107.djn m79.lt))
     have u154 := ((m83.ext e106).frS e112 (hb107.djn (r50.ltF.le (ntr e54.next e77.next))))
     obtain rfl := Option.some.inj r152
     exact k91 n87 _ _ (Nat.lt_succ_self _) ⟨(i0 + 1), c1, (.slice a92 n93 c94), f81, hn90, ⟨by kernel_rfl, by kernel_rfl, by kernel_rfl, by kernel_rfl, by kernel_rfl, trivial⟩, (FrS.step e54.wf ((FrS.step e54.wf (FrS.refl (W := [b46]) e54.wf) e77 Inn.refl').extR e106) e112 (hb107.fresh e77.next)), u153, u154, (i84.fresh (Nat.le_refl _))⟩
   ·have r155 := ite_f h97 hz89
    refine w_exit (th_exit (th_exit (bl_eq ?_)))
    obtain rfl := Option.some.inj r155
    obtain rfl := it_inr hn90
    exact k72 _ _ ⟨(.slice a92 n93 c94), f81, ⟨by kernel_rfl, by kernel_rfl, trivial⟩, (FrS.step e54.wf (FrS.refl (W := [b46]) e54.wf) e77 Inn.refl'), m79, m83, (i84.fresh (Nat.le_refl _))⟩
  ·obtain ⟨s67, f68, hh73, e64, m66, m70, i71⟩ := hM
   obtain ⟨β, rfl⟩ := has_ex hh73
   clear hh73
   obtain ⟨a156, n157, c158, rfl⟩ := m66.form
   refine k56 _ _ ?_
   refine w_seqk fun K159 k159 => ?_
   refine w_reg (by kernel_rfl) ?_
   refine s_qk (.pointer (some ⟨b46, 1, none⟩)) (by kernel_rfl) ?_
   refine s_ql (.slice a156 n157 c158) (x := aLoad Tryd.prog 22 (.pointer (some ⟨b46, 1, none⟩)) H63) (by kernel_rfl) (m70.ld (by kernel_rfl)) ?_
   obtain ⟨g160, r161⟩ := G_some r62
   obtain ⟨y162, hy163, r164⟩ := bind_some r161
   refine s_ck 48 #[.slice a156 n157 c158, .func (.func 49) #[] #[]] (by kernel_rfl) (a_sortO (enc := enc_i64_i64_i64) (fun _ => rfl) (by intro x v hv; simp only [enc_i64_i64_i64, List.mem_cons, List.not_mem_nil, or_false] at hv; rcases hv with rfl | rfl | rfl <;> rfl) (by intro x v hv; simp only [enc_i64_i64_i64, List.mem_cons, List.not_mem_nil, or_false] at hv; rcases hv with rfl | rfl | rfl <;> rfl) (c := (fun (a_ b_ : Int × Int × Int) => z_normal_order a_.1 a_.2.1 a_.2.2 b_.1 b_.2.1 b_.2.2)) (Go.Proofs.enters_of Tryd.func49 (by kernel_rfl) rfl) (fun x y r hr => (c_normal_order aNil_wf hr).mono fun v H' h => h.1) e64.wf m66 g160 hy163) ?_
   rintro _ H165 ⟨rfl, e166, hm167⟩
   refine s_nil ?_
   refine k159 _ _ ?_
   refine w_seqk fun K168 k168 => ?_
   refine w_reg (by kernel_rfl) ?_
   refine s_qk (.pointer (some ⟨b46, 1, none⟩)) (by kernel_rfl) ?_
   have u169 := (m70.frS e166 (i71.djn (r50.ltF.le e54.next)))
   refine s_ql (.slice a156 n157 c158) (x := aLoad Tryd.prog 22 (.pointer (some ⟨b46, 1, none⟩)) H165) (by kernel_rfl) (u169.ld (by kernel_rfl)) ?_
   obtain ⟨y170, hy171, r172⟩ := bind_some r164
   refine s_ck 50 #[.slice a156 n157 c158, .func (.func 51) #[] #[]] (by kernel_rfl) (c_slices_CompactFunc e166.wf hm167 hy171) ?_
   rintro s173 H174 ⟨_, rfl, e175, m176, m177⟩
   obtain ⟨a179, n180, c181, rfl⟩ := m176.form
   refine s_qk (.pointer (some ⟨b46, 1, none⟩)) (by kernel_rfl) ?_
   have u186 := (u169.frS e175 (i71.djn (r50.ltF.le e54.next)))
   obtain ⟨H182, q183, e184, r185⟩ := Row.store (P := Tryd.prog) (t := 22) (p := 1) e175.wf u186 (.slice a179 n180 c181) [.slice a179 n180 c181] (by kernel_rfl) (by kernel_rfl) (one_cons (m176.one1) (one_nil)) (Nat.le_of_ble_eq_true (by kernel_rfl)) [.int .i64 N_, .slice a179 n180 c181] (by kernel_rfl)
   refine s_ek (undef) (by kernel_rfl) (map_ok q183) ?_
   refine s_nil ?_
   refine k168 _ _ ?_
   refine w_seqk fun K187 k187 => ?_
   refine w_reg (by kernel_rfl) ?_
   refine s_ql (.agg #[.int .i64 N_, .slice a179 n180 c181]) (x := aLoad Tryd.prog 24 (.pointer (some ⟨b46, 0, none⟩)) H182) (by kernel_rfl) (r185.ld (by kernel_rfl)) ?_
   have u192 := (((((((r23.frS e35 Dj.nil_l).ext e48).frS e54 (hb49.djn (r23.ltF.le e35.next))).frS e64 (hb49.djn (r23.ltF.le e35.next))).frS e166 (i71.djn (r23.ltF.le (ntr (ntr e35.next e48.next) e54.next)))).frS e175 (i71.djn (r23.ltF.le (ntr (ntr e35.next e48.next) e54.next)))).frS e184 (hb49.djn (r23.ltF.le e35.next)))
   have u193 := (m176.fr e184 (Dj.symm (i71.djn (r50.ltF.le e54.next))))
   obtain ⟨H188, q189, e190, r191⟩ := Row.store (P := Tryd.prog) (t := 24) (p := 0) e184.wf u192 (.agg #[.int .i64 N_, .slice a179 n180 c181]) [.int .i64 N_, .slice a179 n180 c181] (by kernel_rfl) (by kernel_rfl) (one_cons (rfl) (one_cons (u193.one1) (one_nil))) (Nat.le_of_ble_eq_true (by kernel_rfl)) [.int .i64 N_, .slice a179 n180 c181] (by kernel_rfl)
   refine s_ek (undef) (by kernel_rfl) (map_ok q189) ?_
   refine s_qk (.nilIface) (by kernel_rfl) ?_
   refine s_nil ?_
   refine k187 _ _ ?_
   refine w_ret ?_
   refine b_ret (fn := Tryd.f13) (vs := [.agg #[.int .i64 N_, .slice a179 n180 c181], .nilIface]) (aRes_cell (Eq.trans (b := aLoad Tryd.prog 24 (.pointer (some ⟨b19, 0, none⟩)) H188) (by kernel_rfl) (r191.ld (by kernel_rfl))) (aRes_tmp (by kernel_rfl) (rfl))) ?_
   have u194 := (u193.fr e190 (Dj.symm (i71.djn (r23.ltF.le (ntr (ntr e35.next e48.next) e54.next)))))
   obtain rfl := Option.some.inj r172
   exact ⟨(.slice a179 n180 c181), f68, (.nilIface), [], rfl, (FrS.step wf (FrS.step wf (FrS.step wf (FrS.step wf (FrS.step wf (FrS.step wf ((FrS.step wf (((FrS.refl (W := []) wf).extR e15).extR e21) e35 Inn.nil).extR e48) e54 (hb49.fresh (ntr (ntr e15.next e21.next) e35.next))) e64 (hb49.fresh (ntr (ntr e15.next e21.next) e35.next))) e166 (i71.fresh (ntr (ntr (ntr (ntr e15.next e21.next) e35.next) e48.next) e54.next))) e175 (i71.fresh (ntr (ntr (ntr (ntr e15.next e21.next) e35.next) e48.next) e54.next))) e184 (hb49.fresh (ntr (ntr e15.next e21.next) e35.next))) e190 (hb22.fresh e15.next)), u194, Ev.nil, (i71.fresh (ntr (ntr (ntr (ntr e15.next e21.next) e35.next) e48.next) e54.next)), Inn.nil, Dj.nil_r⟩
 ·have r195 := ite_f h40 r31
  refine s_ql (.bool true) (x := aBin Tryd.prog .neq 28 (.tmp 10) (.const .nilIface) (.iface t41 x42) .nilIface) (by kernel_rfl) (aBin_nnil (by kernel_rfl)) ?_
  refine s_nil ?_
  refine k39 _ _ ?_
  refine w_cond true (by kernel_rfl) rfl (fun _ => ?_) (fun h => by cases h)
  refine w_seqk fun K196 k196 => ?_
  refine w_reg (by kernel_rfl) ?_
  refine s_qk (.agg #[.int .i64 0, .slice none 0 0]) (by kernel_rfl) ?_
  refine s_qk (.iface t41 x42) (by kernel_rfl) ?_
  have u201 := (r23.frS e35 Dj.nil_l)
  obtain ⟨H197, q198, e199, r200⟩ := Row.store (P := Tryd.prog) (t := 24) (p := 0) e35.wf u201 (.agg #[.int .i64 0, .slice none 0 0]) [.int .i64 0, .slice none 0 0] (by kernel_rfl) (by kernel_rfl) (one_cons (rfl) (one_cons (rfl) (one_nil))) (Nat.le_of_ble_eq_true (by kernel_rfl)) [.int .i64 0, .slice none 0 0] (by kernel_rfl)
  refine s_ek (undef) (by kernel_rfl) (map_ok q198) ?_
  refine s_qk (.iface t41 x42) (by kernel_rfl) ?_
  refine s_nil ?_
  refine k196 _ _ ?_
  refine w_ret (th_ret ?_)
  refine b_ret (fn := Tryd.f13) (vs := [.agg #[.int .i64 0, .slice none 0 0], .iface t41 x42]) (aRes_cell (Eq.trans (b := aLoad Tryd.prog 24 (.pointer (some ⟨b19, 0, none⟩)) H197) (by kernel_rfl) (r200.ld (by kernel_rfl))) (aRes_tmp (by kernel_rfl) (rfl))) ?_
  have u202 := (m36.fr e199 (Dj.symm (i37.djn r23.ltF)))
  obtain rfl := Option.some.inj r195
  exact ⟨(.slice none 0 0), [], (.iface t41 x42), f33, rfl, (FrS.step wf (FrS.step wf (((FrS.refl (W := []) wf).extR e15).extR e21) e35 Inn.nil) e199 (hb22.fresh e15.next)), (Ow.nil (by decide)), u202, Inn.nil, (i37.fresh (ntr e15.next e21.next)), Dj.nil_l⟩

theorem c_slices_Equal {H : AH} {hd_s1 : Value} {fp_s1 : Fp} {hd_s2 : Value} {fp_s2 : Fp} {s1 : List (Int × Int × Int)} {s2 : List (Int × Int × Int)} {r : Bool}
  (wf : WF H) (h_s1 : Sq enc_i64_i64_i64 3 H hd_s1 s1 fp_s1) (h_s2 : Sq enc_i64_i64_i64 3 H hd_s2 s2 fp_s2) (hr : z_slices_Equal s1 s2 = some r) :
  ACalls Tryd.prog 57 #[hd_s1, hd_s2] H fun v H' => v = .bool r ∧ H = H' := by
 refine acalls_of_body mixed Tryd.func57 rfl (Nat.le_of_ble_eq_true rfl) ?_
 unfold z_slices_Equal at hr
 refine w_seqk fun K1 k1 => ?_
 refine w_reg (by kernel_rfl) ?_
 refine s_qk (.bool false) (by kernel_rfl) ?_
 refine s_nil ?_
 refine k1 _ _ ?_
 refine w_seqk fun K2 k2 => ?_
 refine w_seqk fun K3 k3 => ?_
 refine w_reg (by kernel_rfl) ?_
 refine s_qk (hd_s1) (by kernel_rfl) ?_
 refine s_ql (.int .i64 (s1.length : Int)) (x := aLen Tryd.prog 22 hd_s1 H) (by kernel_rfl) (h_s1.lenb (by kernel_rfl)) ?_
 refine s_qk (hd_s2) (by kernel_rfl) ?_
 refine s_ql (.int .i64 (s2.length : Int)) (x := aLen Tryd.prog 22 hd_s2 H) (by kernel_rfl) (h_s2.lenb (by kernel_rfl)) ?_
 refine s_qk (.bool (!decide ((s1.length : Int) = (s2.length : Int)))) (by kernel_rfl) ?_
 refine s_nil ?_
 refine k3 _ _ ?_
 refine w_condn ((s1.length : Int) = (s2.length : Int)) (by kernel_rfl) rfl (fun h4 => ?_) (fun h4 => ?_)
 ·have r5 := ite_f h4 hr
  refine w_seqk fun K6 k6 => ?_
  refine w_reg (by kernel_rfl) ?_
  refine s_qk (.bool false) (by kernel_rfl) ?_
  refine s_nil ?_
  refine k6 _ _ ?_
  refine w_ret (th_ret ?_)
  refine b_ret (fn := Tryd.f57) (vs := [.bool false]) (aRes_tmp (by kernel_rfl) (rfl)) ?_
  obtain rfl := Option.some.inj r5
  exact ⟨rfl, rfl⟩
 ·have r7 := ite_t h4 hr
  refine w_skip ?_
  refine k2 _ _ ?_
  refine w_seqk fun K8 k8 => ?_
  refine w_seqk fun K9 k9 => ?_
  refine w_reg (by kernel_rfl) ?_
  refine s_qk (hd_s1) (by kernel_rfl) ?_
  refine s_ql (.int .i64 (s1.length : Int)) (x := aLen Tryd.prog 22 hd_s1 H) (by kernel_rfl) (h_s1.lenb (by kernel_rfl)) ?_
  refine s_qk (.int .i64 0) (by kernel_rfl) ?_
  refine s_nil ?_
  refine k9 _ _ ?_
  obtain ⟨z13, hx11, r12⟩ := bind_some r7
  refine w_mid (fun α H14 => ∃ o10, z13 = Sum.inr o10 ∧ Has α [] ∧ H = H14) (fun K16 k16 => ?_) (fun α H14 hM => ?_)
  ·refine w_block ?_
   obtain ⟨n18, hn19⟩ := loopO_iff.1 hx11
   refine w_loopn (fun n α H20 => ∃ (i0 : Int), iterO (fun zz_ => z_slices_Equal_l0 s1 s2 zz_) n i0 = some z13 ∧ Has α [(0, hd_s1), (1, hd_s2), (12, .int .i64 (s1.length : Int)), (13, .int .i64 i0)] ∧ H = H20) n18 ⟨0, hn19, ⟨by kernel_rfl, by kernel_rfl, by kernel_rfl, by kernel_rfl, trivial⟩, rfl⟩ ?_
   rintro n18 α H20 ⟨i0, hi23, hh22, rfl⟩ K28 k28
   obtain ⟨n24, z25, rfl, hz26, hn27⟩ := iter_succ hi23
   obtain ⟨β, rfl⟩ := has_ex hh22
   clear hh22
   replace hz26 : z_slices_Equal_l0 s1 s2 i0 = some z25 := hz26
   unfold z_slices_Equal_l0 at hz26
   refine w_seqk fun K29 k29 => ?_
   refine w_reg (by kernel_rfl) ?_
   refine s_qk (.bool (decide (i0 < (s1.length : Int)))) (by kernel_rfl) ?_
   refine s_nil ?_
   refine k29 _ _ ?_
   refine w_seqk fun K30 k30 => ?_
   refine w_condp (i0 < (s1.length : Int)) (by kernel_rfl) rfl (fun h31 => ?_) (fun h31 => ?_)
   ·have r32 := ite_t h31 hz26
    refine w_skip ?_
    refine k30 _ _ ?_
    refine w_seqk fun K33 k33 => ?_
    refine w_block ?_
    refine w_seqk fun K34 k34 => ?_
    refine w_reg (by kernel_rfl) ?_
    refine s_qk (.int .i64 i0) (by kernel_rfl) ?_
    refine s_qk (.int .i64 i0) (by kernel_rfl) ?_
    refine s_nil ?_
    refine k34 _ _ ?_
    refine w_seqk fun K35 k35 => ?_
    refine w_draw [0, 1, 2, 3, 4, 5, 6, 7, 8] (by kernel_rfl) ?_
    refine d_qk (hd_s1) (by kernel_rfl) ?_
    refine d_qk (.int .i64 i0) (by kernel_rfl) ?_
    obtain ⟨g36, r37⟩ := G_some r32
    refine d_ql (elp hd_s1 3 i0.toNat 0) (x := aIndexAddr Tryd.prog 22 hd_s1 (.int .i64 i0)) (by kernel_rfl) (h_s1.idxb (by kernel_rfl) g36 h31) ?_
    refine d_ql (.agg #[.int .i64 ((gt s1 i0).1), .int .i64 ((gt s1 i0).2.1), .int .i64 ((gt s1 i0).2.2)]) (x := aLoad Tryd.prog 51 (elp hd_s1 3 i0.toNat 0) H) (by kernel_rfl) (h_s1.ld g36 h31 (by kernel_rfl)) ?_
    refine d_qk (hd_s2) (by kernel_rfl) ?_
    refine d_qk (.int .i64 i0) (by kernel_rfl) ?_
    obtain ⟨g38, r39⟩ := G_some r37
    refine d_ql (elp hd_s2 3 i0.toNat 0) (x := aIndexAddr Tryd.prog 22 hd_s2 (.int .i64 i0)) (by kernel_rfl) (h_s2.idxb (by kernel_rfl) g36 g38) ?_
    refine d_ql (.agg #[.int .i64 ((gt s2 i0).1), .int .i64 ((gt s2 i0).2.1), .int .i64 ((gt s2 i0).2.2)]) (x := aLoad Tryd.prog 51 (elp hd_s2 3 i0.toNat 0) H) (by kernel_rfl) (h_s2.ld g36 g38 (by kernel_rfl)) ?_
    refine d_ql (.bool (!decide (((gt s1 i0).1) = ((gt s2 i0).1) ∧ ((gt s1 i0).2.1) = ((gt s2 i0).2.1) ∧ ((gt s1 i0).2.2) = ((gt s2 i0).2.2)))) (x := aBin Tryd.prog .neq 51 (.tmp 19) (.tmp 23) (.agg #[.int .i64 ((gt s1 i0).1), .int .i64 ((gt s1 i0).2.1), .int .i64 ((gt s1 i0).2.2)]) (.agg #[.int .i64 ((gt s2 i0).1), .int .i64 ((gt s2 i0).2.1), .int .i64 ((gt s2 i0).2.2)])) (by kernel_rfl) (aBin_neq51 _ _ ((gt s1 i0).1) ((gt s1 i0).2.1) ((gt s1 i0).2.2) ((gt s2 i0).1) ((gt s2 i0).2.1) ((gt s2 i0).2.2)) ?_
    refine d_nil ?_
    refine k35 _ _ ?_
    refine w_condn (((gt s1 i0).1) = ((gt s2 i0).1) ∧ ((gt s1 i0).2.1) = ((gt s2 i0).2.1) ∧ ((gt s1 i0).2.2) = ((gt s2 i0).2.2)) (by kernel_rfl) rfl (fun h40 => ?_) (fun h40 => ?_)
    ·have r41 := ite_f h40 r39
     refine w_seqk fun K42 k42 => ?_
     refine w_reg (by kernel_rfl) ?_
     refine s_qk (.bool false) (by kernel_rfl) ?_
     refine s_nil ?_
     refine k42 _ _ ?_
     refine w_ret (bl_ret (th_ret (th_ret (bl_ret (th_ret (th_ret ?_))))))
     obtain ⟨v43, hv44, hz45⟩ := map_some r41
     subst hz45
     obtain rfl := it_inr hn27
     have hq46 := elim_inl r12
     rw [hq46] at hv44
     refine b_ret (fn := Tryd.f57) (vs := [.bool false]) (aRes_tmp (by kernel_rfl) (rfl)) ?_
     obtain rfl := Option.some.inj hv44
     exact ⟨rfl, rfl⟩
    ·have r47 := ite_t h40 r39
     refine w_skip ?_
     refine k33 _ _ ?_
     refine w_reg (by kernel_rfl) ?_
     obtain ⟨g48, r49⟩ := G_some r47
     refine s_w ((i0 + 1)) (k := .i64) (x := (i0 + 1)) (by kernel_rfl) (wrap64 (by have := g48; omega)) ?_
     refine s_qk (.int .i64 (i0 + 1)) (by kernel_rfl) ?_
     refine s_nil ?_
     obtain rfl := Option.some.inj r49
     exact k28 n24 _ _ (Nat.lt_succ_self _) ⟨(i0 + 1), hn27, ⟨by kernel_rfl, by kernel_rfl, by kernel_rfl, by kernel_rfl, trivial⟩, rfl⟩
   ·have r50 := ite_f h31 hz26
    refine w_exit (th_exit (th_exit (bl_eq ?_)))
    obtain rfl := Option.some.inj r50
    obtain rfl := it_inr hn27
    exact k16 _ _ ⟨_, rfl, trivial, rfl⟩
  ·obtain ⟨o10, rfl, hh17, rfl⟩ := hM
   have r51 := elim_inr r12
   obtain ⟨β, rfl⟩ := has_ex hh17
   clear hh17
   refine k8 _ _ ?_
   refine w_seqk fun K52 k52 => ?_
   refine w_reg (by kernel_rfl) ?_
   refine s_qk (.bool true) (by kernel_rfl) ?_
   refine s_nil ?_
   refine k52 _ _ ?_
   refine w_ret ?_
   refine b_ret (fn := Tryd.f57) (vs := [.bool true]) (aRes_tmp (by kernel_rfl) (rfl)) ?_
   obtain rfl := Option.some.inj r51
   exact ⟨rfl, rfl⟩

theorem c_normal_Is {H : AH} {hd_Arcs : Value} {fp_Arcs : Fp} {N_ : Int} {Arcs : List (Int × Int × Int)} {r : Bool × Er}
  (wf : WF H) (h_Arcs : Sq enc_i64_i64_i64 3 H hd_Arcs Arcs fp_Arcs) (hr : z_normal_Is N_ Arcs = some r) :
  ACalls Tryd.prog 17 #[.agg #[.int .i64 N_, hd_Arcs]] H fun v H' => ∃ (v3 : Value) (f4 : Fp), v = .tuple #[.bool r.1, v3] ∧ FrS [] H H' ∧ Ev 53 90 H' v3 r.2 f4 ∧ Inn [] H f4 := by
 refine acalls_of_body mixed Tryd.func17 rfl (Nat.le_of_ble_eq_true rfl) ?_
 unfold z_normal_Is at hr
 refine w_seqk fun K6 k6 => ?_
 refine w_reg (by kernel_rfl) ?_
 refine s_rwl wf [.int .i64 N_, hd_Arcs] (one_cons (rfl) (one_cons (h_Arcs.one1) (one_nil))) (by kernel_rfl) fun b7 H8 e9 hb10 r11 => ?_
 refine s_qk (.bool false) (by kernel_rfl) ?_
 refine s_qk (.nilIface) (by kernel_rfl) ?_
 refine s_nil ?_
 refine k6 _ _ ?_
 refine w_seqk fun K13 k13 => ?_
 refine w_reg (by kernel_rfl) ?_
 refine s_ql (.agg #[.int .i64 N_, hd_Arcs]) (x := aLoad Tryd.prog 24 (.pointer (some ⟨b7, 0, none⟩)) H8) (by kernel_rfl) (r11.ld (by kernel_rfl)) ?_
 have u14 := (h_Arcs.ext e9)
 obtain ⟨y15, hy16, r17⟩ := bind_some hr
 refine s_ck 13 #[.agg #[.int .i64 N_, hd_Arcs]] (by kernel_rfl) (c_normal_Of e9.wf u14 hy16) ?_
 rintro _ H22 ⟨s18, f19, v20, f21, rfl, e23, m24, m25, i26, i27, d28⟩
 obtain ⟨a31, n32, c33, rfl⟩ := m24.form
 refine s_qk (.tuple #[.agg #[.int .i64 y15.1, .slice a31 n32 c33], v20]) (by kernel_rfl) ?_
 refine s_qk (.agg #[.int .i64 y15.1, .slice a31 n32 c33]) (by kernel_rfl) ?_
 refine s_qk (v20) (by kernel_rfl) ?_
 refine s_rwk e23.wf [.int .i64 0, .slice none 0 0] (by kernel_rfl) fun b34 H35 e36 hb37 r38 => ?_
 have u44 := (m24.ext e36)
 obtain ⟨H40, q41, e42, r43⟩ := Row.store (P := Tryd.prog) (t := 24) (p := 0) e36.wf r38 (.agg #[.int .i64 y15.1, .slice a31 n32 c33]) [.int .i64 y15.1, .slice a31 n32 c33] (by kernel_rfl) (by kernel_rfl) (one_cons (rfl) (one_cons (u44.one1) (one_nil))) (Nat.le_of_ble_eq_true (by kernel_rfl)) [.int .i64 y15.1, .slice a31 n32 c33] (by kernel_rfl)
 refine s_ek (undef) (by kernel_rfl) (map_ok q41) ?_
 refine s_qk (v20) (by kernel_rfl) ?_
 refine s_nil ?_
 refine k13 _ _ ?_
 refine w_seqk fun K45 k45 => ?_
 refine w_reg (by kernel_rfl) ?_
 refine s_qk (v20) (by kernel_rfl) ?_
 have u49 := ((m25.ext e36).fr e42 (hb37.djn m25.lt))
 rcases (u49).cases with ⟨h46, rfl⟩ | ⟨h46, t47, x48, rfl⟩
 ·have r50 := ite_t h46 r17
  refine s_qk (.bool true) (by kernel_rfl) ?_
  refine s_qk (.bool true) (by kernel_rfl) ?_
  refine s_qk (.pointer (some ⟨b34, 1, none⟩)) (by kernel_rfl) ?_
  refine s_ql (.slice a31 n32 c33) (x := aLoad Tryd.prog 22 (.pointer (some ⟨b34, 1, none⟩)) H40) (by kernel_rfl) (r43.ld (by kernel_rfl)) ?_
  refine s_qk (.pointer (some ⟨b7, 1, none⟩)) (by kernel_rfl) ?_
  have u51 := (((r11.frS e23 Dj.nil_l).ext e36).frS e42 (hb37.djn (r11.ltF.le e23.next)))
  refine s_ql (hd_Arcs) (x := aLoad Tryd.prog 22 (.pointer (some ⟨b7, 1, none⟩)) H40) (by kernel_rfl) (u51.ld (by kernel_rfl)) ?_
  have u52 := (u44.fr e42 (hb37.djn m24.lt))
  have u53 := (((u14.fr e23 Dj.nil_l).ext e36).fr e42 (hb37.djn (h_Arcs.lt.le (ntr e9.next e23.next))))
  obtain ⟨y54, hy55, r56⟩ := bind_some r50
  refine s_ck 57 #[.slice a31 n32 c33, hd_Arcs] (by kernel_rfl) (c_slices_Equal e42.wf u52.sq u53 hy55) ?_
  rintro _ _ ⟨rfl, rfl⟩
  refine s_qk (.bool y54) (by kernel_rfl) ?_
  refine s_qk (.nilIface) (by kernel_rfl) ?_
  refine s_qk (.bool y54) (by kernel_rfl) ?_
  refine s_qk (.nilIface) (by kernel_rfl) ?_
  refine s_nil ?_
  refine k45 _ _ ?_
  refine w_ret ?_
  refine b_ret (fn := Tryd.f17) (vs := [.bool y54, .nilIface]) (aRes_tmp (by kernel_rfl) (aRes_tmp (by kernel_rfl) (rfl))) ?_
  obtain rfl := Option.some.inj r56
  exact ⟨(.nilIface), [], rfl, (FrS.step wf ((FrS.step wf ((FrS.refl (W := []) wf).extR e9) e23 Inn.nil).extR e36) e42 (hb37.fresh (ntr e9.next e23.next))), Ev.nil, Inn.nil⟩
 ·have r59 := ite_f h46 r17
  refine s_ql (.bool false) (x := aBin Tryd.prog .eql 28 (.tmp 11) (.const .nilIface) (.iface t47 x48) .nilIface) (by kernel_rfl) (aBin_nil (by kernel_rfl)) ?_
  refine s_qk (.bool false) (by kernel_rfl) ?_
  refine s_no (by kernel_rfl) ?_
  refine s_no (by kernel_rfl) ?_
  refine s_no (by kernel_rfl) ?_
  refine s_no (by kernel_rfl) ?_
  refine s_no (by kernel_rfl) ?_
  refine s_qk (.bool false) (by kernel_rfl) ?_
  refine s_qk (.iface t47 x48) (by kernel_rfl) ?_
  refine s_qk (.bool false) (by kernel_rfl) ?_
  refine s_qk (.iface t47 x48) (by kernel_rfl) ?_
  refine s_nil ?_
  refine k45 _ _ ?_
  refine w_ret ?_
  refine b_ret (fn := Tryd.f17) (vs := [.bool false, .iface t47 x48]) (aRes_tmp (by kernel_rfl) (aRes_tmp (by kernel_rfl) (rfl))) ?_
  obtain rfl := Option.some.inj r59
  exact ⟨(.iface t47 x48), f21, rfl, (FrS.step wf ((FrS.step wf ((FrS.refl (W := []) wf).extR e9) e23 Inn.nil).extR e36) e42 (hb37.fresh (ntr e9.next e23.next))), u49, (i27.fresh e9.next)⟩

theorem c_viaductref03_SameArcs {H : AH} {hd_a : Value} {fp_a : Fp} {hd_b : Value} {fp_b : Fp} {a : List (Int × Int × Int)} {b : List (Int × Int × Int)} {r : Bool}
  (wf : WF H) (h_a : Sq enc_i64_i64_i64 3 H hd_a a fp_a) (h_b : Sq enc_i64_i64_i64 3 H hd_b b fp_b) (hr : z_viaductref03_SameArcs a b = some r) :
  ACalls Tryd.prog 36 #[hd_a, hd_b] H fun v H' => v = .bool r ∧ H = H' := by
 refine acalls_of_body mixed Tryd.func36 rfl (Nat.le_of_ble_eq_true rfl) ?_
 unfold z_viaductref03_SameArcs at hr
 refine w_seqk fun K1 k1 => ?_
 refine w_reg (by kernel_rfl) ?_
 refine s_qk (.bool false) (by kernel_rfl) ?_
 refine s_nil ?_
 refine k1 _ _ ?_
 refine w_seqk fun K2 k2 => ?_
 refine w_seqk fun K3 k3 => ?_
 refine w_reg (by kernel_rfl) ?_
 refine s_qk (hd_a) (by kernel_rfl) ?_
 refine s_ql (.int .i64 (a.length : Int)) (x := aLen Tryd.prog 22 hd_a H) (by kernel_rfl) (h_a.lenb (by kernel_rfl)) ?_
 refine s_qk (hd_b) (by kernel_rfl) ?_
 refine s_ql (.int .i64 (b.length : Int)) (x := aLen Tryd.prog 22 hd_b H) (by kernel_rfl) (h_b.lenb (by kernel_rfl)) ?_
 refine s_qk (.bool (!decide ((a.length : Int) = (b.length : Int)))) (by kernel_rfl) ?_
 refine s_nil ?_
 refine k3 _ _ ?_
 refine w_condn ((a.length : Int) = (b.length : Int)) (by kernel_rfl) rfl (fun h4 => ?_) (fun h4 => ?_)
 ·have r5 := ite_f h4 hr
  refine w_seqk fun K6 k6 => ?_
  refine w_reg (by kernel_rfl) ?_
  refine s_qk (.bool false) (by kernel_rfl) ?_
  refine s_nil ?_
  refine k6 _ _ ?_
  refine w_ret (th_ret ?_)
  refine b_ret (fn := Tryd.f36) (vs := [.bool false]) (aRes_tmp (by kernel_rfl) (rfl)) ?_
  obtain rfl := Option.some.inj r5
  exact ⟨rfl, rfl⟩
 ·have r7 := ite_t h4 hr
  refine w_skip ?_
  refine k2 _ _ ?_
  refine w_seqk fun K8 k8 => ?_
  refine w_seqk fun K9 k9 => ?_
  refine w_reg (by kernel_rfl) ?_
  refine s_qk (hd_a) (by kernel_rfl) ?_
  refine s_ql (.int .i64 (a.length : Int)) (x := aLen Tryd.prog 22 hd_a H) (by kernel_rfl) (h_a.lenb (by kernel_rfl)) ?_
  refine s_qk (.int .i64 0) (by kernel_rfl) ?_
  refine s_nil ?_
  refine k9 _ _ ?_
  obtain ⟨z13, hx11, r12⟩ := bind_some r7
  refine w_mid (fun α H14 => ∃ o10, z13 = Sum.inr o10 ∧ Has α [] ∧ H = H14) (fun K16 k16 => ?_) (fun α H14 hM => ?_)
  ·refine w_block ?_
   obtain ⟨n18, hn19⟩ := loopO_iff.1 hx11
   refine w_loopn (fun n α H20 => ∃ (i0 : Int), iterO (fun zz_ => z_viaductref03_SameArcs_l0 a b zz_) n i0 = some z13 ∧ Has α [(0, hd_a), (1, hd_b), (12, .int .i64 (a.length : Int)), (13, .int .i64 i0)] ∧ H = H20) n18 ⟨0, hn19, ⟨by kernel_rfl, by kernel_rfl, by kernel_rfl, by kernel_rfl, trivial⟩, rfl⟩ ?_
   rintro n18 α H20 ⟨i0, hi23, hh22, rfl⟩ K28 k28
   obtain ⟨n24, z25, rfl, hz26, hn27⟩ := iter_succ hi23
   obtain ⟨β, rfl⟩ := has_ex hh22
   clear hh22
   replace hz26 : z_viaductref03_SameArcs_l0 a b i0 = some z25 := hz26
   unfold z_viaductref03_SameArcs_l0 at hz26
   refine w_seqk fun K29 k29 => ?_
   refine w_reg (by kernel_rfl) ?_
   refine s_qk (.bool (decide (i0 < (a.length : Int)))) (by kernel_rfl) ?_
   refine s_nil ?_
   refine k29 _ _ ?_
   refine w_seqk fun K30 k30 => ?_
   refine w_condp (i0 < (a.length : Int)) (by kernel_rfl) rfl (fun h31 => ?_) (fun h31 => ?_)
   ·have r32 := ite_t h31 hz26
    refine w_skip ?_
    refine k30 _ _ ?_
    refine w_seqk fun K33 k33 => ?_
    refine w_block ?_
    refine w_seqk fun K34 k34 => ?_
    refine w_reg (by kernel_rfl) ?_
    refine s_qk (.int .i64 i0) (by kernel_rfl) ?_
    refine s_qk (.int .i64 i0) (by kernel_rfl) ?_
    refine s_nil ?_
    refine k34 _ _ ?_
    refine w_seqk fun K35 k35 => ?_
    refine w_draw [0, 1, 2, 3, 4, 5, 6, 7, 8] (by kernel_rfl) ?_
    refine d_qk (hd_a) (by kernel_rfl) ?_
    refine d_qk (.int .i64 i0) (by kernel_rfl) ?_
    obtain ⟨g36, r37⟩ := G_some r32
    refine d_ql (elp hd_a 3 i0.toNat 0) (x := aIndexAddr Tryd.prog 22 hd_a (.int .i64 i0)) (by kernel_rfl) (h_a.idxb (by kernel_rfl) g36 h31) ?_
    refine d_ql (.agg #[.int .i64 ((gt a i0).1), .int .i64 ((gt a i0).2.1), .int .i64 ((gt a i0).2.2)]) (x := aLoad Tryd.prog 51 (elp hd_a 3 i0.toNat 0) H) (by kernel_rfl) (h_a.ld g36 h31 (by kernel_rfl)) ?_
    refine d_qk (hd_b) (by kernel_rfl) ?_
    refine d_qk (.int .i64 i0) (by kernel_rfl) ?_
    obtain ⟨g38, r39⟩ := G_some r37
    refine d_ql (elp hd_b 3 i0.toNat 0) (x := aIndexAddr Tryd.prog 22 hd_b (.int .i64 i0)) (by kernel_rfl) (h_b.idxb (by kernel_rfl) g36 g38) ?_
    refine d_ql (.agg #[.int .i64 ((gt b i0).1), .int .i64 ((gt b i0).2.1), .int .i64 ((gt b i0).2.2)]) (x := aLoad Tryd.prog 51 (elp hd_b 3 i0.toNat 0) H) (by kernel_rfl) (h_b.ld g36 g38 (by kernel_rfl)) ?_
    refine d_ql (.bool (!decide (((gt a i0).1) = ((gt b i0).1) ∧ ((gt a i0).2.1) = ((gt b i0).2.1) ∧ ((gt a i0).2.2) = ((gt b i0).2.2)))) (x := aBin Tryd.prog .neq 51 (.tmp 19) (.tmp 23) (.agg #[.int .i64 ((gt a i0).1), .int .i64 ((gt a i0).2.1), .int .i64 ((gt a i0).2.2)]) (.agg #[.int .i64 ((gt b i0).1), .int .i64 ((gt b i0).2.1), .int .i64 ((gt b i0).2.2)])) (by kernel_rfl) (aBin_neq51 _ _ ((gt a i0).1) ((gt a i0).2.1) ((gt a i0).2.2) ((gt b i0).1) ((gt b i0).2.1) ((gt b i0).2.2)) ?_
    refine d_nil ?_
    refine k35 _ _ ?_
    refine w_condn (((gt a i0).1) = ((gt b i0).1) ∧ ((gt a i0).2.1) = ((gt b i0).2.1) ∧ ((gt a i0).2.2) = ((gt b i0).2.2)) (by kernel_rfl) rfl (fun h40 => ?_) (fun h40 => ?_)
    ·have r41 := ite_f h40 r39
     refine w_seqk fun K42 k42 => ?_
     refine w_reg (by kernel_rfl) ?_
     refine s_qk (.bool false) (by kernel_rfl) ?_
     refine s_nil ?_
     refine k42 _ _ ?_
     refine w_ret (bl_ret (th_ret (th_ret (bl_ret (th_ret (th_ret ?_))))))
     obtain ⟨v43, hv44, hz45⟩ := map_some r41
     subst hz45
     obtain rfl := it_inr hn27
     have hq46 := elim_inl r12
     rw [hq46] at hv44
     refine b_ret (fn := Tryd.f36) (vs := [.bool false]) (aRes_tmp (by kernel_rfl) (rfl)) ?_
     obtain rfl := Option.some.inj hv44
     exact ⟨rfl, rfl⟩
    ·have r47 := ite_t h40 r39
     refine w_skip ?_
     refine k33 _ _ ?_
     refine w_reg (by kernel_rfl) ?_
     obtain ⟨g48, r49⟩ := G_some r47
     refine s_w ((i0 + 1)) (k := .i64) (x := (i0 + 1)) (by kernel_rfl) (wrap64 (by have := g48; omega)) ?_
     refine s_qk (.int .i64 (i0 + 1)) (by kernel_rfl) ?_
     refine s_nil ?_
     obtain rfl := Option.some.inj r49
     exact k28 n24 _ _ (Nat.lt_succ_self _) ⟨(i0 + 1), hn27, ⟨by kernel_rfl, by kernel_rfl, by kernel_rfl, by kernel_rfl, trivial⟩, rfl⟩
   ·have r50 := ite_f h31 hz26
    refine w_exit (th_exit (th_exit (bl_eq ?_)))
    obtain rfl := Option.some.inj r50
    obtain rfl := it_inr hn27
    exact k16 _ _ ⟨_, rfl, trivial, rfl⟩
  ·obtain ⟨o10, rfl, hh17, rfl⟩ := hM
   have r51 := elim_inr r12
   obtain ⟨β, rfl⟩ := has_ex hh17
   clear hh17
   refine k8 _ _ ?_
   refine w_seqk fun K52 k52 => ?_
   refine w_reg (by kernel_rfl) ?_
   refine s_qk (.bool true) (by kernel_rfl) ?_
   refine s_nil ?_
   refine k52 _ _ ?_
   refine w_ret ?_
   refine b_ret (fn := Tryd.f36) (vs := [.bool true]) (aRes_tmp (by kernel_rfl) (rfl)) ?_
   obtain rfl := Option.some.inj r51
   exact ⟨rfl, rfl⟩

theorem c_viaductref03_Same {H : AH} {hd_Arcs : Value} {fp_Arcs : Fp} {hd_Arcs_ : Value} {fp_Arcs_ : Fp} {N_ : Int} {Arcs : List (Int × Int × Int)} {N_2 : Int} {Arcs_ : List (Int × Int × Int)} {r : Bool}
  (wf : WF H) (h_Arcs : Sq enc_i64_i64_i64 3 H hd_Arcs Arcs fp_Arcs) (h_Arcs_ : Sq enc_i64_i64_i64 3 H hd_Arcs_ Arcs_ fp_Arcs_) (hr : z_viaductref03_Same N_ Arcs N_2 Arcs_ = some r) :
  ACalls Tryd.prog 15 #[.agg #[.int .i64 N_, hd_Arcs], .agg #[.int .i64 N_2, hd_Arcs_]] H fun v H' => v = .bool r ∧ FrS [] H H' := by
 refine acalls_of_body mixed Tryd.func15 rfl (Nat.le_of_ble_eq_true rfl) ?_
 unfold z_viaductref03_Same at hr
 refine w_seqk fun K1 k1 => ?_
 refine w_reg (by kernel_rfl) ?_
 refine s_rwl wf [.int .i64 N_, hd_Arcs] (one_cons (rfl) (one_cons (h_Arcs.one1) (one_nil))) (by kernel_rfl) fun b2 H3 e4 hb5 r6 => ?_
 have u13 := (h_Arcs_.ext e4)
 refine s_rwl e4.wf [.int .i64 N_2, hd_Arcs_] (one_cons (rfl) (one_cons (u13.one1) (one_nil))) (by kernel_rfl) fun b8 H9 e10 hb11 r12 => ?_
 refine s_qk (.bool false) (by kernel_rfl) ?_
 refine s_nil ?_
 refine k1 _ _ ?_
 refine w_seqk fun K15 k15 => ?_
 refine w_reg (by kernel_rfl) ?_
 refine s_qk (.pointer (some ⟨b2, 0, none⟩)) (by kernel_rfl) ?_
 have u16 := (r6.ext e10)
 refine s_ql (.int .i64 N_) (x := aLoad Tryd.prog 3 (.pointer (some ⟨b2, 0, none⟩)) H9) (by kernel_rfl) (u16.ld (by kernel_rfl)) ?_
 refine s_qk (.pointer (some ⟨b8, 0, none⟩)) (by kernel_rfl) ?_
 refine s_ql (.int .i64 N_2) (x := aLoad Tryd.prog 3 (.pointer (some ⟨b8, 0, none⟩)) H9) (by kernel_rfl) (r12.ld (by kernel_rfl)) ?_
 refine s_b (N_ = N_2) (by kernel_rfl) (fun h17 => ?_) (fun h17 => ?_)
 ·have r18 := ite_t h17 hr
  refine s_qk (.bool true) (by kernel_rfl) ?_
  refine s_qk (.pointer (some ⟨b2, 1, none⟩)) (by kernel_rfl) ?_
  refine s_ql (hd_Arcs) (x := aLoad Tryd.prog 22 (.pointer (some ⟨b2, 1, none⟩)) H9) (by kernel_rfl) (u16.ld (by kernel_rfl)) ?_
  refine s_qk (.pointer (some ⟨b8, 1, none⟩)) (by kernel_rfl) ?_
  refine s_ql (hd_Arcs_) (x := aLoad Tryd.prog 22 (.pointer (some ⟨b8, 1, none⟩)) H9) (by kernel_rfl) (r12.ld (by kernel_rfl)) ?_
  have u19 := ((h_Arcs.ext e4).ext e10)
  have u20 := (u13.ext e10)
  obtain ⟨y21, hy22, r23⟩ := bind_some r18
  refine s_ck 36 #[hd_Arcs, hd_Arcs_] (by kernel_rfl) (c_viaductref03_SameArcs e10.wf u19 u20 hy22) ?_
  rintro _ _ ⟨rfl, rfl⟩
  refine s_qk (.bool y21) (by kernel_rfl) ?_
  refine s_qk (.bool y21) (by kernel_rfl) ?_
  refine s_nil ?_
  refine k15 _ _ ?_
  refine w_ret ?_
  refine b_ret (fn := Tryd.f15) (vs := [.bool y21]) (aRes_tmp (by kernel_rfl) (rfl)) ?_
  obtain rfl := Option.some.inj r23
  exact ⟨rfl, (((FrS.refl (W := []) wf).extR e4).extR e10)⟩
 ·have r26 := ite_f h17 hr
  refine s_qk (.bool false) (by kernel_rfl) ?_
  refine s_no (by kernel_rfl) ?_
  refine s_no (by kernel_rfl) ?_
  refine s_no (by kernel_rfl) ?_
  refine s_no (by kernel_rfl) ?_
  refine s_no (by kernel_rfl) ?_
  refine s_qk (.bool false) (by kernel_rfl) ?_
  refine s_qk (.bool false) (by kernel_rfl) ?_
  refine s_nil ?_
  refine k15 _ _ ?_
  refine w_ret ?_
  refine b_ret (fn := Tryd.f15) (vs := [.bool false]) (aRes_tmp (by kernel_rfl) (rfl)) ?_
  obtain rfl := Option.some.inj r26
  exact ⟨rfl, (((FrS.refl (W := []) wf).extR e4).extR e10)⟩

theorem c_viaductref02_SameInts {H : AH} {hd_a : Value} {fp_a : Fp} {hd_b : Value} {fp_b : Fp} {a : List (Int)} {b : List (Int)} {r : Bool}
  (wf : WF H) (h_a : Sq (encI .i64) 1 H hd_a a fp_a) (h_b : Sq (encI .i64) 1 H hd_b b fp_b) (hr : z_viaductref02_SameInts a b = some r) :
  ACalls Tryd.prog 23 #[hd_a, hd_b] H fun v H' => v = .bool r ∧ H = H' := by
 refine acalls_of_body mixed Tryd.func23 rfl (Nat.le_of_ble_eq_true rfl) ?_
 unfold z_viaductref02_SameInts at hr
 refine w_seqk fun K1 k1 => ?_
 refine w_reg (by kernel_rfl) ?_
 refine s_qk (.bool false) (by kernel_rfl) ?_
 refine s_nil ?_
 refine k1 _ _ ?_
 refine w_seqk fun K2 k2 => ?_
 refine w_seqk fun K3 k3 => ?_
 refine w_reg (by kernel_rfl) ?_
 refine s_qk (hd_a) (by kernel_rfl) ?_
 refine s_ql (.int .i64 (a.length : Int)) (x := aLen Tryd.prog 42 hd_a H) (by kernel_rfl) (h_a.lenb (by kernel_rfl)) ?_
 refine s_qk (hd_b) (by kernel_rfl) ?_
 refine s_ql (.int .i64 (b.length : Int)) (x := aLen Tryd.prog 42 hd_b H) (by kernel_rfl) (h_b.lenb (by kernel_rfl)) ?_
 refine s_qk (.bool (!decide ((a.length : Int) = (b.length : Int)))) (by kernel_rfl) ?_
 refine s_nil ?_
 refine k3 _ _ ?_
 refine w_condn ((a.length : Int) = (b.length : Int)) (by kernel_rfl) rfl (fun h4 => ?_) (fun h4 => ?_)
 ·have r5 := ite_f h4 hr
  refine w_seqk fun K6 k6 => ?_
  refine w_reg (by kernel_rfl) ?_
  refine s_qk (.bool false) (by kernel_rfl) ?_
  refine s_nil ?_
  refine k6 _ _ ?_
  refine w_ret (th_ret ?_)
  refine b_ret (fn := Tryd.f23) (vs := [.bool false]) (aRes_tmp (by kernel_rfl) (rfl)) ?_
  obtain rfl := Option.some.inj r5
  exact ⟨rfl, rfl⟩
 ·have r7 := ite_t h4 hr
  refine w_skip ?_
  refine k2 _ _ ?_
  refine w_seqk fun K8 k8 => ?_
  refine w_seqk fun K9 k9 => ?_
  refine w_reg (by kernel_rfl) ?_
  refine s_qk (hd_a) (by kernel_rfl) ?_
  refine s_ql (.int .i64 (a.length : Int)) (x := aLen Tryd.prog 42 hd_a H) (by kernel_rfl) (h_a.lenb (by kernel_rfl)) ?_
  refine s_qk (.int .i64 0) (by kernel_rfl) ?_
  refine s_nil ?_
  refine k9 _ _ ?_
  obtain ⟨z13, hx11, r12⟩ := bind_some r7
  refine w_mid (fun α H14 => ∃ o10, z13 = Sum.inr o10 ∧ Has α [] ∧ H = H14) (fun K16 k16 => ?_) (fun α H14 hM => ?_)
  ·refine w_block ?_
   obtain ⟨n18, hn19⟩ := loopO_iff.1 hx11
   refine w_loopn (fun n α H20 => ∃ (i0 : Int), iterO (fun zz_ => z_viaductref02_SameInts_l0 a b zz_) n i0 = some z13 ∧ Has α [(0, hd_a), (1, hd_b), (12, .int .i64 (a.length : Int)), (13, .int .i64 i0)] ∧ H = H20) n18 ⟨0, hn19, ⟨by kernel_rfl, by kernel_rfl, by kernel_rfl, by kernel_rfl, trivial⟩, rfl⟩ ?_
   rintro n18 α H20 ⟨i0, hi23, hh22, rfl⟩ K28 k28
   obtain ⟨n24, z25, rfl, hz26, hn27⟩ := iter_succ hi23
   obtain ⟨β, rfl⟩ := has_ex hh22
   clear hh22
   replace hz26 : z_viaductref02_SameInts_l0 a b i0 = some z25 := hz26
   unfold z_viaductref02_SameInts_l0 at hz26
   refine w_seqk fun K29 k29 => ?_
   refine w_reg (by kernel_rfl) ?_
   refine s_qk (.bool (decide (i0 < (a.length : Int)))) (by kernel_rfl) ?_
   refine s_nil ?_
   refine k29 _ _ ?_
   refine w_seqk fun K30 k30 => ?_
   refine w_condp (i0 < (a.length : Int)) (by kernel_rfl) rfl (fun h31 => ?_) (fun h31 => ?_)
   ·have r32 := ite_t h31 hz26
    refine w_skip ?_
    refine k30 _ _ ?_
    refine w_seqk fun K33 k33 => ?_
    refine w_block ?_
    refine w_seqk fun K34 k34 => ?_
    refine w_reg (by kernel_rfl) ?_
    refine s_qk (.int .i64 i0) (by kernel_rfl) ?_
    refine s_qk (.int .i64 i0) (by kernel_rfl) ?_
    refine s_nil ?_
    refine k34 _ _ ?_
    refine w_seqk fun K35 k35 => ?_
    refine w_draw [0, 1, 2, 3, 4, 5, 6, 7, 8] (by kernel_rfl) ?_
    refine d_qk (hd_a) (by kernel_rfl) ?_
    refine d_qk (.int .i64 i0) (by kernel_rfl) ?_
    obtain ⟨g36, r37⟩ := G_some r32
    refine d_ql (elp hd_a 1 i0.toNat 0) (x := aIndexAddr Tryd.prog 42 hd_a (.int .i64 i0)) (by kernel_rfl) (h_a.idxb (by kernel_rfl) g36 h31) ?_
    refine d_ql (.int .i64 (gt a i0)) (x := aLoad Tryd.prog 3 (elp hd_a 1 i0.toNat 0) H) (by kernel_rfl) (h_a.ld g36 h31 (by kernel_rfl)) ?_
    refine d_qk (hd_b) (by kernel_rfl) ?_
    refine d_qk (.int .i64 i0) (by kernel_rfl) ?_
    obtain ⟨g38, r39⟩ := G_some r37
    refine d_ql (elp hd_b 1 i0.toNat 0) (x := aIndexAddr Tryd.prog 42 hd_b (.int .i64 i0)) (by kernel_rfl) (h_b.idxb (by kernel_rfl) g36 g38) ?_
    refine d_ql (.int .i64 (gt b i0)) (x := aLoad Tryd.prog 3 (elp hd_b 1 i0.toNat 0) H) (by kernel_rfl) (h_b.ld g36 g38 (by kernel_rfl)) ?_
    refine d_qk (.bool (!decide ((gt a i0) = (gt b i0)))) (by kernel_rfl) ?_
    refine d_nil ?_
    refine k35 _ _ ?_
    refine w_condn ((gt a i0) = (gt b i0)) (by kernel_rfl) rfl (fun h40 => ?_) (fun h40 => ?_)
    ·have r41 := ite_f h40 r39
     refine w_seqk fun K42 k42 => ?_
     refine w_reg (by kernel_rfl) ?_
     refine s_qk (.bool false) (by kernel_rfl) ?_
     refine s_nil ?_
     refine k42 _ _ ?_
     refine w_ret (bl_ret (th_ret (th_ret (bl_ret (th_ret (th_ret ?_))))))
     obtain ⟨v43, hv44, hz45⟩ := map_some r41
     subst hz45
     obtain rfl := it_inr hn27
     have hq46 := elim_inl r12
     rw [hq46] at hv44
     refine b_ret (fn := Tryd.f23) (vs := [.bool false]) (aRes_tmp (by kernel_rfl) (rfl)) ?_
     obtain rfl := Option.some.inj hv44
     exact ⟨rfl, rfl⟩
    ·have r47 := ite_t h40 r39
     refine w_skip ?_
     refine k33 _ _ ?_
     refine w_reg (by kernel_rfl) ?_
     obtain ⟨g48, r49⟩ := G_some r47
     refine s_w ((i0 + 1)) (k := .i64) (x := (i0 + 1)) (by kernel_rfl) (wrap64 (by have := g48; omega)) ?_
     refine s_qk (.int .i64 (i0 + 1)) (by kernel_rfl) ?_
     refine s_nil ?_
     obtain rfl := Option.some.inj r49
     exact k28 n24 _ _ (Nat.lt_succ_self _) ⟨(i0 + 1), hn27, ⟨by kernel_rfl, by kernel_rfl, by kernel_rfl, by kernel_rfl, trivial⟩, rfl⟩
   ·have r50 := ite_f h31 hz26
    refine w_exit (th_exit (th_exit (bl_eq ?_)))
    obtain rfl := Option.some.inj r50
    obtain rfl := it_inr hn27
    exact k16 _ _ ⟨_, rfl, trivial, rfl⟩
  ·obtain ⟨o10, rfl, hh17, rfl⟩ := hM
   have r51 := elim_inr r12
   obtain ⟨β, rfl⟩ := has_ex hh17
   clear hh17
   refine k8 _ _ ?_
   refine w_seqk fun K52 k52 => ?_
   refine w_reg (by kernel_rfl) ?_
   refine s_qk (.bool true) (by kernel_rfl) ?_
   refine s_nil ?_
   refine k52 _ _ ?_
   refine w_ret ?_
   refine b_ret (fn := Tryd.f23) (vs := [.bool true]) (aRes_tmp (by kernel_rfl) (rfl)) ?_
   obtain rfl := Option.some.inj r51
   exact ⟨rfl, rfl⟩

theorem c_slices_Grow {H : AH} {n_ : Int} {r : List (Int × Int × Int)}
  (wf : WF H) (hr : z_slices_Grow n_ = some r) :
  ACalls Tryd.prog 86 #[.slice none 0 0, .int .i64 n_] H fun v H' => ∃ (s3 : Value) (f4 : Fp), v = s3 ∧ FrS [] H H' ∧ Ow enc_i64_i64_i64 3 H' s3 r f4 ∧ Inn [] H f4 := by
 refine acalls_of_body mixed Tryd.func86 rfl (Nat.le_of_ble_eq_true rfl) ?_
 unfold z_slices_Grow at hr
 refine w_seqk fun K6 k6 => ?_
 refine w_reg (by kernel_rfl) ?_
 refine s_qk (.slice none 0 0) (by kernel_rfl) ?_
 refine s_nil ?_
 refine k6 _ _ ?_
 refine w_seqk fun K7 k7 => ?_
 refine w_seqk fun K8 k8 => ?_
 refine w_reg (by kernel_rfl) ?_
 refine s_qk (.int .i64 n_) (by kernel_rfl) ?_
 refine s_qk (.bool (decide (n_ < 0))) (by kernel_rfl) ?_
 refine s_nil ?_
 refine k8 _ _ ?_
 refine w_condp (n_ < 0) (by kernel_rfl) rfl (fun h9 => ?_) (fun h9 => ?_)
 ·have r10 := ite_t h9 hr
  refine w_reg (by kernel_rfl) ?_
  refine s_qk (.iface 9 (.string ⟨#[99, 97, 110, 110, 111, 116, 32, 98, 101, 32, 110, 101, 103, 97, 116, 105, 118, 101]⟩)) (by kernel_rfl) ?_
  exact (no_none r10).elim
 ·have r11 := ite_f h9 hr
  refine w_skip ?_
  refine k7 _ _ ?_
  refine w_seqk fun K12 k12 => ?_
  refine w_seqk fun K13 k13 => ?_
  refine w_reg (by kernel_rfl) ?_
  refine s_qk (.int .i64 n_) (by kernel_rfl) ?_
  refine s_qk (.slice none 0 0) (by kernel_rfl) ?_
  refine s_qk (.int .i64 0) (by kernel_rfl) ?_
  refine s_qk (.slice none 0 0) (by kernel_rfl) ?_
  refine s_qk (.int .i64 0) (by kernel_rfl) ?_
  refine s_qk (.int .i64 0) (by kernel_rfl) ?_
  obtain ⟨g14, r15⟩ := G_some r11
  refine s_w ((n_ - 0)) (k := .i64) (x := (n_ - 0)) (by kernel_rfl) (wrap64 g14) ?_
  refine s_qk (.int .i64 (n_ - 0)) (by kernel_rfl) ?_
  refine s_nil ?_
  refine k13 _ _ ?_
  refine w_seqk fun K16 k16 => ?_
  refine w_reg (by kernel_rfl) ?_
  refine s_qk (.int .i64 (n_ - 0)) (by kernel_rfl) ?_
  refine s_qk (.bool (decide ((n_ - 0) > 0))) (by kernel_rfl) ?_
  refine s_nil ?_
  refine k16 _ _ ?_
  refine w_condp ((n_ - 0) > 0) (by kernel_rfl) rfl (fun h17 => ?_) (fun h17 => ?_)
  ·have r18 := ite_t h17 r15
   refine w_reg (by kernel_rfl) ?_
   refine s_qk (.slice none 0 0) (by kernel_rfl) ?_
   refine s_qk (.slice none 0 0) (by kernel_rfl) ?_
   refine s_qk (.int .i64 0) (by kernel_rfl) ?_
   refine s_qk (.slice none 0 0) (by kernel_rfl) ?_
   refine s_qk (.int .i64 (n_ - 0)) (by kernel_rfl) ?_
   obtain ⟨g19, r20⟩ := G_some r18
   have q27_ := g19
   obtain ⟨s21, H22, f23, q27, e24, hm25, hf26⟩ := Ow.appendZ (P := Tryd.prog) (m := 24) (k := .i64) (k1 := .i64) (n := (n_ - 0)) (at_ := #[22, 3]) ((0, 0, 0) : Int × Int × Int) wf (Ow.nil (enc := enc_i64_i64_i64) (sz := 3) (by decide)) rfl rfl (by kernel_rfl) (by kernel_rfl) (by decide) q27_.1 (by omega) (by have := q27_; omega) (by have := q27_; first | omega | (simp only [List.length_nil] at this ⊢; omega))
   obtain ⟨a28, n29, c30, rfl⟩ := hm25.form
   refine s_ek (.slice a28 n29 c30) (by kernel_rfl) (q27) ?_
   refine s_qk (.slice none 0 0) (by kernel_rfl) ?_
   refine s_qk (.int .i64 0) (by kernel_rfl) ?_
   obtain ⟨g32, r33⟩ := G_some r20
   obtain ⟨s34, q35, hs36⟩ := Ow.head (P := Tryd.prog) hm25 (t := 22) (by kernel_rfl) (hi := (some (.int .i64 0))) (r := (0 : Int).toNat) (aBound_int _ (by have := g32; omega)) (by have := g32; omega)
   obtain ⟨a37, n38, c39, rfl⟩ := hs36.form
   refine s_ql (.slice a37 n38 c39) (by kernel_rfl) q35 ?_
   refine s_qk (.slice a37 n38 c39) (by kernel_rfl) ?_
   refine s_nil ?_
   refine k12 _ _ ?_
   refine w_seqk fun K41 k41 => ?_
   refine w_reg (by kernel_rfl) ?_
   refine s_qk (.slice a37 n38 c39) (by kernel_rfl) ?_
   refine s_qk (.slice a37 n38 c39) (by kernel_rfl) ?_
   refine s_nil ?_
   refine k41 _ _ ?_
   refine w_ret ?_
   refine b_ret (fn := Tryd.f86) (vs := [.slice a37 n38 c39]) (aRes_tmp (by kernel_rfl) (rfl)) ?_
   obtain rfl := Option.some.inj r33
   exact ⟨(.slice a37 n38 c39), f23, rfl, (FrS.step wf (FrS.refl (W := []) wf) e24 Inn.nil), hs36, (hf26.fresh (Nat.le_refl _))⟩
  ·have r42 := ite_f h17 r15
   refine w_skip ?_
   refine k12 _ _ ?_
   refine w_seqk fun K43 k43 => ?_
   refine w_reg (by kernel_rfl) ?_
   refine s_qk (.slice none 0 0) (by kernel_rfl) ?_
   refine s_qk (.slice none 0 0) (by kernel_rfl) ?_
   refine s_nil ?_
   refine k43 _ _ ?_
   refine w_ret ?_
   refine b_ret (fn := Tryd.f86) (vs := [.slice none 0 0]) (aRes_tmp (by kernel_rfl) (rfl)) ?_
   obtain rfl := Option.some.inj r42
   exact ⟨(.slice none 0 0), [], rfl, (FrS.refl (W := []) wf), (Ow.nil (by decide)), Inn.nil⟩

theorem c_slices_Concat {H : AH} {b_slices : Nat} {hd_slices_ : Value} {fp_slices_ : Fp} {hd_slices_2 : Value} {fp_slices_2 : Fp} {slices_ : List (Int × Int × Int)} {slices_2 : List (Int × Int × Int)} {r : List (Int × Int × Int)}
  (wf : WF H) (h_slices_ : Sq enc_i64_i64_i64 3 H hd_slices_ slices_ fp_slices_) (h_slices_2 : Sq enc_i64_i64_i64 3 H hd_slices_2 slices_2 fp_slices_2) (h_slices : Row H b_slices [hd_slices_, hd_slices_2]) (hr : z_slices_Concat slices_ slices_2 = some r) :
  ACalls Tryd.prog 59 #[.slice (some ⟨b_slices, 0, none⟩) 2 2] H fun v H' => ∃ (s3 : Value) (f4 : Fp), v = s3 ∧ FrS [] H H' ∧ Ow enc_i64_i64_i64 3 H' s3 r f4 ∧ Inn [] H f4 := by
 refine acalls_of_body mixed Tryd.func59 rfl (Nat.le_of_ble_eq_true rfl) ?_
 unfold z_slices_Concat at hr
 refine w_seqk fun K6 k6 => ?_
 refine w_reg (by kernel_rfl) ?_
 refine s_qk (.slice none 0 0) (by kernel_rfl) ?_
 refine s_nil ?_
 refine k6 _ _ ?_
 refine w_seqk fun K7 k7 => ?_
 refine w_reg (by kernel_rfl) ?_
 refine s_qk (.int .i64 0) (by kernel_rfl) ?_
 refine s_nil ?_
 refine k7 _ _ ?_
 refine w_seqk fun K8 k8 => ?_
 refine w_seqk fun K9 k9 => ?_
 refine w_reg (by kernel_rfl) ?_
 refine s_qk (.slice (some ⟨b_slices, 0, none⟩) 2 2) (by kernel_rfl) ?_
 refine s_qk (.int .i64 2) (by kernel_rfl) ?_
 refine s_qk (.int .i64 0) (by kernel_rfl) ?_
 refine s_nil ?_
 refine k9 _ _ ?_
 refine w_block ?_
 refine w_unroll ?_
 refine w_seqk fun K10 k10 => ?_
 refine w_reg (by kernel_rfl) ?_
 refine s_qk (.bool true) (by kernel_rfl) ?_
 refine s_nil ?_
 refine k10 _ _ ?_
 refine w_seqk fun K11 k11 => ?_
 refine w_cond true (by kernel_rfl) rfl (fun _ => ?_) (fun h => by cases h)
 refine w_skip ?_
 refine k11 _ _ ?_
 refine w_seqk fun K12 k12 => ?_
 refine w_block ?_
 refine w_seqk fun K13 k13 => ?_
 refine w_reg (by kernel_rfl) ?_
 refine s_qk (.pointer (some ⟨b_slices, 0, none⟩)) (by kernel_rfl) ?_
 refine s_ql (hd_slices_) (x := aLoad Tryd.prog 22 (.pointer (some ⟨b_slices, 0, none⟩)) H) (by kernel_rfl) (h_slices.ld (by kernel_rfl)) ?_
 refine s_qk (hd_slices_) (by kernel_rfl) ?_
 refine s_nil ?_
 refine k13 _ _ ?_
 refine w_seqk fun K14 k14 => ?_
 refine w_reg (by kernel_rfl) ?_
 refine s_qk (.int .i64 0) (by kernel_rfl) ?_
 refine s_qk (hd_slices_) (by kernel_rfl) ?_
 refine s_ql (.int .i64 (slices_.length : Int)) (x := aLen Tryd.prog 22 hd_slices_ H) (by kernel_rfl) (h_slices_.lenb (by kernel_rfl)) ?_
 obtain ⟨g15, r16⟩ := G_some hr
 refine s_w ((0 + (slices_.length : Int))) (k := .i64) (x := (0 + (slices_.length : Int))) (by kernel_rfl) (wrap64 g15) ?_
 refine s_qk (.int .i64 (0 + (slices_.length : Int))) (by kernel_rfl) ?_
 refine s_nil ?_
 refine k14 _ _ ?_
 refine w_seqk fun K17 k17 => ?_
 refine w_reg (by kernel_rfl) ?_
 refine s_qk (.int .i64 (0 + (slices_.length : Int))) (by kernel_rfl) ?_
 refine s_qk (.bool (decide ((0 + (slices_.length : Int)) < 0))) (by kernel_rfl) ?_
 refine s_nil ?_
 refine k17 _ _ ?_
 refine w_condp ((0 + (slices_.length : Int)) < 0) (by kernel_rfl) rfl (fun h18 => ?_) (fun h18 => ?_)
 ·have r19 := ite_t h18 r16
  refine w_reg (by kernel_rfl) ?_
  refine s_qk (.iface 9 (.string ⟨#[108, 101, 110, 32, 111, 117, 116, 32, 111, 102, 32, 114, 97, 110, 103, 101]⟩)) (by kernel_rfl) ?_
  exact (no_none r19).elim
 ·have r20 := ite_f h18 r16
  refine w_skip ?_
  refine k12 _ _ ?_
  refine w_reg (by kernel_rfl) ?_
  refine s_qk (.int .i64 1) (by kernel_rfl) ?_
  refine s_qk (.int .i64 1) (by kernel_rfl) ?_
  refine s_nil ?_
  refine w_unroll ?_
  refine w_seqk fun K21 k21 => ?_
  refine w_reg (by kernel_rfl) ?_
  refine s_qk (.bool true) (by kernel_rfl) ?_
  refine s_nil ?_
  refine k21 _ _ ?_
  refine w_seqk fun K22 k22 => ?_
  refine w_cond true (by kernel_rfl) rfl (fun _ => ?_) (fun h => by cases h)
  refine w_skip ?_
  refine k22 _ _ ?_
  refine w_seqk fun K23 k23 => ?_
  refine w_block ?_
  refine w_seqk fun K24 k24 => ?_
  refine w_reg (by kernel_rfl) ?_
  refine s_qk (.pointer (some ⟨b_slices, 1, none⟩)) (by kernel_rfl) ?_
  refine s_ql (hd_slices_2) (x := aLoad Tryd.prog 22 (.pointer (some ⟨b_slices, 1, none⟩)) H) (by kernel_rfl) (h_slices.ld (by kernel_rfl)) ?_
  refine s_qk (hd_slices_2) (by kernel_rfl) ?_
  refine s_nil ?_
  refine k24 _ _ ?_
  refine w_seqk fun K25 k25 => ?_
  refine w_reg (by kernel_rfl) ?_
  refine s_qk (.int .i64 (0 + (slices_.length : Int))) (by kernel_rfl) ?_
  refine s_qk (hd_slices_2) (by kernel_rfl) ?_
  refine s_ql (.int .i64 (slices_2.length : Int)) (x := aLen Tryd.prog 22 hd_slices_2 H) (by kernel_rfl) (h_slices_2.lenb (by kernel_rfl)) ?_
  obtain ⟨g26, r27⟩ := G_some r20
  refine s_w (((0 + (slices_.length : Int)) + (slices_2.length : Int))) (k := .i64) (x := ((0 + (slices_.length : Int)) + (slices_2.length : Int))) (by kernel_rfl) (wrap64 g26) ?_
  refine s_qk (.int .i64 ((0 + (slices_.length : Int)) + (slices_2.length : Int))) (by kernel_rfl) ?_
  refine s_nil ?_
  refine k25 _ _ ?_
  refine w_seqk fun K28 k28 => ?_
  refine w_reg (by kernel_rfl) ?_
  refine s_qk (.int .i64 ((0 + (slices_.length : Int)) + (slices_2.length : Int))) (by kernel_rfl) ?_
  refine s_qk (.bool (decide (((0 + (slices_.length : Int)) + (slices_2.length : Int)) < 0))) (by kernel_rfl) ?_
  refine s_nil ?_
  refine k28 _ _ ?_
  refine w_condp (((0 + (slices_.length : Int)) + (slices_2.length : Int)) < 0) (by kernel_rfl) rfl (fun h29 => ?_) (fun h29 => ?_)
  ·have r30 := ite_t h29 r27
   refine w_reg (by kernel_rfl) ?_
   refine s_qk (.iface 9 (.string ⟨#[108, 101, 110, 32, 111, 117, 116, 32, 111, 102, 32, 114, 97, 110, 103, 101]⟩)) (by kernel_rfl) ?_
   exact (no_none r30).elim
  ·have r31 := ite_f h29 r27
   refine w_skip ?_
   refine k23 _ _ ?_
   refine w_reg (by kernel_rfl) ?_
   refine s_qk (.int .i64 2) (by kernel_rfl) ?_
   refine s_qk (.int .i64 2) (by kernel_rfl) ?_
   refine s_nil ?_
   refine w_unroll ?_
   refine w_seqk fun K32 k32 => ?_
   refine w_reg (by kernel_rfl) ?_
   refine s_qk (.bool false) (by kernel_rfl) ?_
   refine s_nil ?_
   refine k32 _ _ ?_
   refine w_seqk fun K33 k33 => ?_
   refine w_cond false (by kernel_rfl) rfl (fun h => by cases h) (fun _ => ?_)
   refine w_exit (th_exit (th_exit (bl_eq ?_)))
   refine k8 _ _ ?_
   refine w_seqk fun K34 k34 => ?_
   refine w_reg (by kernel_rfl) ?_
   refine s_qk (.int .i64 ((0 + (slices_.length : Int)) + (slices_2.length : Int))) (by kernel_rfl) ?_
   obtain ⟨y35, hy36, r37⟩ := bind_some r31
   refine s_ck 86 #[.slice none 0 0, .int .i64 ((0 + (slices_.length : Int)) + (slices_2.length : Int))] (by kernel_rfl) (c_slices_Grow wf hy36) ?_
   rintro s38 H40 ⟨_, f39, rfl, e41, m42, i43⟩
   obtain ⟨a45, n46, c47, rfl⟩ := m42.form
   refine s_qk (.slice a45 n46 c47) (by kernel_rfl) ?_
   refine s_nil ?_
   refine k34 _ _ ?_
   refine w_seqk fun K48 k48 => ?_
   refine w_seqk fun K49 k49 => ?_
   refine w_reg (by kernel_rfl) ?_
   refine s_qk (.slice (some ⟨b_slices, 0, none⟩) 2 2) (by kernel_rfl) ?_
   refine s_qk (.int .i64 2) (by kernel_rfl) ?_
   refine s_qk (.int .i64 0) (by kernel_rfl) ?_
   refine s_nil ?_
   refine k49 _ _ ?_
   refine w_block ?_
   refine w_unroll ?_
   refine w_seqk fun K50 k50 => ?_
   refine w_reg (by kernel_rfl) ?_
   refine s_qk (.bool true) (by kernel_rfl) ?_
   refine s_nil ?_
   refine k50 _ _ ?_
   refine w_seqk fun K51 k51 => ?_
   refine w_cond true (by kernel_rfl) rfl (fun _ => ?_) (fun h => by cases h)
   refine w_skip ?_
   refine k51 _ _ ?_
   refine w_seqk fun K52 k52 => ?_
   refine w_block ?_
   refine w_seqk fun K53 k53 => ?_
   refine w_reg (by kernel_rfl) ?_
   refine s_qk (.pointer (some ⟨b_slices, 0, none⟩)) (by kernel_rfl) ?_
   have u54 := (h_slices.frS e41 Dj.nil_l)
   refine s_ql (hd_slices_) (x := aLoad Tryd.prog 22 (.pointer (some ⟨b_slices, 0, none⟩)) H40) (by kernel_rfl) (u54.ld (by kernel_rfl)) ?_
   refine s_qk (hd_slices_) (by kernel_rfl) ?_
   refine s_nil ?_
   refine k53 _ _ ?_
   refine w_reg (by kernel_rfl) ?_
   refine s_qk (.slice a45 n46 c47) (by kernel_rfl) ?_
   refine s_qk (hd_slices_) (by kernel_rfl) ?_
   obtain ⟨g55, r56⟩ := G_some r37
   have u64 := (h_slices_.fr e41 Dj.nil_l)
   obtain ⟨s57, H58, f59, q63, e60, hm61, hf62⟩ := Ow.append (P := Tryd.prog) 24 e41.wf m42 u64 (fun _ _ => rfl) (at_ := #[22, 22]) rfl rfl (by kernel_rfl) (by kernel_rfl) (by decide) (by have := g55; first | omega | (simp only [List.length_cons, List.length_nil] at this ⊢; omega) | (simp at this ⊢; omega))
   obtain ⟨a65, n66, c67, rfl⟩ := hm61.form
   refine s_ek (.slice a65 n66 c67) (by kernel_rfl) (q63) ?_
   refine s_qk (.slice a65 n66 c67) (by kernel_rfl) ?_
   refine s_nil ?_
   refine k52 _ _ ?_
   refine w_reg (by kernel_rfl) ?_
   refine s_qk (.int .i64 1) (by kernel_rfl) ?_
   refine s_qk (.int .i64 1) (by kernel_rfl) ?_
   refine s_nil ?_
   refine w_unroll ?_
   refine w_seqk fun K69 k69 => ?_
   refine w_reg (by kernel_rfl) ?_
   refine s_qk (.bool true) (by kernel_rfl) ?_
   refine s_nil ?_
   refine k69 _ _ ?_
   refine w_seqk fun K70 k70 => ?_
   refine w_cond true (by kernel_rfl) rfl (fun _ => ?_) (fun h => by cases h)
   refine w_skip ?_
   refine k70 _ _ ?_
   refine w_seqk fun K71 k71 => ?_
   refine w_block ?_
   refine w_seqk fun K72 k72 => ?_
   refine w_reg (by kernel_rfl) ?_
   refine s_qk (.pointer (some ⟨b_slices, 1, none⟩)) (by kernel_rfl) ?_
   have u73 := (u54.frS e60 (i43.djn h_slices.ltF))
   refine s_ql (hd_slices_2) (x := aLoad Tryd.prog 22 (.pointer (some ⟨b_slices, 1, none⟩)) H58) (by kernel_rfl) (u73.ld (by kernel_rfl)) ?_
   refine s_qk (hd_slices_2) (by kernel_rfl) ?_
   refine s_nil ?_
   refine k72 _ _ ?_
   refine w_reg (by kernel_rfl) ?_
   refine s_qk (.slice a65 n66 c67) (by kernel_rfl) ?_
   refine s_qk (hd_slices_2) (by kernel_rfl) ?_
   obtain ⟨g74, r75⟩ := G_some r56
   have u83 := ((h_slices_2.fr e41 Dj.nil_l).fr e60 (i43.djn h_slices_2.lt))
   obtain ⟨s76, H77, f78, q82, e79, hm80, hf81⟩ := Ow.append (P := Tryd.prog) 24 e60.wf hm61 u83 (fun _ _ => rfl) (at_ := #[22, 22]) rfl rfl (by kernel_rfl) (by kernel_rfl) (by decide) (by have := g74; first | omega | (simp only [List.length_cons, List.length_nil] at this ⊢; omega) | (simp at this ⊢; omega))
   obtain ⟨a84, n85, c86, rfl⟩ := hm80.form
   refine s_ek (.slice a84 n85 c86) (by kernel_rfl) (q82) ?_
   refine s_qk (.slice a84 n85 c86) (by kernel_rfl) ?_
   refine s_nil ?_
   refine k71 _ _ ?_
   refine w_reg (by kernel_rfl) ?_
   refine s_qk (.int .i64 2) (by kernel_rfl) ?_
   refine s_qk (.int .i64 2) (by kernel_rfl) ?_
   refine s_nil ?_
   refine w_unroll ?_
   refine w_seqk fun K88 k88 => ?_
   refine w_reg (by kernel_rfl) ?_
   refine s_qk (.bool false) (by kernel_rfl) ?_
   refine s_nil ?_
   refine k88 _ _ ?_
   refine w_seqk fun K89 k89 => ?_
   refine w_cond false (by kernel_rfl) rfl (fun h => by cases h) (fun _ => ?_)
   refine w_exit (th_exit (th_exit (bl_eq ?_)))
   refine k48 _ _ ?_
   refine w_seqk fun K90 k90 => ?_
   refine w_reg (by kernel_rfl) ?_
   refine s_qk (.slice a84 n85 c86) (by kernel_rfl) ?_
   refine s_qk (.slice a84 n85 c86) (by kernel_rfl) ?_
   refine s_nil ?_
   refine k90 _ _ ?_
   refine w_ret ?_
   refine b_ret (fn := Tryd.f59) (vs := [.slice a84 n85 c86]) (aRes_tmp (by kernel_rfl) (rfl)) ?_
   obtain rfl := Option.some.inj r75
   exact ⟨(.slice a84 n85 c86), f78, rfl, (FrS.step wf (FrS.step wf (FrS.step wf (FrS.refl (W := []) wf) e41 Inn.nil) e60 (i43.fresh (Nat.le_refl _))) e79 (Inn.trans (i43.fresh (Nat.le_refl _)) e41.next hf62)), hm80, (Inn.trans (Inn.trans (i43.fresh (Nat.le_refl _)) e41.next hf62) (ntr e41.next e60.next) hf81)⟩


end Go.Vd

/-! (KNf2) -/

set_option maxRecDepth 100000
set_option maxHeartbeats 4000000
set_option linter.unusedVariables false
namespace Go.Vd
open Go.Proofs
attribute [local irreducible] wpSeq wpOrd aWp
theorem c_normal_Merge {H : AH} {hd_Arcs : Value} {fp_Arcs : Fp} {hd_Arcs_ : Value} {fp_Arcs_ : Fp} {N_ : Int} {Arcs : List (Int × Int × Int)} {N_2 : Int} {Arcs_ : List (Int × Int × Int)} {r : Int × List (Int × Int × Int) × Er}
  (wf : WF H) (h_Arcs : Sq enc_i64_i64_i64 3 H hd_Arcs Arcs fp_Arcs) (h_Arcs_ : Sq enc_i64_i64_i64 3 H hd_Arcs_ Arcs_ fp_Arcs_) (hr : z_normal_Merge N_ Arcs N_2 Arcs_ = some r) :
  ACalls Tryd.prog 24 #[.agg #[.int .i64 N_, hd_Arcs], .agg #[.int .i64 N_2, hd_Arcs_]] H fun v H' => ∃ (s3 : Value) (f4 : Fp) (v7 : Value) (f8 : Fp), v = .tuple #[.agg #[.int .i64 r.1, s3], v7] ∧ FrS [] H H' ∧ Ow enc_i64_i64_i64 3 H' s3 r.2.1 f4 ∧ Ev 53 90 H' v7 r.2.2 f8 ∧ Inn [] H f4 ∧ Inn [] H f8 ∧ Dj f4 f8 := by
 refine acalls_of_body mixed Tryd.func24 rfl (Nat.le_of_ble_eq_true rfl) ?_
 unfold z_normal_Merge at hr
 refine w_seqk fun K12 k12 => ?_
 refine w_reg (by kernel_rfl) ?_
 refine s_rwl wf [.int .i64 N_, hd_Arcs] (one_cons (rfl) (one_cons (h_Arcs.one1) (one_nil))) (by kernel_rfl) fun b13 H14 e15 hb16 r17 => ?_
 have u24 := (h_Arcs_.ext e15)
 refine s_rwl e15.wf [.int .i64 N_2, hd_Arcs_] (one_cons (rfl) (one_cons (u24.one1) (one_nil))) (by kernel_rfl) fun b19 H20 e21 hb22 r23 => ?_
 refine s_rwk e21.wf [.int .i64 0, .slice none 0 0] (by kernel_rfl) fun b26 H27 e28 hb29 r30 => ?_
 refine s_qk (.nilIface) (by kernel_rfl) ?_
 refine s_nil ?_
 refine k12 _ _ ?_
 refine w_seqk fun K32 k32 => ?_
 refine w_reg (by kernel_rfl) ?_
 have u33 := ((r17.ext e21).ext e28)
 refine s_ql (.agg #[.int .i64 N_, hd_Arcs]) (x := aLoad Tryd.prog 24 (.pointer (some ⟨b13, 0, none⟩)) H27) (by kernel_rfl) (u33.ld (by kernel_rfl)) ?_
 have u34 := (((h_Arcs.ext e15).ext e21).ext e28)
 obtain ⟨y35, hy36, r37⟩ := bind_some hr
 refine s_ck 47 #[.agg #[.int .i64 N_, hd_Arcs]] (by kernel_rfl) (c_gtext_Check e28.wf u34 hy36) ?_
 rintro v38 H40 ⟨_, f39, rfl, e41, m42, i43⟩
 refine s_qk (v38) (by kernel_rfl) ?_
 refine s_nil ?_
 refine k32 _ _ ?_
 refine w_seqk fun K45 k45 => ?_
 refine w_seqk fun K46 k46 => ?_
 refine w_reg (by kernel_rfl) ?_
 refine s_qk (v38) (by kernel_rfl) ?_
 rcases (m42).cases with ⟨h47, rfl⟩ | ⟨h47, t48, x49, rfl⟩
 ·have r50 := ite_t h47 r37
  refine s_qk (.bool true) (by kernel_rfl) ?_
  refine s_nil ?_
  refine k46 _ _ ?_
  refine w_cond true (by kernel_rfl) rfl (fun _ => ?_) (fun h => by cases h)
  refine w_reg (by kernel_rfl) ?_
  have u51 := ((r23.ext e28).frS e41 Dj.nil_l)
  refine s_ql (.agg #[.int .i64 N_2, hd_Arcs_]) (x := aLoad Tryd.prog 24 (.pointer (some ⟨b19, 0, none⟩)) H40) (by kernel_rfl) (u51.ld (by kernel_rfl)) ?_
  have u52 := (((u24.ext e21).ext e28).fr e41 Dj.nil_l)
  obtain ⟨y53, hy54, r55⟩ := bind_some r50
  refine s_ck 47 #[.agg #[.int .i64 N_2, hd_Arcs_]] (by kernel_rfl) (c_gtext_Check e41.wf u52 hy54) ?_
  rintro v56 H58 ⟨_, f57, rfl, e59, m60, i61⟩
  refine s_qk (v56) (by kernel_rfl) ?_
  refine s_nil ?_
  refine k45 _ _ ?_
  refine w_seqk fun K63 k63 => ?_
  refine w_block ?_
  refine w_seqk fun K64 k64 => ?_
  refine w_reg (by kernel_rfl) ?_
  refine s_qk (v56) (by kernel_rfl) ?_
  rcases (m60).cases with ⟨h65, rfl⟩ | ⟨h65, t66, x67, rfl⟩
  ·have r68 := ite_t h65 r55
   refine s_qk (.bool false) (by kernel_rfl) ?_
   refine s_qk (.bool false) (by kernel_rfl) ?_
   refine s_nil ?_
   refine k64 _ _ ?_
   refine w_cond false (by kernel_rfl) rfl (fun h => by cases h) (fun _ => ?_)
   refine w_seqk fun K69 k69 => ?_
   refine w_reg (by kernel_rfl) ?_
   refine s_qk (.pointer (some ⟨b13, 0, none⟩)) (by kernel_rfl) ?_
   have u70 := ((u33.frS e41 Dj.nil_l).frS e59 Dj.nil_l)
   refine s_ql (.int .i64 N_) (x := aLoad Tryd.prog 3 (.pointer (some ⟨b13, 0, none⟩)) H58) (by kernel_rfl) (u70.ld (by kernel_rfl)) ?_
   refine s_qk (.pointer (some ⟨b19, 0, none⟩)) (by kernel_rfl) ?_
   have u71 := (u51.frS e59 Dj.nil_l)
   refine s_ql (.int .i64 N_2) (x := aLoad Tryd.prog 3 (.pointer (some ⟨b19, 0, none⟩)) H58) (by kernel_rfl) (u71.ld (by kernel_rfl)) ?_
   refine s_qk (.bool (!decide (N_ = N_2))) (by kernel_rfl) ?_
   refine s_qk (.bool (!decide (N_ = N_2))) (by kernel_rfl) ?_
   refine s_nil ?_
   refine k69 _ _ ?_
   refine w_condn (N_ = N_2) (by kernel_rfl) rfl (fun h72 => ?_) (fun h72 => ?_)
   ·have r73 := ite_f h72 r68
    refine w_seqk fun K74 k74 => ?_
    refine w_reg (by kernel_rfl) ?_
    refine s_qk (.agg #[.int .i64 0, .slice none 0 0]) (by kernel_rfl) ?_
    refine s_qk (.iface 53 (.int .i64 1)) (by kernel_rfl) ?_
    have u79 := ((r30.frS e41 Dj.nil_l).frS e59 Dj.nil_l)
    obtain ⟨H75, q76, e77, r78⟩ := Row.store (P := Tryd.prog) (t := 24) (p := 0) e59.wf u79 (.agg #[.int .i64 0, .slice none 0 0]) [.int .i64 0, .slice none 0 0] (by kernel_rfl) (by kernel_rfl) (one_cons (rfl) (one_cons (rfl) (one_nil))) (Nat.le_of_ble_eq_true (by kernel_rfl)) [.int .i64 0, .slice none 0 0] (by kernel_rfl)
    refine s_ek (undef) (by kernel_rfl) (map_ok q76) ?_
    refine s_qk (.iface 53 (.int .i64 1)) (by kernel_rfl) ?_
    refine s_nil ?_
    refine k74 _ _ ?_
    refine w_ret (bl_ret (th_ret ?_))
    refine b_ret (fn := Tryd.f24) (vs := [.agg #[.int .i64 0, .slice none 0 0], .iface 53 (.int .i64 1)]) (aRes_cell (Eq.trans (b := aLoad Tryd.prog 24 (.pointer (some ⟨b26, 0, none⟩)) H75) (by kernel_rfl) (r78.ld (by kernel_rfl))) (aRes_tmp (by kernel_rfl) (rfl))) ?_
    obtain rfl := Option.some.inj r73
    exact ⟨(.slice none 0 0), [], (.iface 53 (.int .i64 1)), [], rfl, (FrS.step wf (FrS.step wf (FrS.step wf ((((FrS.refl (W := []) wf).extR e15).extR e21).extR e28) e41 Inn.nil) e59 Inn.nil) e77 (hb29.fresh (ntr e15.next e21.next))), (Ow.nil (by decide)), Ev.no, Inn.nil, Inn.nil, Dj.nil_l⟩
   ·have r80 := ite_t h72 r68
    refine w_seqk fun K81 k81 => ?_
    refine w_reg (by kernel_rfl) ?_
    refine s_qk (.pointer (some ⟨b13, 1, none⟩)) (by kernel_rfl) ?_
    refine s_ql (hd_Arcs) (x := aLoad Tryd.prog 22 (.pointer (some ⟨b13, 1, none⟩)) H58) (by kernel_rfl) (u70.ld (by kernel_rfl)) ?_
    have u82 := ((u34.fr e41 Dj.nil_l).fr e59 Dj.nil_l)
    refine s_ql (.int .i64 (Arcs.length : Int)) (x := aLen Tryd.prog 22 hd_Arcs H58) (by kernel_rfl) (u82.lenb (by kernel_rfl)) ?_
    refine s_qk (.pointer (some ⟨b19, 1, none⟩)) (by kernel_rfl) ?_
    refine s_ql (hd_Arcs_) (x := aLoad Tryd.prog 22 (.pointer (some ⟨b19, 1, none⟩)) H58) (by kernel_rfl) (u71.ld (by kernel_rfl)) ?_
    have u83 := (u52.fr e59 Dj.nil_l)
    refine s_ql (.int .i64 (Arcs_.length : Int)) (x := aLen Tryd.prog 22 hd_Arcs_ H58) (by kernel_rfl) (u83.lenb (by kernel_rfl)) ?_
    obtain ⟨g84, r85⟩ := G_some r80
    refine s_w (((Arcs.length : Int) + (Arcs_.length : Int))) (k := .i64) (x := ((Arcs.length : Int) + (Arcs_.length : Int))) (by kernel_rfl) (wrap64 g84) ?_
    refine s_qk (.bool (decide (((Arcs.length : Int) + (Arcs_.length : Int)) > 262144))) (by kernel_rfl) ?_
    refine s_qk (.bool (decide (((Arcs.length : Int) + (Arcs_.length : Int)) > 262144))) (by kernel_rfl) ?_
    refine s_nil ?_
    refine k81 _ _ ?_
    refine w_condp (((Arcs.length : Int) + (Arcs_.length : Int)) > 262144) (by kernel_rfl) rfl (fun h86 => ?_) (fun h86 => ?_)
    ·have r87 := ite_t h86 r85
     refine w_seqk fun K88 k88 => ?_
     refine w_reg (by kernel_rfl) ?_
     refine s_qk (.agg #[.int .i64 0, .slice none 0 0]) (by kernel_rfl) ?_
     refine s_qk (.iface 53 (.int .i64 9)) (by kernel_rfl) ?_
     have u93 := ((r30.frS e41 Dj.nil_l).frS e59 Dj.nil_l)
     obtain ⟨H89, q90, e91, r92⟩ := Row.store (P := Tryd.prog) (t := 24) (p := 0) e59.wf u93 (.agg #[.int .i64 0, .slice none 0 0]) [.int .i64 0, .slice none 0 0] (by kernel_rfl) (by kernel_rfl) (one_cons (rfl) (one_cons (rfl) (one_nil))) (Nat.le_of_ble_eq_true (by kernel_rfl)) [.int .i64 0, .slice none 0 0] (by kernel_rfl)
     refine s_ek (undef) (by kernel_rfl) (map_ok q90) ?_
     refine s_qk (.iface 53 (.int .i64 9)) (by kernel_rfl) ?_
     refine s_nil ?_
     refine k88 _ _ ?_
     refine w_ret (bl_ret (th_ret ?_))
     refine b_ret (fn := Tryd.f24) (vs := [.agg #[.int .i64 0, .slice none 0 0], .iface 53 (.int .i64 9)]) (aRes_cell (Eq.trans (b := aLoad Tryd.prog 24 (.pointer (some ⟨b26, 0, none⟩)) H89) (by kernel_rfl) (r92.ld (by kernel_rfl))) (aRes_tmp (by kernel_rfl) (rfl))) ?_
     obtain rfl := Option.some.inj r87
     exact ⟨(.slice none 0 0), [], (.iface 53 (.int .i64 9)), [], rfl, (FrS.step wf (FrS.step wf (FrS.step wf ((((FrS.refl (W := []) wf).extR e15).extR e21).extR e28) e41 Inn.nil) e59 Inn.nil) e91 (hb29.fresh (ntr e15.next e21.next))), (Ow.nil (by decide)), Ev.no, Inn.nil, Inn.nil, Dj.nil_l⟩
    ·have r94 := ite_f h86 r85
     refine w_skip ?_
     refine k63 _ _ ?_
     refine w_seqk fun K95 k95 => ?_
     refine w_draw [0, 1, 2, 3, 4, 5, 6, 7, 8, 9, 10] (by kernel_rfl) ?_
     refine d_qk (.pointer (some ⟨b13, 0, none⟩)) (by kernel_rfl) ?_
     refine d_fl (.int .i64 N_) (x := aLoad Tryd.prog 3 (.pointer (some ⟨b13, 0, none⟩)) H58) (by kernel_rfl) (u70.ld (by kernel_rfl)) ?_
     refine d_qk (.pointer (some ⟨b13, 1, none⟩)) (by kernel_rfl) ?_
     refine d_ql (hd_Arcs) (x := aLoad Tryd.prog 22 (.pointer (some ⟨b13, 1, none⟩)) H58) (by kernel_rfl) (u70.ld (by kernel_rfl)) ?_
     refine d_qk (.pointer (some ⟨b19, 1, none⟩)) (by kernel_rfl) ?_
     refine d_ql (hd_Arcs_) (x := aLoad Tryd.prog 22 (.pointer (some ⟨b19, 1, none⟩)) H58) (by kernel_rfl) (u71.ld (by kernel_rfl)) ?_
     obtain ⟨a96, n97, c98, rfl⟩ := u82.form
     obtain ⟨a99, n100, c101, rfl⟩ := u83.form
     refine d_lsl e59.wf [.slice a96 n97 c98, .slice a99 n100 c101] 2 (one_cons (u82.one1) (one_cons (u83.one1) (one_nil))) (by kernel_rfl) fun b102 H103 e104 hb105 r106 => ?_
     have u108 := (u82.ext e104)
     have u109 := (u83.ext e104)
     obtain ⟨y110, hy111, r112⟩ := bind_some r94
     refine d_ck 59 #[.slice (some ⟨b102, 0, none⟩) 2 2] (by kernel_rfl) (c_slices_Concat e104.wf u108 u109 r106 hy111) ?_
     rintro s113 H115 ⟨_, f114, rfl, e116, m117, i118⟩
     obtain ⟨a120, n121, c122, rfl⟩ := m117.form
     have u123 := ((u70.ext e104).frS e116 Dj.nil_l)
     refine ⟨st_ql (y := aLoad Tryd.prog 3 (.pointer (some ⟨b13, 0, none⟩)) H115) (by kernel_rfl) (u123.ld (by kernel_rfl)) (st_nil), ?_⟩
     refine d_qk (.agg #[.int .i64 N_, .slice a120 n121 c122]) (by kernel_rfl) ?_
     have u128 := ((((r30.frS e41 Dj.nil_l).frS e59 Dj.nil_l).ext e104).frS e116 Dj.nil_l)
     obtain ⟨H124, q125, e126, r127⟩ := Row.store (P := Tryd.prog) (t := 24) (p := 0) e116.wf u128 (.agg #[.int .i64 N_, .slice a120 n121 c122]) [.int .i64 N_, .slice a120 n121 c122] (by kernel_rfl) (by kernel_rfl) (one_cons (rfl) (one_cons (m117.one1) (one_nil))) (Nat.le_of_ble_eq_true (by kernel_rfl)) [.int .i64 N_, .slice a120 n121 c122] (by kernel_rfl)
     refine d_ek (undef) (by kernel_rfl) (map_ok q125) (st_anc (by kernel_rfl) (st_nil)) ?_
     refine d_qk (.nilIface) (by kernel_rfl) ?_
     refine d_nil ?_
     refine k95 _ _ ?_
     refine w_ret ?_
     refine b_ret (fn := Tryd.f24) (vs := [.agg #[.int .i64 N_, .slice a120 n121 c122], .nilIface]) (aRes_cell (Eq.trans (b := aLoad Tryd.prog 24 (.pointer (some ⟨b26, 0, none⟩)) H124) (by kernel_rfl) (r127.ld (by kernel_rfl))) (aRes_tmp (by kernel_rfl) (rfl))) ?_
     have u129 := (m117.fr e126 (Dj.symm (i118.djn (r30.ltF.le (ntr (ntr e41.next e59.next) e104.next)))))
     obtain rfl := Option.some.inj r112
     exact ⟨(.slice a120 n121 c122), f114, (.nilIface), [], rfl, (FrS.step wf (FrS.step wf ((FrS.step wf (FrS.step wf ((((FrS.refl (W := []) wf).extR e15).extR e21).extR e28) e41 Inn.nil) e59 Inn.nil).extR e104) e116 Inn.nil) e126 (hb29.fresh (ntr e15.next e21.next))), u129, Ev.nil, (i118.fresh (ntr (ntr (ntr (ntr (ntr e15.next e21.next) e28.next) e41.next) e59.next) e104.next)), Inn.nil, Dj.nil_r⟩
  ·have r130 := ite_f h65 r55
   refine s_ql (.bool true) (x := aBin Tryd.prog .neq 28 (.tmp 14) (.const .nilIface) (.iface t66 x67) .nilIface) (by kernel_rfl) (aBin_nnil (by kernel_rfl)) ?_
   refine s_qk (.bool true) (by kernel_rfl) ?_
   refine s_nil ?_
   refine k64 _ _ ?_
   refine w_cond true (by kernel_rfl) rfl (fun _ => ?_) (fun h => by cases h)
   refine w_seqk fun K131 k131 => ?_
   refine w_reg (by kernel_rfl) ?_
   refine s_qk (.agg #[.int .i64 0, .slice none 0 0]) (by kernel_rfl) ?_
   refine s_qk (.iface t66 x67) (by kernel_rfl) ?_
   have u136 := ((r30.frS e41 Dj.nil_l).frS e59 Dj.nil_l)
   obtain ⟨H132, q133, e134, r135⟩ := Row.store (P := Tryd.prog) (t := 24) (p := 0) e59.wf u136 (.agg #[.int .i64 0, .slice none 0 0]) [.int .i64 0, .slice none 0 0] (by kernel_rfl) (by kernel_rfl) (one_cons (rfl) (one_cons (rfl) (one_nil))) (Nat.le_of_ble_eq_true (by kernel_rfl)) [.int .i64 0, .slice none 0 0] (by kernel_rfl)
   refine s_ek (undef) (by kernel_rfl) (map_ok q133) ?_
   refine s_qk (.iface t66 x67) (by kernel_rfl) ?_
   refine s_nil ?_
   refine k131 _ _ ?_
   refine w_ret (bl_ret (th_ret ?_))
   refine b_ret (fn := Tryd.f24) (vs := [.agg #[.int .i64 0, .slice none 0 0], .iface t66 x67]) (aRes_cell (Eq.trans (b := aLoad Tryd.prog 24 (.pointer (some ⟨b26, 0, none⟩)) H132) (by kernel_rfl) (r135.ld (by kernel_rfl))) (aRes_tmp (by kernel_rfl) (rfl))) ?_
   have u137 := (m60.fr e134 (Dj.symm (i61.djn (r30.ltF.le e41.next))))
   obtain rfl := Option.some.inj r130
   exact ⟨(.slice none 0 0), [], (.iface t66 x67), f57, rfl, (FrS.step wf (FrS.step wf (FrS.step wf ((((FrS.refl (W := []) wf).extR e15).extR e21).extR e28) e41 Inn.nil) e59 Inn.nil) e134 (hb29.fresh (ntr e15.next e21.next))), (Ow.nil (by decide)), u137, Inn.nil, (i61.fresh (ntr (ntr (ntr e15.next e21.next) e28.next) e41.next)), Dj.nil_l⟩
 ·have r138 := ite_f h47 r37
  refine s_ql (.bool false) (x := aBin Tryd.prog .eql 28 (.tmp 9) (.const .nilIface) (.iface t48 x49) .nilIface) (by kernel_rfl) (aBin_nil (by kernel_rfl)) ?_
  refine s_nil ?_
  refine k46 _ _ ?_
  refine w_cond false (by kernel_rfl) rfl (fun h => by cases h) (fun _ => ?_)
  refine w_skip ?_
  refine k45 _ _ ?_
  refine w_seqk fun K139 k139 => ?_
  refine w_block ?_
  refine w_seqk fun K140 k140 => ?_
  refine w_reg (by kernel_rfl) ?_
  refine s_qk (.iface t48 x49) (by kernel_rfl) ?_
  refine s_ql (.bool true) (x := aBin Tryd.prog .neq 28 (.tmp 14) (.const .nilIface) (.iface t48 x49) .nilIface) (by kernel_rfl) (aBin_nnil (by kernel_rfl)) ?_
  refine s_qk (.bool true) (by kernel_rfl) ?_
  refine s_nil ?_
  refine k140 _ _ ?_
  refine w_cond true (by kernel_rfl) rfl (fun _ => ?_) (fun h => by cases h)
  refine w_seqk fun K141 k141 => ?_
  refine w_reg (by kernel_rfl) ?_
  refine s_qk (.agg #[.int .i64 0, .slice none 0 0]) (by kernel_rfl) ?_
  refine s_qk (.iface t48 x49) (by kernel_rfl) ?_
  have u146 := (r30.frS e41 Dj.nil_l)
  obtain ⟨H142, q143, e144, r145⟩ := Row.store (P := Tryd.prog) (t := 24) (p := 0) e41.wf u146 (.agg #[.int .i64 0, .slice none 0 0]) [.int .i64 0, .slice none 0 0] (by kernel_rfl) (by kernel_rfl) (one_cons (rfl) (one_cons (rfl) (one_nil))) (Nat.le_of_ble_eq_true (by kernel_rfl)) [.int .i64 0, .slice none 0 0] (by kernel_rfl)
  refine s_ek (undef) (by kernel_rfl) (map_ok q143) ?_
  refine s_qk (.iface t48 x49) (by kernel_rfl) ?_
  refine s_nil ?_
  refine k141 _ _ ?_
  refine w_ret (bl_ret (th_ret ?_))
  refine b_ret (fn := Tryd.f24) (vs := [.agg #[.int .i64 0, .slice none 0 0], .iface t48 x49]) (aRes_cell (Eq.trans (b := aLoad Tryd.prog 24 (.pointer (some ⟨b26, 0, none⟩)) H142) (by kernel_rfl) (r145.ld (by kernel_rfl))) (aRes_tmp (by kernel_rfl) (rfl))) ?_
  have u147 := (m42.fr e144 (Dj.symm (i43.djn r30.ltF)))
  obtain rfl := Option.some.inj r138
  exact ⟨(.slice none 0 0), [], (.iface t48 x49), f39, rfl, (FrS.step wf (FrS.step wf ((((FrS.refl (W := []) wf).extR e15).extR e21).extR e28) e41 Inn.nil) e144 (hb29.fresh (ntr e15.next e21.next))), (Ow.nil (by decide)), u147, Inn.nil, (i43.fresh (ntr (ntr e15.next e21.next) e28.next)), Dj.nil_l⟩

theorem c_viaductref01_E {H : AH} {n_ : Int} {r : Int}
  (wf : WF H) (hr : z_viaductref01_E n_ = some r) :
  ACalls Tryd.prog 26 #[.int .i64 n_] H fun v H' => v = .agg #[.int .i64 r, .slice none 0 0] ∧ FrS [] H H' := by
 refine acalls_of_body mixed Tryd.func26 rfl (Nat.le_of_ble_eq_true rfl) ?_
 unfold z_viaductref01_E at hr
 refine w_seqk fun K1 k1 => ?_
 refine w_reg (by kernel_rfl) ?_
 refine s_rwk wf [.int .i64 0, .slice none 0 0] (by kernel_rfl) fun b2 H3 e4 hb5 r6 => ?_
 refine s_nil ?_
 refine k1 _ _ ?_
 refine w_seqk fun K8 k8 => ?_
 refine w_reg (by kernel_rfl) ?_
 refine s_qk (.int .i64 n_) (by kernel_rfl) ?_
 refine s_qk (.agg #[.int .i64 n_, .slice none 0 0]) (by kernel_rfl) ?_
 obtain ⟨H9, q10, e11, r12⟩ := Row.store (P := Tryd.prog) (t := 33) (p := 0) e4.wf r6 (.agg #[.int .i64 n_, .slice none 0 0]) [.int .i64 n_, .slice none 0 0] (by kernel_rfl) (by kernel_rfl) (one_cons (rfl) (one_cons (rfl) (one_nil))) (Nat.le_of_ble_eq_true (by kernel_rfl)) [.int .i64 n_, .slice none 0 0] (by kernel_rfl)
 refine s_ek (undef) (by kernel_rfl) (map_ok q10) ?_
 refine s_nil ?_
 refine k8 _ _ ?_
 refine w_ret ?_
 refine b_ret (fn := Tryd.f26) (vs := [.agg #[.int .i64 n_, .slice none 0 0]]) (aRes_cell (Eq.trans (b := aLoad Tryd.prog 33 (.pointer (some ⟨b2, 0, none⟩)) H9) (by kernel_rfl) (r12.ld (by kernel_rfl))) (rfl)) ?_
 obtain rfl := Option.some.inj hr
 exact ⟨rfl, (FrS.step wf ((FrS.refl (W := []) wf).extR e4) e11 (hb5.fresh (Nat.le_refl _)))⟩

theorem c_viaductref01_Err_Bad {H : AH} {hd_Places : Value} {fp_Places : Fp} {Code : Int} {Places : List (Int × Int)} {r : Bool}
  (wf : WF H) (h_Places : Sq enc_i64_i64 2 H hd_Places Places fp_Places) (hr : z_viaductref01_Err_Bad Code Places = some r) :
  ACalls Tryd.prog 53 #[.agg #[.int .i64 Code, hd_Places]] H fun v H' => v = .bool r ∧ FrS [] H H' := by
 refine acalls_of_body mixed Tryd.func53 rfl (Nat.le_of_ble_eq_true rfl) ?_
 unfold z_viaductref01_Err_Bad at hr
 refine w_seqk fun K1 k1 => ?_
 refine w_reg (by kernel_rfl) ?_
 refine s_rwl wf [.int .i64 Code, hd_Places] (one_cons (rfl) (one_cons (h_Places.one1) (one_nil))) (by kernel_rfl) fun b2 H3 e4 hb5 r6 => ?_
 refine s_qk (.bool false) (by kernel_rfl) ?_
 refine s_nil ?_
 refine k1 _ _ ?_
 refine w_seqk fun K8 k8 => ?_
 refine w_reg (by kernel_rfl) ?_
 refine s_qk (.pointer (some ⟨b2, 0, none⟩)) (by kernel_rfl) ?_
 refine s_ql (.int .i64 Code) (x := aLoad Tryd.prog 3 (.pointer (some ⟨b2, 0, none⟩)) H3) (by kernel_rfl) (r6.ld (by kernel_rfl)) ?_
 refine s_bn (Code = 0) (by kernel_rfl) (fun h9 => ?_) (fun h9 => ?_)
 ·have r10 := ite_t h9 hr
  refine s_qk (.bool false) (by kernel_rfl) ?_
  refine s_qk (.pointer (some ⟨b2, 1, none⟩)) (by kernel_rfl) ?_
  refine s_ql (hd_Places) (x := aLoad Tryd.prog 31 (.pointer (some ⟨b2, 1, none⟩)) H3) (by kernel_rfl) (r6.ld (by kernel_rfl)) ?_
  have u11 := (h_Places.ext e4)
  refine s_ql (.int .i64 (Places.length : Int)) (x := aLen Tryd.prog 31 hd_Places H3) (by kernel_rfl) (u11.lenb (by kernel_rfl)) ?_
  refine s_qk (.bool (decide ((Places.length : Int) > 0))) (by kernel_rfl) ?_
  refine s_qk (.bool (decide ((Places.length : Int) > 0))) (by kernel_rfl) ?_
  refine s_qk (.bool (decide ((Places.length : Int) > 0))) (by kernel_rfl) ?_
  refine s_nil ?_
  refine k8 _ _ ?_
  refine w_ret ?_
  refine b_ret (fn := Tryd.f53) (vs := [.bool (decide ((Places.length : Int) > 0))]) (aRes_tmp (by kernel_rfl) (rfl)) ?_
  obtain rfl := Option.some.inj r10
  exact ⟨rfl, ((FrS.refl (W := []) wf).extR e4)⟩
 ·have r12 := ite_f h9 hr
  refine s_qk (.bool true) (by kernel_rfl) ?_
  refine s_no (by kernel_rfl) ?_
  refine s_no (by kernel_rfl) ?_
  refine s_no (by kernel_rfl) ?_
  refine s_no (by kernel_rfl) ?_
  refine s_qk (.bool true) (by kernel_rfl) ?_
  refine s_qk (.bool true) (by kernel_rfl) ?_
  refine s_nil ?_
  refine k8 _ _ ?_
  refine w_ret ?_
  refine b_ret (fn := Tryd.f53) (vs := [.bool true]) (aRes_tmp (by kernel_rfl) (rfl)) ?_
  obtain rfl := Option.some.inj r12
  exact ⟨rfl, ((FrS.refl (W := []) wf).extR e4)⟩

theorem c_viaductseen_Same {H : AH} {ev_err : Value} {fp_err : Fp} {hd_Places : Value} {fp_Places : Fp} {err : Er} {Code : Int} {Places : List (Int × Int)} {r : Bool}
  (wf : WF H) (h_err : Ev 53 90 H ev_err err fp_err) (h_Places : Sq enc_i64_i64 2 H hd_Places Places fp_Places) (hr : z_viaductseen_Same err Code Places = some r) :
  ACalls Tryd.prog 16 #[ev_err, .agg #[.int .i64 Code, hd_Places]] H fun v H' => v = .bool r ∧ FrS [] H H' := by
 refine acalls_of_body mixed Tryd.func16 rfl (Nat.le_of_ble_eq_true rfl) ?_
 unfold z_viaductseen_Same at hr
 refine w_seqk fun K1 k1 => ?_
 refine w_reg (by kernel_rfl) ?_
 refine s_rwl wf [.int .i64 Code, hd_Places] (one_cons (rfl) (one_cons (h_Places.one1) (one_nil))) (by kernel_rfl) fun b2 H3 e4 hb5 r6 => ?_
 refine s_qk (.bool false) (by kernel_rfl) ?_
 refine s_nil ?_
 refine k1 _ _ ?_
 refine w_seqk fun K8 k8 => ?_
 refine w_seqk fun K9 k9 => ?_
 refine w_reg (by kernel_rfl) ?_
 refine s_ql (.agg #[.int .i64 Code, hd_Places]) (x := aLoad Tryd.prog 33 (.pointer (some ⟨b2, 0, none⟩)) H3) (by kernel_rfl) (r6.ld (by kernel_rfl)) ?_
 have u10 := (h_Places.ext e4)
 obtain ⟨y11, hy12, r13⟩ := bind_some hr
 refine s_ck 53 #[.agg #[.int .i64 Code, hd_Places]] (by kernel_rfl) (c_viaductref01_Err_Bad e4.wf u10 hy12) ?_
 rintro _ H14 ⟨rfl, e15⟩
 refine s_qk (.bool (!y11)) (by kernel_rfl) ?_
 refine s_nil ?_
 refine k9 _ _ ?_
 refine w_cond ((!y11)) (by kernel_rfl) rfl (fun h16 => ?_) (fun h16 => ?_)
 ·have r17 := ite_t h16 r13
  refine w_seqk fun K18 k18 => ?_
  refine w_reg (by kernel_rfl) ?_
  refine s_qk (ev_err) (by kernel_rfl) ?_
  have u22 := ((h_err.ext e4).fr e15 Dj.nil_l)
  rcases (u22).cases with ⟨h19, rfl⟩ | ⟨h19, t20, x21, rfl⟩
  ·have r23 := ite_t h19 r17
   refine s_qk (.bool true) (by kernel_rfl) ?_
   refine s_qk (.bool true) (by kernel_rfl) ?_
   refine s_nil ?_
   refine k18 _ _ ?_
   refine w_ret (th_ret ?_)
   refine b_ret (fn := Tryd.f16) (vs := [.bool true]) (aRes_tmp (by kernel_rfl) (rfl)) ?_
   obtain rfl := Option.some.inj r23
   exact ⟨rfl, (FrS.step wf ((FrS.refl (W := []) wf).extR e4) e15 Inn.nil)⟩
  ·have r24 := ite_f h19 r17
   refine s_ql (.bool false) (x := aBin Tryd.prog .eql 28 (.tmp 15) (.const .nilIface) (.iface t20 x21) .nilIface) (by kernel_rfl) (aBin_nil (by kernel_rfl)) ?_
   refine s_qk (.bool false) (by kernel_rfl) ?_
   refine s_nil ?_
   refine k18 _ _ ?_
   refine w_ret (th_ret ?_)
   refine b_ret (fn := Tryd.f16) (vs := [.bool false]) (aRes_tmp (by kernel_rfl) (rfl)) ?_
   obtain rfl := Option.some.inj r24
   exact ⟨rfl, (FrS.step wf ((FrS.refl (W := []) wf).extR e4) e15 Inn.nil)⟩
 ·have r25 := ite_bf h16 r13
  refine w_skip ?_
  refine k8 _ _ ?_
  refine w_seqk fun K26 k26 => ?_
  refine w_seqk fun K27 k27 => ?_
  refine w_reg (by kernel_rfl) ?_
  refine s_qk (ev_err) (by kernel_rfl) ?_
  have u31 := ((h_err.ext e4).fr e15 Dj.nil_l)
  rcases (u31).cases with ⟨h28, rfl⟩ | ⟨h28, t29, x30, rfl⟩
  ·have r32 := ite_t h28 r25
   refine s_qk (.bool true) (by kernel_rfl) ?_
   refine s_nil ?_
   refine k27 _ _ ?_
   refine w_cond true (by kernel_rfl) rfl (fun _ => ?_) (fun h => by cases h)
   refine w_seqk fun K33 k33 => ?_
   refine w_reg (by kernel_rfl) ?_
   refine s_qk (.bool false) (by kernel_rfl) ?_
   refine s_nil ?_
   refine k33 _ _ ?_
   refine w_ret (th_ret ?_)
   refine b_ret (fn := Tryd.f16) (vs := [.bool false]) (aRes_tmp (by kernel_rfl) (rfl)) ?_
   obtain rfl := Option.some.inj r32
   exact ⟨rfl, (FrS.step wf ((FrS.refl (W := []) wf).extR e4) e15 Inn.nil)⟩
  ·have r34 := ite_f h28 r25
   refine s_ql (.bool false) (x := aBin Tryd.prog .eql 28 (.tmp 17) (.const .nilIface) (.iface t29 x30) .nilIface) (by kernel_rfl) (aBin_nil (by kernel_rfl)) ?_
   refine s_nil ?_
   refine k27 _ _ ?_
   refine w_cond false (by kernel_rfl) rfl (fun h => by cases h) (fun _ => ?_)
   refine w_skip ?_
   refine k26 _ _ ?_
   refine w_seqk fun K35 k35 => ?_
   refine w_reg (by kernel_rfl) ?_
   refine s_qk (.iface t29 x30) (by kernel_rfl) ?_
   refine s_qk (.iface t29 x30) (by kernel_rfl) ?_
   refine s_nil ?_
   refine k35 _ _ ?_
   refine w_seqk fun K36 k36 => ?_
   refine w_seqk fun K37 k37 => ?_
   refine w_reg (by kernel_rfl) ?_
   refine s_qk (.pointer (some ⟨b2, 1, none⟩)) (by kernel_rfl) ?_
   have u38 := (r6.frS e15 Dj.nil_l)
   refine s_ql (hd_Places) (x := aLoad Tryd.prog 31 (.pointer (some ⟨b2, 1, none⟩)) H14) (by kernel_rfl) (u38.ld (by kernel_rfl)) ?_
   have u39 := (u10.fr e15 Dj.nil_l)
   refine s_ql (.int .i64 (Places.length : Int)) (x := aLen Tryd.prog 31 hd_Places H14) (by kernel_rfl) (u39.lenb (by kernel_rfl)) ?_
   refine s_qk (.int .i64 0) (by kernel_rfl) ?_
   refine s_nil ?_
   refine k37 _ _ ?_
   obtain ⟨z43, hx41, r42⟩ := bind_some r34
   refine w_mid (fun α H44 => ∃ o40, z43 = Sum.inr o40 ∧ ∃ (v48 : Value), Has α [(0, .iface t29 x30), (3, .pointer (some ⟨b2, 0, none⟩)), (5, v48)] ∧ FrS [] H14 H44 ∧ Ev 53 90 H44 v48 o40 fp_err) (fun K49 k49 => ?_) (fun α H44 hM => ?_)
   ·refine w_block ?_
    obtain ⟨n51, hn52⟩ := loopO_iff.1 hx41
    refine w_loopn (fun n α H53 => ∃ (i0 : Int), ∃ (e1 : Er), ∃ (v57 : Value), iterO (fun zz_ => z_viaductseen_Same_l0 Places zz_.1 zz_.2) n (i0, e1) = some z43 ∧ Has α [(0, .iface t29 x30), (3, .pointer (some ⟨b2, 0, none⟩)), (5, v57), (21, hd_Places), (22, .int .i64 (Places.length : Int)), (23, .int .i64 i0)] ∧ FrS [] H14 H53 ∧ Ev 53 90 H53 v57 e1 fp_err) n51 ⟨0, err, (.iface t29 x30), hn52, ⟨by kernel_rfl, by kernel_rfl, by kernel_rfl, by kernel_rfl, by kernel_rfl, by kernel_rfl, trivial⟩, (FrS.refl (W := []) e15.wf), u31⟩ ?_
    rintro n51 α H53 ⟨i0, e1, v57, hi59, hh58, e54, m56⟩ K64 k64
    obtain ⟨n60, z61, rfl, hz62, hn63⟩ := iter_succ hi59
    obtain ⟨β, rfl⟩ := has_ex hh58
    clear hh58
    replace hz62 : z_viaductseen_Same_l0 Places i0 e1 = some z61 := hz62
    unfold z_viaductseen_Same_l0 at hz62
    refine w_seqk fun K65 k65 => ?_
    refine w_reg (by kernel_rfl) ?_
    refine s_qk (.bool (decide (i0 < (Places.length : Int)))) (by kernel_rfl) ?_
    refine s_nil ?_
    refine k65 _ _ ?_
    refine w_seqk fun K66 k66 => ?_
    refine w_condp (i0 < (Places.length : Int)) (by kernel_rfl) rfl (fun h67 => ?_) (fun h67 => ?_)
    ·have r68 := ite_t h67 hz62
     refine w_skip ?_
     refine k66 _ _ ?_
     refine w_seqk fun K69 k69 => ?_
     refine w_block ?_
     refine w_seqk fun K70 k70 => ?_
     refine w_reg (by kernel_rfl) ?_
     obtain ⟨g71, r72⟩ := G_some r68
     have u73 := (u39.fr e54 Dj.nil_l)
     refine s_ql (elp hd_Places 2 i0.toNat 0) (x := aIndexAddr Tryd.prog 31 hd_Places (.int .i64 i0)) (by kernel_rfl) (u73.idxb (by kernel_rfl) g71 h67) ?_
     refine s_ql (.agg #[.int .i64 ((gt Places i0).1), .int .i64 ((gt Places i0).2)]) (x := aLoad Tryd.prog 89 (elp hd_Places 2 i0.toNat 0) H53) (by kernel_rfl) (u73.ld g71 h67 (by kernel_rfl)) ?_
     refine s_rwk e54.wf [.int .i64 0, .int .i64 0] (by kernel_rfl) fun b74 H75 e76 hb77 r78 => ?_
     obtain ⟨H80, q81, e82, r83⟩ := Row.store (P := Tryd.prog) (t := 89) (p := 0) e76.wf r78 (.agg #[.int .i64 ((gt Places i0).1), .int .i64 ((gt Places i0).2)]) [.int .i64 ((gt Places i0).1), .int .i64 ((gt Places i0).2)] (by kernel_rfl) (by kernel_rfl) (one_cons (rfl) (one_cons (rfl) (one_nil))) (Nat.le_of_ble_eq_true (by kernel_rfl)) [.int .i64 ((gt Places i0).1), .int .i64 ((gt Places i0).2)] (by kernel_rfl)
     refine s_ek (undef) (by kernel_rfl) (map_ok q81) ?_
     refine s_nil ?_
     refine k70 _ _ ?_
     refine w_seqk fun K84 k84 => ?_
     refine w_reg (by kernel_rfl) ?_
     refine s_rwk e82.wf [.pointer none] (by kernel_rfl) fun b85 H86 e87 hb88 r89 => ?_
     refine s_nil ?_
     refine k84 _ _ ?_
     refine w_seqk fun K91 k91 => ?_
     refine w_seqk fun K92 k92 => ?_
     refine w_draw [0, 1, 2, 3, 4, 5, 6, 7, 8, 9, 10, 11, 12, 13, 14, 15] (by kernel_rfl) ?_
     refine d_qk (v57) (by kernel_rfl) ?_
     refine d_qk (.iface 92 (.pointer (some ⟨b85, 0, none⟩))) (by kernel_rfl) ?_
     by_cases h93 : Er.isAt e1 = true
     ·have r94 := ite_t h93 r72
      have u103 := (((m56.ext e76).fr e82 (hb77.djn (h_err.lt.le (ntr (ntr e4.next e15.next) e54.next)))).ext e87)
      refine d_ck 55 #[v57, .iface 92 (.pointer (some ⟨b85, 0, none⟩))] (by kernel_rfl) (a_asF_at e87.wf r89 (hb88.djn (h_err.lt.le (ntr (ntr (ntr (ntr e4.next e15.next) e54.next) e76.next) e82.next))) u103 h93) ?_
      rintro _ H95 ⟨rfl, e96, b98, u99, -, i100, r97, r101, v102⟩
      refine ⟨st_nil, ?_⟩
      refine d_qk (.bool false) (by kernel_rfl) ?_
      refine d_qk (.bool false) (by kernel_rfl) ?_
      refine d_ql (.pointer (some ⟨b98, 0, none⟩)) (x := aLoad Tryd.prog 90 (.pointer (some ⟨b85, 0, none⟩)) H95) (by kernel_rfl) (r97.ld (by kernel_rfl)) ?_
      refine d_qk (.bool false) (by kernel_rfl) ?_
      refine d_qk (.bool false) (by kernel_rfl) ?_
      refine d_qk (.bool false) (by kernel_rfl) ?_
      refine d_ql (.pointer (some ⟨b98, 0, none⟩)) (x := aLoad Tryd.prog 90 (.pointer (some ⟨b85, 0, none⟩)) H95) (by kernel_rfl) (r97.ld (by kernel_rfl)) ?_
      refine d_qk (.pointer (some ⟨b98, 0, none⟩)) (by kernel_rfl) ?_
      refine d_qk (.pointer (some ⟨b98, 0, none⟩)) (by kernel_rfl) ?_
      refine d_ql (.agg #[.int .i64 (Er.fk e1), .int .i64 (Er.fi e1)]) (x := aLoad Tryd.prog 89 (.pointer (some ⟨b98, 0, none⟩)) H95) (by kernel_rfl) (r101.ld (by kernel_rfl)) ?_
      have u106 := ((r83.ext e87).frS e96 (hb88.djn (r78.ltF.le e82.next)))
      refine d_ql (.agg #[.int .i64 ((gt Places i0).1), .int .i64 ((gt Places i0).2)]) (x := aLoad Tryd.prog 89 (.pointer (some ⟨b74, 0, none⟩)) H95) (by kernel_rfl) (u106.ld (by kernel_rfl)) ?_
      refine d_ql (.bool (!decide ((Er.fk e1) = ((gt Places i0).1) ∧ (Er.fi e1) = ((gt Places i0).2)))) (x := aBin Tryd.prog .neq 89 (.tmp 39) (.tmp 40) (.agg #[.int .i64 (Er.fk e1), .int .i64 (Er.fi e1)]) (.agg #[.int .i64 ((gt Places i0).1), .int .i64 ((gt Places i0).2)])) (by kernel_rfl) (aBin_neq89 _ _ (Er.fk e1) (Er.fi e1) ((gt Places i0).1) ((gt Places i0).2)) ?_
      refine d_qk (.bool (!decide ((Er.fk e1) = ((gt Places i0).1) ∧ (Er.fi e1) = ((gt Places i0).2)))) (by kernel_rfl) ?_
      refine d_nil ?_
      refine k92 _ _ ?_
      refine w_condn ((Er.fk e1) = ((gt Places i0).1) ∧ (Er.fi e1) = ((gt Places i0).2)) (by kernel_rfl) rfl (fun h107 => ?_) (fun h107 => ?_)
      ·have r108 := ite_f h107 r94
       refine w_seqk fun K109 k109 => ?_
       refine w_reg (by kernel_rfl) ?_
       refine s_qk (.bool false) (by kernel_rfl) ?_
       refine s_nil ?_
       refine k109 _ _ ?_
       refine w_ret (th_ret (bl_ret (th_ret (th_ret (bl_ret (th_ret (th_ret ?_)))))))
       obtain ⟨v110, hv111, hz112⟩ := map_some r108
       subst hz112
       obtain rfl := it_inr hn63
       have hq113 := elim_inl r42
       rw [hq113] at hv111
       refine b_ret (fn := Tryd.f16) (vs := [.bool false]) (aRes_tmp (by kernel_rfl) (rfl)) ?_
       obtain rfl := Option.some.inj hv111
       exact ⟨rfl, (FrS.step wf ((FrS.step wf ((FrS.step wf (FrS.step wf ((FrS.refl (W := []) wf).extR e4) e15 Inn.nil) e54 Inn.nil).extR e76) e82 (hb77.fresh (ntr (ntr e4.next e15.next) e54.next))).extR e87) e96 (hb88.fresh (ntr (ntr (ntr (ntr e4.next e15.next) e54.next) e76.next) e82.next)))⟩
      ·have r114 := ite_t h107 r94
       refine w_skip ?_
       refine k91 _ _ ?_
       refine w_reg (by kernel_rfl) ?_
       refine s_ql (.pointer (some ⟨b98, 0, none⟩)) (x := aLoad Tryd.prog 90 (.pointer (some ⟨b85, 0, none⟩)) H95) (by kernel_rfl) (r97.ld (by kernel_rfl)) ?_
       refine s_qk (.pointer (some ⟨b98, 0, none⟩)) (by kernel_rfl) ?_
       refine s_qk (.pointer (some ⟨b98, 2, none⟩)) (by kernel_rfl) ?_
       refine s_ql (u99) (x := aLoad Tryd.prog 28 (.pointer (some ⟨b98, 2, none⟩)) H95) (by kernel_rfl) (r101.ld (by kernel_rfl)) ?_
       refine s_qk (u99) (by kernel_rfl) ?_
       refine s_nil ?_
       refine k69 _ _ ?_
       refine w_reg (by kernel_rfl) ?_
       obtain ⟨g115, r116⟩ := G_some r114
       refine s_w ((i0 + 1)) (k := .i64) (x := (i0 + 1)) (by kernel_rfl) (wrap64 (by have := g115; omega)) ?_
       refine s_qk (.int .i64 (i0 + 1)) (by kernel_rfl) ?_
       refine s_nil ?_
       obtain rfl := Option.some.inj r116
       exact k64 n60 _ _ (Nat.lt_succ_self _) ⟨(i0 + 1), (Er.fe e1), (u99), hn63, ⟨by kernel_rfl, by kernel_rfl, by kernel_rfl, by kernel_rfl, by kernel_rfl, by kernel_rfl, trivial⟩, (FrS.step e15.wf ((FrS.step e15.wf ((FrS.step e15.wf (FrS.refl (W := []) e15.wf) e54 Inn.nil).extR e76) e82 (hb77.fresh e54.next)).extR e87) e96 (hb88.fresh (ntr (ntr e54.next e76.next) e82.next))), v102⟩
     ·have r117 := ite_f h93 r72
      have u118 := (((m56.ext e76).fr e82 (hb77.djn (h_err.lt.le (ntr (ntr e4.next e15.next) e54.next)))).ext e87)
      refine d_ck 55 #[v57, .iface 92 (.pointer (some ⟨b85, 0, none⟩))] (by kernel_rfl) (a_asF_no r89 u118 h93) ?_
      rintro _ _ ⟨rfl, rfl⟩
      refine ⟨st_nil, ?_⟩
      refine d_qk (.bool true) (by kernel_rfl) ?_
      refine d_qk (.bool true) (by kernel_rfl) ?_
      refine d_idle (by kernel_rfl) ?_
      refine d_idle (by kernel_rfl) ?_
      refine d_qk (.bool true) (by kernel_rfl) ?_
      refine d_qk (.bool true) (by kernel_rfl) ?_
      refine d_idle (by kernel_rfl) ?_
      refine d_idle (by kernel_rfl) ?_
      refine d_idle (by kernel_rfl) ?_
      refine d_idle (by kernel_rfl) ?_
      refine d_idle (by kernel_rfl) ?_
      refine d_idle (by kernel_rfl) ?_
      refine d_qk (.bool true) (by kernel_rfl) ?_
      refine d_nil ?_
      refine k92 _ _ ?_
      refine w_cond true (by kernel_rfl) rfl (fun _ => ?_) (fun h => by cases h)
      refine w_seqk fun K119 k119 => ?_
      refine w_reg (by kernel_rfl) ?_
      refine s_qk (.bool false) (by kernel_rfl) ?_
      refine s_nil ?_
      refine k119 _ _ ?_
      refine w_ret (th_ret (bl_ret (th_ret (th_ret (bl_ret (th_ret (th_ret ?_)))))))
      obtain ⟨v120, hv121, hz122⟩ := map_some r117
      subst hz122
      obtain rfl := it_inr hn63
      have hq123 := elim_inl r42
      rw [hq123] at hv121
      refine b_ret (fn := Tryd.f16) (vs := [.bool false]) (aRes_tmp (by kernel_rfl) (rfl)) ?_
      obtain rfl := Option.some.inj hv121
      exact ⟨rfl, ((FrS.step wf ((FrS.step wf (FrS.step wf ((FrS.refl (W := []) wf).extR e4) e15 Inn.nil) e54 Inn.nil).extR e76) e82 (hb77.fresh (ntr (ntr e4.next e15.next) e54.next))).extR e87)⟩
    ·have r124 := ite_f h67 hz62
     refine w_exit (th_exit (th_exit (bl_eq ?_)))
     obtain rfl := Option.some.inj r124
     obtain rfl := it_inr hn63
     exact k49 _ _ ⟨_, rfl, (v57), ⟨by kernel_rfl, by kernel_rfl, by kernel_rfl, trivial⟩, (FrS.step e15.wf (FrS.refl (W := []) e15.wf) e54 Inn.nil), m56⟩
   ·obtain ⟨o40, rfl, v48, hh50, e45, m47⟩ := hM
    have r125 := elim_inr r42
    obtain ⟨β, rfl⟩ := has_ex hh50
    clear hh50
    refine k36 _ _ ?_
    refine w_seqk fun K126 k126 => ?_
    refine w_reg (by kernel_rfl) ?_
    refine s_rwk e45.wf [.pointer none] (by kernel_rfl) fun b127 H128 e129 hb130 r131 => ?_
    refine s_nil ?_
    refine k126 _ _ ?_
    refine w_seqk fun K133 k133 => ?_
    refine w_seqk fun K134 k134 => ?_
    refine w_reg (by kernel_rfl) ?_
    refine s_qk (v48) (by kernel_rfl) ?_
    refine s_qk (.iface 92 (.pointer (some ⟨b127, 0, none⟩))) (by kernel_rfl) ?_
    by_cases h135 : Er.isAt o40 = true
    ·have r136 := ite_t h135 r125
     have u145 := (m47.ext e129)
     refine s_ck 55 #[v48, .iface 92 (.pointer (some ⟨b127, 0, none⟩))] (by kernel_rfl) (a_asF_at e129.wf r131 (hb130.djn (h_err.lt.le (ntr (ntr e4.next e15.next) e45.next))) u145 h135) ?_
     rintro _ H137 ⟨rfl, e138, b140, u141, -, i142, r139, r143, v144⟩
     refine s_nil ?_
     refine k134 _ _ ?_
     refine w_cond true (by kernel_rfl) rfl (fun _ => ?_) (fun h => by cases h)
     refine w_seqk fun K148 k148 => ?_
     refine w_reg (by kernel_rfl) ?_
     refine s_qk (.bool false) (by kernel_rfl) ?_
     refine s_nil ?_
     refine k148 _ _ ?_
     refine w_ret (th_ret ?_)
     refine b_ret (fn := Tryd.f16) (vs := [.bool false]) (aRes_tmp (by kernel_rfl) (rfl)) ?_
     obtain rfl := Option.some.inj r136
     exact ⟨rfl, (FrS.step wf ((FrS.step wf (FrS.step wf ((FrS.refl (W := []) wf).extR e4) e15 Inn.nil) e45 Inn.nil).extR e129) e138 (hb130.fresh (ntr (ntr e4.next e15.next) e45.next)))⟩
    ·have r149 := ite_f h135 r125
     have u150 := (m47.ext e129)
     refine s_ck 55 #[v48, .iface 92 (.pointer (some ⟨b127, 0, none⟩))] (by kernel_rfl) (a_asF_no r131 u150 h135) ?_
     rintro _ _ ⟨rfl, rfl⟩
     refine s_nil ?_
     refine k134 _ _ ?_
     refine w_cond false (by kernel_rfl) rfl (fun h => by cases h) (fun _ => ?_)
     refine w_skip ?_
     refine k133 _ _ ?_
     refine w_seqk fun K151 k151 => ?_
     refine w_reg (by kernel_rfl) ?_
     refine s_rwk e129.wf [.int .i64 0] (by kernel_rfl) fun b152 H153 e154 hb155 r156 => ?_
     refine s_nil ?_
     refine k151 _ _ ?_
     refine w_seqk fun K158 k158 => ?_
     refine w_seqk fun K159 k159 => ?_
     obtain ⟨o160, hx161, r162⟩ := bind_some r149
     refine w_mid (fun α H163 => Has α [(0, .iface t29 x30), (3, .pointer (some ⟨b2, 0, none⟩)), (60, .bool o160)] ∧ FrS [b152] H153 H163) (fun K165 k165 => ?_) (fun α H163 hM => ?_)
     ·refine w_reg (by kernel_rfl) ?_
      refine s_qk (.iface t29 x30) (by kernel_rfl) ?_
      refine s_qk (.iface 95 (.pointer (some ⟨b152, 0, none⟩))) (by kernel_rfl) ?_
      by_cases h167 : (Er.num err).isSome = true
      ·have r168 := ite_t h167 hx161
       have u172 := (((u31.fr e45 Dj.nil_l).ext e129).ext e154)
       refine s_ck 55 #[.iface t29 x30, .iface 95 (.pointer (some ⟨b152, 0, none⟩))] (by kernel_rfl) (a_asN_y e154.wf r156 u172 h28 h167) ?_
       rintro _ H169 ⟨rfl, e170, r171⟩
       refine s_qk (.bool false) (by kernel_rfl) ?_
       refine s_qk (.bool false) (by kernel_rfl) ?_
       refine s_ql (.int .i64 ((Er.num err).getD 0)) (x := aLoad Tryd.prog 53 (.pointer (some ⟨b152, 0, none⟩)) H169) (by kernel_rfl) (r171.ld (by kernel_rfl)) ?_
       refine s_qk (.pointer (some ⟨b2, 0, none⟩)) (by kernel_rfl) ?_
       have u173 := ((((u38.frS e45 Dj.nil_l).ext e129).ext e154).frS e170 (hb155.djn (r6.ltF.le (ntr (ntr e15.next e45.next) e129.next))))
       refine s_ql (.int .i64 Code) (x := aLoad Tryd.prog 3 (.pointer (some ⟨b2, 0, none⟩)) H169) (by kernel_rfl) (u173.ld (by kernel_rfl)) ?_
       refine s_qk (.bool (!decide (((Er.num err).getD 0) = Code))) (by kernel_rfl) ?_
       refine s_qk (.bool (!decide (((Er.num err).getD 0) = Code))) (by kernel_rfl) ?_
       refine s_nil ?_
       obtain rfl := Option.some.inj r168
       exact k165 _ _ ⟨⟨by kernel_rfl, by kernel_rfl, by kernel_rfl, trivial⟩, (FrS.step e154.wf (FrS.refl (W := [b152]) e154.wf) e170 Inn.refl')⟩
      ·have r174 := ite_f h167 hx161
       have u178 := (((u31.fr e45 Dj.nil_l).ext e129).ext e154)
       refine s_ck 55 #[.iface t29 x30, .iface 95 (.pointer (some ⟨b152, 0, none⟩))] (by kernel_rfl) (a_asN_n e154.wf r156 u178 h28 h167) ?_
       rintro _ H175 ⟨rfl, e176, r177⟩
       refine s_qk (.bool true) (by kernel_rfl) ?_
       refine s_qk (.bool true) (by kernel_rfl) ?_
       refine s_no (by kernel_rfl) ?_
       refine s_no (by kernel_rfl) ?_
       refine s_no (by kernel_rfl) ?_
       refine s_no (by kernel_rfl) ?_
       refine s_qk (.bool true) (by kernel_rfl) ?_
       refine s_nil ?_
       obtain rfl := Option.some.inj r174
       exact k165 _ _ ⟨⟨by kernel_rfl, by kernel_rfl, by kernel_rfl, trivial⟩, (FrS.step e154.wf (FrS.refl (W := [b152]) e154.wf) e176 Inn.refl')⟩
     ·obtain ⟨hh166, e164⟩ := hM
      obtain ⟨β, rfl⟩ := has_ex hh166
      clear hh166
      refine k159 _ _ ?_
      refine w_cond (o160) (by kernel_rfl) rfl (fun h179 => ?_) (fun h179 => ?_)
      ·have r180 := ite_t h179 r162
       refine w_seqk fun K181 k181 => ?_
       refine w_reg (by kernel_rfl) ?_
       refine s_qk (.bool false) (by kernel_rfl) ?_
       refine s_nil ?_
       refine k181 _ _ ?_
       refine w_ret (th_ret ?_)
       refine b_ret (fn := Tryd.f16) (vs := [.bool false]) (aRes_tmp (by kernel_rfl) (rfl)) ?_
       obtain rfl := Option.some.inj r180
       exact ⟨rfl, (FrS.step wf (((FrS.step wf (FrS.step wf ((FrS.refl (W := []) wf).extR e4) e15 Inn.nil) e45 Inn.nil).extR e129).extR e154) e164 (hb155.fresh (ntr (ntr (ntr e4.next e15.next) e45.next) e129.next)))⟩
      ·have r182 := ite_bf h179 r162
       refine w_skip ?_
       refine k158 _ _ ?_
       refine w_seqk fun K183 k183 => ?_
       refine w_seqk fun K184 k184 => ?_
       refine w_reg (by kernel_rfl) ?_
       refine s_qk (.int .i64 1) (by kernel_rfl) ?_
       refine s_nil ?_
       refine k184 _ _ ?_
       obtain ⟨z188, hx186, r187⟩ := bind_some r182
       refine w_mid (fun α H189 => ∃ o185, z188 = Sum.inr o185 ∧ Has α [] ∧ H163 = H189) (fun K191 k191 => ?_) (fun α H189 hM => ?_)
       ·refine w_block ?_
        obtain ⟨n193, hn194⟩ := loopO_iff.1 hx186
        refine w_loopn (fun n α H195 => ∃ (i2 : Int), iterO (fun zz_ => z_viaductseen_Same_l1 err Code zz_) n i2 = some z188 ∧ Has α [(0, .iface t29 x30), (3, .pointer (some ⟨b2, 0, none⟩)), (11, .int .i64 i2)] ∧ H163 = H195) n193 ⟨1, hn194, ⟨by kernel_rfl, by kernel_rfl, by kernel_rfl, trivial⟩, rfl⟩ ?_
        rintro n193 α H195 ⟨i2, hi198, hh197, rfl⟩ K203 k203
        obtain ⟨n199, z200, rfl, hz201, hn202⟩ := iter_succ hi198
        obtain ⟨β, rfl⟩ := has_ex hh197
        clear hh197
        replace hz201 : z_viaductseen_Same_l1 err Code i2 = some z200 := hz201
        unfold z_viaductseen_Same_l1 at hz201
        refine w_seqk fun K204 k204 => ?_
        refine w_seqk fun K205 k205 => ?_
        refine w_reg (by kernel_rfl) ?_
        refine s_qk (.int .i64 i2) (by kernel_rfl) ?_
        refine s_qk (.bool (decide (i2 ≤ 20))) (by kernel_rfl) ?_
        refine s_nil ?_
        refine k205 _ _ ?_
        refine w_condp (i2 ≤ 20) (by kernel_rfl) rfl (fun h206 => ?_) (fun h206 => ?_)
        ·have r207 := ite_t h206 hz201
         refine w_skip ?_
         refine k204 _ _ ?_
         refine w_seqk fun K208 k208 => ?_
         refine w_block ?_
         refine w_seqk fun K209 k209 => ?_
         refine w_draw [0, 1, 2, 4, 5, 6, 7, 3, 8] (by kernel_rfl) ?_
         refine d_qk (.iface t29 x30) (by kernel_rfl) ?_
         refine d_qk (.int .i64 i2) (by kernel_rfl) ?_
         refine d_qk (.iface 53 (.int .i64 i2)) (by kernel_rfl) ?_
         refine d_qk (.int .i64 i2) (by kernel_rfl) ?_
         refine d_qk (.pointer (some ⟨b2, 0, none⟩)) (by kernel_rfl) ?_
         have u210 := ((((u38.frS e45 Dj.nil_l).ext e129).ext e154).frS e164 (hb155.djn (r6.ltF.le (ntr (ntr e15.next e45.next) e129.next))))
         refine d_fl (.int .i64 Code) (x := aLoad Tryd.prog 3 (.pointer (some ⟨b2, 0, none⟩)) H163) (by kernel_rfl) (u210.ld (by kernel_rfl)) ?_
         refine d_qk (.bool (decide (i2 = Code))) (by kernel_rfl) ?_
         have u211 := ((((u31.fr e45 Dj.nil_l).ext e129).ext e154).fr e164 (hb155.djn (h_err.lt.le (ntr (ntr (ntr e4.next e15.next) e45.next) e129.next))))
         refine d_ck 56 #[.iface t29 x30, .iface 53 (.int .i64 i2)] (by kernel_rfl) (a_isN u211 h28) ?_
         rintro _ _ ⟨rfl, rfl⟩
         refine ⟨st_ql (y := aLoad Tryd.prog 3 (.pointer (some ⟨b2, 0, none⟩)) H163) (by kernel_rfl) (u210.ld (by kernel_rfl)) (st_nil), ?_⟩
         refine d_qk (.bool (!decide ((decide (Er.num err = some i2)) = (decide (i2 = Code))))) (by kernel_rfl) ?_
         refine d_nil ?_
         refine k209 _ _ ?_
         refine w_condn ((decide (Er.num err = some i2)) = (decide (i2 = Code))) (by kernel_rfl) rfl (fun h212 => ?_) (fun h212 => ?_)
         ·have r213 := ite_f h212 r207
          refine w_seqk fun K214 k214 => ?_
          refine w_reg (by kernel_rfl) ?_
          refine s_qk (.bool false) (by kernel_rfl) ?_
          refine s_nil ?_
          refine k214 _ _ ?_
          refine w_ret (bl_ret (th_ret (th_ret (bl_ret (th_ret (th_ret ?_))))))
          obtain ⟨v215, hv216, hz217⟩ := map_some r213
          subst hz217
          obtain rfl := it_inr hn202
          have hq218 := elim_inl r187
          rw [hq218] at hv216
          refine b_ret (fn := Tryd.f16) (vs := [.bool false]) (aRes_tmp (by kernel_rfl) (rfl)) ?_
          obtain rfl := Option.some.inj hv216
          exact ⟨rfl, (FrS.step wf (((FrS.step wf (FrS.step wf ((FrS.refl (W := []) wf).extR e4) e15 Inn.nil) e45 Inn.nil).extR e129).extR e154) e164 (hb155.fresh (ntr (ntr (ntr e4.next e15.next) e45.next) e129.next)))⟩
         ·have r219 := ite_t h212 r207
          refine w_skip ?_
          refine k208 _ _ ?_
          refine w_reg (by kernel_rfl) ?_
          refine s_qk (.int .i64 i2) (by kernel_rfl) ?_
          obtain ⟨g220, r221⟩ := G_some r219
          refine s_w ((i2 + 1)) (k := .i64) (x := (i2 + 1)) (by kernel_rfl) (wrap64 g220) ?_
          refine s_qk (.int .i64 (i2 + 1)) (by kernel_rfl) ?_
          refine s_nil ?_
          obtain rfl := Option.some.inj r221
          exact k203 n199 _ _ (Nat.lt_succ_self _) ⟨(i2 + 1), hn202, ⟨by kernel_rfl, by kernel_rfl, by kernel_rfl, trivial⟩, rfl⟩
        ·have r222 := ite_f h206 hz201
         refine w_exit (th_exit (th_exit (bl_eq ?_)))
         obtain rfl := Option.some.inj r222
         obtain rfl := it_inr hn202
         exact k191 _ _ ⟨_, rfl, trivial, rfl⟩
       ·obtain ⟨o185, rfl, hh192, rfl⟩ := hM
        have r223 := elim_inr r187
        obtain ⟨β, rfl⟩ := has_ex hh192
        clear hh192
        refine k183 _ _ ?_
        refine w_seqk fun K224 k224 => ?_
        refine w_reg (by kernel_rfl) ?_
        refine s_qk (.bool true) (by kernel_rfl) ?_
        refine s_nil ?_
        refine k224 _ _ ?_
        refine w_ret ?_
        refine b_ret (fn := Tryd.f16) (vs := [.bool true]) (aRes_tmp (by kernel_rfl) (rfl)) ?_
        obtain rfl := Option.some.inj r223
        exact ⟨rfl, (FrS.step wf (((FrS.step wf (FrS.step wf ((FrS.refl (W := []) wf).extR e4) e15 Inn.nil) e45 Inn.nil).extR e129).extR e154) e164 (hb155.fresh (ntr (ntr (ntr e4.next e15.next) e45.next) e129.next)))⟩

theorem c_viaductref01_At {H : AH} {hd_Places : Value} {fp_Places : Fp} {kind : Int} {at_ : Int} {Code : Int} {Places : List (Int × Int)} {r : Int × List (Int × Int)}
  (wf : WF H) (h_Places : Sq enc_i64_i64 2 H hd_Places Places fp_Places) (hr : z_viaductref01_At kind at_ Code Places = some r) :
  ACalls Tryd.prog 27 #[.int .i64 kind, .int .i64 at_, .agg #[.int .i64 Code, hd_Places]] H fun v H' => ∃ (s3 : Value) (f4 : Fp), v = .agg #[.int .i64 r.1, s3] ∧ FrS [] H H' ∧ Ow enc_i64_i64 2 H' s3 r.2 f4 ∧ Inn [] H f4 := by
 refine acalls_of_body mixed Tryd.func27 rfl (Nat.le_of_ble_eq_true rfl) ?_
 unfold z_viaductref01_At at hr
 refine w_seqk fun K6 k6 => ?_
 refine w_reg (by kernel_rfl) ?_
 refine s_rwl wf [.int .i64 Code, hd_Places] (one_cons (rfl) (one_cons (h_Places.one1) (one_nil))) (by kernel_rfl) fun b7 H8 e9 hb10 r11 => ?_
 refine s_rwk e9.wf [.int .i64 0, .slice none 0 0] (by kernel_rfl) fun b13 H14 e15 hb16 r17 => ?_
 refine s_nil ?_
 refine k6 _ _ ?_
 refine w_seqk fun K19 k19 => ?_
 refine w_reg (by kernel_rfl) ?_
 refine s_qk (.int .i64 kind) (by kernel_rfl) ?_
 refine s_qk (.int .i64 at_) (by kernel_rfl) ?_
 refine s_qk (.agg #[.int .i64 kind, .int .i64 at_]) (by kernel_rfl) ?_
 refine s_owk (enc := enc_i64_i64) (sz := 2) e15.wf [(kind, at_)] 1 (by decide) (fun _ _ => rfl) (fun _ _ => rfl) rfl (by kernel_rfl) fun s20 f21 H22 e23 hf24 hm25 => ?_
 obtain ⟨a26, n27, c28, rfl⟩ := hm25.form
 refine s_qk (.slice a26 n27 c28) (by kernel_rfl) ?_
 refine s_nil ?_
 refine k19 _ _ ?_
 refine w_seqk fun K30 k30 => ?_
 refine w_reg (by kernel_rfl) ?_
 refine s_qk (.slice a26 n27 c28) (by kernel_rfl) ?_
 refine s_qk (.pointer (some ⟨b7, 1, none⟩)) (by kernel_rfl) ?_
 have u31 := ((r11.ext e15).ext e23)
 refine s_ql (hd_Places) (x := aLoad Tryd.prog 31 (.pointer (some ⟨b7, 1, none⟩)) H22) (by kernel_rfl) (u31.ld (by kernel_rfl)) ?_
 obtain ⟨g32, r33⟩ := G_some hr
 have u41 := (((h_Places.ext e9).ext e15).ext e23)
 obtain ⟨s34, H35, f36, q40, e37, hm38, hf39⟩ := Ow.append (P := Tryd.prog) 16 e23.wf hm25 u41 (fun _ _ => rfl) (at_ := #[31, 31]) rfl rfl (by kernel_rfl) (by kernel_rfl) (by decide) (by have := g32; first | omega | (simp only [List.length_cons, List.length_nil] at this ⊢; omega) | (simp at this ⊢; omega))
 obtain ⟨a42, n43, c44, rfl⟩ := hm38.form
 refine s_ek (.slice a42 n43 c44) (by kernel_rfl) (q40) ?_
 refine s_qk (.slice a42 n43 c44) (by kernel_rfl) ?_
 refine s_nil ?_
 refine k30 _ _ ?_
 refine w_seqk fun K46 k46 => ?_
 refine w_reg (by kernel_rfl) ?_
 refine s_qk (.pointer (some ⟨b7, 0, none⟩)) (by kernel_rfl) ?_
 have u47 := (u31.frS e37 (hf24.djn (r11.ltF.le e15.next)))
 refine s_ql (.int .i64 Code) (x := aLoad Tryd.prog 3 (.pointer (some ⟨b7, 0, none⟩)) H35) (by kernel_rfl) (u47.ld (by kernel_rfl)) ?_
 refine s_qk (.slice a42 n43 c44) (by kernel_rfl) ?_
 refine s_qk (.agg #[.int .i64 Code, .slice a42 n43 c44]) (by kernel_rfl) ?_
 have u52 := ((r17.ext e23).frS e37 (hf24.djn r17.ltF))
 obtain ⟨H48, q49, e50, r51⟩ := Row.store (P := Tryd.prog) (t := 33) (p := 0) e37.wf u52 (.agg #[.int .i64 Code, .slice a42 n43 c44]) [.int .i64 Code, .slice a42 n43 c44] (by kernel_rfl) (by kernel_rfl) (one_cons (rfl) (one_cons (hm38.one1) (one_nil))) (Nat.le_of_ble_eq_true (by kernel_rfl)) [.int .i64 Code, .slice a42 n43 c44] (by kernel_rfl)
 refine s_ek (undef) (by kernel_rfl) (map_ok q49) ?_
 refine s_nil ?_
 refine k46 _ _ ?_
 refine w_ret ?_
 refine b_ret (fn := Tryd.f27) (vs := [.agg #[.int .i64 Code, .slice a42 n43 c44]]) (aRes_cell (Eq.trans (b := aLoad Tryd.prog 33 (.pointer (some ⟨b13, 0, none⟩)) H48) (by kernel_rfl) (r51.ld (by kernel_rfl))) (rfl)) ?_
 have u53 := (hm38.fr e50 (Dj.symm (hf39.dj (hf24.djn r17.ltF) (r17.ltF.le e23.next))))
 obtain rfl := Option.some.inj r33
 exact ⟨(.slice a42 n43 c44), f36, rfl, (FrS.step wf (FrS.step wf ((((FrS.refl (W := []) wf).extR e9).extR e15).extR e23) e37 (hf24.fresh (ntr e9.next e15.next))) e50 (hb16.fresh e9.next)), u53, (Inn.trans (hf24.fresh (ntr e9.next e15.next)) (ntr (ntr e9.next e15.next) e23.next) hf39)⟩


end Go.Vd

/-! (KNf3) -/

set_option maxRecDepth 100000
set_option maxHeartbeats 4000000
set_option linter.unusedVariables false
namespace Go.Vd
open Go.Proofs
attribute [local irreducible] wpSeq wpOrd aWp
theorem c_viaductlaw04_NormalFixed {H : AH} {r : Bool}
  (wf : WF H) (hr : z_viaductlaw04_NormalFixed = some r) :
  ACalls Tryd.prog 6 #[] H fun v H' => v = .bool r ∧ FrS [] H H' := by
 refine acalls_of_body mixed Tryd.func6 rfl (Nat.le_of_ble_eq_true rfl) ?_
 unfold z_viaductlaw04_NormalFixed at hr
 refine w_seqk fun K1 k1 => ?_
 refine w_reg (by kernel_rfl) ?_
 refine s_qk (.bool false) (by kernel_rfl) ?_
 refine s_nil ?_
 refine k1 _ _ ?_
 refine w_seqk fun K2 k2 => ?_
 refine w_seqk fun K3 k3 => ?_
 refine w_reg (by kernel_rfl) ?_
 refine s_ck 11 #[] (by kernel_rfl) c_viaductlaw04_awake ?_
 rintro _ _ ⟨rfl, rfl⟩
 refine s_qk (.bool false) (by kernel_rfl) ?_
 refine s_nil ?_
 refine k3 _ _ ?_
 refine w_cond false (by kernel_rfl) rfl (fun h => by cases h) (fun _ => ?_)
 refine w_skip ?_
 refine k2 _ _ ?_
 refine w_seqk fun K4 k4 => ?_
 refine w_reg (by kernel_rfl) ?_
 refine s_qk (.agg #[.int .i64 0, .int .i64 1, .int .i64 4]) (by kernel_rfl) ?_
 refine s_qk (.agg #[.int .i64 1, .int .i64 1, .int .i64 2]) (by kernel_rfl) ?_
 refine s_owk (enc := enc_i64_i64_i64) (sz := 3) wf [(0, 1, 4), (1, 1, 2)] 2 (by decide) (fun _ _ => rfl) (fun _ _ => rfl) rfl (by kernel_rfl) fun s5 f6 H7 e8 hf9 hm10 => ?_
 obtain ⟨a11, n12, c13, rfl⟩ := hm10.form
 refine s_qk (.agg #[.int .i64 2, .slice a11 n12 c13]) (by kernel_rfl) ?_
 refine s_rwk e8.wf [.int .i64 0, .slice none 0 0] (by kernel_rfl) fun b15 H16 e17 hb18 r19 => ?_
 have u25 := (hm10.ext e17)
 obtain ⟨H21, q22, e23, r24⟩ := Row.store (P := Tryd.prog) (t := 24) (p := 0) e17.wf r19 (.agg #[.int .i64 2, .slice a11 n12 c13]) [.int .i64 2, .slice a11 n12 c13] (by kernel_rfl) (by kernel_rfl) (one_cons (rfl) (one_cons (u25.one1) (one_nil))) (Nat.le_of_ble_eq_true (by kernel_rfl)) [.int .i64 2, .slice a11 n12 c13] (by kernel_rfl)
 refine s_ek (undef) (by kernel_rfl) (map_ok q22) ?_
 refine s_nil ?_
 refine k4 _ _ ?_
 refine w_seqk fun K26 k26 => ?_
 refine w_reg (by kernel_rfl) ?_
 refine s_ql (.agg #[.int .i64 2, .slice a11 n12 c13]) (x := aLoad Tryd.prog 24 (.pointer (some ⟨b15, 0, none⟩)) H21) (by kernel_rfl) (r24.ld (by kernel_rfl)) ?_
 have u27 := (u25.fr e23 (hb18.djn hm10.lt))
 obtain ⟨y28, hy29, r30⟩ := bind_some hr
 refine s_ck 19 #[.agg #[.int .i64 2, .slice a11 n12 c13]] (by kernel_rfl) (c_normal_Reverse e23.wf u27.sq hy29) ?_
 rintro _ H35 ⟨s31, f32, v33, f34, rfl, e36, m37, m38, i39, i40, d41⟩
 obtain ⟨a44, n45, c46, rfl⟩ := m37.form
 refine s_qk (.tuple #[.agg #[.int .i64 y28.1, .slice a44 n45 c46], v33]) (by kernel_rfl) ?_
 refine s_qk (.agg #[.int .i64 y28.1, .slice a44 n45 c46]) (by kernel_rfl) ?_
 refine s_qk (v33) (by kernel_rfl) ?_
 refine s_rwk e36.wf [.int .i64 0, .slice none 0 0] (by kernel_rfl) fun b47 H48 e49 hb50 r51 => ?_
 have u57 := (m37.ext e49)
 obtain ⟨H53, q54, e55, r56⟩ := Row.store (P := Tryd.prog) (t := 24) (p := 0) e49.wf r51 (.agg #[.int .i64 y28.1, .slice a44 n45 c46]) [.int .i64 y28.1, .slice a44 n45 c46] (by kernel_rfl) (by kernel_rfl) (one_cons (rfl) (one_cons (u57.one1) (one_nil))) (Nat.le_of_ble_eq_true (by kernel_rfl)) [.int .i64 y28.1, .slice a44 n45 c46] (by kernel_rfl)
 refine s_ek (undef) (by kernel_rfl) (map_ok q54) ?_
 refine s_qk (v33) (by kernel_rfl) ?_
 refine s_nil ?_
 refine k26 _ _ ?_
 refine w_seqk fun K58 k58 => ?_
 refine w_reg (by kernel_rfl) ?_
 have u59 := (((r24.frS e36 Dj.nil_l).ext e49).frS e55 (hb50.djn (r19.ltF.le (ntr e23.next e36.next))))
 refine s_ql (.agg #[.int .i64 2, .slice a11 n12 c13]) (x := aLoad Tryd.prog 24 (.pointer (some ⟨b15, 0, none⟩)) H53) (by kernel_rfl) (u59.ld (by kernel_rfl)) ?_
 have u60 := (((u27.fr e36 Dj.nil_l).ext e49).fr e55 (hb50.djn (hm10.lt.le (ntr (ntr e17.next e23.next) e36.next))))
 obtain ⟨y61, hy62, r63⟩ := bind_some r30
 refine s_ck 21 #[.agg #[.int .i64 2, .slice a11 n12 c13]] (by kernel_rfl) (c_normal_Degrees e55.wf u60.sq hy62) ?_
 rintro _ H70 ⟨s64, f65, s66, f67, v68, f69, rfl, e71, m72, m73, m74, i75, i76, i77, d78, d79, d80⟩
 obtain ⟨a84, n85, c86, rfl⟩ := m72.form
 obtain ⟨a87, n88, c89, rfl⟩ := m73.form
 refine s_qk (.tuple #[.slice a84 n85 c86, .slice a87 n88 c89, v68]) (by kernel_rfl) ?_
 refine s_qk (.slice a84 n85 c86) (by kernel_rfl) ?_
 refine s_qk (.slice a87 n88 c89) (by kernel_rfl) ?_
 refine s_qk (v68) (by kernel_rfl) ?_
 refine s_qk (.slice a84 n85 c86) (by kernel_rfl) ?_
 refine s_qk (.slice a87 n88 c89) (by kernel_rfl) ?_
 refine s_qk (v68) (by kernel_rfl) ?_
 refine s_nil ?_
 refine k58 _ _ ?_
 refine w_seqk fun K90 k90 => ?_
 refine w_reg (by kernel_rfl) ?_
 refine s_qk (.agg #[.int .i64 1, .int .i64 0, .int .i64 1]) (by kernel_rfl) ?_
 refine s_qk (.agg #[.int .i64 0, .int .i64 1, .int .i64 1]) (by kernel_rfl) ?_
 refine s_owk (enc := enc_i64_i64_i64) (sz := 3) e71.wf [(1, 0, 1), (0, 1, 1)] 2 (by decide) (fun _ _ => rfl) (fun _ _ => rfl) rfl (by kernel_rfl) fun s91 f92 H93 e94 hf95 hm96 => ?_
 obtain ⟨a97, n98, c99, rfl⟩ := hm96.form
 refine s_qk (.agg #[.int .i64 2, .slice a97 n98 c99]) (by kernel_rfl) ?_
 obtain ⟨y101, hy102, r103⟩ := bind_some r63
 refine s_ck 17 #[.agg #[.int .i64 2, .slice a97 n98 c99]] (by kernel_rfl) (c_normal_Is e94.wf hm96.sq hy102) ?_
 rintro _ H106 ⟨v104, f105, rfl, e107, m108, i109⟩
 refine s_qk (.tuple #[.bool y101.1, v104]) (by kernel_rfl) ?_
 refine s_qk (.bool y101.1) (by kernel_rfl) ?_
 refine s_qk (v104) (by kernel_rfl) ?_
 refine s_qk (.bool y101.1) (by kernel_rfl) ?_
 refine s_qk (v104) (by kernel_rfl) ?_
 refine s_nil ?_
 refine k90 _ _ ?_
 refine w_seqk fun K111 k111 => ?_
 refine w_seqk fun K112 k112 => ?_
 obtain ⟨o113, hx114, r115⟩ := bind_some r103
 refine w_mid (fun α H116 => Has α [(1, .pointer (some ⟨b15, 0, none⟩)), (77, .bool o113)] ∧ FrS [] H106 H116) (fun K118 k118 => ?_) (fun α H116 hM => ?_)
 ·refine w_reg (by kernel_rfl) ?_
  refine s_qk (v33) (by kernel_rfl) ?_
  have u123 := (((((m38.ext e49).fr e55 (hb50.djn m38.lt)).fr e71 Dj.nil_l).ext e94).fr e107 Dj.nil_l)
  rcases (u123).cases with ⟨h120, rfl⟩ | ⟨h120, t121, x122, rfl⟩
  ·have r124 := ite_t h120 hx114
   refine s_qk (.bool false) (by kernel_rfl) ?_
   refine s_qk (.bool false) (by kernel_rfl) ?_
   refine s_qk (v68) (by kernel_rfl) ?_
   have u128 := ((m74.ext e94).fr e107 Dj.nil_l)
   rcases (u128).cases with ⟨h125, rfl⟩ | ⟨h125, t126, x127, rfl⟩
   ·have r129 := ite_t h125 r124
    refine s_qk (.bool false) (by kernel_rfl) ?_
    refine s_qk (.bool false) (by kernel_rfl) ?_
    refine s_qk (.bool false) (by kernel_rfl) ?_
    refine s_qk (v104) (by kernel_rfl) ?_
    rcases (m108).cases with ⟨h130, rfl⟩ | ⟨h130, t131, x132, rfl⟩
    ·have r133 := ite_t h130 r129
     refine s_qk (.bool false) (by kernel_rfl) ?_
     refine s_qk (.bool false) (by kernel_rfl) ?_
     refine s_qk (.bool false) (by kernel_rfl) ?_
     refine s_qk (.bool y101.1) (by kernel_rfl) ?_
     refine s_qk (.bool y101.1) (by kernel_rfl) ?_
     refine s_qk (.bool y101.1) (by kernel_rfl) ?_
     by_cases h134 : y101.1 = true
     ·have r135 := ite_t h134 r133
      rw [h134]
      refine s_no (by kernel_rfl) ?_
      refine s_no (by kernel_rfl) ?_
      refine s_no (by kernel_rfl) ?_
      refine s_no (by kernel_rfl) ?_
      refine s_no (by kernel_rfl) ?_
      refine s_no (by kernel_rfl) ?_
      refine s_no (by kernel_rfl) ?_
      refine s_qk (.bool true) (by kernel_rfl) ?_
      refine s_qk (.bool true) (by kernel_rfl) ?_
      refine s_no (by kernel_rfl) ?_
      refine s_no (by kernel_rfl) ?_
      refine s_no (by kernel_rfl) ?_
      refine s_no (by kernel_rfl) ?_
      refine s_qk (.bool true) (by kernel_rfl) ?_
      refine s_qk (.bool true) (by kernel_rfl) ?_
      refine s_no (by kernel_rfl) ?_
      refine s_no (by kernel_rfl) ?_
      refine s_no (by kernel_rfl) ?_
      refine s_no (by kernel_rfl) ?_
      refine s_qk (.bool true) (by kernel_rfl) ?_
      refine s_nil ?_
      obtain rfl := Option.some.inj r135
      exact k118 _ _ ⟨⟨by kernel_rfl, by kernel_rfl, trivial⟩, (FrS.refl (W := []) e107.wf)⟩
     ·have r136 := ite_f h134 r133
      rw [nb h134]
      have u137 := (((r56.frS e71 Dj.nil_l).ext e94).frS e107 Dj.nil_l)
      refine s_ql (.agg #[.int .i64 y28.1, .slice a44 n45 c46]) (x := aLoad Tryd.prog 24 (.pointer (some ⟨b47, 0, none⟩)) H106) (by kernel_rfl) (u137.ld (by kernel_rfl)) ?_
      refine s_qk (.agg #[.int .i64 1, .int .i64 0, .int .i64 4]) (by kernel_rfl) ?_
      refine s_qk (.agg #[.int .i64 1, .int .i64 1, .int .i64 2]) (by kernel_rfl) ?_
      refine s_owk (enc := enc_i64_i64_i64) (sz := 3) e107.wf [(1, 0, 4), (1, 1, 2)] 2 (by decide) (fun _ _ => rfl) (fun _ _ => rfl) rfl (by kernel_rfl) fun s138 f139 H140 e141 hf142 hm143 => ?_
      obtain ⟨a144, n145, c146, rfl⟩ := hm143.form
      refine s_qk (.agg #[.int .i64 2, .slice a144 n145 c146]) (by kernel_rfl) ?_
      have u148 := (((((u57.fr e55 (hb50.djn m37.lt)).fr e71 Dj.nil_l).ext e94).fr e107 Dj.nil_l).ext e141)
      obtain ⟨y149, hy150, r151⟩ := bind_some r136
      refine s_ck 15 #[.agg #[.int .i64 y28.1, .slice a44 n45 c46], .agg #[.int .i64 2, .slice a144 n145 c146]] (by kernel_rfl) (c_viaductref03_Same e141.wf u148.sq hm143.sq hy150) ?_
      rintro _ H152 ⟨rfl, e153⟩
      by_cases h154 : y149 = true
      ·have r155 := ite_t h154 r151
       rw [h154]
       refine s_qk (.bool false) (by kernel_rfl) ?_
       refine s_qk (.bool false) (by kernel_rfl) ?_
       refine s_qk (.bool false) (by kernel_rfl) ?_
       refine s_qk (.slice a84 n85 c86) (by kernel_rfl) ?_
       refine s_owk (enc := (encI .i64)) (sz := 1) e153.wf [1, 1] 2 (by decide) (fun _ _ => rfl) (fun _ _ => rfl) rfl (by kernel_rfl) fun s157 f158 H159 e160 hf161 hm162 => ?_
       obtain ⟨a163, n164, c165, rfl⟩ := hm162.form
       have u167 := (((((m72.ext e94).fr e107 Dj.nil_l).ext e141).fr e153 Dj.nil_l).ext e160)
       obtain ⟨y168, hy169, r170⟩ := bind_some r155
       refine s_ck 23 #[.slice a84 n85 c86, .slice a163 n164 c165] (by kernel_rfl) (c_viaductref02_SameInts e160.wf u167.sq hm162.sq hy169) ?_
       rintro _ _ ⟨rfl, rfl⟩
       by_cases h173 : y168 = true
       ·have r174 := ite_t h173 r170
        rw [h173]
        refine s_qk (.bool false) (by kernel_rfl) ?_
        refine s_qk (.bool false) (by kernel_rfl) ?_
        refine s_qk (.bool false) (by kernel_rfl) ?_
        refine s_qk (.slice a87 n88 c89) (by kernel_rfl) ?_
        refine s_owk (enc := (encI .i64)) (sz := 1) e160.wf [0, 2] 2 (by decide) (fun _ _ => rfl) (fun _ _ => rfl) rfl (by kernel_rfl) fun s176 f177 H178 e179 hf180 hm181 => ?_
        obtain ⟨a182, n183, c184, rfl⟩ := hm181.form
        have u186 := ((((((m73.ext e94).fr e107 Dj.nil_l).ext e141).fr e153 Dj.nil_l).ext e160).ext e179)
        obtain ⟨y187, hy188, r189⟩ := bind_some r174
        refine s_ck 23 #[.slice a87 n88 c89, .slice a182 n183 c184] (by kernel_rfl) (c_viaductref02_SameInts e179.wf u186.sq hm181.sq hy188) ?_
        rintro _ _ ⟨rfl, rfl⟩
        refine s_qk (.bool (!y187)) (by kernel_rfl) ?_
        refine s_qk (.bool (!y187)) (by kernel_rfl) ?_
        refine s_nil ?_
        obtain rfl := Option.some.inj r189
        exact k118 _ _ ⟨⟨by kernel_rfl, by kernel_rfl, trivial⟩, (((FrS.step e107.wf ((FrS.refl (W := []) e107.wf).extR e141) e153 Inn.nil).extR e160).extR e179)⟩
       ·have r192 := ite_f h173 r170
        rw [nb h173]
        refine s_qk (.bool true) (by kernel_rfl) ?_
        refine s_qk (.bool true) (by kernel_rfl) ?_
        refine s_qk (.bool true) (by kernel_rfl) ?_
        refine s_no (by kernel_rfl) ?_
        refine s_no (by kernel_rfl) ?_
        refine s_no (by kernel_rfl) ?_
        refine s_no (by kernel_rfl) ?_
        refine s_qk (.bool true) (by kernel_rfl) ?_
        refine s_nil ?_
        obtain rfl := Option.some.inj r192
        exact k118 _ _ ⟨⟨by kernel_rfl, by kernel_rfl, trivial⟩, ((FrS.step e107.wf ((FrS.refl (W := []) e107.wf).extR e141) e153 Inn.nil).extR e160)⟩
      ·have r194 := ite_f h154 r151
       rw [nb h154]
       refine s_qk (.bool true) (by kernel_rfl) ?_
       refine s_qk (.bool true) (by kernel_rfl) ?_
       refine s_qk (.bool true) (by kernel_rfl) ?_
       refine s_no (by kernel_rfl) ?_
       refine s_no (by kernel_rfl) ?_
       refine s_no (by kernel_rfl) ?_
       refine s_no (by kernel_rfl) ?_
       refine s_qk (.bool true) (by kernel_rfl) ?_
       refine s_qk (.bool true) (by kernel_rfl) ?_
       refine s_no (by kernel_rfl) ?_
       refine s_no (by kernel_rfl) ?_
       refine s_no (by kernel_rfl) ?_
       refine s_no (by kernel_rfl) ?_
       refine s_qk (.bool true) (by kernel_rfl) ?_
       refine s_nil ?_
       obtain rfl := Option.some.inj r194
       exact k118 _ _ ⟨⟨by kernel_rfl, by kernel_rfl, trivial⟩, (FrS.step e107.wf ((FrS.refl (W := []) e107.wf).extR e141) e153 Inn.nil)⟩
    ·have r196 := ite_f h130 r129
     refine s_ql (.bool true) (x := aBin Tryd.prog .neq 28 (.tmp 51) (.const .nilIface) (.iface t131 x132) .nilIface) (by kernel_rfl) (aBin_nnil (by kernel_rfl)) ?_
     refine s_qk (.bool true) (by kernel_rfl) ?_
     refine s_qk (.bool true) (by kernel_rfl) ?_
     refine s_no (by kernel_rfl) ?_
     refine s_qk (.bool true) (by kernel_rfl) ?_
     refine s_qk (.bool true) (by kernel_rfl) ?_
     refine s_no (by kernel_rfl) ?_
     refine s_no (by kernel_rfl) ?_
     refine s_no (by kernel_rfl) ?_
     refine s_no (by kernel_rfl) ?_
     refine s_no (by kernel_rfl) ?_
     refine s_no (by kernel_rfl) ?_
     refine s_no (by kernel_rfl) ?_
     refine s_qk (.bool true) (by kernel_rfl) ?_
     refine s_qk (.bool true) (by kernel_rfl) ?_
     refine s_no (by kernel_rfl) ?_
     refine s_no (by kernel_rfl) ?_
     refine s_no (by kernel_rfl) ?_
     refine s_no (by kernel_rfl) ?_
     refine s_qk (.bool true) (by kernel_rfl) ?_
     refine s_qk (.bool true) (by kernel_rfl) ?_
     refine s_no (by kernel_rfl) ?_
     refine s_no (by kernel_rfl) ?_
     refine s_no (by kernel_rfl) ?_
     refine s_no (by kernel_rfl) ?_
     refine s_qk (.bool true) (by kernel_rfl) ?_
     refine s_nil ?_
     obtain rfl := Option.some.inj r196
     exact k118 _ _ ⟨⟨by kernel_rfl, by kernel_rfl, trivial⟩, (FrS.refl (W := []) e107.wf)⟩
   ·have r197 := ite_f h125 r124
    refine s_ql (.bool true) (x := aBin Tryd.prog .neq 28 (.tmp 47) (.const .nilIface) (.iface t126 x127) .nilIface) (by kernel_rfl) (aBin_nnil (by kernel_rfl)) ?_
    refine s_qk (.bool true) (by kernel_rfl) ?_
    refine s_qk (.bool true) (by kernel_rfl) ?_
    refine s_no (by kernel_rfl) ?_
    refine s_no (by kernel_rfl) ?_
    refine s_qk (.bool true) (by kernel_rfl) ?_
    refine s_qk (.bool true) (by kernel_rfl) ?_
    refine s_no (by kernel_rfl) ?_
    refine s_qk (.bool true) (by kernel_rfl) ?_
    refine s_qk (.bool true) (by kernel_rfl) ?_
    refine s_no (by kernel_rfl) ?_
    refine s_no (by kernel_rfl) ?_
    refine s_no (by kernel_rfl) ?_
    refine s_no (by kernel_rfl) ?_
    refine s_no (by kernel_rfl) ?_
    refine s_no (by kernel_rfl) ?_
    refine s_no (by kernel_rfl) ?_
    refine s_qk (.bool true) (by kernel_rfl) ?_
    refine s_qk (.bool true) (by kernel_rfl) ?_
    refine s_no (by kernel_rfl) ?_
    refine s_no (by kernel_rfl) ?_
    refine s_no (by kernel_rfl) ?_
    refine s_no (by kernel_rfl) ?_
    refine s_qk (.bool true) (by kernel_rfl) ?_
    refine s_qk (.bool true) (by kernel_rfl) ?_
    refine s_no (by kernel_rfl) ?_
    refine s_no (by kernel_rfl) ?_
    refine s_no (by kernel_rfl) ?_
    refine s_no (by kernel_rfl) ?_
    refine s_qk (.bool true) (by kernel_rfl) ?_
    refine s_nil ?_
    obtain rfl := Option.some.inj r197
    exact k118 _ _ ⟨⟨by kernel_rfl, by kernel_rfl, trivial⟩, (FrS.refl (W := []) e107.wf)⟩
  ·have r198 := ite_f h120 hx114
   refine s_ql (.bool true) (x := aBin Tryd.prog .neq 28 (.tmp 44) (.const .nilIface) (.iface t121 x122) .nilIface) (by kernel_rfl) (aBin_nnil (by kernel_rfl)) ?_
   refine s_qk (.bool true) (by kernel_rfl) ?_
   refine s_no (by kernel_rfl) ?_
   refine s_no (by kernel_rfl) ?_
   refine s_qk (.bool true) (by kernel_rfl) ?_
   refine s_qk (.bool true) (by kernel_rfl) ?_
   refine s_no (by kernel_rfl) ?_
   refine s_no (by kernel_rfl) ?_
   refine s_qk (.bool true) (by kernel_rfl) ?_
   refine s_qk (.bool true) (by kernel_rfl) ?_
   refine s_no (by kernel_rfl) ?_
   refine s_qk (.bool true) (by kernel_rfl) ?_
   refine s_qk (.bool true) (by kernel_rfl) ?_
   refine s_no (by kernel_rfl) ?_
   refine s_no (by kernel_rfl) ?_
   refine s_no (by kernel_rfl) ?_
   refine s_no (by kernel_rfl) ?_
   refine s_no (by kernel_rfl) ?_
   refine s_no (by kernel_rfl) ?_
   refine s_no (by kernel_rfl) ?_
   refine s_qk (.bool true) (by kernel_rfl) ?_
   refine s_qk (.bool true) (by kernel_rfl) ?_
   refine s_no (by kernel_rfl) ?_
   refine s_no (by kernel_rfl) ?_
   refine s_no (by kernel_rfl) ?_
   refine s_no (by kernel_rfl) ?_
   refine s_qk (.bool true) (by kernel_rfl) ?_
   refine s_qk (.bool true) (by kernel_rfl) ?_
   refine s_no (by kernel_rfl) ?_
   refine s_no (by kernel_rfl) ?_
   refine s_no (by kernel_rfl) ?_
   refine s_no (by kernel_rfl) ?_
   refine s_qk (.bool true) (by kernel_rfl) ?_
   refine s_nil ?_
   obtain rfl := Option.some.inj r198
   exact k118 _ _ ⟨⟨by kernel_rfl, by kernel_rfl, trivial⟩, (FrS.refl (W := []) e107.wf)⟩
 ·obtain ⟨hh119, e117⟩ := hM
  obtain ⟨β, rfl⟩ := has_ex hh119
  clear hh119
  refine k112 _ _ ?_
  refine w_cond (o113) (by kernel_rfl) rfl (fun h199 => ?_) (fun h199 => ?_)
  ·have r200 := ite_t h199 r115
   refine w_seqk fun K201 k201 => ?_
   refine w_reg (by kernel_rfl) ?_
   refine s_qk (.bool false) (by kernel_rfl) ?_
   refine s_nil ?_
   refine k201 _ _ ?_
   refine w_ret (th_ret ?_)
   refine b_ret (fn := Tryd.f6) (vs := [.bool false]) (aRes_tmp (by kernel_rfl) (rfl)) ?_
   obtain rfl := Option.some.inj r200
   exact ⟨rfl, (FrS.step wf (FrS.step wf ((FrS.step wf (FrS.step wf ((FrS.step wf (FrS.step wf (((FrS.refl (W := []) wf).extR e8).extR e17) e23 (hb18.fresh e8.next)) e36 Inn.nil).extR e49) e55 (hb50.fresh (ntr (ntr (ntr e8.next e17.next) e23.next) e36.next))) e71 Inn.nil).extR e94) e107 Inn.nil) e117 Inn.nil)⟩
  ·have r202 := ite_bf h199 r115
   refine w_skip ?_
   refine k111 _ _ ?_
   refine w_seqk fun K203 k203 => ?_
   refine w_reg (by kernel_rfl) ?_
   refine s_qk (.agg #[.int .i64 0, .int .i64 1, .int .i64 0]) (by kernel_rfl) ?_
   refine s_owk (enc := enc_i64_i64_i64) (sz := 3) e117.wf [(0, 1, 0)] 1 (by decide) (fun _ _ => rfl) (fun _ _ => rfl) rfl (by kernel_rfl) fun s204 f205 H206 e207 hf208 hm209 => ?_
   obtain ⟨a210, n211, c212, rfl⟩ := hm209.form
   refine s_qk (.agg #[.int .i64 1, .slice a210 n211 c212]) (by kernel_rfl) ?_
   refine s_rwk e207.wf [.int .i64 0, .slice none 0 0] (by kernel_rfl) fun b214 H215 e216 hb217 r218 => ?_
   have u224 := (hm209.ext e216)
   obtain ⟨H220, q221, e222, r223⟩ := Row.store (P := Tryd.prog) (t := 24) (p := 0) e216.wf r218 (.agg #[.int .i64 1, .slice a210 n211 c212]) [.int .i64 1, .slice a210 n211 c212] (by kernel_rfl) (by kernel_rfl) (one_cons (rfl) (one_cons (u224.one1) (one_nil))) (Nat.le_of_ble_eq_true (by kernel_rfl)) [.int .i64 1, .slice a210 n211 c212] (by kernel_rfl)
   refine s_ek (undef) (by kernel_rfl) (map_ok q221) ?_
   refine s_nil ?_
   refine k203 _ _ ?_
   refine w_seqk fun K225 k225 => ?_
   refine w_reg (by kernel_rfl) ?_
   refine s_mks (t := 22) (m := 24) (l := 262144) (c := 262144) (enc := enc_i64_i64_i64) (sz := 3) e222.wf ((0, 0, 0) : Int × Int × Int) (by kernel_rfl) (by decide) (by decide) (by decide) (by decide) (by decide) (by kernel_rfl) fun s226 f227 H228 e229 hf230 hm231 => ?_
   obtain ⟨a232, n233, c234, rfl⟩ := hm231.form
   have hm231 : Ow enc_i64_i64_i64 3 H228 (.slice a232 n233 c234) (List.replicate (262144 : Int).toNat ((0, 0, 0) : Int × Int × Int)) f227 := hm231
   refine s_qk (.agg #[.int .i64 2, .slice a232 n233 c234]) (by kernel_rfl) ?_
   refine s_rwk e229.wf [.int .i64 0, .slice none 0 0] (by kernel_rfl) fun b236 H237 e238 hb239 r240 => ?_
   have u246 := (hm231.ext e238)
   obtain ⟨H242, q243, e244, r245⟩ := Row.store (P := Tryd.prog) (t := 24) (p := 0) e238.wf r240 (.agg #[.int .i64 2, .slice a232 n233 c234]) [.int .i64 2, .slice a232 n233 c234] (by kernel_rfl) (by kernel_rfl) (one_cons (rfl) (one_cons (u246.one1) (one_nil))) (Nat.le_of_ble_eq_true (by kernel_rfl)) [.int .i64 2, .slice a232 n233 c234] (by kernel_rfl)
   refine s_ek (undef) (by kernel_rfl) (map_ok q243) ?_
   refine s_nil ?_
   refine k225 _ _ ?_
   refine w_seqk fun K247 k247 => ?_
   refine w_reg (by kernel_rfl) ?_
   have u248 := ((((((((((u59.frS e71 Dj.nil_l).ext e94).frS e107 Dj.nil_l).frS e117 Dj.nil_l).ext e207).ext e216).frS e222 (hb217.djn (r19.ltF.le (ntr (ntr (ntr (ntr (ntr (ntr (ntr (ntr e23.next e36.next) e49.next) e55.next) e71.next) e94.next) e107.next) e117.next) e207.next)))).ext e229).ext e238).frS e244 (hb239.djn (r19.ltF.le (ntr (ntr (ntr (ntr (ntr (ntr (ntr (ntr (ntr (ntr (ntr e23.next e36.next) e49.next) e55.next) e71.next) e94.next) e107.next) e117.next) e207.next) e216.next) e222.next) e229.next))))
   refine s_ql (.agg #[.int .i64 2, .slice a11 n12 c13]) (x := aLoad Tryd.prog 24 (.pointer (some ⟨b15, 0, none⟩)) H242) (by kernel_rfl) (u248.ld (by kernel_rfl)) ?_
   refine s_qk (.agg #[.int .i64 3, .slice none 0 0]) (by kernel_rfl) ?_
   have u249 := ((((((((((u60.fr e71 Dj.nil_l).ext e94).fr e107 Dj.nil_l).fr e117 Dj.nil_l).ext e207).ext e216).fr e222 (hb217.djn (hm10.lt.le (ntr (ntr (ntr (ntr (ntr (ntr (ntr (ntr (ntr e17.next e23.next) e36.next) e49.next) e55.next) e71.next) e94.next) e107.next) e117.next) e207.next)))).ext e229).ext e238).fr e244 (hb239.djn (hm10.lt.le (ntr (ntr (ntr (ntr (ntr (ntr (ntr (ntr (ntr (ntr (ntr (ntr e17.next e23.next) e36.next) e49.next) e55.next) e71.next) e94.next) e107.next) e117.next) e207.next) e216.next) e222.next) e229.next))))
   obtain ⟨y250, hy251, r252⟩ := bind_some r202
   refine s_ck 24 #[.agg #[.int .i64 2, .slice a11 n12 c13], .agg #[.int .i64 3, .slice none 0 0]] (by kernel_rfl) (c_normal_Merge e244.wf u249.sq (Sq.nil (enc := enc_i64_i64_i64) (sz := 3) (by decide)) hy251) ?_
   rintro _ H257 ⟨s253, f254, v255, f256, rfl, e258, m259, m260, i261, i262, d263⟩
   obtain ⟨a266, n267, c268, rfl⟩ := m259.form
   refine s_qk (.tuple #[.agg #[.int .i64 y250.1, .slice a266 n267 c268], v255]) (by kernel_rfl) ?_
   refine s_qk (.agg #[.int .i64 y250.1, .slice a266 n267 c268]) (by kernel_rfl) ?_
   refine s_qk (v255) (by kernel_rfl) ?_
   refine s_qk (v255) (by kernel_rfl) ?_
   refine s_nil ?_
   refine k247 _ _ ?_
   refine w_seqk fun K269 k269 => ?_
   refine w_reg (by kernel_rfl) ?_
   have u270 := (u248.frS e258 Dj.nil_l)
   refine s_ql (.agg #[.int .i64 2, .slice a11 n12 c13]) (x := aLoad Tryd.prog 24 (.pointer (some ⟨b15, 0, none⟩)) H257) (by kernel_rfl) (u270.ld (by kernel_rfl)) ?_
   have u271 := ((((r223.ext e229).ext e238).frS e244 (hb239.djn (r218.ltF.le (ntr e222.next e229.next)))).frS e258 Dj.nil_l)
   refine s_ql (.agg #[.int .i64 1, .slice a210 n211 c212]) (x := aLoad Tryd.prog 24 (.pointer (some ⟨b214, 0, none⟩)) H257) (by kernel_rfl) (u271.ld (by kernel_rfl)) ?_
   have u272 := (u249.fr e258 Dj.nil_l)
   have u273 := (((((u224.fr e222 (hb217.djn hm209.lt)).ext e229).ext e238).fr e244 (hb239.djn (hm209.lt.le (ntr (ntr e216.next e222.next) e229.next)))).fr e258 Dj.nil_l)
   obtain ⟨y274, hy275, r276⟩ := bind_some r252
   refine s_ck 24 #[.agg #[.int .i64 2, .slice a11 n12 c13], .agg #[.int .i64 1, .slice a210 n211 c212]] (by kernel_rfl) (c_normal_Merge e258.wf u272.sq u273.sq hy275) ?_
   rintro _ H281 ⟨s277, f278, v279, f280, rfl, e282, m283, m284, i285, i286, d287⟩
   obtain ⟨a290, n291, c292, rfl⟩ := m283.form
   refine s_qk (.tuple #[.agg #[.int .i64 y274.1, .slice a290 n291 c292], v279]) (by kernel_rfl) ?_
   refine s_qk (.agg #[.int .i64 y274.1, .slice a290 n291 c292]) (by kernel_rfl) ?_
   refine s_qk (v279) (by kernel_rfl) ?_
   refine s_qk (v279) (by kernel_rfl) ?_
   refine s_nil ?_
   refine k269 _ _ ?_
   refine w_seqk fun K293 k293 => ?_
   refine w_reg (by kernel_rfl) ?_
   have u294 := (u271.frS e282 Dj.nil_l)
   refine s_ql (.agg #[.int .i64 1, .slice a210 n211 c212]) (x := aLoad Tryd.prog 24 (.pointer (some ⟨b214, 0, none⟩)) H281) (by kernel_rfl) (u294.ld (by kernel_rfl)) ?_
   refine s_qk (.agg #[.int .i64 (-1), .slice none 0 0]) (by kernel_rfl) ?_
   have u295 := (u273.fr e282 Dj.nil_l)
   obtain ⟨y296, hy297, r298⟩ := bind_some r276
   refine s_ck 24 #[.agg #[.int .i64 1, .slice a210 n211 c212], .agg #[.int .i64 (-1), .slice none 0 0]] (by kernel_rfl) (c_normal_Merge e282.wf u295.sq (Sq.nil (enc := enc_i64_i64_i64) (sz := 3) (by decide)) hy297) ?_
   rintro _ H303 ⟨s299, f300, v301, f302, rfl, e304, m305, m306, i307, i308, d309⟩
   obtain ⟨a312, n313, c314, rfl⟩ := m305.form
   refine s_qk (.tuple #[.agg #[.int .i64 y296.1, .slice a312 n313 c314], v301]) (by kernel_rfl) ?_
   refine s_qk (.agg #[.int .i64 y296.1, .slice a312 n313 c314]) (by kernel_rfl) ?_
   refine s_qk (v301) (by kernel_rfl) ?_
   refine s_qk (v301) (by kernel_rfl) ?_
   refine s_nil ?_
   refine k293 _ _ ?_
   refine w_seqk fun K315 k315 => ?_
   refine w_reg (by kernel_rfl) ?_
   have u316 := (((r245.frS e258 Dj.nil_l).frS e282 Dj.nil_l).frS e304 Dj.nil_l)
   refine s_ql (.agg #[.int .i64 2, .slice a232 n233 c234]) (x := aLoad Tryd.prog 24 (.pointer (some ⟨b236, 0, none⟩)) H303) (by kernel_rfl) (u316.ld (by kernel_rfl)) ?_
   have u317 := ((u270.frS e282 Dj.nil_l).frS e304 Dj.nil_l)
   refine s_ql (.agg #[.int .i64 2, .slice a11 n12 c13]) (x := aLoad Tryd.prog 24 (.pointer (some ⟨b15, 0, none⟩)) H303) (by kernel_rfl) (u317.ld (by kernel_rfl)) ?_
   have u318 := ((((u246.fr e244 (hb239.djn hm231.lt)).fr e258 Dj.nil_l).fr e282 Dj.nil_l).fr e304 Dj.nil_l)
   have u319 := ((u272.fr e282 Dj.nil_l).fr e304 Dj.nil_l)
   obtain ⟨y320, hy321, r322⟩ := bind_some r298
   refine s_ck 24 #[.agg #[.int .i64 2, .slice a232 n233 c234], .agg #[.int .i64 2, .slice a11 n12 c13]] (by kernel_rfl) (c_normal_Merge e304.wf u318.sq u319.sq hy321) ?_
   rintro _ H327 ⟨s323, f324, v325, f326, rfl, e328, m329, m330, i331, i332, d333⟩
   obtain ⟨a336, n337, c338, rfl⟩ := m329.form
   refine s_qk (.tuple #[.agg #[.int .i64 y320.1, .slice a336 n337 c338], v325]) (by kernel_rfl) ?_
   refine s_qk (.agg #[.int .i64 y320.1, .slice a336 n337 c338]) (by kernel_rfl) ?_
   refine s_qk (v325) (by kernel_rfl) ?_
   refine s_rwk e328.wf [.int .i64 0, .slice none 0 0] (by kernel_rfl) fun b339 H340 e341 hb342 r343 => ?_
   have u349 := (m329.ext e341)
   obtain ⟨H345, q346, e347, r348⟩ := Row.store (P := Tryd.prog) (t := 24) (p := 0) e341.wf r343 (.agg #[.int .i64 y320.1, .slice a336 n337 c338]) [.int .i64 y320.1, .slice a336 n337 c338] (by kernel_rfl) (by kernel_rfl) (one_cons (rfl) (one_cons (u349.one1) (one_nil))) (Nat.le_of_ble_eq_true (by kernel_rfl)) [.int .i64 y320.1, .slice a336 n337 c338] (by kernel_rfl)
   refine s_ek (undef) (by kernel_rfl) (map_ok q346) ?_
   refine s_qk (v325) (by kernel_rfl) ?_
   refine s_nil ?_
   refine k315 _ _ ?_
   refine w_seqk fun K350 k350 => ?_
   refine w_reg (by kernel_rfl) ?_
   have u351 := (((u316.frS e328 Dj.nil_l).ext e341).frS e347 (hb342.djn (r240.ltF.le (ntr (ntr (ntr (ntr e244.next e258.next) e282.next) e304.next) e328.next))))
   refine s_ql (.agg #[.int .i64 2, .slice a232 n233 c234]) (x := aLoad Tryd.prog 24 (.pointer (some ⟨b236, 0, none⟩)) H345) (by kernel_rfl) (u351.ld (by kernel_rfl)) ?_
   refine s_qk (.agg #[.int .i64 2, .slice none 0 0]) (by kernel_rfl) ?_
   have u352 := (((u318.fr e328 Dj.nil_l).ext e341).fr e347 (hb342.djn (hm231.lt.le (ntr (ntr (ntr (ntr (ntr e238.next e244.next) e258.next) e282.next) e304.next) e328.next))))
   obtain ⟨y353, hy354, r355⟩ := bind_some r322
   refine s_ck 24 #[.agg #[.int .i64 2, .slice a232 n233 c234], .agg #[.int .i64 2, .slice none 0 0]] (by kernel_rfl) (c_normal_Merge e347.wf u352.sq (Sq.nil (enc := enc_i64_i64_i64) (sz := 3) (by decide)) hy354) ?_
   rintro _ H360 ⟨s356, f357, v358, f359, rfl, e361, m362, m363, i364, i365, d366⟩
   obtain ⟨a369, n370, c371, rfl⟩ := m362.form
   refine s_qk (.tuple #[.agg #[.int .i64 y353.1, .slice a369 n370 c371], v358]) (by kernel_rfl) ?_
   refine s_qk (.agg #[.int .i64 y353.1, .slice a369 n370 c371]) (by kernel_rfl) ?_
   refine s_qk (v358) (by kernel_rfl) ?_
   refine s_rwk e361.wf [.int .i64 0, .slice none 0 0] (by kernel_rfl) fun b372 H373 e374 hb375 r376 => ?_
   have u382 := (m362.ext e374)
   obtain ⟨H378, q379, e380, r381⟩ := Row.store (P := Tryd.prog) (t := 24) (p := 0) e374.wf r376 (.agg #[.int .i64 y353.1, .slice a369 n370 c371]) [.int .i64 y353.1, .slice a369 n370 c371] (by kernel_rfl) (by kernel_rfl) (one_cons (rfl) (one_cons (u382.one1) (one_nil))) (Nat.le_of_ble_eq_true (by kernel_rfl)) [.int .i64 y353.1, .slice a369 n370 c371] (by kernel_rfl)
   refine s_ek (undef) (by kernel_rfl) (map_ok q379) ?_
   refine s_qk (v358) (by kernel_rfl) ?_
   refine s_nil ?_
   refine k350 _ _ ?_
   refine w_seqk fun K383 k383 => ?_
   refine w_reg (by kernel_rfl) ?_
   have u384 := (((u351.frS e361 Dj.nil_l).ext e374).frS e380 (hb375.djn (r240.ltF.le (ntr (ntr (ntr (ntr (ntr (ntr (ntr e244.next e258.next) e282.next) e304.next) e328.next) e341.next) e347.next) e361.next))))
   refine s_ql (.agg #[.int .i64 2, .slice a232 n233 c234]) (x := aLoad Tryd.prog 24 (.pointer (some ⟨b236, 0, none⟩)) H378) (by kernel_rfl) (u384.ld (by kernel_rfl)) ?_
   have u385 := (((u352.fr e361 Dj.nil_l).ext e374).fr e380 (hb375.djn (hm231.lt.le (ntr (ntr (ntr (ntr (ntr (ntr (ntr (ntr e238.next e244.next) e258.next) e282.next) e304.next) e328.next) e341.next) e347.next) e361.next))))
   obtain ⟨y386, hy387, r388⟩ := bind_some r355
   refine s_ck 13 #[.agg #[.int .i64 2, .slice a232 n233 c234]] (by kernel_rfl) (c_normal_Of e380.wf u385.sq hy387) ?_
   rintro _ H393 ⟨s389, f390, v391, f392, rfl, e394, m395, m396, i397, i398, d399⟩
   obtain ⟨a402, n403, c404, rfl⟩ := m395.form
   refine s_qk (.tuple #[.agg #[.int .i64 y386.1, .slice a402 n403 c404], v391]) (by kernel_rfl) ?_
   refine s_qk (.agg #[.int .i64 y386.1, .slice a402 n403 c404]) (by kernel_rfl) ?_
   refine s_qk (v391) (by kernel_rfl) ?_
   refine s_rwk e394.wf [.int .i64 0, .slice none 0 0] (by kernel_rfl) fun b405 H406 e407 hb408 r409 => ?_
   have u415 := (m395.ext e407)
   obtain ⟨H411, q412, e413, r414⟩ := Row.store (P := Tryd.prog) (t := 24) (p := 0) e407.wf r409 (.agg #[.int .i64 y386.1, .slice a402 n403 c404]) [.int .i64 y386.1, .slice a402 n403 c404] (by kernel_rfl) (by kernel_rfl) (one_cons (rfl) (one_cons (u415.one1) (one_nil))) (Nat.le_of_ble_eq_true (by kernel_rfl)) [.int .i64 y386.1, .slice a402 n403 c404] (by kernel_rfl)
   refine s_ek (undef) (by kernel_rfl) (map_ok q412) ?_
   refine s_qk (v391) (by kernel_rfl) ?_
   refine s_nil ?_
   refine k383 _ _ ?_
   refine w_seqk fun K416 k416 => ?_
   refine w_reg (by kernel_rfl) ?_
   have u417 := ((((((((((u294.frS e304 Dj.nil_l).frS e328 Dj.nil_l).ext e341).frS e347 (hb342.djn (r218.ltF.le (ntr (ntr (ntr (ntr (ntr (ntr (ntr e222.next e229.next) e238.next) e244.next) e258.next) e282.next) e304.next) e328.next)))).frS e361 Dj.nil_l).ext e374).frS e380 (hb375.djn (r218.ltF.le (ntr (ntr (ntr (ntr (ntr (ntr (ntr (ntr (ntr (ntr e222.next e229.next) e238.next) e244.next) e258.next) e282.next) e304.next) e328.next) e341.next) e347.next) e361.next)))).frS e394 Dj.nil_l).ext e407).frS e413 (hb408.djn (r218.ltF.le (ntr (ntr (ntr (ntr (ntr (ntr (ntr (ntr (ntr (ntr (ntr (ntr (ntr e222.next e229.next) e238.next) e244.next) e258.next) e282.next) e304.next) e328.next) e341.next) e347.next) e361.next) e374.next) e380.next) e394.next))))
   refine s_ql (.agg #[.int .i64 1, .slice a210 n211 c212]) (x := aLoad Tryd.prog 24 (.pointer (some ⟨b214, 0, none⟩)) H411) (by kernel_rfl) (u417.ld (by kernel_rfl)) ?_
   have u418 := ((((((((((u295.fr e304 Dj.nil_l).fr e328 Dj.nil_l).ext e341).fr e347 (hb342.djn (hm209.lt.le (ntr (ntr (ntr (ntr (ntr (ntr (ntr (ntr e216.next e222.next) e229.next) e238.next) e244.next) e258.next) e282.next) e304.next) e328.next)))).fr e361 Dj.nil_l).ext e374).fr e380 (hb375.djn (hm209.lt.le (ntr (ntr (ntr (ntr (ntr (ntr (ntr (ntr (ntr (ntr (ntr e216.next e222.next) e229.next) e238.next) e244.next) e258.next) e282.next) e304.next) e328.next) e341.next) e347.next) e361.next)))).fr e394 Dj.nil_l).ext e407).fr e413 (hb408.djn (hm209.lt.le (ntr (ntr (ntr (ntr (ntr (ntr (ntr (ntr (ntr (ntr (ntr (ntr (ntr (ntr e216.next e222.next) e229.next) e238.next) e244.next) e258.next) e282.next) e304.next) e328.next) e341.next) e347.next) e361.next) e374.next) e380.next) e394.next))))
   obtain ⟨y419, hy420, r421⟩ := bind_some r388
   refine s_ck 13 #[.agg #[.int .i64 1, .slice a210 n211 c212]] (by kernel_rfl) (c_normal_Of e413.wf u418.sq hy420) ?_
   rintro _ H426 ⟨s422, f423, v424, f425, rfl, e427, m428, m429, i430, i431, d432⟩
   obtain ⟨a435, n436, c437, rfl⟩ := m428.form
   refine s_qk (.tuple #[.agg #[.int .i64 y419.1, .slice a435 n436 c437], v424]) (by kernel_rfl) ?_
   refine s_qk (.agg #[.int .i64 y419.1, .slice a435 n436 c437]) (by kernel_rfl) ?_
   refine s_qk (v424) (by kernel_rfl) ?_
   refine s_rwk e427.wf [.int .i64 0, .slice none 0 0] (by kernel_rfl) fun b438 H439 e440 hb441 r442 => ?_
   have u448 := (m428.ext e440)
   obtain ⟨H444, q445, e446, r447⟩ := Row.store (P := Tryd.prog) (t := 24) (p := 0) e440.wf r442 (.agg #[.int .i64 y419.1, .slice a435 n436 c437]) [.int .i64 y419.1, .slice a435 n436 c437] (by kernel_rfl) (by kernel_rfl) (one_cons (rfl) (one_cons (u448.one1) (one_nil))) (Nat.le_of_ble_eq_true (by kernel_rfl)) [.int .i64 y419.1, .slice a435 n436 c437] (by kernel_rfl)
   refine s_ek (undef) (by kernel_rfl) (map_ok q445) ?_
   refine s_qk (v424) (by kernel_rfl) ?_
   refine s_nil ?_
   refine k416 _ _ ?_
   refine w_seqk fun K449 k449 => ?_
   refine w_seqk fun K450 k450 => ?_
   obtain ⟨o451, hx452, r453⟩ := bind_some r421
   refine w_mid (fun α H454 => Has α [(18, v424), (171, .bool o451)] ∧ FrS [] H444 H454) (fun K456 k456 => ?_) (fun α H454 hM => ?_)
   ·refine w_reg (by kernel_rfl) ?_
    refine s_qk (v255) (by kernel_rfl) ?_
    obtain ⟨y458, hy459, r460⟩ := bind_some hx452
    refine s_ck 26 #[.int .i64 1] (by kernel_rfl) (c_viaductref01_E e446.wf hy459) ?_
    rintro _ H461 ⟨rfl, e462⟩
    have u463 := (((((((((((((((m260.fr e282 Dj.nil_l).fr e304 Dj.nil_l).fr e328 Dj.nil_l).ext e341).fr e347 (hb342.djn (m260.lt.le (ntr (ntr e282.next e304.next) e328.next)))).fr e361 Dj.nil_l).ext e374).fr e380 (hb375.djn (m260.lt.le (ntr (ntr (ntr (ntr (ntr e282.next e304.next) e328.next) e341.next) e347.next) e361.next)))).fr e394 Dj.nil_l).ext e407).fr e413 (hb408.djn (m260.lt.le (ntr (ntr (ntr (ntr (ntr (ntr (ntr (ntr e282.next e304.next) e328.next) e341.next) e347.next) e361.next) e374.next) e380.next) e394.next)))).fr e427 Dj.nil_l).ext e440).fr e446 (hb441.djn (m260.lt.le (ntr (ntr (ntr (ntr (ntr (ntr (ntr (ntr (ntr (ntr (ntr e282.next e304.next) e328.next) e341.next) e347.next) e361.next) e374.next) e380.next) e394.next) e407.next) e413.next) e427.next)))).fr e462 Dj.nil_l)
    obtain ⟨y464, hy465, r466⟩ := bind_some r460
    refine s_ck 16 #[v255, .agg #[.int .i64 y458, .slice none 0 0]] (by kernel_rfl) (c_viaductseen_Same e462.wf u463 (Sq.nil (enc := enc_i64_i64) (sz := 2) (by decide)) hy465) ?_
    rintro _ H467 ⟨rfl, e468⟩
    by_cases h469 : y464 = true
    ·have r470 := ite_t h469 r466
     rw [h469]
     refine s_qk (.bool false) (by kernel_rfl) ?_
     refine s_qk (.bool false) (by kernel_rfl) ?_
     refine s_qk (v279) (by kernel_rfl) ?_
     obtain ⟨y472, hy473, r474⟩ := bind_some r470
     refine s_ck 26 #[.int .i64 7] (by kernel_rfl) (c_viaductref01_E e468.wf hy473) ?_
     rintro _ H475 ⟨rfl, e476⟩
     obtain ⟨y477, hy478, r479⟩ := bind_some r474
     refine s_ck 27 #[.int .i64 4, .int .i64 0, .agg #[.int .i64 y472, .slice none 0 0]] (by kernel_rfl) (c_viaductref01_At e476.wf (Sq.nil (enc := enc_i64_i64) (sz := 2) (by decide)) hy478) ?_
     rintro _ H482 ⟨s480, f481, rfl, e483, m484, i485⟩
     obtain ⟨a487, n488, c489, rfl⟩ := m484.form
     have u490 := (((((((((((((((((m284.fr e304 Dj.nil_l).fr e328 Dj.nil_l).ext e341).fr e347 (hb342.djn (m284.lt.le (ntr e304.next e328.next)))).fr e361 Dj.nil_l).ext e374).fr e380 (hb375.djn (m284.lt.le (ntr (ntr (ntr (ntr e304.next e328.next) e341.next) e347.next) e361.next)))).fr e394 Dj.nil_l).ext e407).fr e413 (hb408.djn (m284.lt.le (ntr (ntr (ntr (ntr (ntr (ntr (ntr e304.next e328.next) e341.next) e347.next) e361.next) e374.next) e380.next) e394.next)))).fr e427 Dj.nil_l).ext e440).fr e446 (hb441.djn (m284.lt.le (ntr (ntr (ntr (ntr (ntr (ntr (ntr (ntr (ntr (ntr e304.next e328.next) e341.next) e347.next) e361.next) e374.next) e380.next) e394.next) e407.next) e413.next) e427.next)))).fr e462 Dj.nil_l).fr e468 Dj.nil_l).fr e476 Dj.nil_l).fr e483 Dj.nil_l)
     obtain ⟨y491, hy492, r493⟩ := bind_some r479
     refine s_ck 16 #[v279, .agg #[.int .i64 y477.1, .slice a487 n488 c489]] (by kernel_rfl) (c_viaductseen_Same e483.wf u490 m484.sq hy492) ?_
     rintro _ H494 ⟨rfl, e495⟩
     by_cases h496 : y491 = true
     ·have r497 := ite_t h496 r493
      rw [h496]
      refine s_qk (.bool false) (by kernel_rfl) ?_
      refine s_qk (.bool false) (by kernel_rfl) ?_
      refine s_qk (.bool false) (by kernel_rfl) ?_
      refine s_qk (v301) (by kernel_rfl) ?_
      obtain ⟨y499, hy500, r501⟩ := bind_some r497
      refine s_ck 26 #[.int .i64 7] (by kernel_rfl) (c_viaductref01_E e495.wf hy500) ?_
      rintro _ H502 ⟨rfl, e503⟩
      obtain ⟨y504, hy505, r506⟩ := bind_some r501
      refine s_ck 27 #[.int .i64 4, .int .i64 0, .agg #[.int .i64 y499, .slice none 0 0]] (by kernel_rfl) (c_viaductref01_At e503.wf (Sq.nil (enc := enc_i64_i64) (sz := 2) (by decide)) hy505) ?_
      rintro _ H509 ⟨s507, f508, rfl, e510, m511, i512⟩
      obtain ⟨a514, n515, c516, rfl⟩ := m511.form
      have u517 := (((((((((((((((((((m306.fr e328 Dj.nil_l).ext e341).fr e347 (hb342.djn (m306.lt.le e328.next))).fr e361 Dj.nil_l).ext e374).fr e380 (hb375.djn (m306.lt.le (ntr (ntr (ntr e328.next e341.next) e347.next) e361.next)))).fr e394 Dj.nil_l).ext e407).fr e413 (hb408.djn (m306.lt.le (ntr (ntr (ntr (ntr (ntr (ntr e328.next e341.next) e347.next) e361.next) e374.next) e380.next) e394.next)))).fr e427 Dj.nil_l).ext e440).fr e446 (hb441.djn (m306.lt.le (ntr (ntr (ntr (ntr (ntr (ntr (ntr (ntr (ntr e328.next e341.next) e347.next) e361.next) e374.next) e380.next) e394.next) e407.next) e413.next) e427.next)))).fr e462 Dj.nil_l).fr e468 Dj.nil_l).fr e476 Dj.nil_l).fr e483 Dj.nil_l).fr e495 Dj.nil_l).fr e503 Dj.nil_l).fr e510 Dj.nil_l)
      obtain ⟨y518, hy519, r520⟩ := bind_some r506
      refine s_ck 16 #[v301, .agg #[.int .i64 y504.1, .slice a514 n515 c516]] (by kernel_rfl) (c_viaductseen_Same e510.wf u517 m511.sq hy519) ?_
      rintro _ H521 ⟨rfl, e522⟩
      by_cases h523 : y518 = true
      ·have r524 := ite_t h523 r520
       rw [h523]
       refine s_qk (.bool false) (by kernel_rfl) ?_
       refine s_qk (.bool false) (by kernel_rfl) ?_
       refine s_qk (.bool false) (by kernel_rfl) ?_
       refine s_qk (v325) (by kernel_rfl) ?_
       obtain ⟨y526, hy527, r528⟩ := bind_some r524
       refine s_ck 26 #[.int .i64 9] (by kernel_rfl) (c_viaductref01_E e522.wf hy527) ?_
       rintro _ H529 ⟨rfl, e530⟩
       have u531 := ((((((((((((((((((((m330.ext e341).fr e347 (hb342.djn m330.lt)).fr e361 Dj.nil_l).ext e374).fr e380 (hb375.djn (m330.lt.le (ntr (ntr e341.next e347.next) e361.next)))).fr e394 Dj.nil_l).ext e407).fr e413 (hb408.djn (m330.lt.le (ntr (ntr (ntr (ntr (ntr e341.next e347.next) e361.next) e374.next) e380.next) e394.next)))).fr e427 Dj.nil_l).ext e440).fr e446 (hb441.djn (m330.lt.le (ntr (ntr (ntr (ntr (ntr (ntr (ntr (ntr e341.next e347.next) e361.next) e374.next) e380.next) e394.next) e407.next) e413.next) e427.next)))).fr e462 Dj.nil_l).fr e468 Dj.nil_l).fr e476 Dj.nil_l).fr e483 Dj.nil_l).fr e495 Dj.nil_l).fr e503 Dj.nil_l).fr e510 Dj.nil_l).fr e522 Dj.nil_l).fr e530 Dj.nil_l)
       obtain ⟨y532, hy533, r534⟩ := bind_some r528
       refine s_ck 16 #[v325, .agg #[.int .i64 y526, .slice none 0 0]] (by kernel_rfl) (c_viaductseen_Same e530.wf u531 (Sq.nil (enc := enc_i64_i64) (sz := 2) (by decide)) hy533) ?_
       rintro _ H535 ⟨rfl, e536⟩
       by_cases h537 : y532 = true
       ·have r538 := ite_t h537 r534
        rw [h537]
        refine s_qk (.bool false) (by kernel_rfl) ?_
        refine s_qk (.bool false) (by kernel_rfl) ?_
        refine s_qk (.bool false) (by kernel_rfl) ?_
        refine s_qk (v358) (by kernel_rfl) ?_
        have u543 := ((((((((((((((((((m363.ext e374).fr e380 (hb375.djn m363.lt)).fr e394 Dj.nil_l).ext e407).fr e413 (hb408.djn (m363.lt.le (ntr (ntr e374.next e380.next) e394.next)))).fr e427 Dj.nil_l).ext e440).fr e446 (hb441.djn (m363.lt.le (ntr (ntr (ntr (ntr (ntr e374.next e380.next) e394.next) e407.next) e413.next) e427.next)))).fr e462 Dj.nil_l).fr e468 Dj.nil_l).fr e476 Dj.nil_l).fr e483 Dj.nil_l).fr e495 Dj.nil_l).fr e503 Dj.nil_l).fr e510 Dj.nil_l).fr e522 Dj.nil_l).fr e530 Dj.nil_l).fr e536 Dj.nil_l)
        rcases (u543).cases with ⟨h540, rfl⟩ | ⟨h540, t541, x542, rfl⟩
        ·have r544 := ite_t h540 r538
         refine s_qk (.bool false) (by kernel_rfl) ?_
         refine s_qk (.bool false) (by kernel_rfl) ?_
         refine s_qk (.bool false) (by kernel_rfl) ?_
         refine s_qk (.pointer (some ⟨b372, 1, none⟩)) (by kernel_rfl) ?_
         have u545 := ((((((((((((((((r381.frS e394 Dj.nil_l).ext e407).frS e413 (hb408.djn (r376.ltF.le (ntr e380.next e394.next)))).frS e427 Dj.nil_l).ext e440).frS e446 (hb441.djn (r376.ltF.le (ntr (ntr (ntr (ntr e380.next e394.next) e407.next) e413.next) e427.next)))).frS e462 Dj.nil_l).frS e468 Dj.nil_l).frS e476 Dj.nil_l).frS e483 Dj.nil_l).frS e495 Dj.nil_l).frS e503 Dj.nil_l).frS e510 Dj.nil_l).frS e522 Dj.nil_l).frS e530 Dj.nil_l).frS e536 Dj.nil_l)
         refine s_ql (.slice a369 n370 c371) (x := aLoad Tryd.prog 22 (.pointer (some ⟨b372, 1, none⟩)) H535) (by kernel_rfl) (u545.ld (by kernel_rfl)) ?_
         have u546 := (((((((((((((((((u382.fr e380 (hb375.djn m362.lt)).fr e394 Dj.nil_l).ext e407).fr e413 (hb408.djn (m362.lt.le (ntr (ntr e374.next e380.next) e394.next)))).fr e427 Dj.nil_l).ext e440).fr e446 (hb441.djn (m362.lt.le (ntr (ntr (ntr (ntr (ntr e374.next e380.next) e394.next) e407.next) e413.next) e427.next)))).fr e462 Dj.nil_l).fr e468 Dj.nil_l).fr e476 Dj.nil_l).fr e483 Dj.nil_l).fr e495 Dj.nil_l).fr e503 Dj.nil_l).fr e510 Dj.nil_l).fr e522 Dj.nil_l).fr e530 Dj.nil_l).fr e536 Dj.nil_l)
         refine s_ql (.int .i64 (y353.2.1.length : Int)) (x := aLen Tryd.prog 22 (.slice a369 n370 c371) H535) (by kernel_rfl) (u546.sq.lenb (by kernel_rfl)) ?_
         refine s_bn ((y353.2.1.length : Int) = 262144) (by kernel_rfl) (fun h547 => ?_) (fun h547 => ?_)
         ·have r548 := ite_t h547 r544
          refine s_qk (.bool false) (by kernel_rfl) ?_
          refine s_qk (.bool false) (by kernel_rfl) ?_
          refine s_qk (v391) (by kernel_rfl) ?_
          have u552 := (((((((((((((((m396.ext e407).fr e413 (hb408.djn m396.lt)).fr e427 Dj.nil_l).ext e440).fr e446 (hb441.djn (m396.lt.le (ntr (ntr e407.next e413.next) e427.next)))).fr e462 Dj.nil_l).fr e468 Dj.nil_l).fr e476 Dj.nil_l).fr e483 Dj.nil_l).fr e495 Dj.nil_l).fr e503 Dj.nil_l).fr e510 Dj.nil_l).fr e522 Dj.nil_l).fr e530 Dj.nil_l).fr e536 Dj.nil_l)
          rcases (u552).cases with ⟨h549, rfl⟩ | ⟨h549, t550, x551, rfl⟩
          ·have r553 := ite_t h549 r548
           refine s_qk (.bool false) (by kernel_rfl) ?_
           refine s_qk (.bool false) (by kernel_rfl) ?_
           refine s_qk (.bool false) (by kernel_rfl) ?_
           refine s_qk (.pointer (some ⟨b405, 1, none⟩)) (by kernel_rfl) ?_
           have u554 := (((((((((((((r414.frS e427 Dj.nil_l).ext e440).frS e446 (hb441.djn (r409.ltF.le (ntr e413.next e427.next)))).frS e462 Dj.nil_l).frS e468 Dj.nil_l).frS e476 Dj.nil_l).frS e483 Dj.nil_l).frS e495 Dj.nil_l).frS e503 Dj.nil_l).frS e510 Dj.nil_l).frS e522 Dj.nil_l).frS e530 Dj.nil_l).frS e536 Dj.nil_l)
           refine s_ql (.slice a402 n403 c404) (x := aLoad Tryd.prog 22 (.pointer (some ⟨b405, 1, none⟩)) H535) (by kernel_rfl) (u554.ld (by kernel_rfl)) ?_
           have u555 := ((((((((((((((u415.fr e413 (hb408.djn m395.lt)).fr e427 Dj.nil_l).ext e440).fr e446 (hb441.djn (m395.lt.le (ntr (ntr e407.next e413.next) e427.next)))).fr e462 Dj.nil_l).fr e468 Dj.nil_l).fr e476 Dj.nil_l).fr e483 Dj.nil_l).fr e495 Dj.nil_l).fr e503 Dj.nil_l).fr e510 Dj.nil_l).fr e522 Dj.nil_l).fr e530 Dj.nil_l).fr e536 Dj.nil_l)
           refine s_ql (.int .i64 (y386.2.1.length : Int)) (x := aLen Tryd.prog 22 (.slice a402 n403 c404) H535) (by kernel_rfl) (u555.sq.lenb (by kernel_rfl)) ?_
           refine s_bn ((y386.2.1.length : Int) = 0) (by kernel_rfl) (fun h556 => ?_) (fun h556 => ?_)
           ·have r557 := ite_t h556 r553
            refine s_qk (.bool false) (by kernel_rfl) ?_
            refine s_qk (.bool false) (by kernel_rfl) ?_
            refine s_qk (.pointer (some ⟨b405, 0, none⟩)) (by kernel_rfl) ?_
            refine s_ql (.int .i64 y386.1) (x := aLoad Tryd.prog 3 (.pointer (some ⟨b405, 0, none⟩)) H535) (by kernel_rfl) (u554.ld (by kernel_rfl)) ?_
            refine s_qk (.bool (!decide (y386.1 = 2))) (by kernel_rfl) ?_
            refine s_qk (.bool (!decide (y386.1 = 2))) (by kernel_rfl) ?_
            refine s_nil ?_
            obtain rfl := Option.some.inj r557
            exact k456 _ _ ⟨⟨by kernel_rfl, by kernel_rfl, trivial⟩, (FrS.step e446.wf (FrS.step e446.wf (FrS.step e446.wf (FrS.step e446.wf (FrS.step e446.wf (FrS.step e446.wf (FrS.step e446.wf (FrS.step e446.wf (FrS.step e446.wf (FrS.step e446.wf (FrS.refl (W := []) e446.wf) e462 Inn.nil) e468 Inn.nil) e476 Inn.nil) e483 Inn.nil) e495 Inn.nil) e503 Inn.nil) e510 Inn.nil) e522 Inn.nil) e530 Inn.nil) e536 Inn.nil)⟩
           ·have r558 := ite_f h556 r553
            refine s_qk (.bool true) (by kernel_rfl) ?_
            refine s_qk (.bool true) (by kernel_rfl) ?_
            refine s_no (by kernel_rfl) ?_
            refine s_no (by kernel_rfl) ?_
            refine s_no (by kernel_rfl) ?_
            refine s_qk (.bool true) (by kernel_rfl) ?_
            refine s_nil ?_
            obtain rfl := Option.some.inj r558
            exact k456 _ _ ⟨⟨by kernel_rfl, by kernel_rfl, trivial⟩, (FrS.step e446.wf (FrS.step e446.wf (FrS.step e446.wf (FrS.step e446.wf (FrS.step e446.wf (FrS.step e446.wf (FrS.step e446.wf (FrS.step e446.wf (FrS.step e446.wf (FrS.step e446.wf (FrS.refl (W := []) e446.wf) e462 Inn.nil) e468 Inn.nil) e476 Inn.nil) e483 Inn.nil) e495 Inn.nil) e503 Inn.nil) e510 Inn.nil) e522 Inn.nil) e530 Inn.nil) e536 Inn.nil)⟩
          ·have r559 := ite_f h549 r548
           refine s_ql (.bool true) (x := aBin Tryd.prog .neq 28 (.tmp 158) (.const .nilIface) (.iface t550 x551) .nilIface) (by kernel_rfl) (aBin_nnil (by kernel_rfl)) ?_
           refine s_qk (.bool true) (by kernel_rfl) ?_
           refine s_qk (.bool true) (by kernel_rfl) ?_
           refine s_no (by kernel_rfl) ?_
           refine s_no (by kernel_rfl) ?_
           refine s_no (by kernel_rfl) ?_
           refine s_no (by kernel_rfl) ?_
           refine s_qk (.bool true) (by kernel_rfl) ?_
           refine s_qk (.bool true) (by kernel_rfl) ?_
           refine s_no (by kernel_rfl) ?_
           refine s_no (by kernel_rfl) ?_
           refine s_no (by kernel_rfl) ?_
           refine s_qk (.bool true) (by kernel_rfl) ?_
           refine s_nil ?_
           obtain rfl := Option.some.inj r559
           exact k456 _ _ ⟨⟨by kernel_rfl, by kernel_rfl, trivial⟩, (FrS.step e446.wf (FrS.step e446.wf (FrS.step e446.wf (FrS.step e446.wf (FrS.step e446.wf (FrS.step e446.wf (FrS.step e446.wf (FrS.step e446.wf (FrS.step e446.wf (FrS.step e446.wf (FrS.refl (W := []) e446.wf) e462 Inn.nil) e468 Inn.nil) e476 Inn.nil) e483 Inn.nil) e495 Inn.nil) e503 Inn.nil) e510 Inn.nil) e522 Inn.nil) e530 Inn.nil) e536 Inn.nil)⟩
         ·have r560 := ite_f h547 r544
          refine s_qk (.bool true) (by kernel_rfl) ?_
          refine s_qk (.bool true) (by kernel_rfl) ?_
          refine s_no (by kernel_rfl) ?_
          refine s_no (by kernel_rfl) ?_
          refine s_qk (.bool true) (by kernel_rfl) ?_
          refine s_qk (.bool true) (by kernel_rfl) ?_
          refine s_no (by kernel_rfl) ?_
          refine s_no (by kernel_rfl) ?_
          refine s_no (by kernel_rfl) ?_
          refine s_no (by kernel_rfl) ?_
          refine s_qk (.bool true) (by kernel_rfl) ?_
          refine s_qk (.bool true) (by kernel_rfl) ?_
          refine s_no (by kernel_rfl) ?_
          refine s_no (by kernel_rfl) ?_
          refine s_no (by kernel_rfl) ?_
          refine s_qk (.bool true) (by kernel_rfl) ?_
          refine s_nil ?_
          obtain rfl := Option.some.inj r560
          exact k456 _ _ ⟨⟨by kernel_rfl, by kernel_rfl, trivial⟩, (FrS.step e446.wf (FrS.step e446.wf (FrS.step e446.wf (FrS.step e446.wf (FrS.step e446.wf (FrS.step e446.wf (FrS.step e446.wf (FrS.step e446.wf (FrS.step e446.wf (FrS.step e446.wf (FrS.refl (W := []) e446.wf) e462 Inn.nil) e468 Inn.nil) e476 Inn.nil) e483 Inn.nil) e495 Inn.nil) e503 Inn.nil) e510 Inn.nil) e522 Inn.nil) e530 Inn.nil) e536 Inn.nil)⟩
        ·have r561 := ite_f h540 r538
         refine s_ql (.bool true) (x := aBin Tryd.prog .neq 28 (.tmp 148) (.const .nilIface) (.iface t541 x542) .nilIface) (by kernel_rfl) (aBin_nnil (by kernel_rfl)) ?_
         refine s_qk (.bool true) (by kernel_rfl) ?_
         refine s_qk (.bool true) (by kernel_rfl) ?_
         refine s_no (by kernel_rfl) ?_
         refine s_no (by kernel_rfl) ?_
         refine s_no (by kernel_rfl) ?_
         refine s_no (by kernel_rfl) ?_
         refine s_qk (.bool true) (by kernel_rfl) ?_
         refine s_qk (.bool true) (by kernel_rfl) ?_
         refine s_no (by kernel_rfl) ?_
         refine s_no (by kernel_rfl) ?_
         refine s_qk (.bool true) (by kernel_rfl) ?_
         refine s_qk (.bool true) (by kernel_rfl) ?_
         refine s_no (by kernel_rfl) ?_
         refine s_no (by kernel_rfl) ?_
         refine s_no (by kernel_rfl) ?_
         refine s_no (by kernel_rfl) ?_
         refine s_qk (.bool true) (by kernel_rfl) ?_
         refine s_qk (.bool true) (by kernel_rfl) ?_
         refine s_no (by kernel_rfl) ?_
         refine s_no (by kernel_rfl) ?_
         refine s_no (by kernel_rfl) ?_
         refine s_qk (.bool true) (by kernel_rfl) ?_
         refine s_nil ?_
         obtain rfl := Option.some.inj r561
         exact k456 _ _ ⟨⟨by kernel_rfl, by kernel_rfl, trivial⟩, (FrS.step e446.wf (FrS.step e446.wf (FrS.step e446.wf (FrS.step e446.wf (FrS.step e446.wf (FrS.step e446.wf (FrS.step e446.wf (FrS.step e446.wf (FrS.step e446.wf (FrS.step e446.wf (FrS.refl (W := []) e446.wf) e462 Inn.nil) e468 Inn.nil) e476 Inn.nil) e483 Inn.nil) e495 Inn.nil) e503 Inn.nil) e510 Inn.nil) e522 Inn.nil) e530 Inn.nil) e536 Inn.nil)⟩
       ·have r562 := ite_f h537 r534
        rw [nb h537]
        refine s_qk (.bool true) (by kernel_rfl) ?_
        refine s_qk (.bool true) (by kernel_rfl) ?_
        refine s_qk (.bool true) (by kernel_rfl) ?_
        refine s_no (by kernel_rfl) ?_
        refine s_no (by kernel_rfl) ?_
        refine s_qk (.bool true) (by kernel_rfl) ?_
        refine s_qk (.bool true) (by kernel_rfl) ?_
        refine s_no (by kernel_rfl) ?_
        refine s_no (by kernel_rfl) ?_
        refine s_no (by kernel_rfl) ?_
        refine s_no (by kernel_rfl) ?_
        refine s_qk (.bool true) (by kernel_rfl) ?_
        refine s_qk (.bool true) (by kernel_rfl) ?_
        refine s_no (by kernel_rfl) ?_
        refine s_no (by kernel_rfl) ?_
        refine s_qk (.bool true) (by kernel_rfl) ?_
        refine s_qk (.bool true) (by kernel_rfl) ?_
        refine s_no (by kernel_rfl) ?_
        refine s_no (by kernel_rfl) ?_
        refine s_no (by kernel_rfl) ?_
        refine s_no (by kernel_rfl) ?_
        refine s_qk (.bool true) (by kernel_rfl) ?_
        refine s_qk (.bool true) (by kernel_rfl) ?_
        refine s_no (by kernel_rfl) ?_
        refine s_no (by kernel_rfl) ?_
        refine s_no (by kernel_rfl) ?_
        refine s_qk (.bool true) (by kernel_rfl) ?_
        refine s_nil ?_
        obtain rfl := Option.some.inj r562
        exact k456 _ _ ⟨⟨by kernel_rfl, by kernel_rfl, trivial⟩, (FrS.step e446.wf (FrS.step e446.wf (FrS.step e446.wf (FrS.step e446.wf (FrS.step e446.wf (FrS.step e446.wf (FrS.step e446.wf (FrS.step e446.wf (FrS.step e446.wf (FrS.step e446.wf (FrS.refl (W := []) e446.wf) e462 Inn.nil) e468 Inn.nil) e476 Inn.nil) e483 Inn.nil) e495 Inn.nil) e503 Inn.nil) e510 Inn.nil) e522 Inn.nil) e530 Inn.nil) e536 Inn.nil)⟩
      ·have r564 := ite_f h523 r520
       rw [nb h523]
       refine s_qk (.bool true) (by kernel_rfl) ?_
       refine s_qk (.bool true) (by kernel_rfl) ?_
       refine s_qk (.bool true) (by kernel_rfl) ?_
       refine s_no (by kernel_rfl) ?_
       refine s_no (by kernel_rfl) ?_
       refine s_no (by kernel_rfl) ?_
       refine s_no (by kernel_rfl) ?_
       refine s_qk (.bool true) (by kernel_rfl) ?_
       refine s_qk (.bool true) (by kernel_rfl) ?_
       refine s_no (by kernel_rfl) ?_
       refine s_no (by kernel_rfl) ?_
       refine s_qk (.bool true) (by kernel_rfl) ?_
       refine s_qk (.bool true) (by kernel_rfl) ?_
       refine s_no (by kernel_rfl) ?_
       refine s_no (by kernel_rfl) ?_
       refine s_no (by kernel_rfl) ?_
       refine s_no (by kernel_rfl) ?_
       refine s_qk (.bool true) (by kernel_rfl) ?_
       refine s_qk (.bool true) (by kernel_rfl) ?_
       refine s_no (by kernel_rfl) ?_
       refine s_no (by kernel_rfl) ?_
       refine s_qk (.bool true) (by kernel_rfl) ?_
       refine s_qk (.bool true) (by kernel_rfl) ?_
       refine s_no (by kernel_rfl) ?_
       refine s_no (by kernel_rfl) ?_
       refine s_no (by kernel_rfl) ?_
       refine s_no (by kernel_rfl) ?_
       refine s_qk (.bool true) (by kernel_rfl) ?_
       refine s_qk (.bool true) (by kernel_rfl) ?_
       refine s_no (by kernel_rfl) ?_
       refine s_no (by kernel_rfl) ?_
       refine s_no (by kernel_rfl) ?_
       refine s_qk (.bool true) (by kernel_rfl) ?_
       refine s_nil ?_
       obtain rfl := Option.some.inj r564
       exact k456 _ _ ⟨⟨by kernel_rfl, by kernel_rfl, trivial⟩, (FrS.step e446.wf (FrS.step e446.wf (FrS.step e446.wf (FrS.step e446.wf (FrS.step e446.wf (FrS.step e446.wf (FrS.step e446.wf (FrS.step e446.wf (FrS.refl (W := []) e446.wf) e462 Inn.nil) e468 Inn.nil) e476 Inn.nil) e483 Inn.nil) e495 Inn.nil) e503 Inn.nil) e510 Inn.nil) e522 Inn.nil)⟩
     ·have r566 := ite_f h496 r493
      rw [nb h496]
      refine s_qk (.bool true) (by kernel_rfl) ?_
      refine s_qk (.bool true) (by kernel_rfl) ?_
      refine s_qk (.bool true) (by kernel_rfl) ?_
      refine s_no (by kernel_rfl) ?_
      refine s_no (by kernel_rfl) ?_
      refine s_no (by kernel_rfl) ?_
      refine s_no (by kernel_rfl) ?_
      refine s_no (by kernel_rfl) ?_
      refine s_qk (.bool true) (by kernel_rfl) ?_
      refine s_qk (.bool true) (by kernel_rfl) ?_
      refine s_no (by kernel_rfl) ?_
      refine s_no (by kernel_rfl) ?_
      refine s_no (by kernel_rfl) ?_
      refine s_no (by kernel_rfl) ?_
      refine s_qk (.bool true) (by kernel_rfl) ?_
      refine s_qk (.bool true) (by kernel_rfl) ?_
      refine s_no (by kernel_rfl) ?_
      refine s_no (by kernel_rfl) ?_
      refine s_qk (.bool true) (by kernel_rfl) ?_
      refine s_qk (.bool true) (by kernel_rfl) ?_
      refine s_no (by kernel_rfl) ?_
      refine s_no (by kernel_rfl) ?_
      refine s_no (by kernel_rfl) ?_
      refine s_no (by kernel_rfl) ?_
      refine s_qk (.bool true) (by kernel_rfl) ?_
      refine s_qk (.bool true) (by kernel_rfl) ?_
      refine s_no (by kernel_rfl) ?_
      refine s_no (by kernel_rfl) ?_
      refine s_qk (.bool true) (by kernel_rfl) ?_
      refine s_qk (.bool true) (by kernel_rfl) ?_
      refine s_no (by kernel_rfl) ?_
      refine s_no (by kernel_rfl) ?_
      refine s_no (by kernel_rfl) ?_
      refine s_no (by kernel_rfl) ?_
      refine s_qk (.bool true) (by kernel_rfl) ?_
      refine s_qk (.bool true) (by kernel_rfl) ?_
      refine s_no (by kernel_rfl) ?_
      refine s_no (by kernel_rfl) ?_
      refine s_no (by kernel_rfl) ?_
      refine s_qk (.bool true) (by kernel_rfl) ?_
      refine s_nil ?_
      obtain rfl := Option.some.inj r566
      exact k456 _ _ ⟨⟨by kernel_rfl, by kernel_rfl, trivial⟩, (FrS.step e446.wf (FrS.step e446.wf (FrS.step e446.wf (FrS.step e446.wf (FrS.step e446.wf (FrS.refl (W := []) e446.wf) e462 Inn.nil) e468 Inn.nil) e476 Inn.nil) e483 Inn.nil) e495 Inn.nil)⟩
    ·have r568 := ite_f h469 r466
     rw [nb h469]
     refine s_qk (.bool true) (by kernel_rfl) ?_
     refine s_qk (.bool true) (by kernel_rfl) ?_
     refine s_no (by kernel_rfl) ?_
     refine s_no (by kernel_rfl) ?_
     refine s_no (by kernel_rfl) ?_
     refine s_no (by kernel_rfl) ?_
     refine s_no (by kernel_rfl) ?_
     refine s_qk (.bool true) (by kernel_rfl) ?_
     refine s_qk (.bool true) (by kernel_rfl) ?_
     refine s_no (by kernel_rfl) ?_
     refine s_no (by kernel_rfl) ?_
     refine s_no (by kernel_rfl) ?_
     refine s_no (by kernel_rfl) ?_
     refine s_no (by kernel_rfl) ?_
     refine s_qk (.bool true) (by kernel_rfl) ?_
     refine s_qk (.bool true) (by kernel_rfl) ?_
     refine s_no (by kernel_rfl) ?_
     refine s_no (by kernel_rfl) ?_
     refine s_no (by kernel_rfl) ?_
     refine s_no (by kernel_rfl) ?_
     refine s_qk (.bool true) (by kernel_rfl) ?_
     refine s_qk (.bool true) (by kernel_rfl) ?_
     refine s_no (by kernel_rfl) ?_
     refine s_no (by kernel_rfl) ?_
     refine s_qk (.bool true) (by kernel_rfl) ?_
     refine s_qk (.bool true) (by kernel_rfl) ?_
     refine s_no (by kernel_rfl) ?_
     refine s_no (by kernel_rfl) ?_
     refine s_no (by kernel_rfl) ?_
     refine s_no (by kernel_rfl) ?_
     refine s_qk (.bool true) (by kernel_rfl) ?_
     refine s_qk (.bool true) (by kernel_rfl) ?_
     refine s_no (by kernel_rfl) ?_
     refine s_no (by kernel_rfl) ?_
     refine s_qk (.bool true) (by kernel_rfl) ?_
     refine s_qk (.bool true) (by kernel_rfl) ?_
     refine s_no (by kernel_rfl) ?_
     refine s_no (by kernel_rfl) ?_
     refine s_no (by kernel_rfl) ?_
     refine s_no (by kernel_rfl) ?_
     refine s_qk (.bool true) (by kernel_rfl) ?_
     refine s_qk (.bool true) (by kernel_rfl) ?_
     refine s_no (by kernel_rfl) ?_
     refine s_no (by kernel_rfl) ?_
     refine s_no (by kernel_rfl) ?_
     refine s_qk (.bool true) (by kernel_rfl) ?_
     refine s_nil ?_
     obtain rfl := Option.some.inj r568
     exact k456 _ _ ⟨⟨by kernel_rfl, by kernel_rfl, trivial⟩, (FrS.step e446.wf (FrS.step e446.wf (FrS.refl (W := []) e446.wf) e462 Inn.nil) e468 Inn.nil)⟩
   ·obtain ⟨hh457, e455⟩ := hM
    obtain ⟨β, rfl⟩ := has_ex hh457
    clear hh457
    refine k450 _ _ ?_
    refine w_cond (o451) (by kernel_rfl) rfl (fun h570 => ?_) (fun h570 => ?_)
    ·have r571 := ite_t h570 r453
     refine w_seqk fun K572 k572 => ?_
     refine w_reg (by kernel_rfl) ?_
     refine s_qk (.bool false) (by kernel_rfl) ?_
     refine s_nil ?_
     refine k572 _ _ ?_
     refine w_ret (th_ret ?_)
     refine b_ret (fn := Tryd.f6) (vs := [.bool false]) (aRes_tmp (by kernel_rfl) (rfl)) ?_
     obtain rfl := Option.some.inj r571
     exact ⟨rfl, (FrS.step wf (FrS.step wf ((FrS.step wf (FrS.step wf ((FrS.step wf (FrS.step wf ((FrS.step wf (FrS.step wf ((FrS.step wf (FrS.step wf (FrS.step wf (FrS.step wf (FrS.step wf (((FrS.step wf (((FrS.step wf (FrS.step wf ((FrS.step wf (FrS.step wf ((FrS.step wf (FrS.step wf (((FrS.refl (W := []) wf).extR e8).extR e17) e23 (hb18.fresh e8.next)) e36 Inn.nil).extR e49) e55 (hb50.fresh (ntr (ntr (ntr e8.next e17.next) e23.next) e36.next))) e71 Inn.nil).extR e94) e107 Inn.nil) e117 Inn.nil).extR e207).extR e216) e222 (hb217.fresh (ntr (ntr (ntr (ntr (ntr (ntr (ntr (ntr (ntr (ntr e8.next e17.next) e23.next) e36.next) e49.next) e55.next) e71.next) e94.next) e107.next) e117.next) e207.next))).extR e229).extR e238) e244 (hb239.fresh (ntr (ntr (ntr (ntr (ntr (ntr (ntr (ntr (ntr (ntr (ntr (ntr (ntr e8.next e17.next) e23.next) e36.next) e49.next) e55.next) e71.next) e94.next) e107.next) e117.next) e207.next) e216.next) e222.next) e229.next))) e258 Inn.nil) e282 Inn.nil) e304 Inn.nil) e328 Inn.nil).extR e341) e347 (hb342.fresh (ntr (ntr (ntr (ntr (ntr (ntr (ntr (ntr (ntr (ntr (ntr (ntr (ntr (ntr (ntr (ntr (ntr (ntr (ntr e8.next e17.next) e23.next) e36.next) e49.next) e55.next) e71.next) e94.next) e107.next) e117.next) e207.next) e216.next) e222.next) e229.next) e238.next) e244.next) e258.next) e282.next) e304.next) e328.next))) e361 Inn.nil).extR e374) e380 (hb375.fresh (ntr (ntr (ntr (ntr (ntr (ntr (ntr (ntr (ntr (ntr (ntr (ntr (ntr (ntr (ntr (ntr (ntr (ntr (ntr (ntr (ntr (ntr e8.next e17.next) e23.next) e36.next) e49.next) e55.next) e71.next) e94.next) e107.next) e117.next) e207.next) e216.next) e222.next) e229.next) e238.next) e244.next) e258.next) e282.next) e304.next) e328.next) e341.next) e347.next) e361.next))) e394 Inn.nil).extR e407) e413 (hb408.fresh (ntr (ntr (ntr (ntr (ntr (ntr (ntr (ntr (ntr (ntr (ntr (ntr (ntr (ntr (ntr (ntr (ntr (ntr (ntr (ntr (ntr (ntr (ntr (ntr (ntr e8.next e17.next) e23.next) e36.next) e49.next) e55.next) e71.next) e94.next) e107.next) e117.next) e207.next) e216.next) e222.next) e229.next) e238.next) e244.next) e258.next) e282.next) e304.next) e328.next) e341.next) e347.next) e361.next) e374.next) e380.next) e394.next))) e427 Inn.nil).extR e440) e446 (hb441.fresh (ntr (ntr (ntr (ntr (ntr (ntr (ntr (ntr (ntr (ntr (ntr (ntr (ntr (ntr (ntr (ntr (ntr (ntr (ntr (ntr (ntr (ntr (ntr (ntr (ntr (ntr (ntr (ntr e8.next e17.next) e23.next) e36.next) e49.next) e55.next) e71.next) e94.next) e107.next) e117.next) e207.next) e216.next) e222.next) e229.next) e238.next) e244.next) e258.next) e282.next) e304.next) e328.next) e341.next) e347.next) e361.next) e374.next) e380.next) e394.next) e407.next) e413.next) e427.next))) e455 Inn.nil)⟩
    ·have r573 := ite_bf h570 r453
     refine w_skip ?_
     refine k449 _ _ ?_
     refine w_seqk fun K574 k574 => ?_
     refine w_reg (by kernel_rfl) ?_
     refine s_qk (v424) (by kernel_rfl) ?_
     obtain ⟨y575, hy576, r577⟩ := bind_some r573
     refine s_ck 26 #[.int .i64 7] (by kernel_rfl) (c_viaductref01_E e455.wf hy576) ?_
     rintro _ H578 ⟨rfl, e579⟩
     obtain ⟨y580, hy581, r582⟩ := bind_some r577
     refine s_ck 27 #[.int .i64 4, .int .i64 0, .agg #[.int .i64 y575, .slice none 0 0]] (by kernel_rfl) (c_viaductref01_At e579.wf (Sq.nil (enc := enc_i64_i64) (sz := 2) (by decide)) hy581) ?_
     rintro _ H585 ⟨s583, f584, rfl, e586, m587, i588⟩
     obtain ⟨a590, n591, c592, rfl⟩ := m587.form
     have u593 := (((((m429.ext e440).fr e446 (hb441.djn m429.lt)).fr e455 Dj.nil_l).fr e579 Dj.nil_l).fr e586 Dj.nil_l)
     obtain ⟨y594, hy595, r596⟩ := bind_some r582
     refine s_ck 16 #[v424, .agg #[.int .i64 y580.1, .slice a590 n591 c592]] (by kernel_rfl) (c_viaductseen_Same e586.wf u593 m587.sq hy595) ?_
     rintro _ H597 ⟨rfl, e598⟩
     refine s_qk (.bool y594) (by kernel_rfl) ?_
     refine s_nil ?_
     refine k574 _ _ ?_
     refine w_ret ?_
     refine b_ret (fn := Tryd.f6) (vs := [.bool y594]) (aRes_tmp (by kernel_rfl) (rfl)) ?_
     obtain rfl := Option.some.inj r596
     exact ⟨rfl, (FrS.step wf (FrS.step wf (FrS.step wf (FrS.step wf (FrS.step wf ((FrS.step wf (FrS.step wf ((FrS.step wf (FrS.step wf ((FrS.step wf (FrS.step wf ((FrS.step wf (FrS.step wf (FrS.step wf (FrS.step wf (FrS.step wf (((FrS.step wf (((FrS.step wf (FrS.step wf ((FrS.step wf (FrS.step wf ((FrS.step wf (FrS.step wf (((FrS.refl (W := []) wf).extR e8).extR e17) e23 (hb18.fresh e8.next)) e36 Inn.nil).extR e49) e55 (hb50.fresh (ntr (ntr (ntr e8.next e17.next) e23.next) e36.next))) e71 Inn.nil).extR e94) e107 Inn.nil) e117 Inn.nil).extR e207).extR e216) e222 (hb217.fresh (ntr (ntr (ntr (ntr (ntr (ntr (ntr (ntr (ntr (ntr e8.next e17.next) e23.next) e36.next) e49.next) e55.next) e71.next) e94.next) e107.next) e117.next) e207.next))).extR e229).extR e238) e244 (hb239.fresh (ntr (ntr (ntr (ntr (ntr (ntr (ntr (ntr (ntr (ntr (ntr (ntr (ntr e8.next e17.next) e23.next) e36.next) e49.next) e55.next) e71.next) e94.next) e107.next) e117.next) e207.next) e216.next) e222.next) e229.next))) e258 Inn.nil) e282 Inn.nil) e304 Inn.nil) e328 Inn.nil).extR e341) e347 (hb342.fresh (ntr (ntr (ntr (ntr (ntr (ntr (ntr (ntr (ntr (ntr (ntr (ntr (ntr (ntr (ntr (ntr (ntr (ntr (ntr e8.next e17.next) e23.next) e36.next) e49.next) e55.next) e71.next) e94.next) e107.next) e117.next) e207.next) e216.next) e222.next) e229.next) e238.next) e244.next) e258.next) e282.next) e304.next) e328.next))) e361 Inn.nil).extR e374) e380 (hb375.fresh (ntr (ntr (ntr (ntr (ntr (ntr (ntr (ntr (ntr (ntr (ntr (ntr (ntr (ntr (ntr (ntr (ntr (ntr (ntr (ntr (ntr (ntr e8.next e17.next) e23.next) e36.next) e49.next) e55.next) e71.next) e94.next) e107.next) e117.next) e207.next) e216.next) e222.next) e229.next) e238.next) e244.next) e258.next) e282.next) e304.next) e328.next) e341.next) e347.next) e361.next))) e394 Inn.nil).extR e407) e413 (hb408.fresh (ntr (ntr (ntr (ntr (ntr (ntr (ntr (ntr (ntr (ntr (ntr (ntr (ntr (ntr (ntr (ntr (ntr (ntr (ntr (ntr (ntr (ntr (ntr (ntr (ntr e8.next e17.next) e23.next) e36.next) e49.next) e55.next) e71.next) e94.next) e107.next) e117.next) e207.next) e216.next) e222.next) e229.next) e238.next) e244.next) e258.next) e282.next) e304.next) e328.next) e341.next) e347.next) e361.next) e374.next) e380.next) e394.next))) e427 Inn.nil).extR e440) e446 (hb441.fresh (ntr (ntr (ntr (ntr (ntr (ntr (ntr (ntr (ntr (ntr (ntr (ntr (ntr (ntr (ntr (ntr (ntr (ntr (ntr (ntr (ntr (ntr (ntr (ntr (ntr (ntr (ntr (ntr e8.next e17.next) e23.next) e36.next) e49.next) e55.next) e71.next) e94.next) e107.next) e117.next) e207.next) e216.next) e222.next) e229.next) e238.next) e244.next) e258.next) e282.next) e304.next) e328.next) e341.next) e347.next) e361.next) e374.next) e380.next) e394.next) e407.next) e413.next) e427.next))) e455 Inn.nil) e579 Inn.nil) e586 Inn.nil) e598 Inn.nil)⟩


end Go.Vd
