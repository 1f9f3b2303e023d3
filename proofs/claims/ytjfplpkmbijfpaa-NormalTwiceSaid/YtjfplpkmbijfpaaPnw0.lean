/- The walks of the functions (printed by a program of ours). -/
import Derived.Test.YtjfplpkmbijfpaaVeC
import Derived.Test.YtjfplpkmbijfpaaINw
import Derived.Test.YtjfplpkmbijfpaaSoA
import Derived.Test.YtjfplpkmbijfpaaVeV
set_option linter.unusedVariables false
set_option linter.unusedSimpArgs false
set_option linter.unusedSectionVars false
/-! (KNw0) -/

set_option maxRecDepth 100000
set_option maxHeartbeats 4000000
set_option linter.unusedVariables false
namespace Go.Vd
open Go.Proofs
attribute [local irreducible] wpSeq wpOrd aWp
set_option linter.unusedSimpArgs false
theorem e_pure {α : Type} (P : Program) (a : α) : pr P (pure a : Sem α) = some a := rfl
theorem e_prog {P : Program} : pr P (program : Sem Program) = some P := rfl
theorem e_und {P : Program} {t : TypeId} {d : TypeDesc} (h : P.underlying t = some d) : pr P (underlying t) = some d := by
 simp only [underlying, pr_bind]
 show ((pr P (program : Sem Program)).bind _) = _
 simp [show pr P (program : Sem Program) = some P from rfl, h]
 rfl
theorem e_int {P : Program} (d : Nat) (t : TypeId) (k : IntKind) (h : P.underlying t = some (.int k)) (a c : Int) : pr P (Op.equalIn (d+1) t (.int k a) (.int k c)) = some (a == c) := by
 simp only [Op.equalIn, pr_bind, e_und h]
 simp [e_pure]
theorem e_bool {P : Program} (d : Nat) (t : TypeId) (h : P.underlying t = some .bool) (a c : Bool) : pr P (Op.equalIn (d+1) t (.bool a) (.bool c)) = some (a == c) := by
 simp only [Op.equalIn, pr_bind, e_und h]
 simp [e_pure]

theorem e34_p0 (a0 : Int) (a1 : Int) (a2 : Int) : pr Try.prog (part 3 #[.int .i64 a0, .int .i64 a1, .int .i64 a2] 0) = some (.int .i64 a0) := by kernel_rfl
theorem e34_q0 (a c : Int) : pr Try.prog (Op.equalIn 9999 3 (.int .i64 a) (.int .i64 c)) = some (a == c) := e_int 9998 3 .i64 Go.Proofs.Try.underlying3 a c
theorem e34_p1 (a0 : Int) (a1 : Int) (a2 : Int) : pr Try.prog (part 3 #[.int .i64 a0, .int .i64 a1, .int .i64 a2] 1) = some (.int .i64 a1) := by kernel_rfl
theorem e34_q1 (a c : Int) : pr Try.prog (Op.equalIn 9999 3 (.int .i64 a) (.int .i64 c)) = some (a == c) := e_int 9998 3 .i64 Go.Proofs.Try.underlying3 a c
theorem e34_p2 (a0 : Int) (a1 : Int) (a2 : Int) : pr Try.prog (part 3 #[.int .i64 a0, .int .i64 a1, .int .i64 a2] 2) = some (.int .i64 a2) := by kernel_rfl
theorem e34_q2 (a c : Int) : pr Try.prog (Op.equalIn 9999 3 (.int .i64 a) (.int .i64 c)) = some (a == c) := e_int 9998 3 .i64 Go.Proofs.Try.underlying3 a c
theorem e34_stood : Try.prog.stoodInHeld 34 = false := by kernel_rfl
theorem e34_eq (a0 : Int) (a1 : Int) (a2 : Int) (c0 : Int) (c1 : Int) (c2 : Int) : pr Try.prog (Op.equalIn Op.maxDepth 34 (.agg #[.int .i64 a0, .int .i64 a1, .int .i64 a2]) (.agg #[.int .i64 c0, .int .i64 c1, .int .i64 c2])) = some (a0 == c0 && a1 == c1 && a2 == c2) := by
 rw [show Op.maxDepth = 9998 + 1 + 1 from rfl, Op.equalIn]
 rw [pr_bind, e_und Go.Proofs.Try.underlying34]
 simp only [Option.bind_some, pr_bind, e_prog, e34_stood, Bool.false_eq_true, if_false]
 simp [pr_bind, e34_p0, e34_p1, e34_p2, e34_q0, e34_q1, e34_q2]
 by_cases h0 : a0 = c0
 ·subst h0
  by_cases h1 : a1 = c1
  ·subst h1
   by_cases h2 : a2 = c2
   ·subst h2
    simp [e_pure, pr_bind, e34_p0, e34_p1, e34_p2, e34_q0, e34_q1, e34_q2]
   ·simp [e_pure, pr_bind, e34_p0, e34_p1, e34_p2, e34_q0, e34_q1, e34_q2, h2]
  ·simp [e_pure, pr_bind, e34_p0, e34_p1, e34_p2, e34_q0, e34_q1, e34_q2, h1]
 ·simp [e_pure, pr_bind, e34_p0, e34_p1, e34_p2, e34_q0, e34_q1, e34_q2, h0]
theorem e34_gneq (x y : Operand) (a0 : Int) (a1 : Int) (a2 : Int) (c0 : Int) (c1 : Int) (c2 : Int) : pr Try.prog (eqGuard .neq 34 x y (.agg #[.int .i64 a0, .int .i64 a1, .int .i64 a2]) (.agg #[.int .i64 c0, .int .i64 c1, .int .i64 c2])) = some () := by kernel_rfl
theorem aBin_neq34 (x y : Operand) (a0 : Int) (a1 : Int) (a2 : Int) (c0 : Int) (c1 : Int) (c2 : Int) : aBin Try.prog .neq 34 x y (.agg #[.int .i64 a0, .int .i64 a1, .int .i64 a2]) (.agg #[.int .i64 c0, .int .i64 c1, .int .i64 c2]) = some (.bool (!decide (a0 = c0 ∧ a1 = c1 ∧ a2 = c2))) := by
 unfold aBin
 rw [if_pos (show (plain (.agg #[.int .i64 a0, .int .i64 a1, .int .i64 a2]) && plain (.agg #[.int .i64 c0, .int .i64 c1, .int .i64 c2])) = true from rfl), pr_bind, e34_gneq]
 have : pr Try.prog (binOp .neq 34 (.agg #[.int .i64 a0, .int .i64 a1, .int .i64 a2]) (.agg #[.int .i64 c0, .int .i64 c1, .int .i64 c2])) = some (.bool (!decide (a0 = c0 ∧ a1 = c1 ∧ a2 = c2))) := by
  simp only [binOp, Op.equal, pr_bind, e34_eq]
  by_cases g0 : a0 = c0 <;> by_cases g1 : a1 = c1 <;> by_cases g2 : a2 = c2 <;> simp [e_pure, g0, g1, g2]
 simp only [Option.bind_some, this]
 rfl
theorem e34_geql (x y : Operand) (a0 : Int) (a1 : Int) (a2 : Int) (c0 : Int) (c1 : Int) (c2 : Int) : pr Try.prog (eqGuard .eql 34 x y (.agg #[.int .i64 a0, .int .i64 a1, .int .i64 a2]) (.agg #[.int .i64 c0, .int .i64 c1, .int .i64 c2])) = some () := by kernel_rfl
theorem aBin_eql34 (x y : Operand) (a0 : Int) (a1 : Int) (a2 : Int) (c0 : Int) (c1 : Int) (c2 : Int) : aBin Try.prog .eql 34 x y (.agg #[.int .i64 a0, .int .i64 a1, .int .i64 a2]) (.agg #[.int .i64 c0, .int .i64 c1, .int .i64 c2]) = some (.bool (decide (a0 = c0 ∧ a1 = c1 ∧ a2 = c2))) := by
 unfold aBin
 rw [if_pos (show (plain (.agg #[.int .i64 a0, .int .i64 a1, .int .i64 a2]) && plain (.agg #[.int .i64 c0, .int .i64 c1, .int .i64 c2])) = true from rfl), pr_bind, e34_geql]
 have : pr Try.prog (binOp .eql 34 (.agg #[.int .i64 a0, .int .i64 a1, .int .i64 a2]) (.agg #[.int .i64 c0, .int .i64 c1, .int .i64 c2])) = some (.bool (decide (a0 = c0 ∧ a1 = c1 ∧ a2 = c2))) := by
  simp only [binOp, Op.equal, pr_bind, e34_eq]
  by_cases g0 : a0 = c0 <;> by_cases g1 : a1 = c1 <;> by_cases g2 : a2 = c2 <;> simp [e_pure, g0, g1, g2]
 simp only [Option.bind_some, this]
 rfl
theorem c_viaductlaw04_awake_ev : evB Try.prog 100000 8 #[] = some true := by kernel_rfl
theorem c_viaductlaw04_awake {H : AH} : ACalls Try.prog 8 #[] H fun v H' => H = H' ∧ v = .bool true :=
 (acalls_evB mixed c_viaductlaw04_awake_ev rfl H).mono fun _ _ ⟨a, b⟩ => ⟨b.symm, a⟩

theorem c_gtext_within {H : AH} {x : Int} {n_ : Int} {r : Bool}
  (wf : WF H) (hr : z_gtext_within x n_ = some r) :
  ACalls Try.prog 73 #[.int .i64 x, .int .i64 n_] H fun v H' => v = .bool r ∧ H = H' := by
 refine acalls_of_body mixed Try.func73 rfl (Nat.le_of_ble_eq_true rfl) ?_
 unfold z_gtext_within at hr
 refine w_seqk fun K1 k1 => ?_
 refine w_reg (by kernel_rfl) ?_
 refine s_qk (.bool false) (by kernel_rfl) ?_
 refine s_nil ?_
 refine k1 _ _ ?_
 refine w_seqk fun K2 k2 => ?_
 refine w_reg (by kernel_rfl) ?_
 refine s_qk (.int .i64 x) (by kernel_rfl) ?_
 refine s_b (x ≥ 0) (by kernel_rfl) (fun h3 => ?_) (fun h3 => ?_)
 ·have r4 := ite_t h3 hr
  refine s_qk (.bool true) (by kernel_rfl) ?_
  refine s_qk (.int .i64 x) (by kernel_rfl) ?_
  refine s_qk (.int .i64 n_) (by kernel_rfl) ?_
  refine s_qk (.bool (decide (x < n_))) (by kernel_rfl) ?_
  refine s_qk (.bool (decide (x < n_))) (by kernel_rfl) ?_
  refine s_qk (.bool (decide (x < n_))) (by kernel_rfl) ?_
  refine s_nil ?_
  refine k2 _ _ ?_
  refine w_ret ?_
  refine b_ret (fn := Try.f73) (vs := [.bool (decide (x < n_))]) (aRes_tmp (by kernel_rfl) (rfl)) ?_
  obtain rfl := Option.some.inj r4
  exact ⟨rfl, rfl⟩
 ·have r5 := ite_f h3 hr
  refine s_qk (.bool false) (by kernel_rfl) ?_
  refine s_no (by kernel_rfl) ?_
  refine s_no (by kernel_rfl) ?_
  refine s_no (by kernel_rfl) ?_
  refine s_qk (.bool false) (by kernel_rfl) ?_
  refine s_qk (.bool false) (by kernel_rfl) ?_
  refine s_nil ?_
  refine k2 _ _ ?_
  refine w_ret ?_
  refine b_ret (fn := Try.f73) (vs := [.bool false]) (aRes_tmp (by kernel_rfl) (rfl)) ?_
  obtain rfl := Option.some.inj r5
  exact ⟨rfl, rfl⟩

theorem c_gtext_arc {H : AH} {From : Int} {To : Int} {Weight : Int} {n_ : Int} {r : Er}
  (wf : WF H) (hr : z_gtext_arc From To Weight n_ = some r) :
  ACalls Try.prog 63 #[.agg #[.int .i64 From, .int .i64 To, .int .i64 Weight], .int .i64 n_] H fun v H' => ∃ (v3 : Value) (f4 : Fp), v = v3 ∧ FrS [] H H' ∧ Ev 81 111 H' v3 r f4 ∧ Inn [] H f4 := by
 refine acalls_of_body mixed Try.func63 rfl (Nat.le_of_ble_eq_true rfl) ?_
 unfold z_gtext_arc at hr
 refine w_seqk fun K6 k6 => ?_
 refine w_reg (by kernel_rfl) ?_
 refine s_rwl wf [.int .i64 From, .int .i64 To, .int .i64 Weight] (one_cons (rfl) (one_cons (rfl) (one_cons (rfl) (one_nil)))) (by kernel_rfl) fun b7 H8 e9 hb10 r11 => ?_
 refine s_qk (.nilIface) (by kernel_rfl) ?_
 refine s_nil ?_
 refine k6 _ _ ?_
 refine w_seqk fun K13 k13 => ?_
 refine w_block ?_
 refine w_seqk fun K14 k14 => ?_
 obtain ⟨o15, hx16, r17⟩ := bind_some hr
 refine w_mid (fun α H18 => Has α [(2, .pointer (some ⟨b7, 0, none⟩)), (5, .bool o15)] ∧ H8 = H18) (fun K20 k20 => ?_) (fun α H18 hM => ?_)
 ·refine w_reg (by kernel_rfl) ?_
  refine s_qk (.pointer (some ⟨b7, 0, none⟩)) (by kernel_rfl) ?_
  refine s_ql (.int .i64 From) (x := aLoad Try.prog 3 (.pointer (some ⟨b7, 0, none⟩)) H8) (by kernel_rfl) (r11.ld (by kernel_rfl)) ?_
  refine s_qk (.int .i64 n_) (by kernel_rfl) ?_
  obtain ⟨y22, hy23, r24⟩ := bind_some hx16
  refine s_ck 73 #[.int .i64 From, .int .i64 n_] (by kernel_rfl) (c_gtext_within e9.wf hy23) ?_
  rintro _ _ ⟨rfl, rfl⟩
  by_cases h27 : y22 = true
  ·have r28 := ite_t h27 r24
   rw [h27]
   refine s_qk (.bool false) (by kernel_rfl) ?_
   refine s_qk (.bool false) (by kernel_rfl) ?_
   refine s_qk (.pointer (some ⟨b7, 1, none⟩)) (by kernel_rfl) ?_
   refine s_ql (.int .i64 To) (x := aLoad Try.prog 3 (.pointer (some ⟨b7, 1, none⟩)) H8) (by kernel_rfl) (r11.ld (by kernel_rfl)) ?_
   refine s_qk (.int .i64 n_) (by kernel_rfl) ?_
   obtain ⟨y30, hy31, r32⟩ := bind_some r28
   refine s_ck 73 #[.int .i64 To, .int .i64 n_] (by kernel_rfl) (c_gtext_within e9.wf hy31) ?_
   rintro _ _ ⟨rfl, rfl⟩
   refine s_qk (.bool (!y30)) (by kernel_rfl) ?_
   refine s_qk (.bool (!y30)) (by kernel_rfl) ?_
   refine s_qk (.bool (!y30)) (by kernel_rfl) ?_
   refine s_nil ?_
   obtain rfl := Option.some.inj r32
   exact k20 _ _ ⟨⟨by kernel_rfl, by kernel_rfl, trivial⟩, rfl⟩
  ·have r35 := ite_f h27 r24
   rw [nb h27]
   refine s_qk (.bool true) (by kernel_rfl) ?_
   refine s_qk (.bool true) (by kernel_rfl) ?_
   refine s_no (by kernel_rfl) ?_
   refine s_no (by kernel_rfl) ?_
   refine s_no (by kernel_rfl) ?_
   refine s_no (by kernel_rfl) ?_
   refine s_no (by kernel_rfl) ?_
   refine s_qk (.bool true) (by kernel_rfl) ?_
   refine s_qk (.bool true) (by kernel_rfl) ?_
   refine s_nil ?_
   obtain rfl := Option.some.inj r35
   exact k20 _ _ ⟨⟨by kernel_rfl, by kernel_rfl, trivial⟩, rfl⟩
 ·obtain ⟨hh21, rfl⟩ := hM
  obtain ⟨β, rfl⟩ := has_ex hh21
  clear hh21
  refine k14 _ _ ?_
  refine w_cond (o15) (by kernel_rfl) rfl (fun h37 => ?_) (fun h37 => ?_)
  ·have r38 := ite_t h37 r17
   refine w_seqk fun K39 k39 => ?_
   refine w_reg (by kernel_rfl) ?_
   refine s_qk (.iface 81 (.int .i64 7)) (by kernel_rfl) ?_
   refine s_qk (.iface 81 (.int .i64 7)) (by kernel_rfl) ?_
   refine s_nil ?_
   refine k39 _ _ ?_
   refine w_ret (bl_ret (th_ret ?_))
   refine b_ret (fn := Try.f63) (vs := [.iface 81 (.int .i64 7)]) (aRes_tmp (by kernel_rfl) (rfl)) ?_
   obtain rfl := Option.some.inj r38
   exact ⟨(.iface 81 (.int .i64 7)), [], rfl, ((FrS.refl (W := []) wf).extR e9), Ev.no, Inn.nil⟩
  ·have r40 := ite_bf h37 r17
   refine w_seqk fun K41 k41 => ?_
   refine w_reg (by kernel_rfl) ?_
   refine s_qk (.pointer (some ⟨b7, 2, none⟩)) (by kernel_rfl) ?_
   refine s_ql (.int .i64 Weight) (x := aLoad Try.prog 3 (.pointer (some ⟨b7, 2, none⟩)) H8) (by kernel_rfl) (r11.ld (by kernel_rfl)) ?_
   refine s_b (Weight < 0) (by kernel_rfl) (fun h42 => ?_) (fun h42 => ?_)
   ·have r43 := ite_t h42 r40
    refine s_qk (.bool true) (by kernel_rfl) ?_
    refine s_no (by kernel_rfl) ?_
    refine s_no (by kernel_rfl) ?_
    refine s_no (by kernel_rfl) ?_
    refine s_qk (.bool true) (by kernel_rfl) ?_
    refine s_qk (.bool true) (by kernel_rfl) ?_
    refine s_nil ?_
    refine k41 _ _ ?_
    refine w_cond true (by kernel_rfl) rfl (fun _ => ?_) (fun h => by cases h)
    refine w_seqk fun K44 k44 => ?_
    refine w_reg (by kernel_rfl) ?_
    refine s_qk (.iface 81 (.int .i64 8)) (by kernel_rfl) ?_
    refine s_qk (.iface 81 (.int .i64 8)) (by kernel_rfl) ?_
    refine s_nil ?_
    refine k44 _ _ ?_
    refine w_ret (bl_ret (th_ret ?_))
    refine b_ret (fn := Try.f63) (vs := [.iface 81 (.int .i64 8)]) (aRes_tmp (by kernel_rfl) (rfl)) ?_
    obtain rfl := Option.some.inj r43
    exact ⟨(.iface 81 (.int .i64 8)), [], rfl, ((FrS.refl (W := []) wf).extR e9), Ev.no, Inn.nil⟩
   ·have r45 := ite_f h42 r40
    refine s_qk (.bool false) (by kernel_rfl) ?_
    refine s_qk (.pointer (some ⟨b7, 2, none⟩)) (by kernel_rfl) ?_
    refine s_ql (.int .i64 Weight) (x := aLoad Try.prog 3 (.pointer (some ⟨b7, 2, none⟩)) H8) (by kernel_rfl) (r11.ld (by kernel_rfl)) ?_
    refine s_qk (.bool (decide (Weight > 2147483647))) (by kernel_rfl) ?_
    refine s_qk (.bool (decide (Weight > 2147483647))) (by kernel_rfl) ?_
    refine s_qk (.bool (decide (Weight > 2147483647))) (by kernel_rfl) ?_
    refine s_nil ?_
    refine k41 _ _ ?_
    refine w_condp (Weight > 2147483647) (by kernel_rfl) rfl (fun h46 => ?_) (fun h46 => ?_)
    ·have r47 := ite_t h46 r45
     refine w_seqk fun K48 k48 => ?_
     refine w_reg (by kernel_rfl) ?_
     refine s_qk (.iface 81 (.int .i64 8)) (by kernel_rfl) ?_
     refine s_qk (.iface 81 (.int .i64 8)) (by kernel_rfl) ?_
     refine s_nil ?_
     refine k48 _ _ ?_
     refine w_ret (bl_ret (th_ret ?_))
     refine b_ret (fn := Try.f63) (vs := [.iface 81 (.int .i64 8)]) (aRes_tmp (by kernel_rfl) (rfl)) ?_
     obtain rfl := Option.some.inj r47
     exact ⟨(.iface 81 (.int .i64 8)), [], rfl, ((FrS.refl (W := []) wf).extR e9), Ev.no, Inn.nil⟩
    ·have r49 := ite_f h46 r45
     refine w_skip ?_
     refine k13 _ _ ?_
     refine w_seqk fun K50 k50 => ?_
     refine w_reg (by kernel_rfl) ?_
     refine s_qk (.nilIface) (by kernel_rfl) ?_
     refine s_nil ?_
     refine k50 _ _ ?_
     refine w_ret ?_
     refine b_ret (fn := Try.f63) (vs := [.nilIface]) (aRes_tmp (by kernel_rfl) (rfl)) ?_
     obtain rfl := Option.some.inj r49
     exact ⟨(.nilIface), [], rfl, ((FrS.refl (W := []) wf).extR e9), Ev.nil, Inn.nil⟩

theorem c_fault_At {H : AH} {ev_err : Value} {fp_err : Fp} {kind : Int} {at_ : Int} {err : Er} {r : Er}
  (wf : WF H) (h_err : Ev 81 111 H ev_err err fp_err) (hr : z_fault_At kind at_ err = some r) :
  ACalls Try.prog 61 #[.int .i64 kind, .int .i64 at_, ev_err] H fun v H' => ∃ (v3 : Value) (f4 : Fp), v = v3 ∧ FrS [] H H' ∧ Ev 81 111 H' v3 r f4 ∧ Inn fp_err H f4 := by
 refine acalls_of_body mixed Try.func61 rfl (Nat.le_of_ble_eq_true rfl) ?_
 unfold z_fault_At at hr
 refine w_seqk fun K6 k6 => ?_
 refine w_reg (by kernel_rfl) ?_
 refine s_qk (.nilIface) (by kernel_rfl) ?_
 refine s_nil ?_
 refine k6 _ _ ?_
 refine w_seqk fun K7 k7 => ?_
 refine w_seqk fun K8 k8 => ?_
 refine w_reg (by kernel_rfl) ?_
 refine s_qk (ev_err) (by kernel_rfl) ?_
 rcases (h_err).cases with ⟨h9, rfl⟩ | ⟨h9, t10, x11, rfl⟩
 ·have r12 := ite_t h9 hr
  refine s_qk (.bool true) (by kernel_rfl) ?_
  refine s_nil ?_
  refine k8 _ _ ?_
  refine w_cond true (by kernel_rfl) rfl (fun _ => ?_) (fun h => by cases h)
  refine w_seqk fun K13 k13 => ?_
  refine w_reg (by kernel_rfl) ?_
  refine s_qk (.nilIface) (by kernel_rfl) ?_
  refine s_nil ?_
  refine k13 _ _ ?_
  refine w_ret (th_ret ?_)
  refine b_ret (fn := Try.f61) (vs := [.nilIface]) (aRes_tmp (by kernel_rfl) (rfl)) ?_
  obtain rfl := Option.some.inj r12
  exact ⟨(.nilIface), [], rfl, (FrS.refl (W := []) wf), Ev.nil, Inn.nil⟩
 ·have r14 := ite_f h9 hr
  refine s_ql (.bool false) (x := aBin Try.prog .eql 27 (.tmp 7) (.const .nilIface) (.iface t10 x11) .nilIface) (by kernel_rfl) (aBin_nil (by kernel_rfl)) ?_
  refine s_nil ?_
  refine k8 _ _ ?_
  refine w_cond false (by kernel_rfl) rfl (fun h => by cases h) (fun _ => ?_)
  refine w_skip ?_
  refine k7 _ _ ?_
  refine w_seqk fun K15 k15 => ?_
  refine w_reg (by kernel_rfl) ?_
  refine s_qk (.int .i64 kind) (by kernel_rfl) ?_
  refine s_qk (.int .i64 at_) (by kernel_rfl) ?_
  refine s_qk (.agg #[.int .i64 kind, .int .i64 at_]) (by kernel_rfl) ?_
  refine s_qk (.iface t10 x11) (by kernel_rfl) ?_
  refine s_qk (.agg #[.int .i64 kind, .int .i64 at_, .iface t10 x11]) (by kernel_rfl) ?_
  refine s_rwl wf [.int .i64 kind, .int .i64 at_, .iface t10 x11] (one_cons (rfl) (one_cons (rfl) (one_cons (h_err.one1) (one_nil)))) (by kernel_rfl) fun b16 H17 e18 hb19 r20 => ?_
  have u22 := (h_err.ext e18)
  obtain ⟨fq23, he24, hi25⟩ := Ev.at r20 u22 hb19
  refine s_qk (.iface 111 (.pointer (some ⟨b16, 0, none⟩))) (by kernel_rfl) ?_
  refine s_qk (.iface 111 (.pointer (some ⟨b16, 0, none⟩))) (by kernel_rfl) ?_
  refine s_nil ?_
  refine k15 _ _ ?_
  refine w_ret ?_
  refine b_ret (fn := Try.f61) (vs := [.iface 111 (.pointer (some ⟨b16, 0, none⟩))]) (aRes_tmp (by kernel_rfl) (rfl)) ?_
  obtain rfl := Option.some.inj r14
  exact ⟨(.iface 111 (.pointer (some ⟨b16, 0, none⟩))), fq23, rfl, ((FrS.refl (W := []) wf).extR e18), he24, (Inn.trans Inn.refl' (Nat.le_refl _) hi25)⟩

theorem c_gtext_Check {H : AH} {hd_Arcs : Value} {fp_Arcs : Fp} {N_ : Int} {Arcs : List (Int × Int × Int)} {r : Er}
  (wf : WF H) (h_Arcs : Sq enc_i64_i64_i64 3 H hd_Arcs Arcs fp_Arcs) (hr : z_gtext_Check N_ Arcs = some r) :
  ACalls Try.prog 38 #[.agg #[.int .i64 N_, hd_Arcs]] H fun v H' => ∃ (v3 : Value) (f4 : Fp), v = v3 ∧ FrS [] H H' ∧ Ev 81 111 H' v3 r f4 ∧ Inn [] H f4 := by
 refine acalls_of_body mixed Try.func38 rfl (Nat.le_of_ble_eq_true rfl) ?_
 unfold z_gtext_Check at hr
 refine w_seqk fun K6 k6 => ?_
 refine w_reg (by kernel_rfl) ?_
 refine s_rwl wf [.int .i64 N_, hd_Arcs] (one_cons (rfl) (one_cons (h_Arcs.one1) (one_nil))) (by kernel_rfl) fun b7 H8 e9 hb10 r11 => ?_
 refine s_qk (.nilIface) (by kernel_rfl) ?_
 refine s_nil ?_
 refine k6 _ _ ?_
 refine w_seqk fun K13 k13 => ?_
 refine w_seqk fun K14 k14 => ?_
 obtain ⟨o15, hx16, r17⟩ := bind_some hr
 refine w_mid (fun α H18 => Has α [(1, .pointer (some ⟨b7, 0, none⟩)), (19, .bool o15)] ∧ H8 = H18) (fun K20 k20 => ?_) (fun α H18 hM => ?_)
 ·refine w_reg (by kernel_rfl) ?_
  refine s_qk (.pointer (some ⟨b7, 0, none⟩)) (by kernel_rfl) ?_
  refine s_ql (.int .i64 N_) (x := aLoad Try.prog 3 (.pointer (some ⟨b7, 0, none⟩)) H8) (by kernel_rfl) (r11.ld (by kernel_rfl)) ?_
  refine s_b (N_ < 0) (by kernel_rfl) (fun h22 => ?_) (fun h22 => ?_)
  ·have r23 := ite_t h22 hx16
   refine s_qk (.bool true) (by kernel_rfl) ?_
   refine s_no (by kernel_rfl) ?_
   refine s_no (by kernel_rfl) ?_
   refine s_no (by kernel_rfl) ?_
   refine s_qk (.bool true) (by kernel_rfl) ?_
   refine s_qk (.bool true) (by kernel_rfl) ?_
   refine s_no (by kernel_rfl) ?_
   refine s_no (by kernel_rfl) ?_
   refine s_no (by kernel_rfl) ?_
   refine s_no (by kernel_rfl) ?_
   refine s_qk (.bool true) (by kernel_rfl) ?_
   refine s_nil ?_
   obtain rfl := Option.some.inj r23
   exact k20 _ _ ⟨⟨by kernel_rfl, by kernel_rfl, trivial⟩, rfl⟩
  ·have r24 := ite_f h22 hx16
   refine s_qk (.bool false) (by kernel_rfl) ?_
   refine s_qk (.pointer (some ⟨b7, 0, none⟩)) (by kernel_rfl) ?_
   refine s_ql (.int .i64 N_) (x := aLoad Try.prog 3 (.pointer (some ⟨b7, 0, none⟩)) H8) (by kernel_rfl) (r11.ld (by kernel_rfl)) ?_
   refine s_b (N_ > 65536) (by kernel_rfl) (fun h25 => ?_) (fun h25 => ?_)
   ·have r26 := ite_t h25 r24
    refine s_qk (.bool true) (by kernel_rfl) ?_
    refine s_qk (.bool true) (by kernel_rfl) ?_
    refine s_no (by kernel_rfl) ?_
    refine s_no (by kernel_rfl) ?_
    refine s_no (by kernel_rfl) ?_
    refine s_no (by kernel_rfl) ?_
    refine s_qk (.bool true) (by kernel_rfl) ?_
    refine s_nil ?_
    obtain rfl := Option.some.inj r26
    exact k20 _ _ ⟨⟨by kernel_rfl, by kernel_rfl, trivial⟩, rfl⟩
   ·have r27 := ite_f h25 r24
    refine s_qk (.bool false) (by kernel_rfl) ?_
    refine s_qk (.bool false) (by kernel_rfl) ?_
    refine s_qk (.pointer (some ⟨b7, 1, none⟩)) (by kernel_rfl) ?_
    refine s_ql (hd_Arcs) (x := aLoad Try.prog 22 (.pointer (some ⟨b7, 1, none⟩)) H8) (by kernel_rfl) (r11.ld (by kernel_rfl)) ?_
    have u28 := (h_Arcs.ext e9)
    refine s_ql (.int .i64 (Arcs.length : Int)) (x := aLen Try.prog 22 hd_Arcs H8) (by kernel_rfl) (u28.lenb (by kernel_rfl)) ?_
    refine s_qk (.bool (decide ((Arcs.length : Int) > 262144))) (by kernel_rfl) ?_
    refine s_qk (.bool (decide ((Arcs.length : Int) > 262144))) (by kernel_rfl) ?_
    refine s_nil ?_
    obtain rfl := Option.some.inj r27
    exact k20 _ _ ⟨⟨by kernel_rfl, by kernel_rfl, trivial⟩, rfl⟩
 ·obtain ⟨hh21, rfl⟩ := hM
  obtain ⟨β, rfl⟩ := has_ex hh21
  clear hh21
  refine k14 _ _ ?_
  refine w_cond (o15) (by kernel_rfl) rfl (fun h29 => ?_) (fun h29 => ?_)
  ·have r30 := ite_t h29 r17
   refine w_seqk fun K31 k31 => ?_
   refine w_reg (by kernel_rfl) ?_
   refine s_qk (.iface 81 (.int .i64 9)) (by kernel_rfl) ?_
   refine s_qk (.iface 81 (.int .i64 9)) (by kernel_rfl) ?_
   refine s_nil ?_
   refine k31 _ _ ?_
   refine w_ret (th_ret ?_)
   refine b_ret (fn := Try.f38) (vs := [.iface 81 (.int .i64 9)]) (aRes_tmp (by kernel_rfl) (rfl)) ?_
   obtain rfl := Option.some.inj r30
   exact ⟨(.iface 81 (.int .i64 9)), [], rfl, ((FrS.refl (W := []) wf).extR e9), Ev.no, Inn.nil⟩
  ·have r32 := ite_bf h29 r17
   refine w_skip ?_
   refine k13 _ _ ?_
   refine w_seqk fun K33 k33 => ?_
   refine w_seqk fun K34 k34 => ?_
   refine w_reg (by kernel_rfl) ?_
   refine s_qk (.pointer (some ⟨b7, 1, none⟩)) (by kernel_rfl) ?_
   refine s_ql (hd_Arcs) (x := aLoad Try.prog 22 (.pointer (some ⟨b7, 1, none⟩)) H8) (by kernel_rfl) (r11.ld (by kernel_rfl)) ?_
   have u35 := (h_Arcs.ext e9)
   refine s_ql (.int .i64 (Arcs.length : Int)) (x := aLen Try.prog 22 hd_Arcs H8) (by kernel_rfl) (u35.lenb (by kernel_rfl)) ?_
   refine s_qk (.int .i64 0) (by kernel_rfl) ?_
   refine s_nil ?_
   refine k34 _ _ ?_
   obtain ⟨z39, hx37, r38⟩ := bind_some r32
   refine w_mid (fun α H40 => ∃ o36, z39 = Sum.inr o36 ∧ Has α [] ∧ FrS [] H8 H40) (fun K42 k42 => ?_) (fun α H40 hM => ?_)
   ·refine w_block ?_
    obtain ⟨n44, hn45⟩ := loopO_iff.1 hx37
    refine w_loopn (fun n α H46 => ∃ (i0 : Int), iterO (fun zz_ => z_gtext_Check_l0 N_ Arcs zz_) n i0 = some z39 ∧ Has α [(1, .pointer (some ⟨b7, 0, none⟩)), (22, hd_Arcs), (23, .int .i64 (Arcs.length : Int)), (24, .int .i64 i0)] ∧ FrS [] H8 H46) n44 ⟨0, hn45, ⟨by kernel_rfl, by kernel_rfl, by kernel_rfl, by kernel_rfl, trivial⟩, (FrS.refl (W := []) e9.wf)⟩ ?_
    rintro n44 α H46 ⟨i0, hi49, hh48, e47⟩ K54 k54
    obtain ⟨n50, z51, rfl, hz52, hn53⟩ := iter_succ hi49
    obtain ⟨β, rfl⟩ := has_ex hh48
    clear hh48
    replace hz52 : z_gtext_Check_l0 N_ Arcs i0 = some z51 := hz52
    unfold z_gtext_Check_l0 at hz52
    refine w_seqk fun K55 k55 => ?_
    refine w_reg (by kernel_rfl) ?_
    refine s_qk (.bool (decide (i0 < (Arcs.length : Int)))) (by kernel_rfl) ?_
    refine s_nil ?_
    refine k55 _ _ ?_
    refine w_seqk fun K56 k56 => ?_
    refine w_condp (i0 < (Arcs.length : Int)) (by kernel_rfl) rfl (fun h57 => ?_) (fun h57 => ?_)
    ·have r58 := ite_t h57 hz52
     refine w_skip ?_
     refine k56 _ _ ?_
     refine w_seqk fun K59 k59 => ?_
     refine w_block ?_
     refine w_seqk fun K60 k60 => ?_
     refine w_reg (by kernel_rfl) ?_
     refine s_qk (.int .i64 i0) (by kernel_rfl) ?_
     obtain ⟨g61, r62⟩ := G_some r58
     have u63 := (u35.fr e47 Dj.nil_l)
     refine s_ql (elp hd_Arcs 3 i0.toNat 0) (x := aIndexAddr Try.prog 22 hd_Arcs (.int .i64 i0)) (by kernel_rfl) (u63.idxb (by kernel_rfl) g61 h57) ?_
     refine s_ql (.agg #[.int .i64 ((gt Arcs i0).1), .int .i64 ((gt Arcs i0).2.1), .int .i64 ((gt Arcs i0).2.2)]) (x := aLoad Try.prog 34 (elp hd_Arcs 3 i0.toNat 0) H46) (by kernel_rfl) (u63.ld g61 h57 (by kernel_rfl)) ?_
     refine s_rwk e47.wf [.int .i64 0, .int .i64 0, .int .i64 0] (by kernel_rfl) fun b64 H65 e66 hb67 r68 => ?_
     refine s_qk (.int .i64 i0) (by kernel_rfl) ?_
     obtain ⟨H70, q71, e72, r73⟩ := Row.store (P := Try.prog) (t := 34) (p := 0) e66.wf r68 (.agg #[.int .i64 ((gt Arcs i0).1), .int .i64 ((gt Arcs i0).2.1), .int .i64 ((gt Arcs i0).2.2)]) [.int .i64 ((gt Arcs i0).1), .int .i64 ((gt Arcs i0).2.1), .int .i64 ((gt Arcs i0).2.2)] (by kernel_rfl) (by kernel_rfl) (one_cons (rfl) (one_cons (rfl) (one_cons (rfl) (one_nil)))) (Nat.le_of_ble_eq_true (by kernel_rfl)) [.int .i64 ((gt Arcs i0).1), .int .i64 ((gt Arcs i0).2.1), .int .i64 ((gt Arcs i0).2.2)] (by kernel_rfl)
     refine s_ek (undef) (by kernel_rfl) (map_ok q71) ?_
     refine s_nil ?_
     refine k60 _ _ ?_
     refine w_seqk fun K74 k74 => ?_
     refine w_reg (by kernel_rfl) ?_
     refine s_ql (.agg #[.int .i64 ((gt Arcs i0).1), .int .i64 ((gt Arcs i0).2.1), .int .i64 ((gt Arcs i0).2.2)]) (x := aLoad Try.prog 34 (.pointer (some ⟨b64, 0, none⟩)) H70) (by kernel_rfl) (r73.ld (by kernel_rfl)) ?_
     refine s_qk (.pointer (some ⟨b7, 0, none⟩)) (by kernel_rfl) ?_
     have u75 := (((r11.frS e47 Dj.nil_l).ext e66).frS e72 (hb67.djn (r11.ltF.le e47.next)))
     refine s_ql (.int .i64 N_) (x := aLoad Try.prog 3 (.pointer (some ⟨b7, 0, none⟩)) H70) (by kernel_rfl) (u75.ld (by kernel_rfl)) ?_
     obtain ⟨y76, hy77, r78⟩ := bind_some r62
     refine s_ck 63 #[.agg #[.int .i64 ((gt Arcs i0).1), .int .i64 ((gt Arcs i0).2.1), .int .i64 ((gt Arcs i0).2.2)], .int .i64 N_] (by kernel_rfl) (c_gtext_arc e72.wf hy77) ?_
     rintro v79 H81 ⟨_, f80, rfl, e82, m83, i84⟩
     refine s_qk (v79) (by kernel_rfl) ?_
     refine s_nil ?_
     refine k74 _ _ ?_
     refine w_seqk fun K86 k86 => ?_
     refine w_reg (by kernel_rfl) ?_
     refine s_qk (v79) (by kernel_rfl) ?_
     rcases (m83).cases with ⟨h87, rfl⟩ | ⟨h87, t88, x89, rfl⟩
     ·have r90 := ite_t h87 r78
      refine s_qk (.bool false) (by kernel_rfl) ?_
      refine s_nil ?_
      refine k86 _ _ ?_
      refine w_cond false (by kernel_rfl) rfl (fun h => by cases h) (fun _ => ?_)
      refine w_skip ?_
      refine k59 _ _ ?_
      refine w_reg (by kernel_rfl) ?_
      obtain ⟨g91, r92⟩ := G_some r90
      refine s_w ((i0 + 1)) (k := .i64) (x := (i0 + 1)) (by kernel_rfl) (wrap64 (by have := g91; omega)) ?_
      refine s_qk (.int .i64 (i0 + 1)) (by kernel_rfl) ?_
      refine s_nil ?_
      obtain rfl := Option.some.inj r92
      exact k54 n50 _ _ (Nat.lt_succ_self _) ⟨(i0 + 1), hn53, ⟨by kernel_rfl, by kernel_rfl, by kernel_rfl, by kernel_rfl, trivial⟩, (FrS.step e9.wf (FrS.step e9.wf ((FrS.step e9.wf (FrS.refl (W := []) e9.wf) e47 Inn.nil).extR e66) e72 (hb67.fresh e47.next)) e82 Inn.nil)⟩
     ·have r93 := ite_f h87 r78
      refine s_ql (.bool true) (x := aBin Try.prog .neq 27 (.tmp 33) (.const .nilIface) (.iface t88 x89) .nilIface) (by kernel_rfl) (aBin_nnil (by kernel_rfl)) ?_
      refine s_nil ?_
      refine k86 _ _ ?_
      refine w_cond true (by kernel_rfl) rfl (fun _ => ?_) (fun h => by cases h)
      refine w_seqk fun K94 k94 => ?_
      refine w_reg (by kernel_rfl) ?_
      refine s_qk (.int .i64 i0) (by kernel_rfl) ?_
      refine s_qk (.iface t88 x89) (by kernel_rfl) ?_
      obtain ⟨y95, hy96, r97⟩ := bind_some r93
      refine s_ck 61 #[.int .i64 4, .int .i64 i0, .iface t88 x89] (by kernel_rfl) (c_fault_At e82.wf m83 hy96) ?_
      rintro v98 H100 ⟨_, f99, rfl, e101, m102, i103⟩
      refine s_qk (v98) (by kernel_rfl) ?_
      refine s_nil ?_
      refine k94 _ _ ?_
      refine w_ret (bl_ret (th_ret (th_ret (bl_ret (th_ret (th_ret ?_))))))
      obtain ⟨v105, hv106, hz107⟩ := map_some r97
      subst hz107
      obtain rfl := it_inr hn53
      have hq108 := elim_inl r38
      rw [hq108] at hv106
      refine b_ret (fn := Try.f38) (vs := [v98]) (aRes_tmp (by kernel_rfl) (rfl)) ?_
      obtain rfl := Option.some.inj hv106
      exact ⟨(v98), f99, rfl, (FrS.step wf (FrS.step wf (FrS.step wf ((FrS.step wf ((FrS.refl (W := []) wf).extR e9) e47 Inn.nil).extR e66) e72 (hb67.fresh (ntr e9.next e47.next))) e82 Inn.nil) e101 Inn.nil), m102, (Inn.trans (i84.fresh (ntr (ntr (ntr e9.next e47.next) e66.next) e72.next)) (ntr (ntr (ntr (ntr e9.next e47.next) e66.next) e72.next) e82.next) i103)⟩
    ·have r109 := ite_f h57 hz52
     refine w_exit (th_exit (th_exit (bl_eq ?_)))
     obtain rfl := Option.some.inj r109
     obtain rfl := it_inr hn53
     exact k42 _ _ ⟨_, rfl, trivial, (FrS.step e9.wf (FrS.refl (W := []) e9.wf) e47 Inn.nil)⟩
   ·obtain ⟨o36, rfl, hh43, e41⟩ := hM
    have r110 := elim_inr r38
    obtain ⟨β, rfl⟩ := has_ex hh43
    clear hh43
    refine k33 _ _ ?_
    refine w_seqk fun K111 k111 => ?_
    refine w_reg (by kernel_rfl) ?_
    refine s_qk (.nilIface) (by kernel_rfl) ?_
    refine s_nil ?_
    refine k111 _ _ ?_
    refine w_ret ?_
    refine b_ret (fn := Try.f38) (vs := [.nilIface]) (aRes_tmp (by kernel_rfl) (rfl)) ?_
    obtain rfl := Option.some.inj r110
    exact ⟨(.nilIface), [], rfl, (FrS.step wf ((FrS.refl (W := []) wf).extR e9) e41 Inn.nil), Ev.nil, Inn.nil⟩

theorem c_cmp_isNaN {H : AH} {x : Int} {r : Bool}
  (wf : WF H) (hr : z_cmp_isNaN x = some r) :
  ACalls Try.prog 84 #[.int .i64 x] H fun v H' => v = .bool r ∧ H = H' := by
 refine acalls_of_body mixed Try.func84 rfl (Nat.le_of_ble_eq_true rfl) ?_
 unfold z_cmp_isNaN at hr
 refine w_seqk fun K1 k1 => ?_
 refine w_reg (by kernel_rfl) ?_
 refine s_qk (.bool false) (by kernel_rfl) ?_
 refine s_nil ?_
 refine k1 _ _ ?_
 refine w_seqk fun K2 k2 => ?_
 refine w_reg (by kernel_rfl) ?_
 refine s_qk (.int .i64 x) (by kernel_rfl) ?_
 refine s_qk (.int .i64 x) (by kernel_rfl) ?_
 refine s_qk (.bool (!decide (x = x))) (by kernel_rfl) ?_
 refine s_qk (.bool (!decide (x = x))) (by kernel_rfl) ?_
 refine s_nil ?_
 refine k2 _ _ ?_
 refine w_ret ?_
 refine b_ret (fn := Try.f84) (vs := [.bool (!decide (x = x))]) (aRes_tmp (by kernel_rfl) (rfl)) ?_
 obtain rfl := Option.some.inj hr
 exact ⟨rfl, rfl⟩

theorem c_cmp_Compare {H : AH} {x : Int} {y : Int} {r : Int}
  (wf : WF H) (hr : z_cmp_Compare x y = some r) :
  ACalls Try.prog 67 #[.int .i64 x, .int .i64 y] H fun v H' => v = .int .i64 r ∧ H = H' := by
 refine acalls_of_body mixed Try.func67 rfl (Nat.le_of_ble_eq_true rfl) ?_
 unfold z_cmp_Compare at hr
 refine w_seqk fun K1 k1 => ?_
 refine w_reg (by kernel_rfl) ?_
 refine s_qk (.int .i64 0) (by kernel_rfl) ?_
 refine s_nil ?_
 refine k1 _ _ ?_
 refine w_seqk fun K2 k2 => ?_
 refine w_reg (by kernel_rfl) ?_
 refine s_qk (.int .i64 x) (by kernel_rfl) ?_
 obtain ⟨y3, hy4, r5⟩ := bind_some hr
 refine s_ck 84 #[.int .i64 x] (by kernel_rfl) (c_cmp_isNaN wf hy4) ?_
 rintro _ _ ⟨rfl, rfl⟩
 refine s_qk (.bool y3) (by kernel_rfl) ?_
 refine s_nil ?_
 refine k2 _ _ ?_
 refine w_seqk fun K8 k8 => ?_
 refine w_reg (by kernel_rfl) ?_
 refine s_qk (.int .i64 y) (by kernel_rfl) ?_
 obtain ⟨y9, hy10, r11⟩ := bind_some r5
 refine s_ck 84 #[.int .i64 y] (by kernel_rfl) (c_cmp_isNaN wf hy10) ?_
 rintro _ _ ⟨rfl, rfl⟩
 refine s_qk (.bool y9) (by kernel_rfl) ?_
 refine s_nil ?_
 refine k8 _ _ ?_
 refine w_seqk fun K14 k14 => ?_
 refine w_seqk fun K15 k15 => ?_
 refine w_reg (by kernel_rfl) ?_
 refine s_qk (.bool y3) (by kernel_rfl) ?_
 refine s_nil ?_
 refine k15 _ _ ?_
 refine w_cond (y3) (by kernel_rfl) rfl (fun h16 => ?_) (fun h16 => ?_)
 ·have r17 := ite_t h16 r11
  refine w_seqk fun K18 k18 => ?_
  refine w_seqk fun K19 k19 => ?_
  refine w_reg (by kernel_rfl) ?_
  refine s_qk (.bool y9) (by kernel_rfl) ?_
  refine s_nil ?_
  refine k19 _ _ ?_
  refine w_cond (y9) (by kernel_rfl) rfl (fun h20 => ?_) (fun h20 => ?_)
  ·have r21 := ite_t h20 r17
   refine w_seqk fun K22 k22 => ?_
   refine w_reg (by kernel_rfl) ?_
   refine s_qk (.int .i64 0) (by kernel_rfl) ?_
   refine s_nil ?_
   refine k22 _ _ ?_
   refine w_ret (th_ret (th_ret ?_))
   refine b_ret (fn := Try.f67) (vs := [.int .i64 0]) (aRes_tmp (by kernel_rfl) (rfl)) ?_
   obtain rfl := Option.some.inj r21
   exact ⟨rfl, rfl⟩
  ·have r23 := ite_bf h20 r17
   refine w_skip ?_
   refine k18 _ _ ?_
   refine w_seqk fun K24 k24 => ?_
   refine w_reg (by kernel_rfl) ?_
   refine s_qk (.int .i64 (-1)) (by kernel_rfl) ?_
   refine s_nil ?_
   refine k24 _ _ ?_
   refine w_ret (th_ret ?_)
   refine b_ret (fn := Try.f67) (vs := [.int .i64 (-1)]) (aRes_tmp (by kernel_rfl) (rfl)) ?_
   obtain rfl := Option.some.inj r23
   exact ⟨rfl, rfl⟩
 ·have r25 := ite_bf h16 r11
  refine w_skip ?_
  refine k14 _ _ ?_
  refine w_seqk fun K26 k26 => ?_
  refine w_seqk fun K27 k27 => ?_
  refine w_reg (by kernel_rfl) ?_
  refine s_qk (.bool y9) (by kernel_rfl) ?_
  refine s_nil ?_
  refine k27 _ _ ?_
  refine w_cond (y9) (by kernel_rfl) rfl (fun h28 => ?_) (fun h28 => ?_)
  ·have r29 := ite_t h28 r25
   refine w_seqk fun K30 k30 => ?_
   refine w_reg (by kernel_rfl) ?_
   refine s_qk (.int .i64 1) (by kernel_rfl) ?_
   refine s_nil ?_
   refine k30 _ _ ?_
   refine w_ret (th_ret ?_)
   refine b_ret (fn := Try.f67) (vs := [.int .i64 1]) (aRes_tmp (by kernel_rfl) (rfl)) ?_
   obtain rfl := Option.some.inj r29
   exact ⟨rfl, rfl⟩
  ·have r31 := ite_bf h28 r25
   refine w_skip ?_
   refine k26 _ _ ?_
   refine w_seqk fun K32 k32 => ?_
   refine w_seqk fun K33 k33 => ?_
   refine w_reg (by kernel_rfl) ?_
   refine s_qk (.int .i64 x) (by kernel_rfl) ?_
   refine s_qk (.int .i64 y) (by kernel_rfl) ?_
   refine s_qk (.bool (decide (x < y))) (by kernel_rfl) ?_
   refine s_nil ?_
   refine k33 _ _ ?_
   refine w_condp (x < y) (by kernel_rfl) rfl (fun h34 => ?_) (fun h34 => ?_)
   ·have r35 := ite_t h34 r31
    refine w_seqk fun K36 k36 => ?_
    refine w_reg (by kernel_rfl) ?_
    refine s_qk (.int .i64 (-1)) (by kernel_rfl) ?_
    refine s_nil ?_
    refine k36 _ _ ?_
    refine w_ret (th_ret ?_)
    refine b_ret (fn := Try.f67) (vs := [.int .i64 (-1)]) (aRes_tmp (by kernel_rfl) (rfl)) ?_
    obtain rfl := Option.some.inj r35
    exact ⟨rfl, rfl⟩
   ·have r37 := ite_f h34 r31
    refine w_skip ?_
    refine k32 _ _ ?_
    refine w_seqk fun K38 k38 => ?_
    refine w_seqk fun K39 k39 => ?_
    refine w_reg (by kernel_rfl) ?_
    refine s_qk (.int .i64 x) (by kernel_rfl) ?_
    refine s_qk (.int .i64 y) (by kernel_rfl) ?_
    refine s_qk (.bool (decide (x > y))) (by kernel_rfl) ?_
    refine s_nil ?_
    refine k39 _ _ ?_
    refine w_condp (x > y) (by kernel_rfl) rfl (fun h40 => ?_) (fun h40 => ?_)
    ·have r41 := ite_t h40 r37
     refine w_seqk fun K42 k42 => ?_
     refine w_reg (by kernel_rfl) ?_
     refine s_qk (.int .i64 1) (by kernel_rfl) ?_
     refine s_nil ?_
     refine k42 _ _ ?_
     refine w_ret (th_ret ?_)
     refine b_ret (fn := Try.f67) (vs := [.int .i64 1]) (aRes_tmp (by kernel_rfl) (rfl)) ?_
     obtain rfl := Option.some.inj r41
     exact ⟨rfl, rfl⟩
    ·have r43 := ite_f h40 r37
     refine w_skip ?_
     refine k38 _ _ ?_
     refine w_seqk fun K44 k44 => ?_
     refine w_reg (by kernel_rfl) ?_
     refine s_qk (.int .i64 0) (by kernel_rfl) ?_
     refine s_nil ?_
     refine k44 _ _ ?_
     refine w_ret ?_
     refine b_ret (fn := Try.f67) (vs := [.int .i64 0]) (aRes_tmp (by kernel_rfl) (rfl)) ?_
     obtain rfl := Option.some.inj r43
     exact ⟨rfl, rfl⟩

theorem c_cmp_Or {H : AH} {hd_vals : Value} {fp_vals : Fp} {vals : List (Int)} {r : Int}
  (wf : WF H) (h_vals : Sq (encI .i64) 1 H hd_vals vals fp_vals) (hr : z_cmp_Or vals = some r) :
  ACalls Try.prog 66 #[hd_vals] H fun v H' => v = .int .i64 r ∧ H = H' := by
 refine acalls_of_body mixed Try.func66 rfl (Nat.le_of_ble_eq_true rfl) ?_
 unfold z_cmp_Or at hr
 refine w_seqk fun K1 k1 => ?_
 refine w_reg (by kernel_rfl) ?_
 refine s_qk (.int .i64 0) (by kernel_rfl) ?_
 refine s_nil ?_
 refine k1 _ _ ?_
 refine w_seqk fun K2 k2 => ?_
 refine w_reg (by kernel_rfl) ?_
 refine s_qk (.int .i64 0) (by kernel_rfl) ?_
 refine s_nil ?_
 refine k2 _ _ ?_
 refine w_seqk fun K3 k3 => ?_
 refine w_seqk fun K4 k4 => ?_
 refine w_reg (by kernel_rfl) ?_
 refine s_qk (hd_vals) (by kernel_rfl) ?_
 refine s_ql (.int .i64 (vals.length : Int)) (x := aLen Try.prog 48 hd_vals H) (by kernel_rfl) (h_vals.lenb (by kernel_rfl)) ?_
 refine s_qk (.int .i64 0) (by kernel_rfl) ?_
 refine s_nil ?_
 refine k4 _ _ ?_
 obtain ⟨z8, hx6, r7⟩ := bind_some hr
 refine w_mid (fun α H9 => ∃ o5, z8 = Sum.inr o5 ∧ Has α [(3, .int .i64 0)] ∧ H = H9) (fun K11 k11 => ?_) (fun α H9 hM => ?_)
 ·refine w_block ?_
  obtain ⟨n13, hn14⟩ := loopO_iff.1 hx6
  refine w_loopn (fun n α H15 => ∃ (i0 : Int), iterO (fun zz_ => z_cmp_Or_l0 vals zz_) n i0 = some z8 ∧ Has α [(3, .int .i64 0), (6, hd_vals), (7, .int .i64 (vals.length : Int)), (8, .int .i64 i0)] ∧ H = H15) n13 ⟨0, hn14, ⟨by kernel_rfl, by kernel_rfl, by kernel_rfl, by kernel_rfl, trivial⟩, rfl⟩ ?_
  rintro n13 α H15 ⟨i0, hi18, hh17, rfl⟩ K23 k23
  obtain ⟨n19, z20, rfl, hz21, hn22⟩ := iter_succ hi18
  obtain ⟨β, rfl⟩ := has_ex hh17
  clear hh17
  replace hz21 : z_cmp_Or_l0 vals i0 = some z20 := hz21
  unfold z_cmp_Or_l0 at hz21
  refine w_seqk fun K24 k24 => ?_
  refine w_reg (by kernel_rfl) ?_
  refine s_qk (.bool (decide (i0 < (vals.length : Int)))) (by kernel_rfl) ?_
  refine s_nil ?_
  refine k24 _ _ ?_
  refine w_seqk fun K25 k25 => ?_
  refine w_condp (i0 < (vals.length : Int)) (by kernel_rfl) rfl (fun h26 => ?_) (fun h26 => ?_)
  ·have r27 := ite_t h26 hz21
   refine w_skip ?_
   refine k25 _ _ ?_
   refine w_seqk fun K28 k28 => ?_
   refine w_block ?_
   refine w_seqk fun K29 k29 => ?_
   refine w_reg (by kernel_rfl) ?_
   obtain ⟨g30, r31⟩ := G_some r27
   refine s_ql (elp hd_vals 1 i0.toNat 0) (x := aIndexAddr Try.prog 48 hd_vals (.int .i64 i0)) (by kernel_rfl) (h_vals.idxb (by kernel_rfl) g30 h26) ?_
   refine s_ql (.int .i64 (gt vals i0)) (x := aLoad Try.prog 3 (elp hd_vals 1 i0.toNat 0) H) (by kernel_rfl) (h_vals.ld g30 h26 (by kernel_rfl)) ?_
   refine s_qk (.int .i64 (gt vals i0)) (by kernel_rfl) ?_
   refine s_nil ?_
   refine k29 _ _ ?_
   refine w_seqk fun K32 k32 => ?_
   refine w_reg (by kernel_rfl) ?_
   refine s_qk (.int .i64 (gt vals i0)) (by kernel_rfl) ?_
   refine s_qk (.int .i64 0) (by kernel_rfl) ?_
   refine s_qk (.bool (!decide ((gt vals i0) = 0))) (by kernel_rfl) ?_
   refine s_nil ?_
   refine k32 _ _ ?_
   refine w_condn ((gt vals i0) = 0) (by kernel_rfl) rfl (fun h33 => ?_) (fun h33 => ?_)
   ·have r34 := ite_f h33 r31
    refine w_seqk fun K35 k35 => ?_
    refine w_reg (by kernel_rfl) ?_
    refine s_qk (.int .i64 (gt vals i0)) (by kernel_rfl) ?_
    refine s_qk (.int .i64 (gt vals i0)) (by kernel_rfl) ?_
    refine s_nil ?_
    refine k35 _ _ ?_
    refine w_ret (bl_ret (th_ret (th_ret (bl_ret (th_ret (th_ret ?_))))))
    obtain ⟨v36, hv37, hz38⟩ := map_some r34
    subst hz38
    obtain rfl := it_inr hn22
    have hq39 := elim_inl r7
    rw [hq39] at hv37
    refine b_ret (fn := Try.f66) (vs := [.int .i64 (gt vals i0)]) (aRes_tmp (by kernel_rfl) (rfl)) ?_
    obtain rfl := Option.some.inj hv37
    exact ⟨rfl, rfl⟩
   ·have r40 := ite_t h33 r31
    refine w_skip ?_
    refine k28 _ _ ?_
    refine w_reg (by kernel_rfl) ?_
    obtain ⟨g41, r42⟩ := G_some r40
    refine s_w ((i0 + 1)) (k := .i64) (x := (i0 + 1)) (by kernel_rfl) (wrap64 (by have := g41; omega)) ?_
    refine s_qk (.int .i64 (i0 + 1)) (by kernel_rfl) ?_
    refine s_nil ?_
    obtain rfl := Option.some.inj r42
    exact k23 n19 _ _ (Nat.lt_succ_self _) ⟨(i0 + 1), hn22, ⟨by kernel_rfl, by kernel_rfl, by kernel_rfl, by kernel_rfl, trivial⟩, rfl⟩
  ·have r43 := ite_f h26 hz21
   refine w_exit (th_exit (th_exit (bl_eq ?_)))
   obtain rfl := Option.some.inj r43
   obtain rfl := it_inr hn22
   exact k11 _ _ ⟨_, rfl, ⟨by kernel_rfl, trivial⟩, rfl⟩
 ·obtain ⟨o5, rfl, hh12, rfl⟩ := hM
  have r44 := elim_inr r7
  obtain ⟨β, rfl⟩ := has_ex hh12
  clear hh12
  refine k3 _ _ ?_
  refine w_seqk fun K45 k45 => ?_
  refine w_reg (by kernel_rfl) ?_
  refine s_qk (.int .i64 0) (by kernel_rfl) ?_
  refine s_qk (.int .i64 0) (by kernel_rfl) ?_
  refine s_nil ?_
  refine k45 _ _ ?_
  refine w_ret ?_
  refine b_ret (fn := Try.f66) (vs := [.int .i64 0]) (aRes_tmp (by kernel_rfl) (rfl)) ?_
  obtain rfl := Option.some.inj r44
  exact ⟨rfl, rfl⟩

theorem c_normal_order {H : AH} {From : Int} {To : Int} {Weight : Int} {From_ : Int} {To_ : Int} {Weight_ : Int} {r : Int}
  (wf : WF H) (hr : z_normal_order From To Weight From_ To_ Weight_ = some r) :
  ACalls Try.prog 40 #[.agg #[.int .i64 From, .int .i64 To, .int .i64 Weight], .agg #[.int .i64 From_, .int .i64 To_, .int .i64 Weight_]] H fun v H' => v = .int .i64 r ∧ FrS [] H H' := by
 refine acalls_of_body mixed Try.func40 rfl (Nat.le_of_ble_eq_true rfl) ?_
 unfold z_normal_order at hr
 refine w_seqk fun K1 k1 => ?_
 refine w_reg (by kernel_rfl) ?_
 refine s_rwl wf [.int .i64 From, .int .i64 To, .int .i64 Weight] (one_cons (rfl) (one_cons (rfl) (one_cons (rfl) (one_nil)))) (by kernel_rfl) fun b2 H3 e4 hb5 r6 => ?_
 refine s_rwl e4.wf [.int .i64 From_, .int .i64 To_, .int .i64 Weight_] (one_cons (rfl) (one_cons (rfl) (one_cons (rfl) (one_nil)))) (by kernel_rfl) fun b8 H9 e10 hb11 r12 => ?_
 refine s_qk (.int .i64 0) (by kernel_rfl) ?_
 refine s_nil ?_
 refine k1 _ _ ?_
 refine w_seqk fun K14 k14 => ?_
 refine w_draw [0, 1, 2, 3, 5, 6, 7, 8, 10, 11, 12, 13, 4, 9, 14, 15, 16, 17] (by kernel_rfl) ?_
 refine d_qk (.pointer (some ⟨b2, 0, none⟩)) (by kernel_rfl) ?_
 have u15 := (r6.ext e10)
 refine d_ql (.int .i64 From) (x := aLoad Try.prog 3 (.pointer (some ⟨b2, 0, none⟩)) H9) (by kernel_rfl) (u15.ld (by kernel_rfl)) ?_
 refine d_qk (.pointer (some ⟨b8, 0, none⟩)) (by kernel_rfl) ?_
 refine d_ql (.int .i64 From_) (x := aLoad Try.prog 3 (.pointer (some ⟨b8, 0, none⟩)) H9) (by kernel_rfl) (r12.ld (by kernel_rfl)) ?_
 refine d_qk (.pointer (some ⟨b2, 1, none⟩)) (by kernel_rfl) ?_
 refine d_fl (.int .i64 To) (x := aLoad Try.prog 3 (.pointer (some ⟨b2, 1, none⟩)) H9) (by kernel_rfl) (u15.ld (by kernel_rfl)) ?_
 refine d_qk (.pointer (some ⟨b8, 1, none⟩)) (by kernel_rfl) ?_
 refine d_fl (.int .i64 To_) (x := aLoad Try.prog 3 (.pointer (some ⟨b8, 1, none⟩)) H9) (by kernel_rfl) (r12.ld (by kernel_rfl)) ?_
 refine d_qk (.pointer (some ⟨b2, 2, none⟩)) (by kernel_rfl) ?_
 refine d_fl (.int .i64 Weight) (x := aLoad Try.prog 3 (.pointer (some ⟨b2, 2, none⟩)) H9) (by kernel_rfl) (u15.ld (by kernel_rfl)) ?_
 refine d_qk (.pointer (some ⟨b8, 2, none⟩)) (by kernel_rfl) ?_
 refine d_fl (.int .i64 Weight_) (x := aLoad Try.prog 3 (.pointer (some ⟨b8, 2, none⟩)) H9) (by kernel_rfl) (r12.ld (by kernel_rfl)) ?_
 obtain ⟨y16, hy17, r18⟩ := bind_some hr
 refine d_ck 67 #[.int .i64 From, .int .i64 From_] (by kernel_rfl) (c_cmp_Compare e10.wf hy17) ?_
 rintro _ _ ⟨rfl, rfl⟩
 refine ⟨st_ql (y := aLoad Try.prog 3 (.pointer (some ⟨b8, 2, none⟩)) H9) (by kernel_rfl) (r12.ld (by kernel_rfl)) (st_ql (y := aLoad Try.prog 3 (.pointer (some ⟨b2, 2, none⟩)) H9) (by kernel_rfl) (u15.ld (by kernel_rfl)) (st_ql (y := aLoad Try.prog 3 (.pointer (some ⟨b8, 1, none⟩)) H9) (by kernel_rfl) (r12.ld (by kernel_rfl)) (st_ql (y := aLoad Try.prog 3 (.pointer (some ⟨b2, 1, none⟩)) H9) (by kernel_rfl) (u15.ld (by kernel_rfl)) (st_nil)))), ?_⟩
 obtain ⟨y21, hy22, r23⟩ := bind_some r18
 refine d_ck 67 #[.int .i64 To, .int .i64 To_] (by kernel_rfl) (c_cmp_Compare e10.wf hy22) ?_
 rintro _ _ ⟨rfl, rfl⟩
 refine ⟨st_ql (y := aLoad Try.prog 3 (.pointer (some ⟨b8, 2, none⟩)) H9) (by kernel_rfl) (r12.ld (by kernel_rfl)) (st_ql (y := aLoad Try.prog 3 (.pointer (some ⟨b2, 2, none⟩)) H9) (by kernel_rfl) (u15.ld (by kernel_rfl)) (st_anc (by kernel_rfl) (st_anc (by kernel_rfl) (st_nil)))), ?_⟩
 obtain ⟨y26, hy27, r28⟩ := bind_some r23
 refine d_ck 67 #[.int .i64 Weight, .int .i64 Weight_] (by kernel_rfl) (c_cmp_Compare e10.wf hy27) ?_
 rintro _ _ ⟨rfl, rfl⟩
 refine ⟨st_anc (by kernel_rfl) (st_anc (by kernel_rfl) (st_anc (by kernel_rfl) (st_anc (by kernel_rfl) (st_nil)))), ?_⟩
 refine d_owk (enc := (encI .i64)) (sz := 1) e10.wf [y16, y21, y26] 3 (by decide) (fun _ _ => rfl) (fun _ _ => rfl) rfl (by kernel_rfl) fun s31 f32 H33 e34 hf35 hm36 => ?_
 obtain ⟨a37, n38, c39, rfl⟩ := hm36.form
 obtain ⟨y41, hy42, r43⟩ := bind_some r28
 refine d_ck 66 #[.slice a37 n38 c39] (by kernel_rfl) (c_cmp_Or e34.wf hm36.sq hy42) ?_
 rintro _ _ ⟨rfl, rfl⟩
 refine ⟨st_anc (by kernel_rfl) (st_anc (by kernel_rfl) (st_anc (by kernel_rfl) (st_anc (by kernel_rfl) (st_nil)))), ?_⟩
 refine d_qk (.int .i64 y41) (by kernel_rfl) ?_
 refine d_nil ?_
 refine k14 _ _ ?_
 refine w_ret ?_
 refine b_ret (fn := Try.f40) (vs := [.int .i64 y41]) (aRes_tmp (by kernel_rfl) (rfl)) ?_
 obtain rfl := Option.some.inj r43
 exact ⟨rfl, ((((FrS.refl (W := []) wf).extR e4).extR e10).extR e34)⟩

theorem c_normal_Of_1 {H : AH} {From : Int} {To : Int} {Weight : Int} {From_ : Int} {To_ : Int} {Weight_ : Int} {r : Bool}
  (wf : WF H) (hr : z_normal_Of_1 From To Weight From_ To_ Weight_ = some r) :
  ACalls Try.prog 42 #[.agg #[.int .i64 From, .int .i64 To, .int .i64 Weight], .agg #[.int .i64 From_, .int .i64 To_, .int .i64 Weight_]] H fun v H' => v = .bool r ∧ FrS [] H H' := by
 refine acalls_of_body mixed Try.func42 rfl (Nat.le_of_ble_eq_true rfl) ?_
 unfold z_normal_Of_1 at hr
 refine w_seqk fun K1 k1 => ?_
 refine w_reg (by kernel_rfl) ?_
 refine s_rwl wf [.int .i64 From, .int .i64 To, .int .i64 Weight] (one_cons (rfl) (one_cons (rfl) (one_cons (rfl) (one_nil)))) (by kernel_rfl) fun b2 H3 e4 hb5 r6 => ?_
 refine s_rwl e4.wf [.int .i64 From_, .int .i64 To_, .int .i64 Weight_] (one_cons (rfl) (one_cons (rfl) (one_cons (rfl) (one_nil)))) (by kernel_rfl) fun b8 H9 e10 hb11 r12 => ?_
 refine s_qk (.bool false) (by kernel_rfl) ?_
 refine s_nil ?_
 refine k1 _ _ ?_
 refine w_seqk fun K14 k14 => ?_
 refine w_reg (by kernel_rfl) ?_
 refine s_qk (.pointer (some ⟨b2, 0, none⟩)) (by kernel_rfl) ?_
 have u15 := (r6.ext e10)
 refine s_ql (.int .i64 From) (x := aLoad Try.prog 3 (.pointer (some ⟨b2, 0, none⟩)) H9) (by kernel_rfl) (u15.ld (by kernel_rfl)) ?_
 refine s_qk (.pointer (some ⟨b8, 0, none⟩)) (by kernel_rfl) ?_
 refine s_ql (.int .i64 From_) (x := aLoad Try.prog 3 (.pointer (some ⟨b8, 0, none⟩)) H9) (by kernel_rfl) (r12.ld (by kernel_rfl)) ?_
 refine s_b (From = From_) (by kernel_rfl) (fun h16 => ?_) (fun h16 => ?_)
 ·have r17 := ite_t h16 hr
  refine s_qk (.bool true) (by kernel_rfl) ?_
  refine s_qk (.pointer (some ⟨b2, 1, none⟩)) (by kernel_rfl) ?_
  refine s_ql (.int .i64 To) (x := aLoad Try.prog 3 (.pointer (some ⟨b2, 1, none⟩)) H9) (by kernel_rfl) (u15.ld (by kernel_rfl)) ?_
  refine s_qk (.pointer (some ⟨b8, 1, none⟩)) (by kernel_rfl) ?_
  refine s_ql (.int .i64 To_) (x := aLoad Try.prog 3 (.pointer (some ⟨b8, 1, none⟩)) H9) (by kernel_rfl) (r12.ld (by kernel_rfl)) ?_
  refine s_qk (.bool (decide (To = To_))) (by kernel_rfl) ?_
  refine s_qk (.bool (decide (To = To_))) (by kernel_rfl) ?_
  refine s_qk (.bool (decide (To = To_))) (by kernel_rfl) ?_
  refine s_nil ?_
  refine k14 _ _ ?_
  refine w_ret ?_
  refine b_ret (fn := Try.f42) (vs := [.bool (decide (To = To_))]) (aRes_tmp (by kernel_rfl) (rfl)) ?_
  obtain rfl := Option.some.inj r17
  exact ⟨rfl, (((FrS.refl (W := []) wf).extR e4).extR e10)⟩
 ·have r18 := ite_f h16 hr
  refine s_qk (.bool false) (by kernel_rfl) ?_
  refine s_no (by kernel_rfl) ?_
  refine s_no (by kernel_rfl) ?_
  refine s_no (by kernel_rfl) ?_
  refine s_no (by kernel_rfl) ?_
  refine s_no (by kernel_rfl) ?_
  refine s_qk (.bool false) (by kernel_rfl) ?_
  refine s_qk (.bool false) (by kernel_rfl) ?_
  refine s_nil ?_
  refine k14 _ _ ?_
  refine w_ret ?_
  refine b_ret (fn := Try.f42) (vs := [.bool false]) (aRes_tmp (by kernel_rfl) (rfl)) ?_
  obtain rfl := Option.some.inj r18
  exact ⟨rfl, (((FrS.refl (W := []) wf).extR e4).extR e10)⟩

theorem c_slices_CompactFunc {H : AH} {hd_s : Value} {fp_s : Fp} {s : List (Int × Int × Int)} {r : List (Int × Int × Int) × List (Int × Int × Int)}
  (wf : WF H) (h_s : Ow enc_i64_i64_i64 3 H hd_s s fp_s) (hr : z_slices_CompactFunc s = some r) :
  ACalls Try.prog 41 #[hd_s, .func (.func 42) #[] #[]] H fun v H' => ∃ (s3 : Value), v = s3 ∧ FrS fp_s H H' ∧ Ow enc_i64_i64_i64 3 H' s3 r.1 fp_s ∧ Ow enc_i64_i64_i64 3 H' hd_s r.2 fp_s := by
 refine acalls_of_body mixed Try.func41 rfl (Nat.le_of_ble_eq_true rfl) ?_
 unfold z_slices_CompactFunc at hr
 refine w_seqk fun K6 k6 => ?_
 refine w_reg (by kernel_rfl) ?_
 refine s_qk (.slice none 0 0) (by kernel_rfl) ?_
 refine s_nil ?_
 refine k6 _ _ ?_
 refine w_seqk fun K7 k7 => ?_
 refine w_seqk fun K8 k8 => ?_
 refine w_reg (by kernel_rfl) ?_
 refine s_qk (hd_s) (by kernel_rfl) ?_
 refine s_ql (.int .i64 (s.length : Int)) (x := aLen Try.prog 22 hd_s H) (by kernel_rfl) (h_s.sq.lenb (by kernel_rfl)) ?_
 refine s_qk (.bool (decide ((s.length : Int) < 2))) (by kernel_rfl) ?_
 refine s_nil ?_
 refine k8 _ _ ?_
 refine w_condp ((s.length : Int) < 2) (by kernel_rfl) rfl (fun h9 => ?_) (fun h9 => ?_)
 ·have r10 := ite_t h9 hr
  refine w_seqk fun K11 k11 => ?_
  refine w_reg (by kernel_rfl) ?_
  refine s_qk (hd_s) (by kernel_rfl) ?_
  refine s_qk (hd_s) (by kernel_rfl) ?_
  refine s_nil ?_
  refine k11 _ _ ?_
  refine w_ret (th_ret ?_)
  refine b_ret (fn := Try.f41) (vs := [hd_s]) (aRes_tmp (by kernel_rfl) (rfl)) ?_
  obtain rfl := Option.some.inj r10
  exact ⟨(hd_s), rfl, (FrS.refl (W := fp_s) wf), h_s, h_s⟩
 ·have r12 := ite_f h9 hr
  refine w_skip ?_
  refine k7 _ _ ?_
  refine w_seqk fun K13 k13 => ?_
  refine w_seqk fun K14 k14 => ?_
  refine w_reg (by kernel_rfl) ?_
  refine s_qk (.int .i64 1) (by kernel_rfl) ?_
  refine s_nil ?_
  refine k14 _ _ ?_
  obtain ⟨z18, hx16, r17⟩ := bind_some r12
  refine w_mid (fun α H19 => ∃ o15, z18 = Sum.inr o15 ∧ Has α [(0, hd_s)] ∧ FrS [] H H19) (fun K21 k21 => ?_) (fun α H19 hM => ?_)
  ·refine w_block ?_
   obtain ⟨n23, hn24⟩ := loopO_iff.1 hx16
   refine w_loopn (fun n α H25 => ∃ (k3 : Int), iterO (fun zz_ => z_slices_CompactFunc_l1 s zz_) n k3 = some z18 ∧ Has α [(0, hd_s), (1, .func (.func 42) #[] #[]), (5, .int .i64 k3)] ∧ FrS [] H H25) n23 ⟨1, hn24, ⟨by kernel_rfl, by kernel_rfl, by kernel_rfl, trivial⟩, (FrS.refl (W := []) wf)⟩ ?_
   rintro n23 α H25 ⟨k3, hi28, hh27, e26⟩ K33 k33
   obtain ⟨n29, z30, rfl, hz31, hn32⟩ := iter_succ hi28
   obtain ⟨β, rfl⟩ := has_ex hh27
   clear hh27
   replace hz31 : z_slices_CompactFunc_l1 s k3 = some z30 := hz31
   unfold z_slices_CompactFunc_l1 at hz31
   refine w_seqk fun K34 k34 => ?_
   refine w_seqk fun K35 k35 => ?_
   refine w_reg (by kernel_rfl) ?_
   refine s_qk (.int .i64 k3) (by kernel_rfl) ?_
   refine s_qk (hd_s) (by kernel_rfl) ?_
   have u36 := (h_s.fr e26 Dj.nil_l)
   refine s_ql (.int .i64 (s.length : Int)) (x := aLen Try.prog 22 hd_s H25) (by kernel_rfl) (u36.sq.lenb (by kernel_rfl)) ?_
   refine s_qk (.bool (decide (k3 < (s.length : Int)))) (by kernel_rfl) ?_
   refine s_nil ?_
   refine k35 _ _ ?_
   refine w_condp (k3 < (s.length : Int)) (by kernel_rfl) rfl (fun h37 => ?_) (fun h37 => ?_)
   ·have r38 := ite_t h37 hz31
    refine w_skip ?_
    refine k34 _ _ ?_
    refine w_seqk fun K39 k39 => ?_
    refine w_block ?_
    refine w_seqk fun K40 k40 => ?_
    refine w_draw [0, 1, 2, 3, 4, 5, 6, 7, 8, 9, 10] (by kernel_rfl) ?_
    refine d_qk (.func (.func 42) #[] #[]) (by kernel_rfl) ?_
    refine d_qk (hd_s) (by kernel_rfl) ?_
    refine d_qk (.int .i64 k3) (by kernel_rfl) ?_
    obtain ⟨g41, r42⟩ := G_some r38
    refine d_ql (elp hd_s 3 k3.toNat 0) (x := aIndexAddr Try.prog 22 hd_s (.int .i64 k3)) (by kernel_rfl) (u36.sq.idxb (by kernel_rfl) g41 h37) ?_
    refine d_ql (.agg #[.int .i64 ((gt s k3).1), .int .i64 ((gt s k3).2.1), .int .i64 ((gt s k3).2.2)]) (x := aLoad Try.prog 34 (elp hd_s 3 k3.toNat 0) H25) (by kernel_rfl) (u36.sq.ld g41 h37 (by kernel_rfl)) ?_
    refine d_qk (hd_s) (by kernel_rfl) ?_
    refine d_qk (.int .i64 k3) (by kernel_rfl) ?_
    obtain ⟨g43, r44⟩ := G_some r42
    refine d_w ((k3 - 1)) (k := .i64) (x := (k3 - 1)) (by kernel_rfl) (wrap64 g43) ?_
    obtain ⟨g45, r46⟩ := G_some r44
    refine d_ql (elp hd_s 3 (k3 - 1).toNat 0) (x := aIndexAddr Try.prog 22 hd_s (.int .i64 (k3 - 1))) (by kernel_rfl) (u36.sq.idxb (by kernel_rfl) g45.1 g45.2) ?_
    refine d_ql (.agg #[.int .i64 ((gt s (k3 - 1)).1), .int .i64 ((gt s (k3 - 1)).2.1), .int .i64 ((gt s (k3 - 1)).2.2)]) (x := aLoad Try.prog 34 (elp hd_s 3 (k3 - 1).toNat 0) H25) (by kernel_rfl) (u36.sq.ld g45.1 g45.2 (by kernel_rfl)) ?_
    obtain ⟨y47, hy48, r49⟩ := bind_some r46
    refine d_ck 42 #[.agg #[.int .i64 ((gt s k3).1), .int .i64 ((gt s k3).2.1), .int .i64 ((gt s k3).2.2)], .agg #[.int .i64 ((gt s (k3 - 1)).1), .int .i64 ((gt s (k3 - 1)).2.1), .int .i64 ((gt s (k3 - 1)).2.2)]] (by kernel_rfl) (c_normal_Of_1 e26.wf hy48) ?_
    rintro _ H50 ⟨rfl, e51⟩
    refine ⟨st_nil, ?_⟩
    refine d_nil ?_
    refine k40 _ _ ?_
    refine w_cond (y47) (by kernel_rfl) rfl (fun h52 => ?_) (fun h52 => ?_)
    ·have r53 := ite_t h52 r49
     refine w_seqk fun K54 k54 => ?_
     refine w_reg (by kernel_rfl) ?_
     refine s_qk (hd_s) (by kernel_rfl) ?_
     refine s_qk (.int .i64 k3) (by kernel_rfl) ?_
     obtain ⟨g55, r56⟩ := G_some r53
     have u60 := (u36.fr e51 Dj.nil_l)
     obtain ⟨s57, q58, vw59⟩ := Ow.view (P := Try.prog) u60 (t := 22) (by kernel_rfl) (lo := some (.int .i64 k3)) (l := k3.toNat) (aBound_int _ (by have := g55; omega)) (by have := g55; omega)
     obtain ⟨a61, n62, c63, rfl⟩ := vw59.form
     refine s_ql (.slice a61 n62 c63) (by kernel_rfl) q58 ?_
     refine s_qk (.slice a61 n62 c63) (by kernel_rfl) ?_
     refine s_nil ?_
     refine k54 _ _ ?_
     refine w_seqk fun K64 k64 => ?_
     refine w_seqk fun K65 k65 => ?_
     refine w_reg (by kernel_rfl) ?_
     refine s_qk (.int .i64 1) (by kernel_rfl) ?_
     refine s_nil ?_
     refine k65 _ _ ?_
     obtain ⟨o66, hx67, r68⟩ := bind_some r56
     refine w_mid (fun α H69 => Has α [(0, hd_s), (5, .int .i64 o66.2)] ∧ FrS fp_s H50 H69 ∧ Ow enc_i64_i64_i64 3 H69 hd_s o66.1 fp_s) (fun K73 k73 => ?_) (fun α H69 hM => ?_)
     ·refine w_block ?_
      obtain ⟨n75, hn76⟩ := loopO_iff.1 hx67
      refine w_loopn (fun n α H77 => ∃ (s0 : List (Int × Int × Int)), ∃ (k1 : Int), ∃ (k22 : Int), iterO (fun zz_ => z_slices_CompactFunc_l0 k3 zz_.1 zz_.2.1 zz_.2.2) n (s0, k1, k22) = some o66 ∧ Has α [(0, hd_s), (1, .func (.func 42) #[] #[]), (5, .int .i64 k1), (6, .slice a61 n62 c63), (7, .int .i64 k22)] ∧ FrS fp_s H50 H77 ∧ Ow enc_i64_i64_i64 3 H77 hd_s s0 fp_s) n75 ⟨s, k3, 1, hn76, ⟨by kernel_rfl, by kernel_rfl, by kernel_rfl, by kernel_rfl, by kernel_rfl, trivial⟩, (FrS.refl (W := fp_s) e51.wf), u60⟩ ?_
      rintro n75 α H77 ⟨s0, k1, k22, hi82, hh81, e78, m80⟩ K87 k87
      obtain ⟨n83, z84, rfl, hz85, hn86⟩ := iter_succ hi82
      obtain ⟨β, rfl⟩ := has_ex hh81
      clear hh81
      replace hz85 : z_slices_CompactFunc_l0 k3 s0 k1 k22 = some z84 := hz85
      unfold z_slices_CompactFunc_l0 at hz85
      refine w_seqk fun K88 k88 => ?_
      refine w_seqk fun K89 k89 => ?_
      refine w_reg (by kernel_rfl) ?_
      refine s_qk (.int .i64 k22) (by kernel_rfl) ?_
      refine s_qk (.slice a61 n62 c63) (by kernel_rfl) ?_
      obtain ⟨hs90, hl91⟩ := vw59.sq m80
      refine s_ql (.int .i64 ((s0.drop k3.toNat).length : Int)) (x := aLen Try.prog 22 (.slice a61 n62 c63) H77) (by kernel_rfl) (hs90.lenb (by kernel_rfl)) ?_
      refine s_qk (.bool (decide (k22 < ((s0.drop k3.toNat).length : Int)))) (by kernel_rfl) ?_
      refine s_nil ?_
      refine k89 _ _ ?_
      refine w_condp (k22 < ((s0.drop k3.toNat).length : Int)) (by kernel_rfl) rfl (fun h93 => ?_) (fun h93 => ?_)
      ·have r94 := ite_t h93 hz85
       refine w_skip ?_
       refine k88 _ _ ?_
       refine w_seqk fun K95 k95 => ?_
       refine w_block ?_
       refine w_seqk fun K96 k96 => ?_
       refine w_draw [0, 1, 2, 3, 4, 5, 6, 7, 8, 9, 10, 11] (by kernel_rfl) ?_
       refine d_qk (.func (.func 42) #[] #[]) (by kernel_rfl) ?_
       refine d_qk (.slice a61 n62 c63) (by kernel_rfl) ?_
       refine d_qk (.int .i64 k22) (by kernel_rfl) ?_
       obtain ⟨hs97, hl98⟩ := vw59.sq m80
       obtain ⟨g100, r101⟩ := G_some r94
       refine d_ql (elp (.slice a61 n62 c63) 3 k22.toNat 0) (x := aIndexAddr Try.prog 22 (.slice a61 n62 c63) (.int .i64 k22)) (by kernel_rfl) (hs97.idxb (by kernel_rfl) g100 h93) ?_
       refine d_ql (.agg #[.int .i64 ((gt (s0.drop k3.toNat) k22).1), .int .i64 ((gt (s0.drop k3.toNat) k22).2.1), .int .i64 ((gt (s0.drop k3.toNat) k22).2.2)]) (x := aLoad Try.prog 34 (elp (.slice a61 n62 c63) 3 k22.toNat 0) H77) (by kernel_rfl) (hs97.ld g100 h93 (by kernel_rfl)) ?_
       refine d_qk (.slice a61 n62 c63) (by kernel_rfl) ?_
       refine d_qk (.int .i64 k22) (by kernel_rfl) ?_
       obtain ⟨g102, r103⟩ := G_some r101
       refine d_w ((k22 - 1)) (k := .i64) (x := (k22 - 1)) (by kernel_rfl) (wrap64 g102) ?_
       obtain ⟨hs104, hl105⟩ := vw59.sq m80
       obtain ⟨g107, r108⟩ := G_some r103
       refine d_ql (elp (.slice a61 n62 c63) 3 (k22 - 1).toNat 0) (x := aIndexAddr Try.prog 22 (.slice a61 n62 c63) (.int .i64 (k22 - 1))) (by kernel_rfl) (hs104.idxb (by kernel_rfl) g107.1 g107.2) ?_
       refine d_ql (.agg #[.int .i64 ((gt (s0.drop k3.toNat) (k22 - 1)).1), .int .i64 ((gt (s0.drop k3.toNat) (k22 - 1)).2.1), .int .i64 ((gt (s0.drop k3.toNat) (k22 - 1)).2.2)]) (x := aLoad Try.prog 34 (elp (.slice a61 n62 c63) 3 (k22 - 1).toNat 0) H77) (by kernel_rfl) (hs104.ld g107.1 g107.2 (by kernel_rfl)) ?_
       obtain ⟨y109, hy110, r111⟩ := bind_some r108
       refine d_ck 42 #[.agg #[.int .i64 ((gt (s0.drop k3.toNat) k22).1), .int .i64 ((gt (s0.drop k3.toNat) k22).2.1), .int .i64 ((gt (s0.drop k3.toNat) k22).2.2)], .agg #[.int .i64 ((gt (s0.drop k3.toNat) (k22 - 1)).1), .int .i64 ((gt (s0.drop k3.toNat) (k22 - 1)).2.1), .int .i64 ((gt (s0.drop k3.toNat) (k22 - 1)).2.2)]] (by kernel_rfl) (c_normal_Of_1 e78.wf hy110) ?_
       rintro _ H112 ⟨rfl, e113⟩
       refine ⟨st_nil, ?_⟩
       refine d_qk (.bool (!y109)) (by kernel_rfl) ?_
       refine d_nil ?_
       refine k96 _ _ ?_
       refine w_cond ((!y109)) (by kernel_rfl) rfl (fun h114 => ?_) (fun h114 => ?_)
       ·have r115 := ite_t h114 r111
        refine w_seqk fun K116 k116 => ?_
        refine w_reg (by kernel_rfl) ?_
        refine s_qk (hd_s) (by kernel_rfl) ?_
        refine s_qk (.int .i64 k1) (by kernel_rfl) ?_
        refine s_qk (.slice a61 n62 c63) (by kernel_rfl) ?_
        refine s_qk (.int .i64 k22) (by kernel_rfl) ?_
        have u119 := (m80.fr e113 Dj.nil_l)
        obtain ⟨hs117, hl118⟩ := vw59.sq u119
        refine s_ql (elp (.slice a61 n62 c63) 3 k22.toNat 0) (x := aIndexAddr Try.prog 22 (.slice a61 n62 c63) (.int .i64 k22)) (by kernel_rfl) (hs117.idxb (by kernel_rfl) g100 h93) ?_
        refine s_ql (.agg #[.int .i64 ((gt (s0.drop k3.toNat) k22).1), .int .i64 ((gt (s0.drop k3.toNat) k22).2.1), .int .i64 ((gt (s0.drop k3.toNat) k22).2.2)]) (x := aLoad Try.prog 34 (elp (.slice a61 n62 c63) 3 k22.toNat 0) H112) (by kernel_rfl) (hs117.ld g100 h93 (by kernel_rfl)) ?_
        obtain ⟨g121, r122⟩ := G_some r115
        refine s_ql (elp hd_s 3 k1.toNat 0) (x := aIndexAddr Try.prog 22 hd_s (.int .i64 k1)) (by kernel_rfl) (u119.sq.idxb (by kernel_rfl) g121.1 g121.2) ?_
        obtain ⟨H123, q124, e125, hm126⟩ := Ow.store (P := Try.prog) (t := 34) (off := 0) e113.wf u119 g121.1 g121.2 (.agg #[.int .i64 ((gt (s0.drop k3.toNat) k22).1), .int .i64 ((gt (s0.drop k3.toNat) k22).2.1), .int .i64 ((gt (s0.drop k3.toNat) k22).2.2)]) [.int .i64 ((gt (s0.drop k3.toNat) k22).1), .int .i64 ((gt (s0.drop k3.toNat) k22).2.1), .int .i64 ((gt (s0.drop k3.toNat) k22).2.2)] (by kernel_rfl) (by kernel_rfl) rfl ((gt (s0.drop k3.toNat) k22).1, (gt (s0.drop k3.toNat) k22).2.1, (gt (s0.drop k3.toNat) k22).2.2) (Nat.le_of_ble_eq_true rfl) (by kernel_rfl)
        refine s_ek (undef) (by kernel_rfl) (map_ok q124) ?_
        refine s_nil ?_
        refine k116 _ _ ?_
        refine w_reg (by kernel_rfl) ?_
        refine s_qk (.int .i64 k1) (by kernel_rfl) ?_
        obtain ⟨g127, r128⟩ := G_some r122
        refine s_w ((k1 + 1)) (k := .i64) (x := (k1 + 1)) (by kernel_rfl) (wrap64 (by have := g127; omega)) ?_
        refine s_qk (.int .i64 (k1 + 1)) (by kernel_rfl) ?_
        refine s_nil ?_
        refine k95 _ _ ?_
        refine w_reg (by kernel_rfl) ?_
        refine s_qk (.int .i64 k22) (by kernel_rfl) ?_
        obtain ⟨g129, r130⟩ := G_some r128
        refine s_w ((k22 + 1)) (k := .i64) (x := (k22 + 1)) (by kernel_rfl) (wrap64 (by have := g129; omega)) ?_
        refine s_qk (.int .i64 (k22 + 1)) (by kernel_rfl) ?_
        refine s_nil ?_
        obtain rfl := Option.some.inj r130
        exact k87 n83 _ _ (Nat.lt_succ_self _) ⟨(s0.set k1.toNat ((gt (s0.drop k3.toNat) k22).1, (gt (s0.drop k3.toNat) k22).2.1, (gt (s0.drop k3.toNat) k22).2.2)), (k1 + 1), (k22 + 1), hn86, ⟨by kernel_rfl, by kernel_rfl, by kernel_rfl, by kernel_rfl, by kernel_rfl, trivial⟩, (FrS.step e51.wf (FrS.step e51.wf (FrS.step e51.wf (FrS.refl (W := fp_s) e51.wf) e78 Inn.refl') e113 Inn.nil) e125 Inn.refl'), hm126⟩
       ·have r131 := ite_bf h114 r111
        refine w_skip ?_
        refine k95 _ _ ?_
        refine w_reg (by kernel_rfl) ?_
        refine s_qk (.int .i64 k22) (by kernel_rfl) ?_
        obtain ⟨g132, r133⟩ := G_some r131
        refine s_w ((k22 + 1)) (k := .i64) (x := (k22 + 1)) (by kernel_rfl) (wrap64 (by have := g132; omega)) ?_
        refine s_qk (.int .i64 (k22 + 1)) (by kernel_rfl) ?_
        refine s_nil ?_
        have u134 := (m80.fr e113 Dj.nil_l)
        obtain rfl := Option.some.inj r133
        exact k87 n83 _ _ (Nat.lt_succ_self _) ⟨s0, k1, (k22 + 1), hn86, ⟨by kernel_rfl, by kernel_rfl, by kernel_rfl, by kernel_rfl, by kernel_rfl, trivial⟩, (FrS.step e51.wf (FrS.step e51.wf (FrS.refl (W := fp_s) e51.wf) e78 Inn.refl') e113 Inn.nil), u134⟩
      ·have r135 := ite_f h93 hz85
       refine w_exit (th_exit (th_exit (bl_eq ?_)))
       obtain rfl := Option.some.inj r135
       obtain rfl := it_inr hn86
       exact k73 _ _ ⟨⟨by kernel_rfl, by kernel_rfl, trivial⟩, (FrS.step e51.wf (FrS.refl (W := fp_s) e51.wf) e78 Inn.refl'), m80⟩
     ·obtain ⟨hh74, e70, m72⟩ := hM
      obtain ⟨β, rfl⟩ := has_ex hh74
      clear hh74
      refine k64 _ _ ?_
      refine w_seqk fun K136 k136 => ?_
      refine w_reg (by kernel_rfl) ?_
      refine s_qk (hd_s) (by kernel_rfl) ?_
      refine s_qk (.int .i64 o66.2) (by kernel_rfl) ?_
      obtain ⟨g137, r138⟩ := G_some r68
      obtain ⟨s139, q140, vw141⟩ := Ow.view (P := Try.prog) m72 (t := 22) (by kernel_rfl) (lo := some (.int .i64 o66.2)) (l := o66.2.toNat) (aBound_int _ (by have := g137; omega)) (by have := g137; omega)
      obtain ⟨a142, n143, c144, rfl⟩ := vw141.form
      refine s_ql (.slice a142 n143 c144) (by kernel_rfl) q140 ?_
      obtain ⟨g145, r146⟩ := G_some r138
      obtain ⟨H147, q148, e149, hm150⟩ := View.clear (P := Try.prog) (m := 24) (at_ := #[22]) vw141 (0, 0, 0) e70.wf m72 g145 rfl (by kernel_rfl)
      refine s_ek (.tuple #[]) (by kernel_rfl) (map_ok q148) ?_
      refine s_nil ?_
      refine k136 _ _ ?_
      refine w_seqk fun K151 k151 => ?_
      refine w_reg (by kernel_rfl) ?_
      refine s_qk (hd_s) (by kernel_rfl) ?_
      refine s_qk (.int .i64 o66.2) (by kernel_rfl) ?_
      obtain ⟨g152, r153⟩ := G_some r146
      obtain ⟨s154, q155, hs156⟩ := Ow.head (P := Try.prog) hm150 (t := 22) (by kernel_rfl) (hi := (some (.int .i64 o66.2))) (r := o66.2.toNat) (aBound_int _ (by have := g152; omega)) (by have := g152; omega)
      obtain ⟨a157, n158, c159, rfl⟩ := hs156.form
      refine s_ql (.slice a157 n158 c159) (by kernel_rfl) q155 ?_
      refine s_qk (.slice a157 n158 c159) (by kernel_rfl) ?_
      refine s_nil ?_
      refine k151 _ _ ?_
      refine w_ret (bl_ret (th_ret (th_ret (bl_ret (th_ret (th_ret ?_))))))
      obtain ⟨v161, hv162, hz163⟩ := map_some r153
      subst hz163
      obtain rfl := it_inr hn32
      have hq164 := elim_inl r17
      rw [hq164] at hv162
      refine b_ret (fn := Try.f41) (vs := [.slice a157 n158 c159]) (aRes_tmp (by kernel_rfl) (rfl)) ?_
      obtain rfl := Option.some.inj hv162
      exact ⟨(.slice a157 n158 c159), rfl, (FrS.step wf (FrS.step wf (FrS.step wf (FrS.step wf (FrS.refl (W := fp_s) wf) e26 Inn.nil) e51 Inn.nil) e70 Inn.refl') e149 Inn.refl'), hs156, hm150⟩
    ·have r165 := ite_bf h52 r49
     refine w_skip ?_
     refine k39 _ _ ?_
     refine w_reg (by kernel_rfl) ?_
     refine s_qk (.int .i64 k3) (by kernel_rfl) ?_
     obtain ⟨g166, r167⟩ := G_some r165
     refine s_w ((k3 + 1)) (k := .i64) (x := (k3 + 1)) (by kernel_rfl) (wrap64 (by have := g166; omega)) ?_
     refine s_qk (.int .i64 (k3 + 1)) (by kernel_rfl) ?_
     refine s_nil ?_
     obtain rfl := Option.some.inj r167
     exact k33 n29 _ _ (Nat.lt_succ_self _) ⟨(k3 + 1), hn32, ⟨by kernel_rfl, by kernel_rfl, by kernel_rfl, trivial⟩, (FrS.step wf (FrS.step wf (FrS.refl (W := []) wf) e26 Inn.nil) e51 Inn.nil)⟩
   ·have r168 := ite_f h37 hz31
    refine w_exit (th_exit (th_exit (bl_eq ?_)))
    obtain rfl := Option.some.inj r168
    obtain rfl := it_inr hn32
    exact k21 _ _ ⟨_, rfl, ⟨by kernel_rfl, trivial⟩, (FrS.step wf (FrS.refl (W := []) wf) e26 Inn.nil)⟩
  ·obtain ⟨o15, rfl, hh22, e20⟩ := hM
   have r169 := elim_inr r17
   obtain ⟨β, rfl⟩ := has_ex hh22
   clear hh22
   refine k13 _ _ ?_
   refine w_seqk fun K170 k170 => ?_
   refine w_reg (by kernel_rfl) ?_
   refine s_qk (hd_s) (by kernel_rfl) ?_
   refine s_qk (hd_s) (by kernel_rfl) ?_
   refine s_nil ?_
   refine k170 _ _ ?_
   refine w_ret ?_
   refine b_ret (fn := Try.f41) (vs := [hd_s]) (aRes_tmp (by kernel_rfl) (rfl)) ?_
   have u171 := (h_s.fr e20 Dj.nil_l)
   obtain rfl := Option.some.inj r169
   exact ⟨(hd_s), rfl, (FrS.step wf (FrS.refl (W := fp_s) wf) e20 Inn.nil), u171, u171⟩

theorem c_normal_Of {H : AH} {hd_Arcs : Value} {fp_Arcs : Fp} {N_ : Int} {Arcs : List (Int × Int × Int)} {r : Int × List (Int × Int × Int) × Er}
  (wf : WF H) (h_Arcs : Sq enc_i64_i64_i64 3 H hd_Arcs Arcs fp_Arcs) (hr : z_normal_Of N_ Arcs = some r) :
  ACalls Try.prog 9 #[.agg #[.int .i64 N_, hd_Arcs]] H fun v H' => ∃ (s3 : Value) (f4 : Fp) (v7 : Value) (f8 : Fp), v = .tuple #[.agg #[.int .i64 r.1, s3], v7] ∧ FrS [] H H' ∧ Ow enc_i64_i64_i64 3 H' s3 r.2.1 f4 ∧ Ev 81 111 H' v7 r.2.2 f8 ∧ Inn [] H f4 ∧ Inn [] H f8 ∧ Dj f4 f8 := by
 refine acalls_of_body mixed Try.func9 rfl (Nat.le_of_ble_eq_true rfl) ?_
 unfold z_normal_Of at hr
 refine w_seqk fun K12 k12 => ?_
 refine w_reg (by kernel_rfl) ?_
 refine s_rwl wf [.int .i64 N_, hd_Arcs] (one_cons (rfl) (one_cons (h_Arcs.one1) (one_nil))) (by kernel_rfl) fun b13 H14 e15 hb16 r17 => ?_
 refine s_rwk e15.wf [.int .i64 0, .slice none 0 0] (by kernel_rfl) fun b19 H20 e21 hb22 r23 => ?_
 refine s_qk (.nilIface) (by kernel_rfl) ?_
 refine s_nil ?_
 refine k12 _ _ ?_
 refine w_seqk fun K25 k25 => ?_
 refine w_seqk fun K26 k26 => ?_
 refine w_reg (by kernel_rfl) ?_
 have u27 := (r17.ext e21)
 refine s_ql (.agg #[.int .i64 N_, hd_Arcs]) (x := aLoad Try.prog 24 (.pointer (some ⟨b13, 0, none⟩)) H20) (by kernel_rfl) (u27.ld (by kernel_rfl)) ?_
 have u28 := ((h_Arcs.ext e15).ext e21)
 obtain ⟨y29, hy30, r31⟩ := bind_some hr
 refine s_ck 38 #[.agg #[.int .i64 N_, hd_Arcs]] (by kernel_rfl) (c_gtext_Check e21.wf u28 hy30) ?_
 rintro v32 H34 ⟨_, f33, rfl, e35, m36, i37⟩
 refine s_qk (v32) (by kernel_rfl) ?_
 refine s_nil ?_
 refine k26 _ _ ?_
 refine w_seqk fun K39 k39 => ?_
 refine w_reg (by kernel_rfl) ?_
 refine s_qk (v32) (by kernel_rfl) ?_
 rcases (m36).cases with ⟨h40, rfl⟩ | ⟨h40, t41, x42, rfl⟩
 ·have r43 := ite_t h40 r31
  refine s_qk (.bool false) (by kernel_rfl) ?_
  refine s_nil ?_
  refine k39 _ _ ?_
  refine w_cond false (by kernel_rfl) rfl (fun h => by cases h) (fun _ => ?_)
  refine w_skip ?_
  refine k25 _ _ ?_
  refine w_seqk fun K44 k44 => ?_
  refine w_reg (by kernel_rfl) ?_
  refine s_qk (.pointer (some ⟨b13, 0, none⟩)) (by kernel_rfl) ?_
  have u45 := (u27.frS e35 Dj.nil_l)
  refine s_ql (.int .i64 N_) (x := aLoad Try.prog 3 (.pointer (some ⟨b13, 0, none⟩)) H34) (by kernel_rfl) (u45.ld (by kernel_rfl)) ?_
  refine s_qk (.agg #[.int .i64 N_, .slice none 0 0]) (by kernel_rfl) ?_
  refine s_rwk e35.wf [.int .i64 0, .slice none 0 0] (by kernel_rfl) fun b46 H47 e48 hb49 r50 => ?_
  obtain ⟨H52, q53, e54, r55⟩ := Row.store (P := Try.prog) (t := 24) (p := 0) e48.wf r50 (.agg #[.int .i64 N_, .slice none 0 0]) [.int .i64 N_, .slice none 0 0] (by kernel_rfl) (by kernel_rfl) (one_cons (rfl) (one_cons (rfl) (one_nil))) (Nat.le_of_ble_eq_true (by kernel_rfl)) [.int .i64 N_, .slice none 0 0] (by kernel_rfl)
  refine s_ek (undef) (by kernel_rfl) (map_ok q53) ?_
  refine s_nil ?_
  refine k44 _ _ ?_
  refine w_seqk fun K56 k56 => ?_
  refine w_seqk fun K57 k57 => ?_
  refine w_reg (by kernel_rfl) ?_
  refine s_qk (.pointer (some ⟨b13, 1, none⟩)) (by kernel_rfl) ?_
  have u58 := ((u45.ext e48).frS e54 (hb49.djn (r17.ltF.le (ntr e21.next e35.next))))
  refine s_ql (hd_Arcs) (x := aLoad Try.prog 22 (.pointer (some ⟨b13, 1, none⟩)) H52) (by kernel_rfl) (u58.ld (by kernel_rfl)) ?_
  have u59 := (((u28.fr e35 Dj.nil_l).ext e48).fr e54 (hb49.djn (h_Arcs.lt.le (ntr (ntr e15.next e21.next) e35.next))))
  refine s_ql (.int .i64 (Arcs.length : Int)) (x := aLen Try.prog 22 hd_Arcs H52) (by kernel_rfl) (u59.lenb (by kernel_rfl)) ?_
  refine s_qk (.int .i64 0) (by kernel_rfl) ?_
  refine s_nil ?_
  refine k57 _ _ ?_
  obtain ⟨o60, hx61, r62⟩ := bind_some r43
  refine w_mid (fun α H63 => ∃ (s67 : Value) (f68 : Fp), Has α [(2, .pointer (some ⟨b19, 0, none⟩)), (5, .pointer (some ⟨b46, 0, none⟩))] ∧ FrS [b46] H52 H63 ∧ Ow enc_i64_i64_i64 3 H63 s67 o60 f68 ∧ Row H63 b46 [.int .i64 N_, s67] ∧ Inn [] H52 f68) (fun K72 k72 => ?_) (fun α H63 hM => ?_)
  ·refine w_block ?_
   obtain ⟨n74, hn75⟩ := loopO_iff.1 hx61
   refine w_loopn (fun n α H76 => ∃ (i0 : Int), ∃ (c1 : List (Int × Int × Int)), ∃ (s80 : Value), ∃ (f81 : Fp), iterO (fun zz_ => z_normal_Of_l0 Arcs zz_.1 zz_.2) n (i0, c1) = some o60 ∧ Has α [(2, .pointer (some ⟨b19, 0, none⟩)), (5, .pointer (some ⟨b46, 0, none⟩)), (18, hd_Arcs), (19, .int .i64 (Arcs.length : Int)), (20, .int .i64 i0)] ∧ FrS [b46] H52 H76 ∧ Ow enc_i64_i64_i64 3 H76 s80 c1 f81 ∧ Row H76 b46 [.int .i64 N_, s80] ∧ Inn [] H52 f81) n74 ⟨0, [], (.slice none 0 0), [], hn75, ⟨by kernel_rfl, by kernel_rfl, by kernel_rfl, by kernel_rfl, by kernel_rfl, trivial⟩, (FrS.refl (W := [b46]) e54.wf), (Ow.nil (by decide)), r55, Inn.nil⟩ ?_
   rintro n74 α H76 ⟨i0, c1, s80, f81, hi86, hh85, e77, m79, m83, i84⟩ K91 k91
   obtain ⟨n87, z88, rfl, hz89, hn90⟩ := iter_succ hi86
   obtain ⟨β, rfl⟩ := has_ex hh85
   clear hh85
   replace hz89 : z_normal_Of_l0 Arcs i0 c1 = some z88 := hz89
   unfold z_normal_Of_l0 at hz89
   obtain ⟨a92, n93, c94, rfl⟩ := m79.form
   refine w_seqk fun K95 k95 => ?_
   refine w_reg (by kernel_rfl) ?_
   refine s_qk (.bool (decide (i0 < (Arcs.length : Int)))) (by kernel_rfl) ?_
   refine s_nil ?_
   refine k95 _ _ ?_
   refine w_seqk fun K96 k96 => ?_
   refine w_condp (i0 < (Arcs.length : Int)) (by kernel_rfl) rfl (fun h97 => ?_) (fun h97 => ?_)
   ·have r98 := ite_t h97 hz89
    refine w_skip ?_
    refine k96 _ _ ?_
    refine w_seqk fun K99 k99 => ?_
    refine w_block ?_
    refine w_seqk fun K100 k100 => ?_
    refine w_reg (by kernel_rfl) ?_
    obtain ⟨g101, r102⟩ := G_some r98
    have u103 := (u59.fr e77 (hb49.djn (h_Arcs.lt.le (ntr (ntr e15.next e21.next) e35.next))))
    refine s_ql (elp hd_Arcs 3 i0.toNat 0) (x := aIndexAddr Try.prog 22 hd_Arcs (.int .i64 i0)) (by kernel_rfl) (u103.idxb (by kernel_rfl) g101 h97) ?_
    refine s_ql (.agg #[.int .i64 ((gt Arcs i0).1), .int .i64 ((gt Arcs i0).2.1), .int .i64 ((gt Arcs i0).2.2)]) (x := aLoad Try.prog 34 (elp hd_Arcs 3 i0.toNat 0) H76) (by kernel_rfl) (u103.ld g101 h97 (by kernel_rfl)) ?_
    refine s_rwk e77.wf [.int .i64 0, .int .i64 0, .int .i64 0] (by kernel_rfl) fun b104 H105 e106 hb107 r108 => ?_
    obtain ⟨H110, q111, e112, r113⟩ := Row.store (P := Try.prog) (t := 34) (p := 0) e106.wf r108 (.agg #[.int .i64 ((gt Arcs i0).1), .int .i64 ((gt Arcs i0).2.1), .int .i64 ((gt Arcs i0).2.2)]) [.int .i64 ((gt Arcs i0).1), .int .i64 ((gt Arcs i0).2.1), .int .i64 ((gt Arcs i0).2.2)] (by kernel_rfl) (by kernel_rfl) (one_cons (rfl) (one_cons (rfl) (one_cons (rfl) (one_nil)))) (Nat.le_of_ble_eq_true (by kernel_rfl)) [.int .i64 ((gt Arcs i0).1), .int .i64 ((gt Arcs i0).2.1), .int .i64 ((gt Arcs i0).2.2)] (by kernel_rfl)
    refine s_ek (undef) (by kernel_rfl) (map_ok q111) ?_
    refine s_nil ?_
    refine k100 _ _ ?_
    refine w_seqk fun K114 k114 => ?_
    refine w_reg (by kernel_rfl) ?_
    refine s_qk (.pointer (some ⟨b104, 0, none⟩)) (by kernel_rfl) ?_
    refine s_ql (.int .i64 ((gt Arcs i0).1)) (x := aLoad Try.prog 3 (.pointer (some ⟨b104, 0, none⟩)) H110) (by kernel_rfl) (r113.ld (by kernel_rfl)) ?_
    refine s_qk (.pointer (some ⟨b104, 1, none⟩)) (by kernel_rfl) ?_
    refine s_ql (.int .i64 ((gt Arcs i0).2.1)) (x := aLoad Try.prog 3 (.pointer (some ⟨b104, 1, none⟩)) H110) (by kernel_rfl) (r113.ld (by kernel_rfl)) ?_
    refine s_qk (.bool (!decide (((gt Arcs i0).1) = ((gt Arcs i0).2.1)))) (by kernel_rfl) ?_
    refine s_nil ?_
    refine k114 _ _ ?_
    refine w_condn (((gt Arcs i0).1) = ((gt Arcs i0).2.1)) (by kernel_rfl) rfl (fun h115 => ?_) (fun h115 => ?_)
    ·have r116 := ite_f h115 r102
     refine w_reg (by kernel_rfl) ?_
     refine s_qk (.pointer (some ⟨b46, 1, none⟩)) (by kernel_rfl) ?_
     have u117 := ((m83.ext e106).frS e112 (hb107.djn (r50.ltF.le (ntr e54.next e77.next))))
     refine s_ql (.slice a92 n93 c94) (x := aLoad Try.prog 22 (.pointer (some ⟨b46, 1, none⟩)) H110) (by kernel_rfl) (u117.ld (by kernel_rfl)) ?_
     refine s_ql (.agg #[.int .i64 ((gt Arcs i0).1), .int .i64 ((gt Arcs i0).2.1), .int .i64 ((gt Arcs i0).2.2)]) (x := aLoad Try.prog 34 (.pointer (some ⟨b104, 0, none⟩)) H110) (by kernel_rfl) (r113.ld (by kernel_rfl)) ?_
     refine s_owk (enc := enc_i64_i64_i64) (sz := 3) e112.wf [((gt Arcs i0).1, (gt Arcs i0).2.1, (gt Arcs i0).2.2)] 1 (by decide) (fun _ _ => rfl) (fun _ _ => rfl) rfl (by kernel_rfl) fun s118 f119 H120 e121 hf122 hm123 => ?_
     obtain ⟨a124, n125, c126, rfl⟩ := hm123.form
     have u128 := (((m79.ext e106).fr e112 (hb107.djn m79.lt)).ext e121)
     obtain ⟨g129, r130⟩ := G_some r116
     obtain ⟨s131, H132, f133, q137, e134, hm135, hf136⟩ := Ow.append (P := Try.prog) 24 e121.wf u128 hm123.sq (fun _ _ => rfl) (at_ := #[22, 22]) rfl rfl (by kernel_rfl) (by kernel_rfl) (by decide) (by have := g129; first | omega | (simp only [List.length_cons, List.length_nil] at this ⊢; omega) | (simp at this ⊢; omega))
     obtain ⟨a138, n139, c140, rfl⟩ := hm135.form
     refine s_ek (.slice a138 n139 c140) (by kernel_rfl) (q137) ?_
     refine s_qk (.pointer (some ⟨b46, 1, none⟩)) (by kernel_rfl) ?_
     have u146 := ((u117.ext e121).frS e134 (i84.djn (r50.ltF.le e54.next)))
     obtain ⟨H142, q143, e144, r145⟩ := Row.store (P := Try.prog) (t := 22) (p := 1) e134.wf u146 (.slice a138 n139 c140) [.slice a138 n139 c140] (by kernel_rfl) (by kernel_rfl) (one_cons (hm135.one1) (one_nil)) (Nat.le_of_ble_eq_true (by kernel_rfl)) [.int .i64 N_, .slice a138 n139 c140] (by kernel_rfl)
     refine s_ek (undef) (by kernel_rfl) (map_ok q143) ?_
     refine s_nil ?_
     refine k99 _ _ ?_
     refine w_reg (by kernel_rfl) ?_
     obtain ⟨g147, r148⟩ := G_some r130
     refine s_w ((i0 + 1)) (k := .i64) (x := (i0 + 1)) (by kernel_rfl) (wrap64 (by have := g147; omega)) ?_
     refine s_qk (.int .i64 (i0 + 1)) (by kernel_rfl) ?_
     refine s_nil ?_
     have u149 := (hm135.fr e144 (Dj.symm (hf136.dj (i84.djn (r50.ltF.le e54.next)) (r50.ltF.le (ntr (ntr (ntr (ntr e54.next e77.next) e106.next) e112.next) e121.next)))))
     obtain rfl := Option.some.inj r148
     exact k91 n87 _ _ (Nat.lt_succ_self _) ⟨(i0 + 1), (c1 ++ [((gt Arcs i0).1, (gt Arcs i0).2.1, (gt Arcs i0).2.2)]), (.slice a138 n139 c140), f133, hn90, ⟨by kernel_rfl, by kernel_rfl, by kernel_rfl, by kernel_rfl, by kernel_rfl, trivial⟩, (FrS.step e54.wf (FrS.step e54.wf ((FrS.step e54.wf ((FrS.step e54.wf (FrS.refl (W := [b46]) e54.wf) e77 Inn.refl').extR e106) e112 (hb107.fresh e77.next)).extR e121) e134 (i84.fresh (Nat.le_refl _))) e144 Inn.refl'), u149, r145, (Inn.trans (i84.fresh (Nat.le_refl _)) (ntr (ntr (ntr e77.next e106.next) e112.next) e121.next) hf136)⟩
    ·have r150 := ite_t h115 r102
     refine w_skip ?_
     refine k99 _ _ ?_
     refine w_reg (by kernel_rfl) ?_
     obtain ⟨g151, r152⟩ := G_some r150
     refine s_w ((i0 + 1)) (k := .i64) (x := (i0 + 1)) (by kernel_rfl) (wrap64 (by have := g151; omega)) ?_
     refine s_qk (.int .i64 (i0 + 1)) (by kernel_rfl) ?_
     refine s_nil ?_
     have u153 := ((m79.ext e106).fr e112 (hb107.djn m79.lt))
     have u154 := ((m83.ext e106).frS e112 (hb107.djn (r50.ltF.le (ntr e54.next e77.next))))
     obtain rfl := Option.some.inj r152
     exact k91 n87 _ _ (Nat.lt_succ_self _) ⟨(i0 + 1), c1, (.slice a92 n93 c94), f81, hn90, ⟨by kernel_rfl, by kernel_rfl, by kernel_rfl, by kernel_rfl, by kernel_rfl, trivial⟩, (FrS.step e54.wf ((FrS.step e54.wf (FrS.refl (W := [b46]) e54.wf) e77 Inn.refl').extR e106) e112 (hb107.fresh e77.next)), u153, u154, (i84.fresh (Nat.le_refl _))⟩
   ·have r155 := ite_f h97 hz89
    refine w_exit (th_exit (th_exit (bl_eq ?_)))
    obtain rfl := Option.some.inj r155
    obtain rfl := it_inr hn90
    exact k72 _ _ ⟨(.slice a92 n93 c94), f81, ⟨by kernel_rfl, by kernel_rfl, trivial⟩, (FrS.step e54.wf (FrS.refl (W := [b46]) e54.wf) e77 Inn.refl'), m79, m83, (i84.fresh (Nat.le_refl _))⟩
  ·obtain ⟨s67, f68, hh73, e64, m66, m70, i71⟩ := hM
   obtain ⟨β, rfl⟩ := has_ex hh73
   clear hh73
   obtain ⟨a156, n157, c158, rfl⟩ := m66.form
   refine k56 _ _ ?_
   refine w_seqk fun K159 k159 => ?_
   refine w_reg (by kernel_rfl) ?_
   refine s_qk (.pointer (some ⟨b46, 1, none⟩)) (by kernel_rfl) ?_
   refine s_ql (.slice a156 n157 c158) (x := aLoad Try.prog 22 (.pointer (some ⟨b46, 1, none⟩)) H63) (by kernel_rfl) (m70.ld (by kernel_rfl)) ?_
   obtain ⟨g160, r161⟩ := G_some r62
   obtain ⟨y162, hy163, r164⟩ := bind_some r161
   refine s_ck 39 #[.slice a156 n157 c158, .func (.func 40) #[] #[]] (by kernel_rfl) (a_sortO (enc := enc_i64_i64_i64) (fun _ => rfl) (by intro x v hv; simp only [enc_i64_i64_i64, List.mem_cons, List.not_mem_nil, or_false] at hv; rcases hv with rfl | rfl | rfl <;> rfl) (by intro x v hv; simp only [enc_i64_i64_i64, List.mem_cons, List.not_mem_nil, or_false] at hv; rcases hv with rfl | rfl | rfl <;> rfl) (c := (fun (a_ b_ : Int × Int × Int) => z_normal_order a_.1 a_.2.1 a_.2.2 b_.1 b_.2.1 b_.2.2)) (Go.Proofs.enters_of Try.func40 (by kernel_rfl) rfl) (fun x y r hr => (c_normal_order aNil_wf hr).mono fun v H' h => h.1) e64.wf m66 g160 hy163) ?_
   rintro _ H165 ⟨rfl, e166, hm167⟩
   refine s_nil ?_
   refine k159 _ _ ?_
   refine w_seqk fun K168 k168 => ?_
   refine w_reg (by kernel_rfl) ?_
   refine s_qk (.pointer (some ⟨b46, 1, none⟩)) (by kernel_rfl) ?_
   have u169 := (m70.frS e166 (i71.djn (r50.ltF.le e54.next)))
   refine s_ql (.slice a156 n157 c158) (x := aLoad Try.prog 22 (.pointer (some ⟨b46, 1, none⟩)) H165) (by kernel_rfl) (u169.ld (by kernel_rfl)) ?_
   obtain ⟨y170, hy171, r172⟩ := bind_some r164
   refine s_ck 41 #[.slice a156 n157 c158, .func (.func 42) #[] #[]] (by kernel_rfl) (c_slices_CompactFunc e166.wf hm167 hy171) ?_
   rintro s173 H174 ⟨_, rfl, e175, m176, m177⟩
   obtain ⟨a179, n180, c181, rfl⟩ := m176.form
   refine s_qk (.pointer (some ⟨b46, 1, none⟩)) (by kernel_rfl) ?_
   have u186 := (u169.frS e175 (i71.djn (r50.ltF.le e54.next)))
   obtain ⟨H182, q183, e184, r185⟩ := Row.store (P := Try.prog) (t := 22) (p := 1) e175.wf u186 (.slice a179 n180 c181) [.slice a179 n180 c181] (by kernel_rfl) (by kernel_rfl) (one_cons (m176.one1) (one_nil)) (Nat.le_of_ble_eq_true (by kernel_rfl)) [.int .i64 N_, .slice a179 n180 c181] (by kernel_rfl)
   refine s_ek (undef) (by kernel_rfl) (map_ok q183) ?_
   refine s_nil ?_
   refine k168 _ _ ?_
   refine w_seqk fun K187 k187 => ?_
   refine w_reg (by kernel_rfl) ?_
   refine s_ql (.agg #[.int .i64 N_, .slice a179 n180 c181]) (x := aLoad Try.prog 24 (.pointer (some ⟨b46, 0, none⟩)) H182) (by kernel_rfl) (r185.ld (by kernel_rfl)) ?_
   have u192 := (((((((r23.frS e35 Dj.nil_l).ext e48).frS e54 (hb49.djn (r23.ltF.le e35.next))).frS e64 (hb49.djn (r23.ltF.le e35.next))).frS e166 (i71.djn (r23.ltF.le (ntr (ntr e35.next e48.next) e54.next)))).frS e175 (i71.djn (r23.ltF.le (ntr (ntr e35.next e48.next) e54.next)))).frS e184 (hb49.djn (r23.ltF.le e35.next)))
   have u193 := (m176.fr e184 (Dj.symm (i71.djn (r50.ltF.le e54.next))))
   obtain ⟨H188, q189, e190, r191⟩ := Row.store (P := Try.prog) (t := 24) (p := 0) e184.wf u192 (.agg #[.int .i64 N_, .slice a179 n180 c181]) [.int .i64 N_, .slice a179 n180 c181] (by kernel_rfl) (by kernel_rfl) (one_cons (rfl) (one_cons (u193.one1) (one_nil))) (Nat.le_of_ble_eq_true (by kernel_rfl)) [.int .i64 N_, .slice a179 n180 c181] (by kernel_rfl)
   refine s_ek (undef) (by kernel_rfl) (map_ok q189) ?_
   refine s_qk (.nilIface) (by kernel_rfl) ?_
   refine s_nil ?_
   refine k187 _ _ ?_
   refine w_ret ?_
   refine b_ret (fn := Try.f9) (vs := [.agg #[.int .i64 N_, .slice a179 n180 c181], .nilIface]) (aRes_cell (Eq.trans (b := aLoad Try.prog 24 (.pointer (some ⟨b19, 0, none⟩)) H188) (by kernel_rfl) (r191.ld (by kernel_rfl))) (aRes_tmp (by kernel_rfl) (rfl))) ?_
   have u194 := (u193.fr e190 (Dj.symm (i71.djn (r23.ltF.le (ntr (ntr e35.next e48.next) e54.next)))))
   obtain rfl := Option.some.inj r172
   exact ⟨(.slice a179 n180 c181), f68, (.nilIface), [], rfl, (FrS.step wf (FrS.step wf (FrS.step wf (FrS.step wf (FrS.step wf (FrS.step wf ((FrS.step wf (((FrS.refl (W := []) wf).extR e15).extR e21) e35 Inn.nil).extR e48) e54 (hb49.fresh (ntr (ntr e15.next e21.next) e35.next))) e64 (hb49.fresh (ntr (ntr e15.next e21.next) e35.next))) e166 (i71.fresh (ntr (ntr (ntr (ntr e15.next e21.next) e35.next) e48.next) e54.next))) e175 (i71.fresh (ntr (ntr (ntr (ntr e15.next e21.next) e35.next) e48.next) e54.next))) e184 (hb49.fresh (ntr (ntr e15.next e21.next) e35.next))) e190 (hb22.fresh e15.next)), u194, Ev.nil, (i71.fresh (ntr (ntr (ntr (ntr e15.next e21.next) e35.next) e48.next) e54.next)), Inn.nil, Dj.nil_r⟩
 ·have r195 := ite_f h40 r31
  refine s_ql (.bool true) (x := aBin Try.prog .neq 27 (.tmp 10) (.const .nilIface) (.iface t41 x42) .nilIface) (by kernel_rfl) (aBin_nnil (by kernel_rfl)) ?_
  refine s_nil ?_
  refine k39 _ _ ?_
  refine w_cond true (by kernel_rfl) rfl (fun _ => ?_) (fun h => by cases h)
  refine w_seqk fun K196 k196 => ?_
  refine w_reg (by kernel_rfl) ?_
  refine s_qk (.agg #[.int .i64 0, .slice none 0 0]) (by kernel_rfl) ?_
  refine s_qk (.iface t41 x42) (by kernel_rfl) ?_
  have u201 := (r23.frS e35 Dj.nil_l)
  obtain ⟨H197, q198, e199, r200⟩ := Row.store (P := Try.prog) (t := 24) (p := 0) e35.wf u201 (.agg #[.int .i64 0, .slice none 0 0]) [.int .i64 0, .slice none 0 0] (by kernel_rfl) (by kernel_rfl) (one_cons (rfl) (one_cons (rfl) (one_nil))) (Nat.le_of_ble_eq_true (by kernel_rfl)) [.int .i64 0, .slice none 0 0] (by kernel_rfl)
  refine s_ek (undef) (by kernel_rfl) (map_ok q198) ?_
  refine s_qk (.iface t41 x42) (by kernel_rfl) ?_
  refine s_nil ?_
  refine k196 _ _ ?_
  refine w_ret (th_ret ?_)
  refine b_ret (fn := Try.f9) (vs := [.agg #[.int .i64 0, .slice none 0 0], .iface t41 x42]) (aRes_cell (Eq.trans (b := aLoad Try.prog 24 (.pointer (some ⟨b19, 0, none⟩)) H197) (by kernel_rfl) (r200.ld (by kernel_rfl))) (aRes_tmp (by kernel_rfl) (rfl))) ?_
  have u202 := (m36.fr e199 (Dj.symm (i37.djn r23.ltF)))
  obtain rfl := Option.some.inj r195
  exact ⟨(.slice none 0 0), [], (.iface t41 x42), f33, rfl, (FrS.step wf (FrS.step wf (((FrS.refl (W := []) wf).extR e15).extR e21) e35 Inn.nil) e199 (hb22.fresh e15.next)), (Ow.nil (by decide)), u202, Inn.nil, (i37.fresh (ntr e15.next e21.next)), Dj.nil_l⟩


end Go.Vd

/-! (KNw1) -/

set_option maxRecDepth 100000
set_option maxHeartbeats 4000000
set_option linter.unusedVariables false
namespace Go.Vd
open Go.Proofs
attribute [local irreducible] wpSeq wpOrd aWp
theorem c_normal_Reverse {H : AH} {hd_Arcs : Value} {fp_Arcs : Fp} {N_ : Int} {Arcs : List (Int × Int × Int)} {r : Int × List (Int × Int × Int) × Er}
  (wf : WF H) (h_Arcs : Sq enc_i64_i64_i64 3 H hd_Arcs Arcs fp_Arcs) (hr : z_normal_Reverse N_ Arcs = some r) :
  ACalls Try.prog 10 #[.agg #[.int .i64 N_, hd_Arcs]] H fun v H' => ∃ (s3 : Value) (f4 : Fp) (v7 : Value) (f8 : Fp), v = .tuple #[.agg #[.int .i64 r.1, s3], v7] ∧ FrS [] H H' ∧ Ow enc_i64_i64_i64 3 H' s3 r.2.1 f4 ∧ Ev 81 111 H' v7 r.2.2 f8 ∧ Inn [] H f4 ∧ Inn [] H f8 ∧ Dj f4 f8 := by
 refine acalls_of_body mixed Try.func10 rfl (Nat.le_of_ble_eq_true rfl) ?_
 unfold z_normal_Reverse at hr
 refine w_seqk fun K12 k12 => ?_
 refine w_reg (by kernel_rfl) ?_
 refine s_rwl wf [.int .i64 N_, hd_Arcs] (one_cons (rfl) (one_cons (h_Arcs.one1) (one_nil))) (by kernel_rfl) fun b13 H14 e15 hb16 r17 => ?_
 refine s_rwk e15.wf [.int .i64 0, .slice none 0 0] (by kernel_rfl) fun b19 H20 e21 hb22 r23 => ?_
 refine s_qk (.nilIface) (by kernel_rfl) ?_
 refine s_nil ?_
 refine k12 _ _ ?_
 refine w_seqk fun K25 k25 => ?_
 refine w_seqk fun K26 k26 => ?_
 refine w_reg (by kernel_rfl) ?_
 have u27 := (r17.ext e21)
 refine s_ql (.agg #[.int .i64 N_, hd_Arcs]) (x := aLoad Try.prog 24 (.pointer (some ⟨b13, 0, none⟩)) H20) (by kernel_rfl) (u27.ld (by kernel_rfl)) ?_
 have u28 := ((h_Arcs.ext e15).ext e21)
 obtain ⟨y29, hy30, r31⟩ := bind_some hr
 refine s_ck 38 #[.agg #[.int .i64 N_, hd_Arcs]] (by kernel_rfl) (c_gtext_Check e21.wf u28 hy30) ?_
 rintro v32 H34 ⟨_, f33, rfl, e35, m36, i37⟩
 refine s_qk (v32) (by kernel_rfl) ?_
 refine s_nil ?_
 refine k26 _ _ ?_
 refine w_seqk fun K39 k39 => ?_
 refine w_reg (by kernel_rfl) ?_
 refine s_qk (v32) (by kernel_rfl) ?_
 rcases (m36).cases with ⟨h40, rfl⟩ | ⟨h40, t41, x42, rfl⟩
 ·have r43 := ite_t h40 r31
  refine s_qk (.bool false) (by kernel_rfl) ?_
  refine s_nil ?_
  refine k39 _ _ ?_
  refine w_cond false (by kernel_rfl) rfl (fun h => by cases h) (fun _ => ?_)
  refine w_skip ?_
  refine k25 _ _ ?_
  refine w_seqk fun K44 k44 => ?_
  refine w_reg (by kernel_rfl) ?_
  refine s_qk (.pointer (some ⟨b13, 0, none⟩)) (by kernel_rfl) ?_
  have u45 := (u27.frS e35 Dj.nil_l)
  refine s_ql (.int .i64 N_) (x := aLoad Try.prog 3 (.pointer (some ⟨b13, 0, none⟩)) H34) (by kernel_rfl) (u45.ld (by kernel_rfl)) ?_
  refine s_qk (.agg #[.int .i64 N_, .slice none 0 0]) (by kernel_rfl) ?_
  refine s_rwk e35.wf [.int .i64 0, .slice none 0 0] (by kernel_rfl) fun b46 H47 e48 hb49 r50 => ?_
  obtain ⟨H52, q53, e54, r55⟩ := Row.store (P := Try.prog) (t := 24) (p := 0) e48.wf r50 (.agg #[.int .i64 N_, .slice none 0 0]) [.int .i64 N_, .slice none 0 0] (by kernel_rfl) (by kernel_rfl) (one_cons (rfl) (one_cons (rfl) (one_nil))) (Nat.le_of_ble_eq_true (by kernel_rfl)) [.int .i64 N_, .slice none 0 0] (by kernel_rfl)
  refine s_ek (undef) (by kernel_rfl) (map_ok q53) ?_
  refine s_nil ?_
  refine k44 _ _ ?_
  refine w_seqk fun K56 k56 => ?_
  refine w_seqk fun K57 k57 => ?_
  refine w_reg (by kernel_rfl) ?_
  refine s_qk (.pointer (some ⟨b13, 1, none⟩)) (by kernel_rfl) ?_
  have u58 := ((u45.ext e48).frS e54 (hb49.djn (r17.ltF.le (ntr e21.next e35.next))))
  refine s_ql (hd_Arcs) (x := aLoad Try.prog 22 (.pointer (some ⟨b13, 1, none⟩)) H52) (by kernel_rfl) (u58.ld (by kernel_rfl)) ?_
  have u59 := (((u28.fr e35 Dj.nil_l).ext e48).fr e54 (hb49.djn (h_Arcs.lt.le (ntr (ntr e15.next e21.next) e35.next))))
  refine s_ql (.int .i64 (Arcs.length : Int)) (x := aLen Try.prog 22 hd_Arcs H52) (by kernel_rfl) (u59.lenb (by kernel_rfl)) ?_
  refine s_qk (.int .i64 0) (by kernel_rfl) ?_
  refine s_nil ?_
  refine k57 _ _ ?_
  obtain ⟨o60, hx61, r62⟩ := bind_some r43
  refine w_mid (fun α H63 => ∃ (s67 : Value) (f68 : Fp), Has α [(2, .pointer (some ⟨b19, 0, none⟩)), (5, .pointer (some ⟨b46, 0, none⟩))] ∧ FrS [b46] H52 H63 ∧ Ow enc_i64_i64_i64 3 H63 s67 o60 f68 ∧ Row H63 b46 [.int .i64 N_, s67] ∧ Inn [] H52 f68) (fun K72 k72 => ?_) (fun α H63 hM => ?_)
  ·refine w_block ?_
   obtain ⟨n74, hn75⟩ := loopO_iff.1 hx61
   refine w_loopn (fun n α H76 => ∃ (i0 : Int), ∃ (c1 : List (Int × Int × Int)), ∃ (s80 : Value), ∃ (f81 : Fp), iterO (fun zz_ => z_normal_Reverse_l0 Arcs zz_.1 zz_.2) n (i0, c1) = some o60 ∧ Has α [(2, .pointer (some ⟨b19, 0, none⟩)), (5, .pointer (some ⟨b46, 0, none⟩)), (18, hd_Arcs), (19, .int .i64 (Arcs.length : Int)), (20, .int .i64 i0)] ∧ FrS [b46] H52 H76 ∧ Ow enc_i64_i64_i64 3 H76 s80 c1 f81 ∧ Row H76 b46 [.int .i64 N_, s80] ∧ Inn [] H52 f81) n74 ⟨0, [], (.slice none 0 0), [], hn75, ⟨by kernel_rfl, by kernel_rfl, by kernel_rfl, by kernel_rfl, by kernel_rfl, trivial⟩, (FrS.refl (W := [b46]) e54.wf), (Ow.nil (by decide)), r55, Inn.nil⟩ ?_
   rintro n74 α H76 ⟨i0, c1, s80, f81, hi86, hh85, e77, m79, m83, i84⟩ K91 k91
   obtain ⟨n87, z88, rfl, hz89, hn90⟩ := iter_succ hi86
   obtain ⟨β, rfl⟩ := has_ex hh85
   clear hh85
   replace hz89 : z_normal_Reverse_l0 Arcs i0 c1 = some z88 := hz89
   unfold z_normal_Reverse_l0 at hz89
   obtain ⟨a92, n93, c94, rfl⟩ := m79.form
   refine w_seqk fun K95 k95 => ?_
   refine w_reg (by kernel_rfl) ?_
   refine s_qk (.bool (decide (i0 < (Arcs.length : Int)))) (by kernel_rfl) ?_
   refine s_nil ?_
   refine k95 _ _ ?_
   refine w_seqk fun K96 k96 => ?_
   refine w_condp (i0 < (Arcs.length : Int)) (by kernel_rfl) rfl (fun h97 => ?_) (fun h97 => ?_)
   ·have r98 := ite_t h97 hz89
    refine w_skip ?_
    refine k96 _ _ ?_
    refine w_seqk fun K99 k99 => ?_
    refine w_block ?_
    refine w_seqk fun K100 k100 => ?_
    refine w_reg (by kernel_rfl) ?_
    obtain ⟨g101, r102⟩ := G_some r98
    have u103 := (u59.fr e77 (hb49.djn (h_Arcs.lt.le (ntr (ntr e15.next e21.next) e35.next))))
    refine s_ql (elp hd_Arcs 3 i0.toNat 0) (x := aIndexAddr Try.prog 22 hd_Arcs (.int .i64 i0)) (by kernel_rfl) (u103.idxb (by kernel_rfl) g101 h97) ?_
    refine s_ql (.agg #[.int .i64 ((gt Arcs i0).1), .int .i64 ((gt Arcs i0).2.1), .int .i64 ((gt Arcs i0).2.2)]) (x := aLoad Try.prog 34 (elp hd_Arcs 3 i0.toNat 0) H76) (by kernel_rfl) (u103.ld g101 h97 (by kernel_rfl)) ?_
    refine s_rwk e77.wf [.int .i64 0, .int .i64 0, .int .i64 0] (by kernel_rfl) fun b104 H105 e106 hb107 r108 => ?_
    obtain ⟨H110, q111, e112, r113⟩ := Row.store (P := Try.prog) (t := 34) (p := 0) e106.wf r108 (.agg #[.int .i64 ((gt Arcs i0).1), .int .i64 ((gt Arcs i0).2.1), .int .i64 ((gt Arcs i0).2.2)]) [.int .i64 ((gt Arcs i0).1), .int .i64 ((gt Arcs i0).2.1), .int .i64 ((gt Arcs i0).2.2)] (by kernel_rfl) (by kernel_rfl) (one_cons (rfl) (one_cons (rfl) (one_cons (rfl) (one_nil)))) (Nat.le_of_ble_eq_true (by kernel_rfl)) [.int .i64 ((gt Arcs i0).1), .int .i64 ((gt Arcs i0).2.1), .int .i64 ((gt Arcs i0).2.2)] (by kernel_rfl)
    refine s_ek (undef) (by kernel_rfl) (map_ok q111) ?_
    refine s_nil ?_
    refine k100 _ _ ?_
    refine w_reg (by kernel_rfl) ?_
    refine s_qk (.pointer (some ⟨b46, 1, none⟩)) (by kernel_rfl) ?_
    have u114 := ((m83.ext e106).frS e112 (hb107.djn (r50.ltF.le (ntr e54.next e77.next))))
    refine s_ql (.slice a92 n93 c94) (x := aLoad Try.prog 22 (.pointer (some ⟨b46, 1, none⟩)) H110) (by kernel_rfl) (u114.ld (by kernel_rfl)) ?_
    refine s_qk (.pointer (some ⟨b104, 1, none⟩)) (by kernel_rfl) ?_
    refine s_ql (.int .i64 ((gt Arcs i0).2.1)) (x := aLoad Try.prog 3 (.pointer (some ⟨b104, 1, none⟩)) H110) (by kernel_rfl) (r113.ld (by kernel_rfl)) ?_
    refine s_qk (.pointer (some ⟨b104, 0, none⟩)) (by kernel_rfl) ?_
    refine s_ql (.int .i64 ((gt Arcs i0).1)) (x := aLoad Try.prog 3 (.pointer (some ⟨b104, 0, none⟩)) H110) (by kernel_rfl) (r113.ld (by kernel_rfl)) ?_
    refine s_qk (.pointer (some ⟨b104, 2, none⟩)) (by kernel_rfl) ?_
    refine s_ql (.int .i64 ((gt Arcs i0).2.2)) (x := aLoad Try.prog 3 (.pointer (some ⟨b104, 2, none⟩)) H110) (by kernel_rfl) (r113.ld (by kernel_rfl)) ?_
    refine s_qk (.agg #[.int .i64 ((gt Arcs i0).2.1), .int .i64 ((gt Arcs i0).1), .int .i64 ((gt Arcs i0).2.2)]) (by kernel_rfl) ?_
    refine s_owk (enc := enc_i64_i64_i64) (sz := 3) e112.wf [((gt Arcs i0).2.1, (gt Arcs i0).1, (gt Arcs i0).2.2)] 1 (by decide) (fun _ _ => rfl) (fun _ _ => rfl) rfl (by kernel_rfl) fun s115 f116 H117 e118 hf119 hm120 => ?_
    obtain ⟨a121, n122, c123, rfl⟩ := hm120.form
    have u125 := (((m79.ext e106).fr e112 (hb107.djn m79.lt)).ext e118)
    obtain ⟨g126, r127⟩ := G_some r102
    obtain ⟨s128, H129, f130, q134, e131, hm132, hf133⟩ := Ow.append (P := Try.prog) 24 e118.wf u125 hm120.sq (fun _ _ => rfl) (at_ := #[22, 22]) rfl rfl (by kernel_rfl) (by kernel_rfl) (by decide) (by have := g126; first | omega | (simp only [List.length_cons, List.length_nil] at this ⊢; omega) | (simp at this ⊢; omega))
    obtain ⟨a135, n136, c137, rfl⟩ := hm132.form
    refine s_ek (.slice a135 n136 c137) (by kernel_rfl) (q134) ?_
    refine s_qk (.pointer (some ⟨b46, 1, none⟩)) (by kernel_rfl) ?_
    have u143 := ((u114.ext e118).frS e131 (i84.djn (r50.ltF.le e54.next)))
    obtain ⟨H139, q140, e141, r142⟩ := Row.store (P := Try.prog) (t := 22) (p := 1) e131.wf u143 (.slice a135 n136 c137) [.slice a135 n136 c137] (by kernel_rfl) (by kernel_rfl) (one_cons (hm132.one1) (one_nil)) (Nat.le_of_ble_eq_true (by kernel_rfl)) [.int .i64 N_, .slice a135 n136 c137] (by kernel_rfl)
    refine s_ek (undef) (by kernel_rfl) (map_ok q140) ?_
    refine s_nil ?_
    refine k99 _ _ ?_
    refine w_reg (by kernel_rfl) ?_
    obtain ⟨g144, r145⟩ := G_some r127
    refine s_w ((i0 + 1)) (k := .i64) (x := (i0 + 1)) (by kernel_rfl) (wrap64 (by have := g144; omega)) ?_
    refine s_qk (.int .i64 (i0 + 1)) (by kernel_rfl) ?_
    refine s_nil ?_
    have u146 := (hm132.fr e141 (Dj.symm (hf133.dj (i84.djn (r50.ltF.le e54.next)) (r50.ltF.le (ntr (ntr (ntr (ntr e54.next e77.next) e106.next) e112.next) e118.next)))))
    obtain rfl := Option.some.inj r145
    exact k91 n87 _ _ (Nat.lt_succ_self _) ⟨(i0 + 1), (c1 ++ [((gt Arcs i0).2.1, (gt Arcs i0).1, (gt Arcs i0).2.2)]), (.slice a135 n136 c137), f130, hn90, ⟨by kernel_rfl, by kernel_rfl, by kernel_rfl, by kernel_rfl, by kernel_rfl, trivial⟩, (FrS.step e54.wf (FrS.step e54.wf ((FrS.step e54.wf ((FrS.step e54.wf (FrS.refl (W := [b46]) e54.wf) e77 Inn.refl').extR e106) e112 (hb107.fresh e77.next)).extR e118) e131 (i84.fresh (Nat.le_refl _))) e141 Inn.refl'), u146, r142, (Inn.trans (i84.fresh (Nat.le_refl _)) (ntr (ntr (ntr e77.next e106.next) e112.next) e118.next) hf133)⟩
   ·have r147 := ite_f h97 hz89
    refine w_exit (th_exit (th_exit (bl_eq ?_)))
    obtain rfl := Option.some.inj r147
    obtain rfl := it_inr hn90
    exact k72 _ _ ⟨(.slice a92 n93 c94), f81, ⟨by kernel_rfl, by kernel_rfl, trivial⟩, (FrS.step e54.wf (FrS.refl (W := [b46]) e54.wf) e77 Inn.refl'), m79, m83, (i84.fresh (Nat.le_refl _))⟩
  ·obtain ⟨s67, f68, hh73, e64, m66, m70, i71⟩ := hM
   obtain ⟨β, rfl⟩ := has_ex hh73
   clear hh73
   obtain ⟨a148, n149, c150, rfl⟩ := m66.form
   refine k56 _ _ ?_
   refine w_seqk fun K151 k151 => ?_
   refine w_reg (by kernel_rfl) ?_
   refine s_ql (.agg #[.int .i64 N_, .slice a148 n149 c150]) (x := aLoad Try.prog 24 (.pointer (some ⟨b46, 0, none⟩)) H63) (by kernel_rfl) (m70.ld (by kernel_rfl)) ?_
   have u156 := ((((r23.frS e35 Dj.nil_l).ext e48).frS e54 (hb49.djn (r23.ltF.le e35.next))).frS e64 (hb49.djn (r23.ltF.le e35.next)))
   obtain ⟨H152, q153, e154, r155⟩ := Row.store (P := Try.prog) (t := 24) (p := 0) e64.wf u156 (.agg #[.int .i64 N_, .slice a148 n149 c150]) [.int .i64 N_, .slice a148 n149 c150] (by kernel_rfl) (by kernel_rfl) (one_cons (rfl) (one_cons (m66.one1) (one_nil))) (Nat.le_of_ble_eq_true (by kernel_rfl)) [.int .i64 N_, .slice a148 n149 c150] (by kernel_rfl)
   refine s_ek (undef) (by kernel_rfl) (map_ok q153) ?_
   refine s_qk (.nilIface) (by kernel_rfl) ?_
   refine s_nil ?_
   refine k151 _ _ ?_
   refine w_ret ?_
   refine b_ret (fn := Try.f10) (vs := [.agg #[.int .i64 N_, .slice a148 n149 c150], .nilIface]) (aRes_cell (Eq.trans (b := aLoad Try.prog 24 (.pointer (some ⟨b19, 0, none⟩)) H152) (by kernel_rfl) (r155.ld (by kernel_rfl))) (aRes_tmp (by kernel_rfl) (rfl))) ?_
   have u157 := (m66.fr e154 (Dj.symm (i71.djn (r23.ltF.le (ntr (ntr e35.next e48.next) e54.next)))))
   obtain rfl := Option.some.inj r62
   exact ⟨(.slice a148 n149 c150), f68, (.nilIface), [], rfl, (FrS.step wf (FrS.step wf (FrS.step wf ((FrS.step wf (((FrS.refl (W := []) wf).extR e15).extR e21) e35 Inn.nil).extR e48) e54 (hb49.fresh (ntr (ntr e15.next e21.next) e35.next))) e64 (hb49.fresh (ntr (ntr e15.next e21.next) e35.next))) e154 (hb22.fresh e15.next)), u157, Ev.nil, (i71.fresh (ntr (ntr (ntr (ntr e15.next e21.next) e35.next) e48.next) e54.next)), Inn.nil, Dj.nil_r⟩
 ·have r158 := ite_f h40 r31
  refine s_ql (.bool true) (x := aBin Try.prog .neq 27 (.tmp 10) (.const .nilIface) (.iface t41 x42) .nilIface) (by kernel_rfl) (aBin_nnil (by kernel_rfl)) ?_
  refine s_nil ?_
  refine k39 _ _ ?_
  refine w_cond true (by kernel_rfl) rfl (fun _ => ?_) (fun h => by cases h)
  refine w_seqk fun K159 k159 => ?_
  refine w_reg (by kernel_rfl) ?_
  refine s_qk (.agg #[.int .i64 0, .slice none 0 0]) (by kernel_rfl) ?_
  refine s_qk (.iface t41 x42) (by kernel_rfl) ?_
  have u164 := (r23.frS e35 Dj.nil_l)
  obtain ⟨H160, q161, e162, r163⟩ := Row.store (P := Try.prog) (t := 24) (p := 0) e35.wf u164 (.agg #[.int .i64 0, .slice none 0 0]) [.int .i64 0, .slice none 0 0] (by kernel_rfl) (by kernel_rfl) (one_cons (rfl) (one_cons (rfl) (one_nil))) (Nat.le_of_ble_eq_true (by kernel_rfl)) [.int .i64 0, .slice none 0 0] (by kernel_rfl)
  refine s_ek (undef) (by kernel_rfl) (map_ok q161) ?_
  refine s_qk (.iface t41 x42) (by kernel_rfl) ?_
  refine s_nil ?_
  refine k159 _ _ ?_
  refine w_ret (th_ret ?_)
  refine b_ret (fn := Try.f10) (vs := [.agg #[.int .i64 0, .slice none 0 0], .iface t41 x42]) (aRes_cell (Eq.trans (b := aLoad Try.prog 24 (.pointer (some ⟨b19, 0, none⟩)) H160) (by kernel_rfl) (r163.ld (by kernel_rfl))) (aRes_tmp (by kernel_rfl) (rfl))) ?_
  have u165 := (m36.fr e162 (Dj.symm (i37.djn r23.ltF)))
  obtain rfl := Option.some.inj r158
  exact ⟨(.slice none 0 0), [], (.iface t41 x42), f33, rfl, (FrS.step wf (FrS.step wf (((FrS.refl (W := []) wf).extR e15).extR e21) e35 Inn.nil) e162 (hb22.fresh e15.next)), (Ow.nil (by decide)), u165, Inn.nil, (i37.fresh (ntr e15.next e21.next)), Dj.nil_l⟩

theorem c_slices_Equal {H : AH} {hd_s1 : Value} {fp_s1 : Fp} {hd_s2 : Value} {fp_s2 : Fp} {s1 : List (Int × Int × Int)} {s2 : List (Int × Int × Int)} {r : Bool}
  (wf : WF H) (h_s1 : Sq enc_i64_i64_i64 3 H hd_s1 s1 fp_s1) (h_s2 : Sq enc_i64_i64_i64 3 H hd_s2 s2 fp_s2) (hr : z_slices_Equal s1 s2 = some r) :
  ACalls Try.prog 43 #[hd_s1, hd_s2] H fun v H' => v = .bool r ∧ H = H' := by
 refine acalls_of_body mixed Try.func43 rfl (Nat.le_of_ble_eq_true rfl) ?_
 unfold z_slices_Equal at hr
 refine w_seqk fun K1 k1 => ?_
 refine w_reg (by kernel_rfl) ?_
 refine s_qk (.bool false) (by kernel_rfl) ?_
 refine s_nil ?_
 refine k1 _ _ ?_
 refine w_seqk fun K2 k2 => ?_
 refine w_seqk fun K3 k3 => ?_
 refine w_reg (by kernel_rfl) ?_
 refine s_qk (hd_s1) (by kernel_rfl) ?_
 refine s_ql (.int .i64 (s1.length : Int)) (x := aLen Try.prog 22 hd_s1 H) (by kernel_rfl) (h_s1.lenb (by kernel_rfl)) ?_
 refine s_qk (hd_s2) (by kernel_rfl) ?_
 refine s_ql (.int .i64 (s2.length : Int)) (x := aLen Try.prog 22 hd_s2 H) (by kernel_rfl) (h_s2.lenb (by kernel_rfl)) ?_
 refine s_qk (.bool (!decide ((s1.length : Int) = (s2.length : Int)))) (by kernel_rfl) ?_
 refine s_nil ?_
 refine k3 _ _ ?_
 refine w_condn ((s1.length : Int) = (s2.length : Int)) (by kernel_rfl) rfl (fun h4 => ?_) (fun h4 => ?_)
 ·have r5 := ite_f h4 hr
  refine w_seqk fun K6 k6 => ?_
  refine w_reg (by kernel_rfl) ?_
  refine s_qk (.bool false) (by kernel_rfl) ?_
  refine s_nil ?_
  refine k6 _ _ ?_
  refine w_ret (th_ret ?_)
  refine b_ret (fn := Try.f43) (vs := [.bool false]) (aRes_tmp (by kernel_rfl) (rfl)) ?_
  obtain rfl := Option.some.inj r5
  exact ⟨rfl, rfl⟩
 ·have r7 := ite_t h4 hr
  refine w_skip ?_
  refine k2 _ _ ?_
  refine w_seqk fun K8 k8 => ?_
  refine w_seqk fun K9 k9 => ?_
  refine w_reg (by kernel_rfl) ?_
  refine s_qk (hd_s1) (by kernel_rfl) ?_
  refine s_ql (.int .i64 (s1.length : Int)) (x := aLen Try.prog 22 hd_s1 H) (by kernel_rfl) (h_s1.lenb (by kernel_rfl)) ?_
  refine s_qk (.int .i64 0) (by kernel_rfl) ?_
  refine s_nil ?_
  refine k9 _ _ ?_
  obtain ⟨z13, hx11, r12⟩ := bind_some r7
  refine w_mid (fun α H14 => ∃ o10, z13 = Sum.inr o10 ∧ Has α [] ∧ H = H14) (fun K16 k16 => ?_) (fun α H14 hM => ?_)
  ·refine w_block ?_
   obtain ⟨n18, hn19⟩ := loopO_iff.1 hx11
   refine w_loopn (fun n α H20 => ∃ (i0 : Int), iterO (fun zz_ => z_slices_Equal_l0 s1 s2 zz_) n i0 = some z13 ∧ Has α [(0, hd_s1), (1, hd_s2), (12, .int .i64 (s1.length : Int)), (13, .int .i64 i0)] ∧ H = H20) n18 ⟨0, hn19, ⟨by kernel_rfl, by kernel_rfl, by kernel_rfl, by kernel_rfl, trivial⟩, rfl⟩ ?_
   rintro n18 α H20 ⟨i0, hi23, hh22, rfl⟩ K28 k28
   obtain ⟨n24, z25, rfl, hz26, hn27⟩ := iter_succ hi23
   obtain ⟨β, rfl⟩ := has_ex hh22
   clear hh22
   replace hz26 : z_slices_Equal_l0 s1 s2 i0 = some z25 := hz26
   unfold z_slices_Equal_l0 at hz26
   refine w_seqk fun K29 k29 => ?_
   refine w_reg (by kernel_rfl) ?_
   refine s_qk (.bool (decide (i0 < (s1.length : Int)))) (by kernel_rfl) ?_
   refine s_nil ?_
   refine k29 _ _ ?_
   refine w_seqk fun K30 k30 => ?_
   refine w_condp (i0 < (s1.length : Int)) (by kernel_rfl) rfl (fun h31 => ?_) (fun h31 => ?_)
   ·have r32 := ite_t h31 hz26
    refine w_skip ?_
    refine k30 _ _ ?_
    refine w_seqk fun K33 k33 => ?_
    refine w_block ?_
    refine w_seqk fun K34 k34 => ?_
    refine w_reg (by kernel_rfl) ?_
    refine s_qk (.int .i64 i0) (by kernel_rfl) ?_
    refine s_qk (.int .i64 i0) (by kernel_rfl) ?_
    refine s_nil ?_
    refine k34 _ _ ?_
    refine w_seqk fun K35 k35 => ?_
    refine w_draw [0, 1, 2, 3, 4, 5, 6, 7, 8] (by kernel_rfl) ?_
    refine d_qk (hd_s1) (by kernel_rfl) ?_
    refine d_qk (.int .i64 i0) (by kernel_rfl) ?_
    obtain ⟨g36, r37⟩ := G_some r32
    refine d_ql (elp hd_s1 3 i0.toNat 0) (x := aIndexAddr Try.prog 22 hd_s1 (.int .i64 i0)) (by kernel_rfl) (h_s1.idxb (by kernel_rfl) g36 h31) ?_
    refine d_ql (.agg #[.int .i64 ((gt s1 i0).1), .int .i64 ((gt s1 i0).2.1), .int .i64 ((gt s1 i0).2.2)]) (x := aLoad Try.prog 34 (elp hd_s1 3 i0.toNat 0) H) (by kernel_rfl) (h_s1.ld g36 h31 (by kernel_rfl)) ?_
    refine d_qk (hd_s2) (by kernel_rfl) ?_
    refine d_qk (.int .i64 i0) (by kernel_rfl) ?_
    obtain ⟨g38, r39⟩ := G_some r37
    refine d_ql (elp hd_s2 3 i0.toNat 0) (x := aIndexAddr Try.prog 22 hd_s2 (.int .i64 i0)) (by kernel_rfl) (h_s2.idxb (by kernel_rfl) g36 g38) ?_
    refine d_ql (.agg #[.int .i64 ((gt s2 i0).1), .int .i64 ((gt s2 i0).2.1), .int .i64 ((gt s2 i0).2.2)]) (x := aLoad Try.prog 34 (elp hd_s2 3 i0.toNat 0) H) (by kernel_rfl) (h_s2.ld g36 g38 (by kernel_rfl)) ?_
    refine d_ql (.bool (!decide (((gt s1 i0).1) = ((gt s2 i0).1) ∧ ((gt s1 i0).2.1) = ((gt s2 i0).2.1) ∧ ((gt s1 i0).2.2) = ((gt s2 i0).2.2)))) (x := aBin Try.prog .neq 34 (.tmp 19) (.tmp 23) (.agg #[.int .i64 ((gt s1 i0).1), .int .i64 ((gt s1 i0).2.1), .int .i64 ((gt s1 i0).2.2)]) (.agg #[.int .i64 ((gt s2 i0).1), .int .i64 ((gt s2 i0).2.1), .int .i64 ((gt s2 i0).2.2)])) (by kernel_rfl) (aBin_neq34 _ _ ((gt s1 i0).1) ((gt s1 i0).2.1) ((gt s1 i0).2.2) ((gt s2 i0).1) ((gt s2 i0).2.1) ((gt s2 i0).2.2)) ?_
    refine d_nil ?_
    refine k35 _ _ ?_
    refine w_condn (((gt s1 i0).1) = ((gt s2 i0).1) ∧ ((gt s1 i0).2.1) = ((gt s2 i0).2.1) ∧ ((gt s1 i0).2.2) = ((gt s2 i0).2.2)) (by kernel_rfl) rfl (fun h40 => ?_) (fun h40 => ?_)
    ·have r41 := ite_f h40 r39
     refine w_seqk fun K42 k42 => ?_
     refine w_reg (by kernel_rfl) ?_
     refine s_qk (.bool false) (by kernel_rfl) ?_
     refine s_nil ?_
     refine k42 _ _ ?_
     refine w_ret (bl_ret (th_ret (th_ret (bl_ret (th_ret (th_ret ?_))))))
     obtain ⟨v43, hv44, hz45⟩ := map_some r41
     subst hz45
     obtain rfl := it_inr hn27
     have hq46 := elim_inl r12
     rw [hq46] at hv44
     refine b_ret (fn := Try.f43) (vs := [.bool false]) (aRes_tmp (by kernel_rfl) (rfl)) ?_
     obtain rfl := Option.some.inj hv44
     exact ⟨rfl, rfl⟩
    ·have r47 := ite_t h40 r39
     refine w_skip ?_
     refine k33 _ _ ?_
     refine w_reg (by kernel_rfl) ?_
     obtain ⟨g48, r49⟩ := G_some r47
     refine s_w ((i0 + 1)) (k := .i64) (x := (i0 + 1)) (by kernel_rfl) (wrap64 (by have := g48; omega)) ?_
     refine s_qk (.int .i64 (i0 + 1)) (by kernel_rfl) ?_
     refine s_nil ?_
     obtain rfl := Option.some.inj r49
     exact k28 n24 _ _ (Nat.lt_succ_self _) ⟨(i0 + 1), hn27, ⟨by kernel_rfl, by kernel_rfl, by kernel_rfl, by kernel_rfl, trivial⟩, rfl⟩
   ·have r50 := ite_f h31 hz26
    refine w_exit (th_exit (th_exit (bl_eq ?_)))
    obtain rfl := Option.some.inj r50
    obtain rfl := it_inr hn27
    exact k16 _ _ ⟨_, rfl, trivial, rfl⟩
  ·obtain ⟨o10, rfl, hh17, rfl⟩ := hM
   have r51 := elim_inr r12
   obtain ⟨β, rfl⟩ := has_ex hh17
   clear hh17
   refine k8 _ _ ?_
   refine w_seqk fun K52 k52 => ?_
   refine w_reg (by kernel_rfl) ?_
   refine s_qk (.bool true) (by kernel_rfl) ?_
   refine s_nil ?_
   refine k52 _ _ ?_
   refine w_ret ?_
   refine b_ret (fn := Try.f43) (vs := [.bool true]) (aRes_tmp (by kernel_rfl) (rfl)) ?_
   obtain rfl := Option.some.inj r51
   exact ⟨rfl, rfl⟩

theorem c_normal_Is {H : AH} {hd_Arcs : Value} {fp_Arcs : Fp} {N_ : Int} {Arcs : List (Int × Int × Int)} {r : Bool × Er}
  (wf : WF H) (h_Arcs : Sq enc_i64_i64_i64 3 H hd_Arcs Arcs fp_Arcs) (hr : z_normal_Is N_ Arcs = some r) :
  ACalls Try.prog 11 #[.agg #[.int .i64 N_, hd_Arcs]] H fun v H' => ∃ (v3 : Value) (f4 : Fp), v = .tuple #[.bool r.1, v3] ∧ FrS [] H H' ∧ Ev 81 111 H' v3 r.2 f4 ∧ Inn [] H f4 := by
 refine acalls_of_body mixed Try.func11 rfl (Nat.le_of_ble_eq_true rfl) ?_
 unfold z_normal_Is at hr
 refine w_seqk fun K6 k6 => ?_
 refine w_reg (by kernel_rfl) ?_
 refine s_rwl wf [.int .i64 N_, hd_Arcs] (one_cons (rfl) (one_cons (h_Arcs.one1) (one_nil))) (by kernel_rfl) fun b7 H8 e9 hb10 r11 => ?_
 refine s_qk (.bool false) (by kernel_rfl) ?_
 refine s_qk (.nilIface) (by kernel_rfl) ?_
 refine s_nil ?_
 refine k6 _ _ ?_
 refine w_seqk fun K13 k13 => ?_
 refine w_reg (by kernel_rfl) ?_
 refine s_ql (.agg #[.int .i64 N_, hd_Arcs]) (x := aLoad Try.prog 24 (.pointer (some ⟨b7, 0, none⟩)) H8) (by kernel_rfl) (r11.ld (by kernel_rfl)) ?_
 have u14 := (h_Arcs.ext e9)
 obtain ⟨y15, hy16, r17⟩ := bind_some hr
 refine s_ck 9 #[.agg #[.int .i64 N_, hd_Arcs]] (by kernel_rfl) (c_normal_Of e9.wf u14 hy16) ?_
 rintro _ H22 ⟨s18, f19, v20, f21, rfl, e23, m24, m25, i26, i27, d28⟩
 obtain ⟨a31, n32, c33, rfl⟩ := m24.form
 refine s_qk (.tuple #[.agg #[.int .i64 y15.1, .slice a31 n32 c33], v20]) (by kernel_rfl) ?_
 refine s_qk (.agg #[.int .i64 y15.1, .slice a31 n32 c33]) (by kernel_rfl) ?_
 refine s_qk (v20) (by kernel_rfl) ?_
 refine s_rwk e23.wf [.int .i64 0, .slice none 0 0] (by kernel_rfl) fun b34 H35 e36 hb37 r38 => ?_
 have u44 := (m24.ext e36)
 obtain ⟨H40, q41, e42, r43⟩ := Row.store (P := Try.prog) (t := 24) (p := 0) e36.wf r38 (.agg #[.int .i64 y15.1, .slice a31 n32 c33]) [.int .i64 y15.1, .slice a31 n32 c33] (by kernel_rfl) (by kernel_rfl) (one_cons (rfl) (one_cons (u44.one1) (one_nil))) (Nat.le_of_ble_eq_true (by kernel_rfl)) [.int .i64 y15.1, .slice a31 n32 c33] (by kernel_rfl)
 refine s_ek (undef) (by kernel_rfl) (map_ok q41) ?_
 refine s_qk (v20) (by kernel_rfl) ?_
 refine s_nil ?_
 refine k13 _ _ ?_
 refine w_seqk fun K45 k45 => ?_
 refine w_reg (by kernel_rfl) ?_
 refine s_qk (v20) (by kernel_rfl) ?_
 have u49 := ((m25.ext e36).fr e42 (hb37.djn m25.lt))
 rcases (u49).cases with ⟨h46, rfl⟩ | ⟨h46, t47, x48, rfl⟩
 ·have r50 := ite_t h46 r17
  refine s_qk (.bool true) (by kernel_rfl) ?_
  refine s_qk (.bool true) (by kernel_rfl) ?_
  refine s_qk (.pointer (some ⟨b34, 1, none⟩)) (by kernel_rfl) ?_
  refine s_ql (.slice a31 n32 c33) (x := aLoad Try.prog 22 (.pointer (some ⟨b34, 1, none⟩)) H40) (by kernel_rfl) (r43.ld (by kernel_rfl)) ?_
  refine s_qk (.pointer (some ⟨b7, 1, none⟩)) (by kernel_rfl) ?_
  have u51 := (((r11.frS e23 Dj.nil_l).ext e36).frS e42 (hb37.djn (r11.ltF.le e23.next)))
  refine s_ql (hd_Arcs) (x := aLoad Try.prog 22 (.pointer (some ⟨b7, 1, none⟩)) H40) (by kernel_rfl) (u51.ld (by kernel_rfl)) ?_
  have u52 := (u44.fr e42 (hb37.djn m24.lt))
  have u53 := (((u14.fr e23 Dj.nil_l).ext e36).fr e42 (hb37.djn (h_Arcs.lt.le (ntr e9.next e23.next))))
  obtain ⟨y54, hy55, r56⟩ := bind_some r50
  refine s_ck 43 #[.slice a31 n32 c33, hd_Arcs] (by kernel_rfl) (c_slices_Equal e42.wf u52.sq u53 hy55) ?_
  rintro _ _ ⟨rfl, rfl⟩
  refine s_qk (.bool y54) (by kernel_rfl) ?_
  refine s_qk (.nilIface) (by kernel_rfl) ?_
  refine s_qk (.bool y54) (by kernel_rfl) ?_
  refine s_qk (.nilIface) (by kernel_rfl) ?_
  refine s_nil ?_
  refine k45 _ _ ?_
  refine w_ret ?_
  refine b_ret (fn := Try.f11) (vs := [.bool y54, .nilIface]) (aRes_tmp (by kernel_rfl) (aRes_tmp (by kernel_rfl) (rfl))) ?_
  obtain rfl := Option.some.inj r56
  exact ⟨(.nilIface), [], rfl, (FrS.step wf ((FrS.step wf ((FrS.refl (W := []) wf).extR e9) e23 Inn.nil).extR e36) e42 (hb37.fresh (ntr e9.next e23.next))), Ev.nil, Inn.nil⟩
 ·have r59 := ite_f h46 r17
  refine s_ql (.bool false) (x := aBin Try.prog .eql 27 (.tmp 11) (.const .nilIface) (.iface t47 x48) .nilIface) (by kernel_rfl) (aBin_nil (by kernel_rfl)) ?_
  refine s_qk (.bool false) (by kernel_rfl) ?_
  refine s_no (by kernel_rfl) ?_
  refine s_no (by kernel_rfl) ?_
  refine s_no (by kernel_rfl) ?_
  refine s_no (by kernel_rfl) ?_
  refine s_no (by kernel_rfl) ?_
  refine s_qk (.bool false) (by kernel_rfl) ?_
  refine s_qk (.iface t47 x48) (by kernel_rfl) ?_
  refine s_qk (.bool false) (by kernel_rfl) ?_
  refine s_qk (.iface t47 x48) (by kernel_rfl) ?_
  refine s_nil ?_
  refine k45 _ _ ?_
  refine w_ret ?_
  refine b_ret (fn := Try.f11) (vs := [.bool false, .iface t47 x48]) (aRes_tmp (by kernel_rfl) (aRes_tmp (by kernel_rfl) (rfl))) ?_
  obtain rfl := Option.some.inj r59
  exact ⟨(.iface t47 x48), f21, rfl, (FrS.step wf ((FrS.step wf ((FrS.refl (W := []) wf).extR e9) e23 Inn.nil).extR e36) e42 (hb37.fresh (ntr e9.next e23.next))), u49, (i27.fresh e9.next)⟩

theorem c_viaductref03_SameArcs {H : AH} {hd_a : Value} {fp_a : Fp} {hd_b : Value} {fp_b : Fp} {a : List (Int × Int × Int)} {b : List (Int × Int × Int)} {r : Bool}
  (wf : WF H) (h_a : Sq enc_i64_i64_i64 3 H hd_a a fp_a) (h_b : Sq enc_i64_i64_i64 3 H hd_b b fp_b) (hr : z_viaductref03_SameArcs a b = some r) :
  ACalls Try.prog 19 #[hd_a, hd_b] H fun v H' => v = .bool r ∧ H = H' := by
 refine acalls_of_body mixed Try.func19 rfl (Nat.le_of_ble_eq_true rfl) ?_
 unfold z_viaductref03_SameArcs at hr
 refine w_seqk fun K1 k1 => ?_
 refine w_reg (by kernel_rfl) ?_
 refine s_qk (.bool false) (by kernel_rfl) ?_
 refine s_nil ?_
 refine k1 _ _ ?_
 refine w_seqk fun K2 k2 => ?_
 refine w_seqk fun K3 k3 => ?_
 refine w_reg (by kernel_rfl) ?_
 refine s_qk (hd_a) (by kernel_rfl) ?_
 refine s_ql (.int .i64 (a.length : Int)) (x := aLen Try.prog 22 hd_a H) (by kernel_rfl) (h_a.lenb (by kernel_rfl)) ?_
 refine s_qk (hd_b) (by kernel_rfl) ?_
 refine s_ql (.int .i64 (b.length : Int)) (x := aLen Try.prog 22 hd_b H) (by kernel_rfl) (h_b.lenb (by kernel_rfl)) ?_
 refine s_qk (.bool (!decide ((a.length : Int) = (b.length : Int)))) (by kernel_rfl) ?_
 refine s_nil ?_
 refine k3 _ _ ?_
 refine w_condn ((a.length : Int) = (b.length : Int)) (by kernel_rfl) rfl (fun h4 => ?_) (fun h4 => ?_)
 ·have r5 := ite_f h4 hr
  refine w_seqk fun K6 k6 => ?_
  refine w_reg (by kernel_rfl) ?_
  refine s_qk (.bool false) (by kernel_rfl) ?_
  refine s_nil ?_
  refine k6 _ _ ?_
  refine w_ret (th_ret ?_)
  refine b_ret (fn := Try.f19) (vs := [.bool false]) (aRes_tmp (by kernel_rfl) (rfl)) ?_
  obtain rfl := Option.some.inj r5
  exact ⟨rfl, rfl⟩
 ·have r7 := ite_t h4 hr
  refine w_skip ?_
  refine k2 _ _ ?_
  refine w_seqk fun K8 k8 => ?_
  refine w_seqk fun K9 k9 => ?_
  refine w_reg (by kernel_rfl) ?_
  refine s_qk (hd_a) (by kernel_rfl) ?_
  refine s_ql (.int .i64 (a.length : Int)) (x := aLen Try.prog 22 hd_a H) (by kernel_rfl) (h_a.lenb (by kernel_rfl)) ?_
  refine s_qk (.int .i64 0) (by kernel_rfl) ?_
  refine s_nil ?_
  refine k9 _ _ ?_
  obtain ⟨z13, hx11, r12⟩ := bind_some r7
  refine w_mid (fun α H14 => ∃ o10, z13 = Sum.inr o10 ∧ Has α [] ∧ H = H14) (fun K16 k16 => ?_) (fun α H14 hM => ?_)
  ·refine w_block ?_
   obtain ⟨n18, hn19⟩ := loopO_iff.1 hx11
   refine w_loopn (fun n α H20 => ∃ (i0 : Int), iterO (fun zz_ => z_viaductref03_SameArcs_l0 a b zz_) n i0 = some z13 ∧ Has α [(0, hd_a), (1, hd_b), (12, .int .i64 (a.length : Int)), (13, .int .i64 i0)] ∧ H = H20) n18 ⟨0, hn19, ⟨by kernel_rfl, by kernel_rfl, by kernel_rfl, by kernel_rfl, trivial⟩, rfl⟩ ?_
   rintro n18 α H20 ⟨i0, hi23, hh22, rfl⟩ K28 k28
   obtain ⟨n24, z25, rfl, hz26, hn27⟩ := iter_succ hi23
   obtain ⟨β, rfl⟩ := has_ex hh22
   clear hh22
   replace hz26 : z_viaductref03_SameArcs_l0 a b i0 = some z25 := hz26
   unfold z_viaductref03_SameArcs_l0 at hz26
   refine w_seqk fun K29 k29 => ?_
   refine w_reg (by kernel_rfl) ?_
   refine s_qk (.bool (decide (i0 < (a.length : Int)))) (by kernel_rfl) ?_
   refine s_nil ?_
   refine k29 _ _ ?_
   refine w_seqk fun K30 k30 => ?_
   refine w_condp (i0 < (a.length : Int)) (by kernel_rfl) rfl (fun h31 => ?_) (fun h31 => ?_)
   ·have r32 := ite_t h31 hz26
    refine w_skip ?_
    refine k30 _ _ ?_
    refine w_seqk fun K33 k33 => ?_
    refine w_block ?_
    refine w_seqk fun K34 k34 => ?_
    refine w_reg (by kernel_rfl) ?_
    refine s_qk (.int .i64 i0) (by kernel_rfl) ?_
    refine s_qk (.int .i64 i0) (by kernel_rfl) ?_
    refine s_nil ?_
    refine k34 _ _ ?_
    refine w_seqk fun K35 k35 => ?_
    refine w_draw [0, 1, 2, 3, 4, 5, 6, 7, 8] (by kernel_rfl) ?_
    refine d_qk (hd_a) (by kernel_rfl) ?_
    refine d_qk (.int .i64 i0) (by kernel_rfl) ?_
    obtain ⟨g36, r37⟩ := G_some r32
    refine d_ql (elp hd_a 3 i0.toNat 0) (x := aIndexAddr Try.prog 22 hd_a (.int .i64 i0)) (by kernel_rfl) (h_a.idxb (by kernel_rfl) g36 h31) ?_
    refine d_ql (.agg #[.int .i64 ((gt a i0).1), .int .i64 ((gt a i0).2.1), .int .i64 ((gt a i0).2.2)]) (x := aLoad Try.prog 34 (elp hd_a 3 i0.toNat 0) H) (by kernel_rfl) (h_a.ld g36 h31 (by kernel_rfl)) ?_
    refine d_qk (hd_b) (by kernel_rfl) ?_
    refine d_qk (.int .i64 i0) (by kernel_rfl) ?_
    obtain ⟨g38, r39⟩ := G_some r37
    refine d_ql (elp hd_b 3 i0.toNat 0) (x := aIndexAddr Try.prog 22 hd_b (.int .i64 i0)) (by kernel_rfl) (h_b.idxb (by kernel_rfl) g36 g38) ?_
    refine d_ql (.agg #[.int .i64 ((gt b i0).1), .int .i64 ((gt b i0).2.1), .int .i64 ((gt b i0).2.2)]) (x := aLoad Try.prog 34 (elp hd_b 3 i0.toNat 0) H) (by kernel_rfl) (h_b.ld g36 g38 (by kernel_rfl)) ?_
    refine d_ql (.bool (!decide (((gt a i0).1) = ((gt b i0).1) ∧ ((gt a i0).2.1) = ((gt b i0).2.1) ∧ ((gt a i0).2.2) = ((gt b i0).2.2)))) (x := aBin Try.prog .neq 34 (.tmp 19) (.tmp 23) (.agg #[.int .i64 ((gt a i0).1), .int .i64 ((gt a i0).2.1), .int .i64 ((gt a i0).2.2)]) (.agg #[.int .i64 ((gt b i0).1), .int .i64 ((gt b i0).2.1), .int .i64 ((gt b i0).2.2)])) (by kernel_rfl) (aBin_neq34 _ _ ((gt a i0).1) ((gt a i0).2.1) ((gt a i0).2.2) ((gt b i0).1) ((gt b i0).2.1) ((gt b i0).2.2)) ?_
    refine d_nil ?_
    refine k35 _ _ ?_
    refine w_condn (((gt a i0).1) = ((gt b i0).1) ∧ ((gt a i0).2.1) = ((gt b i0).2.1) ∧ ((gt a i0).2.2) = ((gt b i0).2.2)) (by kernel_rfl) rfl (fun h40 => ?_) (fun h40 => ?_)
    ·have r41 := ite_f h40 r39
     refine w_seqk fun K42 k42 => ?_
     refine w_reg (by kernel_rfl) ?_
     refine s_qk (.bool false) (by kernel_rfl) ?_
     refine s_nil ?_
     refine k42 _ _ ?_
     refine w_ret (bl_ret (th_ret (th_ret (bl_ret (th_ret (th_ret ?_))))))
     obtain ⟨v43, hv44, hz45⟩ := map_some r41
     subst hz45
     obtain rfl := it_inr hn27
     have hq46 := elim_inl r12
     rw [hq46] at hv44
     refine b_ret (fn := Try.f19) (vs := [.bool false]) (aRes_tmp (by kernel_rfl) (rfl)) ?_
     obtain rfl := Option.some.inj hv44
     exact ⟨rfl, rfl⟩
    ·have r47 := ite_t h40 r39
     refine w_skip ?_
     refine k33 _ _ ?_
     refine w_reg (by kernel_rfl) ?_
     obtain ⟨g48, r49⟩ := G_some r47
     refine s_w ((i0 + 1)) (k := .i64) (x := (i0 + 1)) (by kernel_rfl) (wrap64 (by have := g48; omega)) ?_
     refine s_qk (.int .i64 (i0 + 1)) (by kernel_rfl) ?_
     refine s_nil ?_
     obtain rfl := Option.some.inj r49
     exact k28 n24 _ _ (Nat.lt_succ_self _) ⟨(i0 + 1), hn27, ⟨by kernel_rfl, by kernel_rfl, by kernel_rfl, by kernel_rfl, trivial⟩, rfl⟩
   ·have r50 := ite_f h31 hz26
    refine w_exit (th_exit (th_exit (bl_eq ?_)))
    obtain rfl := Option.some.inj r50
    obtain rfl := it_inr hn27
    exact k16 _ _ ⟨_, rfl, trivial, rfl⟩
  ·obtain ⟨o10, rfl, hh17, rfl⟩ := hM
   have r51 := elim_inr r12
   obtain ⟨β, rfl⟩ := has_ex hh17
   clear hh17
   refine k8 _ _ ?_
   refine w_seqk fun K52 k52 => ?_
   refine w_reg (by kernel_rfl) ?_
   refine s_qk (.bool true) (by kernel_rfl) ?_
   refine s_nil ?_
   refine k52 _ _ ?_
   refine w_ret ?_
   refine b_ret (fn := Try.f19) (vs := [.bool true]) (aRes_tmp (by kernel_rfl) (rfl)) ?_
   obtain rfl := Option.some.inj r51
   exact ⟨rfl, rfl⟩

theorem c_viaductref03_Same {H : AH} {hd_Arcs : Value} {fp_Arcs : Fp} {hd_Arcs_ : Value} {fp_Arcs_ : Fp} {N_ : Int} {Arcs : List (Int × Int × Int)} {N_2 : Int} {Arcs_ : List (Int × Int × Int)} {r : Bool}
  (wf : WF H) (h_Arcs : Sq enc_i64_i64_i64 3 H hd_Arcs Arcs fp_Arcs) (h_Arcs_ : Sq enc_i64_i64_i64 3 H hd_Arcs_ Arcs_ fp_Arcs_) (hr : z_viaductref03_Same N_ Arcs N_2 Arcs_ = some r) :
  ACalls Try.prog 12 #[.agg #[.int .i64 N_, hd_Arcs], .agg #[.int .i64 N_2, hd_Arcs_]] H fun v H' => v = .bool r ∧ FrS [] H H' := by
 refine acalls_of_body mixed Try.func12 rfl (Nat.le_of_ble_eq_true rfl) ?_
 unfold z_viaductref03_Same at hr
 refine w_seqk fun K1 k1 => ?_
 refine w_reg (by kernel_rfl) ?_
 refine s_rwl wf [.int .i64 N_, hd_Arcs] (one_cons (rfl) (one_cons (h_Arcs.one1) (one_nil))) (by kernel_rfl) fun b2 H3 e4 hb5 r6 => ?_
 have u13 := (h_Arcs_.ext e4)
 refine s_rwl e4.wf [.int .i64 N_2, hd_Arcs_] (one_cons (rfl) (one_cons (u13.one1) (one_nil))) (by kernel_rfl) fun b8 H9 e10 hb11 r12 => ?_
 refine s_qk (.bool false) (by kernel_rfl) ?_
 refine s_nil ?_
 refine k1 _ _ ?_
 refine w_seqk fun K15 k15 => ?_
 refine w_reg (by kernel_rfl) ?_
 refine s_qk (.pointer (some ⟨b2, 0, none⟩)) (by kernel_rfl) ?_
 have u16 := (r6.ext e10)
 refine s_ql (.int .i64 N_) (x := aLoad Try.prog 3 (.pointer (some ⟨b2, 0, none⟩)) H9) (by kernel_rfl) (u16.ld (by kernel_rfl)) ?_
 refine s_qk (.pointer (some ⟨b8, 0, none⟩)) (by kernel_rfl) ?_
 refine s_ql (.int .i64 N_2) (x := aLoad Try.prog 3 (.pointer (some ⟨b8, 0, none⟩)) H9) (by kernel_rfl) (r12.ld (by kernel_rfl)) ?_
 refine s_b (N_ = N_2) (by kernel_rfl) (fun h17 => ?_) (fun h17 => ?_)
 ·have r18 := ite_t h17 hr
  refine s_qk (.bool true) (by kernel_rfl) ?_
  refine s_qk (.pointer (some ⟨b2, 1, none⟩)) (by kernel_rfl) ?_
  refine s_ql (hd_Arcs) (x := aLoad Try.prog 22 (.pointer (some ⟨b2, 1, none⟩)) H9) (by kernel_rfl) (u16.ld (by kernel_rfl)) ?_
  refine s_qk (.pointer (some ⟨b8, 1, none⟩)) (by kernel_rfl) ?_
  refine s_ql (hd_Arcs_) (x := aLoad Try.prog 22 (.pointer (some ⟨b8, 1, none⟩)) H9) (by kernel_rfl) (r12.ld (by kernel_rfl)) ?_
  have u19 := ((h_Arcs.ext e4).ext e10)
  have u20 := (u13.ext e10)
  obtain ⟨y21, hy22, r23⟩ := bind_some r18
  refine s_ck 19 #[hd_Arcs, hd_Arcs_] (by kernel_rfl) (c_viaductref03_SameArcs e10.wf u19 u20 hy22) ?_
  rintro _ _ ⟨rfl, rfl⟩
  refine s_qk (.bool y21) (by kernel_rfl) ?_
  refine s_qk (.bool y21) (by kernel_rfl) ?_
  refine s_nil ?_
  refine k15 _ _ ?_
  refine w_ret ?_
  refine b_ret (fn := Try.f12) (vs := [.bool y21]) (aRes_tmp (by kernel_rfl) (rfl)) ?_
  obtain rfl := Option.some.inj r23
  exact ⟨rfl, (((FrS.refl (W := []) wf).extR e4).extR e10)⟩
 ·have r26 := ite_f h17 hr
  refine s_qk (.bool false) (by kernel_rfl) ?_
  refine s_no (by kernel_rfl) ?_
  refine s_no (by kernel_rfl) ?_
  refine s_no (by kernel_rfl) ?_
  refine s_no (by kernel_rfl) ?_
  refine s_no (by kernel_rfl) ?_
  refine s_qk (.bool false) (by kernel_rfl) ?_
  refine s_qk (.bool false) (by kernel_rfl) ?_
  refine s_nil ?_
  refine k15 _ _ ?_
  refine w_ret ?_
  refine b_ret (fn := Try.f12) (vs := [.bool false]) (aRes_tmp (by kernel_rfl) (rfl)) ?_
  obtain rfl := Option.some.inj r26
  exact ⟨rfl, (((FrS.refl (W := []) wf).extR e4).extR e10)⟩


end Go.Vd

/-! (KNw2) -/

set_option maxRecDepth 100000
set_option maxHeartbeats 4000000
set_option linter.unusedVariables false
namespace Go.Vd
open Go.Proofs
attribute [local irreducible] wpSeq wpOrd aWp
theorem c_viaductlaw04_NormalTwice {H : AH} {hd_Arcs : Value} {fp_Arcs : Fp} {N_ : Int} {Arcs : List (Int × Int × Int)} {r : Bool}
  (wf : WF H) (h_Arcs : Sq enc_i64_i64_i64 3 H hd_Arcs Arcs fp_Arcs) (hr : z_viaductlaw04_NormalTwice N_ Arcs = some r) :
  ACalls Try.prog 3 #[.agg #[.int .i64 N_, hd_Arcs]] H fun v H' => v = .bool r ∧ FrS [] H H' := by
 refine acalls_of_body mixed Try.func3 rfl (Nat.le_of_ble_eq_true rfl) ?_
 unfold z_viaductlaw04_NormalTwice at hr
 refine w_seqk fun K1 k1 => ?_
 refine w_reg (by kernel_rfl) ?_
 refine s_rwl wf [.int .i64 N_, hd_Arcs] (one_cons (rfl) (one_cons (h_Arcs.one1) (one_nil))) (by kernel_rfl) fun b2 H3 e4 hb5 r6 => ?_
 refine s_qk (.bool false) (by kernel_rfl) ?_
 refine s_nil ?_
 refine k1 _ _ ?_
 refine w_seqk fun K8 k8 => ?_
 refine w_seqk fun K9 k9 => ?_
 refine w_reg (by kernel_rfl) ?_
 refine s_ck 8 #[] (by kernel_rfl) c_viaductlaw04_awake ?_
 rintro _ _ ⟨rfl, rfl⟩
 refine s_qk (.bool false) (by kernel_rfl) ?_
 refine s_nil ?_
 refine k9 _ _ ?_
 refine w_cond false (by kernel_rfl) rfl (fun h => by cases h) (fun _ => ?_)
 refine w_skip ?_
 refine k8 _ _ ?_
 refine w_seqk fun K10 k10 => ?_
 refine w_reg (by kernel_rfl) ?_
 refine s_ql (.agg #[.int .i64 N_, hd_Arcs]) (x := aLoad Try.prog 24 (.pointer (some ⟨b2, 0, none⟩)) H3) (by kernel_rfl) (r6.ld (by kernel_rfl)) ?_
 have u11 := (h_Arcs.ext e4)
 obtain ⟨y12, hy13, r14⟩ := bind_some hr
 refine s_ck 9 #[.agg #[.int .i64 N_, hd_Arcs]] (by kernel_rfl) (c_normal_Of e4.wf u11 hy13) ?_
 rintro _ H19 ⟨s15, f16, v17, f18, rfl, e20, m21, m22, i23, i24, d25⟩
 obtain ⟨a28, n29, c30, rfl⟩ := m21.form
 refine s_qk (.tuple #[.agg #[.int .i64 y12.1, .slice a28 n29 c30], v17]) (by kernel_rfl) ?_
 refine s_qk (.agg #[.int .i64 y12.1, .slice a28 n29 c30]) (by kernel_rfl) ?_
 refine s_qk (v17) (by kernel_rfl) ?_
 refine s_rwk e20.wf [.int .i64 0, .slice none 0 0] (by kernel_rfl) fun b31 H32 e33 hb34 r35 => ?_
 have u41 := (m21.ext e33)
 obtain ⟨H37, q38, e39, r40⟩ := Row.store (P := Try.prog) (t := 24) (p := 0) e33.wf r35 (.agg #[.int .i64 y12.1, .slice a28 n29 c30]) [.int .i64 y12.1, .slice a28 n29 c30] (by kernel_rfl) (by kernel_rfl) (one_cons (rfl) (one_cons (u41.one1) (one_nil))) (Nat.le_of_ble_eq_true (by kernel_rfl)) [.int .i64 y12.1, .slice a28 n29 c30] (by kernel_rfl)
 refine s_ek (undef) (by kernel_rfl) (map_ok q38) ?_
 refine s_qk (v17) (by kernel_rfl) ?_
 refine s_nil ?_
 refine k10 _ _ ?_
 refine w_seqk fun K42 k42 => ?_
 refine w_reg (by kernel_rfl) ?_
 have u43 := (((r6.frS e20 Dj.nil_l).ext e33).frS e39 (hb34.djn (r6.ltF.le e20.next)))
 refine s_ql (.agg #[.int .i64 N_, hd_Arcs]) (x := aLoad Try.prog 24 (.pointer (some ⟨b2, 0, none⟩)) H37) (by kernel_rfl) (u43.ld (by kernel_rfl)) ?_
 have u44 := (((u11.fr e20 Dj.nil_l).ext e33).fr e39 (hb34.djn (h_Arcs.lt.le (ntr e4.next e20.next))))
 obtain ⟨y45, hy46, r47⟩ := bind_some r14
 refine s_ck 10 #[.agg #[.int .i64 N_, hd_Arcs]] (by kernel_rfl) (c_normal_Reverse e39.wf u44 hy46) ?_
 rintro _ H52 ⟨s48, f49, v50, f51, rfl, e53, m54, m55, i56, i57, d58⟩
 obtain ⟨a61, n62, c63, rfl⟩ := m54.form
 refine s_qk (.tuple #[.agg #[.int .i64 y45.1, .slice a61 n62 c63], v50]) (by kernel_rfl) ?_
 refine s_qk (.agg #[.int .i64 y45.1, .slice a61 n62 c63]) (by kernel_rfl) ?_
 refine s_qk (v50) (by kernel_rfl) ?_
 refine s_rwk e53.wf [.int .i64 0, .slice none 0 0] (by kernel_rfl) fun b64 H65 e66 hb67 r68 => ?_
 have u74 := (m54.ext e66)
 obtain ⟨H70, q71, e72, r73⟩ := Row.store (P := Try.prog) (t := 24) (p := 0) e66.wf r68 (.agg #[.int .i64 y45.1, .slice a61 n62 c63]) [.int .i64 y45.1, .slice a61 n62 c63] (by kernel_rfl) (by kernel_rfl) (one_cons (rfl) (one_cons (u74.one1) (one_nil))) (Nat.le_of_ble_eq_true (by kernel_rfl)) [.int .i64 y45.1, .slice a61 n62 c63] (by kernel_rfl)
 refine s_ek (undef) (by kernel_rfl) (map_ok q71) ?_
 refine s_qk (v50) (by kernel_rfl) ?_
 refine s_nil ?_
 refine k42 _ _ ?_
 refine w_seqk fun K75 k75 => ?_
 refine w_seqk fun K76 k76 => ?_
 refine w_reg (by kernel_rfl) ?_
 refine s_qk (v17) (by kernel_rfl) ?_
 have u80 := (((((m22.ext e33).fr e39 (hb34.djn m22.lt)).fr e53 Dj.nil_l).ext e66).fr e72 (hb67.djn (m22.lt.le (ntr (ntr e33.next e39.next) e53.next))))
 rcases (u80).cases with ⟨h77, rfl⟩ | ⟨h77, t78, x79, rfl⟩
 ·have r81 := ite_t h77 r47
  refine s_qk (.bool false) (by kernel_rfl) ?_
  refine s_nil ?_
  refine k76 _ _ ?_
  refine w_cond false (by kernel_rfl) rfl (fun h => by cases h) (fun _ => ?_)
  refine w_skip ?_
  refine k75 _ _ ?_
  refine w_seqk fun K82 k82 => ?_
  refine w_reg (by kernel_rfl) ?_
  have u83 := (((r40.frS e53 Dj.nil_l).ext e66).frS e72 (hb67.djn (r35.ltF.le (ntr e39.next e53.next))))
  refine s_ql (.agg #[.int .i64 y12.1, .slice a28 n29 c30]) (x := aLoad Try.prog 24 (.pointer (some ⟨b31, 0, none⟩)) H70) (by kernel_rfl) (u83.ld (by kernel_rfl)) ?_
  have u84 := ((((u41.fr e39 (hb34.djn m21.lt)).fr e53 Dj.nil_l).ext e66).fr e72 (hb67.djn (m21.lt.le (ntr (ntr e33.next e39.next) e53.next))))
  obtain ⟨y85, hy86, r87⟩ := bind_some r81
  refine s_ck 9 #[.agg #[.int .i64 y12.1, .slice a28 n29 c30]] (by kernel_rfl) (c_normal_Of e72.wf u84.sq hy86) ?_
  rintro _ H92 ⟨s88, f89, v90, f91, rfl, e93, m94, m95, i96, i97, d98⟩
  obtain ⟨a101, n102, c103, rfl⟩ := m94.form
  refine s_qk (.tuple #[.agg #[.int .i64 y85.1, .slice a101 n102 c103], v90]) (by kernel_rfl) ?_
  refine s_qk (.agg #[.int .i64 y85.1, .slice a101 n102 c103]) (by kernel_rfl) ?_
  refine s_qk (v90) (by kernel_rfl) ?_
  refine s_rwk e93.wf [.int .i64 0, .slice none 0 0] (by kernel_rfl) fun b104 H105 e106 hb107 r108 => ?_
  have u114 := (m94.ext e106)
  obtain ⟨H110, q111, e112, r113⟩ := Row.store (P := Try.prog) (t := 24) (p := 0) e106.wf r108 (.agg #[.int .i64 y85.1, .slice a101 n102 c103]) [.int .i64 y85.1, .slice a101 n102 c103] (by kernel_rfl) (by kernel_rfl) (one_cons (rfl) (one_cons (u114.one1) (one_nil))) (Nat.le_of_ble_eq_true (by kernel_rfl)) [.int .i64 y85.1, .slice a101 n102 c103] (by kernel_rfl)
  refine s_ek (undef) (by kernel_rfl) (map_ok q111) ?_
  refine s_qk (v90) (by kernel_rfl) ?_
  refine s_nil ?_
  refine k82 _ _ ?_
  refine w_seqk fun K115 k115 => ?_
  refine w_reg (by kernel_rfl) ?_
  have u116 := (((u83.frS e93 Dj.nil_l).ext e106).frS e112 (hb107.djn (r35.ltF.le (ntr (ntr (ntr (ntr e39.next e53.next) e66.next) e72.next) e93.next))))
  refine s_ql (.agg #[.int .i64 y12.1, .slice a28 n29 c30]) (x := aLoad Try.prog 24 (.pointer (some ⟨b31, 0, none⟩)) H110) (by kernel_rfl) (u116.ld (by kernel_rfl)) ?_
  have u117 := (((u84.fr e93 Dj.nil_l).ext e106).fr e112 (hb107.djn (m21.lt.le (ntr (ntr (ntr (ntr (ntr e33.next e39.next) e53.next) e66.next) e72.next) e93.next))))
  obtain ⟨y118, hy119, r120⟩ := bind_some r87
  refine s_ck 11 #[.agg #[.int .i64 y12.1, .slice a28 n29 c30]] (by kernel_rfl) (c_normal_Is e112.wf u117.sq hy119) ?_
  rintro _ H123 ⟨v121, f122, rfl, e124, m125, i126⟩
  refine s_qk (.tuple #[.bool y118.1, v121]) (by kernel_rfl) ?_
  refine s_qk (.bool y118.1) (by kernel_rfl) ?_
  refine s_qk (v121) (by kernel_rfl) ?_
  refine s_qk (.bool y118.1) (by kernel_rfl) ?_
  refine s_qk (v121) (by kernel_rfl) ?_
  refine s_nil ?_
  refine k115 _ _ ?_
  refine w_seqk fun K128 k128 => ?_
  refine w_reg (by kernel_rfl) ?_
  have u129 := ((((r73.frS e93 Dj.nil_l).ext e106).frS e112 (hb107.djn (r68.ltF.le (ntr e72.next e93.next)))).frS e124 Dj.nil_l)
  refine s_ql (.agg #[.int .i64 y45.1, .slice a61 n62 c63]) (x := aLoad Try.prog 24 (.pointer (some ⟨b64, 0, none⟩)) H123) (by kernel_rfl) (u129.ld (by kernel_rfl)) ?_
  have u130 := (((((u74.fr e72 (hb67.djn m54.lt)).fr e93 Dj.nil_l).ext e106).fr e112 (hb107.djn (m54.lt.le (ntr (ntr e66.next e72.next) e93.next)))).fr e124 Dj.nil_l)
  obtain ⟨y131, hy132, r133⟩ := bind_some r120
  refine s_ck 10 #[.agg #[.int .i64 y45.1, .slice a61 n62 c63]] (by kernel_rfl) (c_normal_Reverse e124.wf u130.sq hy132) ?_
  rintro _ H138 ⟨s134, f135, v136, f137, rfl, e139, m140, m141, i142, i143, d144⟩
  obtain ⟨a147, n148, c149, rfl⟩ := m140.form
  refine s_qk (.tuple #[.agg #[.int .i64 y131.1, .slice a147 n148 c149], v136]) (by kernel_rfl) ?_
  refine s_qk (.agg #[.int .i64 y131.1, .slice a147 n148 c149]) (by kernel_rfl) ?_
  refine s_qk (v136) (by kernel_rfl) ?_
  refine s_rwk e139.wf [.int .i64 0, .slice none 0 0] (by kernel_rfl) fun b150 H151 e152 hb153 r154 => ?_
  have u160 := (m140.ext e152)
  obtain ⟨H156, q157, e158, r159⟩ := Row.store (P := Try.prog) (t := 24) (p := 0) e152.wf r154 (.agg #[.int .i64 y131.1, .slice a147 n148 c149]) [.int .i64 y131.1, .slice a147 n148 c149] (by kernel_rfl) (by kernel_rfl) (one_cons (rfl) (one_cons (u160.one1) (one_nil))) (Nat.le_of_ble_eq_true (by kernel_rfl)) [.int .i64 y131.1, .slice a147 n148 c149] (by kernel_rfl)
  refine s_ek (undef) (by kernel_rfl) (map_ok q157) ?_
  refine s_qk (v136) (by kernel_rfl) ?_
  refine s_nil ?_
  refine k128 _ _ ?_
  refine w_seqk fun K161 k161 => ?_
  refine w_seqk fun K162 k162 => ?_
  obtain ⟨o163, hx164, r165⟩ := bind_some r133
  refine w_mid (fun α H166 => Has α [(3, .pointer (some ⟨b31, 0, none⟩)), (5, .pointer (some ⟨b64, 0, none⟩)), (95, .bool o163)] ∧ FrS [] H156 H166) (fun K168 k168 => ?_) (fun α H166 hM => ?_)
  ·refine w_reg (by kernel_rfl) ?_
   refine s_qk (v50) (by kernel_rfl) ?_
   have u173 := (((((((((m55.ext e66).fr e72 (hb67.djn m55.lt)).fr e93 Dj.nil_l).ext e106).fr e112 (hb107.djn (m55.lt.le (ntr (ntr e66.next e72.next) e93.next)))).fr e124 Dj.nil_l).fr e139 Dj.nil_l).ext e152).fr e158 (hb153.djn (m55.lt.le (ntr (ntr (ntr (ntr (ntr (ntr e66.next e72.next) e93.next) e106.next) e112.next) e124.next) e139.next))))
   rcases (u173).cases with ⟨h170, rfl⟩ | ⟨h170, t171, x172, rfl⟩
   ·have r174 := ite_t h170 hx164
    refine s_qk (.bool false) (by kernel_rfl) ?_
    refine s_qk (.bool false) (by kernel_rfl) ?_
    refine s_qk (v90) (by kernel_rfl) ?_
    have u178 := ((((((m95.ext e106).fr e112 (hb107.djn m95.lt)).fr e124 Dj.nil_l).fr e139 Dj.nil_l).ext e152).fr e158 (hb153.djn (m95.lt.le (ntr (ntr (ntr e106.next e112.next) e124.next) e139.next))))
    rcases (u178).cases with ⟨h175, rfl⟩ | ⟨h175, t176, x177, rfl⟩
    ·have r179 := ite_t h175 r174
     refine s_qk (.bool false) (by kernel_rfl) ?_
     refine s_qk (.bool false) (by kernel_rfl) ?_
     refine s_qk (.bool false) (by kernel_rfl) ?_
     refine s_qk (v121) (by kernel_rfl) ?_
     have u183 := (((m125.fr e139 Dj.nil_l).ext e152).fr e158 (hb153.djn (m125.lt.le e139.next)))
     rcases (u183).cases with ⟨h180, rfl⟩ | ⟨h180, t181, x182, rfl⟩
     ·have r184 := ite_t h180 r179
      refine s_qk (.bool false) (by kernel_rfl) ?_
      refine s_qk (.bool false) (by kernel_rfl) ?_
      refine s_qk (.bool false) (by kernel_rfl) ?_
      refine s_qk (v136) (by kernel_rfl) ?_
      have u188 := ((m141.ext e152).fr e158 (hb153.djn m141.lt))
      rcases (u188).cases with ⟨h185, rfl⟩ | ⟨h185, t186, x187, rfl⟩
      ·have r189 := ite_t h185 r184
       refine s_qk (.bool false) (by kernel_rfl) ?_
       refine s_qk (.bool false) (by kernel_rfl) ?_
       refine s_qk (.bool false) (by kernel_rfl) ?_
       refine s_qk (.bool y118.1) (by kernel_rfl) ?_
       refine s_qk (.bool (!y118.1)) (by kernel_rfl) ?_
       refine s_qk (.bool (!y118.1)) (by kernel_rfl) ?_
       refine s_qk (.bool (!y118.1)) (by kernel_rfl) ?_
       by_cases h190 : (!y118.1) = true
       ·have r191 := ite_t h190 r189
        rw [h190]
        refine s_no (by kernel_rfl) ?_
        refine s_no (by kernel_rfl) ?_
        refine s_no (by kernel_rfl) ?_
        refine s_no (by kernel_rfl) ?_
        refine s_qk (.bool true) (by kernel_rfl) ?_
        refine s_qk (.bool true) (by kernel_rfl) ?_
        refine s_no (by kernel_rfl) ?_
        refine s_no (by kernel_rfl) ?_
        refine s_no (by kernel_rfl) ?_
        refine s_no (by kernel_rfl) ?_
        refine s_qk (.bool true) (by kernel_rfl) ?_
        refine s_nil ?_
        obtain rfl := Option.some.inj r191
        exact k168 _ _ ⟨⟨by kernel_rfl, by kernel_rfl, by kernel_rfl, trivial⟩, (FrS.refl (W := []) e158.wf)⟩
       ·have r192 := ite_f h190 r189
        rw [nb h190]
        have u193 := ((((r113.frS e124 Dj.nil_l).frS e139 Dj.nil_l).ext e152).frS e158 (hb153.djn (r108.ltF.le (ntr (ntr e112.next e124.next) e139.next))))
        refine s_ql (.agg #[.int .i64 y85.1, .slice a101 n102 c103]) (x := aLoad Try.prog 24 (.pointer (some ⟨b104, 0, none⟩)) H156) (by kernel_rfl) (u193.ld (by kernel_rfl)) ?_
        have u194 := ((((u116.frS e124 Dj.nil_l).frS e139 Dj.nil_l).ext e152).frS e158 (hb153.djn (r35.ltF.le (ntr (ntr (ntr (ntr (ntr (ntr (ntr (ntr e39.next e53.next) e66.next) e72.next) e93.next) e106.next) e112.next) e124.next) e139.next))))
        refine s_ql (.agg #[.int .i64 y12.1, .slice a28 n29 c30]) (x := aLoad Try.prog 24 (.pointer (some ⟨b31, 0, none⟩)) H156) (by kernel_rfl) (u194.ld (by kernel_rfl)) ?_
        have u195 := (((((u114.fr e112 (hb107.djn m94.lt)).fr e124 Dj.nil_l).fr e139 Dj.nil_l).ext e152).fr e158 (hb153.djn (m94.lt.le (ntr (ntr (ntr e106.next e112.next) e124.next) e139.next))))
        have u196 := ((((u117.fr e124 Dj.nil_l).fr e139 Dj.nil_l).ext e152).fr e158 (hb153.djn (m21.lt.le (ntr (ntr (ntr (ntr (ntr (ntr (ntr (ntr (ntr e33.next e39.next) e53.next) e66.next) e72.next) e93.next) e106.next) e112.next) e124.next) e139.next))))
        obtain ⟨y197, hy198, r199⟩ := bind_some r192
        refine s_ck 12 #[.agg #[.int .i64 y85.1, .slice a101 n102 c103], .agg #[.int .i64 y12.1, .slice a28 n29 c30]] (by kernel_rfl) (c_viaductref03_Same e158.wf u195.sq u196.sq hy198) ?_
        rintro _ H200 ⟨rfl, e201⟩
        by_cases h202 : y197 = true
        ·have r203 := ite_t h202 r199
         rw [h202]
         refine s_qk (.bool false) (by kernel_rfl) ?_
         refine s_qk (.bool false) (by kernel_rfl) ?_
         refine s_qk (.bool false) (by kernel_rfl) ?_
         have u205 := (r159.frS e201 Dj.nil_l)
         refine s_ql (.agg #[.int .i64 y131.1, .slice a147 n148 c149]) (x := aLoad Try.prog 24 (.pointer (some ⟨b150, 0, none⟩)) H200) (by kernel_rfl) (u205.ld (by kernel_rfl)) ?_
         have u206 := (((((((((((u43.frS e53 Dj.nil_l).ext e66).frS e72 (hb67.djn (r6.ltF.le (ntr (ntr (ntr e20.next e33.next) e39.next) e53.next)))).frS e93 Dj.nil_l).ext e106).frS e112 (hb107.djn (r6.ltF.le (ntr (ntr (ntr (ntr (ntr (ntr e20.next e33.next) e39.next) e53.next) e66.next) e72.next) e93.next)))).frS e124 Dj.nil_l).frS e139 Dj.nil_l).ext e152).frS e158 (hb153.djn (r6.ltF.le (ntr (ntr (ntr (ntr (ntr (ntr (ntr (ntr (ntr (ntr e20.next e33.next) e39.next) e53.next) e66.next) e72.next) e93.next) e106.next) e112.next) e124.next) e139.next)))).frS e201 Dj.nil_l)
         refine s_ql (.agg #[.int .i64 N_, hd_Arcs]) (x := aLoad Try.prog 24 (.pointer (some ⟨b2, 0, none⟩)) H200) (by kernel_rfl) (u206.ld (by kernel_rfl)) ?_
         have u207 := ((u160.fr e158 (hb153.djn m140.lt)).fr e201 Dj.nil_l)
         have u208 := (((((((((((u44.fr e53 Dj.nil_l).ext e66).fr e72 (hb67.djn (h_Arcs.lt.le (ntr (ntr (ntr (ntr e4.next e20.next) e33.next) e39.next) e53.next)))).fr e93 Dj.nil_l).ext e106).fr e112 (hb107.djn (h_Arcs.lt.le (ntr (ntr (ntr (ntr (ntr (ntr (ntr e4.next e20.next) e33.next) e39.next) e53.next) e66.next) e72.next) e93.next)))).fr e124 Dj.nil_l).fr e139 Dj.nil_l).ext e152).fr e158 (hb153.djn (h_Arcs.lt.le (ntr (ntr (ntr (ntr (ntr (ntr (ntr (ntr (ntr (ntr (ntr e4.next e20.next) e33.next) e39.next) e53.next) e66.next) e72.next) e93.next) e106.next) e112.next) e124.next) e139.next)))).fr e201 Dj.nil_l)
         obtain ⟨y209, hy210, r211⟩ := bind_some r203
         refine s_ck 12 #[.agg #[.int .i64 y131.1, .slice a147 n148 c149], .agg #[.int .i64 N_, hd_Arcs]] (by kernel_rfl) (c_viaductref03_Same e201.wf u207.sq u208 hy210) ?_
         rintro _ H212 ⟨rfl, e213⟩
         refine s_qk (.bool (!y209)) (by kernel_rfl) ?_
         refine s_qk (.bool (!y209)) (by kernel_rfl) ?_
         refine s_nil ?_
         obtain rfl := Option.some.inj r211
         exact k168 _ _ ⟨⟨by kernel_rfl, by kernel_rfl, by kernel_rfl, trivial⟩, (FrS.step e158.wf (FrS.step e158.wf (FrS.refl (W := []) e158.wf) e201 Inn.nil) e213 Inn.nil)⟩
        ·have r214 := ite_f h202 r199
         rw [nb h202]
         refine s_qk (.bool true) (by kernel_rfl) ?_
         refine s_qk (.bool true) (by kernel_rfl) ?_
         refine s_qk (.bool true) (by kernel_rfl) ?_
         refine s_no (by kernel_rfl) ?_
         refine s_no (by kernel_rfl) ?_
         refine s_no (by kernel_rfl) ?_
         refine s_no (by kernel_rfl) ?_
         refine s_qk (.bool true) (by kernel_rfl) ?_
         refine s_nil ?_
         obtain rfl := Option.some.inj r214
         exact k168 _ _ ⟨⟨by kernel_rfl, by kernel_rfl, by kernel_rfl, trivial⟩, (FrS.step e158.wf (FrS.refl (W := []) e158.wf) e201 Inn.nil)⟩
      ·have r216 := ite_f h185 r184
       refine s_ql (.bool true) (x := aBin Try.prog .neq 27 (.tmp 77) (.const .nilIface) (.iface t186 x187) .nilIface) (by kernel_rfl) (aBin_nnil (by kernel_rfl)) ?_
       refine s_qk (.bool true) (by kernel_rfl) ?_
       refine s_qk (.bool true) (by kernel_rfl) ?_
       refine s_no (by kernel_rfl) ?_
       refine s_no (by kernel_rfl) ?_
       refine s_qk (.bool true) (by kernel_rfl) ?_
       refine s_qk (.bool true) (by kernel_rfl) ?_
       refine s_no (by kernel_rfl) ?_
       refine s_no (by kernel_rfl) ?_
       refine s_no (by kernel_rfl) ?_
       refine s_no (by kernel_rfl) ?_
       refine s_qk (.bool true) (by kernel_rfl) ?_
       refine s_qk (.bool true) (by kernel_rfl) ?_
       refine s_no (by kernel_rfl) ?_
       refine s_no (by kernel_rfl) ?_
       refine s_no (by kernel_rfl) ?_
       refine s_no (by kernel_rfl) ?_
       refine s_qk (.bool true) (by kernel_rfl) ?_
       refine s_nil ?_
       obtain rfl := Option.some.inj r216
       exact k168 _ _ ⟨⟨by kernel_rfl, by kernel_rfl, by kernel_rfl, trivial⟩, (FrS.refl (W := []) e158.wf)⟩
     ·have r217 := ite_f h180 r179
      refine s_ql (.bool true) (x := aBin Try.prog .neq 27 (.tmp 73) (.const .nilIface) (.iface t181 x182) .nilIface) (by kernel_rfl) (aBin_nnil (by kernel_rfl)) ?_
      refine s_qk (.bool true) (by kernel_rfl) ?_
      refine s_qk (.bool true) (by kernel_rfl) ?_
      refine s_no (by kernel_rfl) ?_
      refine s_no (by kernel_rfl) ?_
      refine s_qk (.bool true) (by kernel_rfl) ?_
      refine s_qk (.bool true) (by kernel_rfl) ?_
      refine s_no (by kernel_rfl) ?_
      refine s_no (by kernel_rfl) ?_
      refine s_qk (.bool true) (by kernel_rfl) ?_
      refine s_qk (.bool true) (by kernel_rfl) ?_
      refine s_no (by kernel_rfl) ?_
      refine s_no (by kernel_rfl) ?_
      refine s_no (by kernel_rfl) ?_
      refine s_no (by kernel_rfl) ?_
      refine s_qk (.bool true) (by kernel_rfl) ?_
      refine s_qk (.bool true) (by kernel_rfl) ?_
      refine s_no (by kernel_rfl) ?_
      refine s_no (by kernel_rfl) ?_
      refine s_no (by kernel_rfl) ?_
      refine s_no (by kernel_rfl) ?_
      refine s_qk (.bool true) (by kernel_rfl) ?_
      refine s_nil ?_
      obtain rfl := Option.some.inj r217
      exact k168 _ _ ⟨⟨by kernel_rfl, by kernel_rfl, by kernel_rfl, trivial⟩, (FrS.refl (W := []) e158.wf)⟩
    ·have r218 := ite_f h175 r174
     refine s_ql (.bool true) (x := aBin Try.prog .neq 27 (.tmp 69) (.const .nilIface) (.iface t176 x177) .nilIface) (by kernel_rfl) (aBin_nnil (by kernel_rfl)) ?_
     refine s_qk (.bool true) (by kernel_rfl) ?_
     refine s_qk (.bool true) (by kernel_rfl) ?_
     refine s_no (by kernel_rfl) ?_
     refine s_no (by kernel_rfl) ?_
     refine s_qk (.bool true) (by kernel_rfl) ?_
     refine s_qk (.bool true) (by kernel_rfl) ?_
     refine s_no (by kernel_rfl) ?_
     refine s_no (by kernel_rfl) ?_
     refine s_qk (.bool true) (by kernel_rfl) ?_
     refine s_qk (.bool true) (by kernel_rfl) ?_
     refine s_no (by kernel_rfl) ?_
     refine s_no (by kernel_rfl) ?_
     refine s_qk (.bool true) (by kernel_rfl) ?_
     refine s_qk (.bool true) (by kernel_rfl) ?_
     refine s_no (by kernel_rfl) ?_
     refine s_no (by kernel_rfl) ?_
     refine s_no (by kernel_rfl) ?_
     refine s_no (by kernel_rfl) ?_
     refine s_qk (.bool true) (by kernel_rfl) ?_
     refine s_qk (.bool true) (by kernel_rfl) ?_
     refine s_no (by kernel_rfl) ?_
     refine s_no (by kernel_rfl) ?_
     refine s_no (by kernel_rfl) ?_
     refine s_no (by kernel_rfl) ?_
     refine s_qk (.bool true) (by kernel_rfl) ?_
     refine s_nil ?_
     obtain rfl := Option.some.inj r218
     exact k168 _ _ ⟨⟨by kernel_rfl, by kernel_rfl, by kernel_rfl, trivial⟩, (FrS.refl (W := []) e158.wf)⟩
   ·have r219 := ite_f h170 hx164
    refine s_ql (.bool true) (x := aBin Try.prog .neq 27 (.tmp 66) (.const .nilIface) (.iface t171 x172) .nilIface) (by kernel_rfl) (aBin_nnil (by kernel_rfl)) ?_
    refine s_qk (.bool true) (by kernel_rfl) ?_
    refine s_no (by kernel_rfl) ?_
    refine s_no (by kernel_rfl) ?_
    refine s_qk (.bool true) (by kernel_rfl) ?_
    refine s_qk (.bool true) (by kernel_rfl) ?_
    refine s_no (by kernel_rfl) ?_
    refine s_no (by kernel_rfl) ?_
    refine s_qk (.bool true) (by kernel_rfl) ?_
    refine s_qk (.bool true) (by kernel_rfl) ?_
    refine s_no (by kernel_rfl) ?_
    refine s_no (by kernel_rfl) ?_
    refine s_qk (.bool true) (by kernel_rfl) ?_
    refine s_qk (.bool true) (by kernel_rfl) ?_
    refine s_no (by kernel_rfl) ?_
    refine s_no (by kernel_rfl) ?_
    refine s_qk (.bool true) (by kernel_rfl) ?_
    refine s_qk (.bool true) (by kernel_rfl) ?_
    refine s_no (by kernel_rfl) ?_
    refine s_no (by kernel_rfl) ?_
    refine s_no (by kernel_rfl) ?_
    refine s_no (by kernel_rfl) ?_
    refine s_qk (.bool true) (by kernel_rfl) ?_
    refine s_qk (.bool true) (by kernel_rfl) ?_
    refine s_no (by kernel_rfl) ?_
    refine s_no (by kernel_rfl) ?_
    refine s_no (by kernel_rfl) ?_
    refine s_no (by kernel_rfl) ?_
    refine s_qk (.bool true) (by kernel_rfl) ?_
    refine s_nil ?_
    obtain rfl := Option.some.inj r219
    exact k168 _ _ ⟨⟨by kernel_rfl, by kernel_rfl, by kernel_rfl, trivial⟩, (FrS.refl (W := []) e158.wf)⟩
  ·obtain ⟨hh169, e167⟩ := hM
   obtain ⟨β, rfl⟩ := has_ex hh169
   clear hh169
   refine k162 _ _ ?_
   refine w_cond (o163) (by kernel_rfl) rfl (fun h220 => ?_) (fun h220 => ?_)
   ·have r221 := ite_t h220 r165
    refine w_seqk fun K222 k222 => ?_
    refine w_reg (by kernel_rfl) ?_
    refine s_qk (.bool false) (by kernel_rfl) ?_
    refine s_nil ?_
    refine k222 _ _ ?_
    refine w_ret (th_ret ?_)
    refine b_ret (fn := Try.f3) (vs := [.bool false]) (aRes_tmp (by kernel_rfl) (rfl)) ?_
    obtain rfl := Option.some.inj r221
    exact ⟨rfl, (FrS.step wf (FrS.step wf ((FrS.step wf (FrS.step wf (FrS.step wf ((FrS.step wf (FrS.step wf ((FrS.step wf (FrS.step wf ((FrS.step wf ((FrS.refl (W := []) wf).extR e4) e20 Inn.nil).extR e33) e39 (hb34.fresh (ntr e4.next e20.next))) e53 Inn.nil).extR e66) e72 (hb67.fresh (ntr (ntr (ntr (ntr e4.next e20.next) e33.next) e39.next) e53.next))) e93 Inn.nil).extR e106) e112 (hb107.fresh (ntr (ntr (ntr (ntr (ntr (ntr (ntr e4.next e20.next) e33.next) e39.next) e53.next) e66.next) e72.next) e93.next))) e124 Inn.nil) e139 Inn.nil).extR e152) e158 (hb153.fresh (ntr (ntr (ntr (ntr (ntr (ntr (ntr (ntr (ntr (ntr (ntr e4.next e20.next) e33.next) e39.next) e53.next) e66.next) e72.next) e93.next) e106.next) e112.next) e124.next) e139.next))) e167 Inn.nil)⟩
   ·have r223 := ite_bf h220 r165
    refine w_skip ?_
    refine k161 _ _ ?_
    refine w_seqk fun K224 k224 => ?_
    refine w_seqk fun K225 k225 => ?_
    refine w_reg (by kernel_rfl) ?_
    refine s_qk (.pointer (some ⟨b31, 1, none⟩)) (by kernel_rfl) ?_
    have u226 := (((((u116.frS e124 Dj.nil_l).frS e139 Dj.nil_l).ext e152).frS e158 (hb153.djn (r35.ltF.le (ntr (ntr (ntr (ntr (ntr (ntr (ntr (ntr e39.next e53.next) e66.next) e72.next) e93.next) e106.next) e112.next) e124.next) e139.next)))).frS e167 Dj.nil_l)
    refine s_ql (.slice a28 n29 c30) (x := aLoad Try.prog 22 (.pointer (some ⟨b31, 1, none⟩)) H166) (by kernel_rfl) (u226.ld (by kernel_rfl)) ?_
    have u227 := (((((u117.fr e124 Dj.nil_l).fr e139 Dj.nil_l).ext e152).fr e158 (hb153.djn (m21.lt.le (ntr (ntr (ntr (ntr (ntr (ntr (ntr (ntr (ntr e33.next e39.next) e53.next) e66.next) e72.next) e93.next) e106.next) e112.next) e124.next) e139.next)))).fr e167 Dj.nil_l)
    refine s_ql (.int .i64 (y12.2.1.length : Int)) (x := aLen Try.prog 22 (.slice a28 n29 c30) H166) (by kernel_rfl) (u227.sq.lenb (by kernel_rfl)) ?_
    refine s_qk (.int .i64 0) (by kernel_rfl) ?_
    refine s_nil ?_
    refine k225 _ _ ?_
    obtain ⟨z231, hx229, r230⟩ := bind_some r223
    refine w_mid (fun α H232 => ∃ o228, z231 = Sum.inr o228 ∧ Has α [(3, .pointer (some ⟨b31, 0, none⟩)), (5, .pointer (some ⟨b64, 0, none⟩))] ∧ FrS [] H166 H232) (fun K234 k234 => ?_) (fun α H232 hM => ?_)
    ·refine w_block ?_
     obtain ⟨n236, hn237⟩ := loopO_iff.1 hx229
     refine w_loopn (fun n α H238 => ∃ (i0 : Int), iterO (fun zz_ => z_viaductlaw04_NormalTwice_l0 y12 zz_) n i0 = some z231 ∧ Has α [(3, .pointer (some ⟨b31, 0, none⟩)), (5, .pointer (some ⟨b64, 0, none⟩)), (97, .slice a28 n29 c30), (98, .int .i64 (y12.2.1.length : Int)), (99, .int .i64 i0)] ∧ FrS [] H166 H238) n236 ⟨0, hn237, ⟨by kernel_rfl, by kernel_rfl, by kernel_rfl, by kernel_rfl, by kernel_rfl, trivial⟩, (FrS.refl (W := []) e167.wf)⟩ ?_
     rintro n236 α H238 ⟨i0, hi241, hh240, e239⟩ K246 k246
     obtain ⟨n242, z243, rfl, hz244, hn245⟩ := iter_succ hi241
     obtain ⟨β, rfl⟩ := has_ex hh240
     clear hh240
     replace hz244 : z_viaductlaw04_NormalTwice_l0 y12 i0 = some z243 := hz244
     unfold z_viaductlaw04_NormalTwice_l0 at hz244
     refine w_seqk fun K247 k247 => ?_
     refine w_reg (by kernel_rfl) ?_
     refine s_qk (.bool (decide (i0 < (y12.2.1.length : Int)))) (by kernel_rfl) ?_
     refine s_nil ?_
     refine k247 _ _ ?_
     refine w_seqk fun K248 k248 => ?_
     refine w_condp (i0 < (y12.2.1.length : Int)) (by kernel_rfl) rfl (fun h249 => ?_) (fun h249 => ?_)
     ·have r250 := ite_t h249 hz244
      refine w_skip ?_
      refine k248 _ _ ?_
      refine w_seqk fun K251 k251 => ?_
      refine w_block ?_
      refine w_seqk fun K252 k252 => ?_
      refine w_reg (by kernel_rfl) ?_
      refine s_qk (.int .i64 i0) (by kernel_rfl) ?_
      obtain ⟨g253, r254⟩ := G_some r250
      have u255 := (u227.fr e239 Dj.nil_l)
      refine s_ql (elp (.slice a28 n29 c30) 3 i0.toNat 0) (x := aIndexAddr Try.prog 22 (.slice a28 n29 c30) (.int .i64 i0)) (by kernel_rfl) (u255.sq.idxb (by kernel_rfl) g253 h249) ?_
      refine s_ql (.agg #[.int .i64 ((gt y12.2.1 i0).1), .int .i64 ((gt y12.2.1 i0).2.1), .int .i64 ((gt y12.2.1 i0).2.2)]) (x := aLoad Try.prog 34 (elp (.slice a28 n29 c30) 3 i0.toNat 0) H238) (by kernel_rfl) (u255.sq.ld g253 h249 (by kernel_rfl)) ?_
      refine s_rwk e239.wf [.int .i64 0, .int .i64 0, .int .i64 0] (by kernel_rfl) fun b256 H257 e258 hb259 r260 => ?_
      refine s_qk (.int .i64 i0) (by kernel_rfl) ?_
      obtain ⟨H262, q263, e264, r265⟩ := Row.store (P := Try.prog) (t := 34) (p := 0) e258.wf r260 (.agg #[.int .i64 ((gt y12.2.1 i0).1), .int .i64 ((gt y12.2.1 i0).2.1), .int .i64 ((gt y12.2.1 i0).2.2)]) [.int .i64 ((gt y12.2.1 i0).1), .int .i64 ((gt y12.2.1 i0).2.1), .int .i64 ((gt y12.2.1 i0).2.2)] (by kernel_rfl) (by kernel_rfl) (one_cons (rfl) (one_cons (rfl) (one_cons (rfl) (one_nil)))) (Nat.le_of_ble_eq_true (by kernel_rfl)) [.int .i64 ((gt y12.2.1 i0).1), .int .i64 ((gt y12.2.1 i0).2.1), .int .i64 ((gt y12.2.1 i0).2.2)] (by kernel_rfl)
      refine s_ek (undef) (by kernel_rfl) (map_ok q263) ?_
      refine s_nil ?_
      refine k252 _ _ ?_
      refine w_seqk fun K266 k266 => ?_
      refine w_draw [0, 1, 2, 3, 4, 5, 6, 7, 8, 9, 10, 11, 12, 13, 14, 15, 16, 17, 18, 19, 20, 21, 22, 23, 24, 25, 26, 27, 28, 29, 30, 31, 32, 33, 34, 35, 36, 37, 38, 39, 40, 41, 42, 43, 44] (by kernel_rfl) ?_
      refine d_qk (.pointer (some ⟨b256, 0, none⟩)) (by kernel_rfl) ?_
      refine d_ql (.int .i64 ((gt y12.2.1 i0).1)) (x := aLoad Try.prog 3 (.pointer (some ⟨b256, 0, none⟩)) H262) (by kernel_rfl) (r265.ld (by kernel_rfl)) ?_
      refine d_qk (.pointer (some ⟨b256, 1, none⟩)) (by kernel_rfl) ?_
      refine d_ql (.int .i64 ((gt y12.2.1 i0).2.1)) (x := aLoad Try.prog 3 (.pointer (some ⟨b256, 1, none⟩)) H262) (by kernel_rfl) (r265.ld (by kernel_rfl)) ?_
      refine d_b (((gt y12.2.1 i0).1) = ((gt y12.2.1 i0).2.1)) (by kernel_rfl) (fun h267 => ?_) (fun h267 => ?_)
      ·have r268 := ite_t h267 r254
       refine d_qk (.bool true) (by kernel_rfl) ?_
       refine d_idle (by kernel_rfl) ?_
       refine d_idle (by kernel_rfl) ?_
       refine d_idle (by kernel_rfl) ?_
       refine d_idle (by kernel_rfl) ?_
       refine d_idle (by kernel_rfl) ?_
       refine d_idle (by kernel_rfl) ?_
       refine d_idle (by kernel_rfl) ?_
       refine d_idle (by kernel_rfl) ?_
       refine d_idle (by kernel_rfl) ?_
       refine d_idle (by kernel_rfl) ?_
       refine d_idle (by kernel_rfl) ?_
       refine d_idle (by kernel_rfl) ?_
       refine d_idle (by kernel_rfl) ?_
       refine d_idle (by kernel_rfl) ?_
       refine d_idle (by kernel_rfl) ?_
       refine d_idle (by kernel_rfl) ?_
       refine d_idle (by kernel_rfl) ?_
       refine d_idle (by kernel_rfl) ?_
       refine d_idle (by kernel_rfl) ?_
       refine d_idle (by kernel_rfl) ?_
       refine d_idle (by kernel_rfl) ?_
       refine d_idle (by kernel_rfl) ?_
       refine d_idle (by kernel_rfl) ?_
       refine d_idle (by kernel_rfl) ?_
       refine d_idle (by kernel_rfl) ?_
       refine d_idle (by kernel_rfl) ?_
       refine d_idle (by kernel_rfl) ?_
       refine d_idle (by kernel_rfl) ?_
       refine d_idle (by kernel_rfl) ?_
       refine d_idle (by kernel_rfl) ?_
       refine d_idle (by kernel_rfl) ?_
       refine d_idle (by kernel_rfl) ?_
       refine d_idle (by kernel_rfl) ?_
       refine d_idle (by kernel_rfl) ?_
       refine d_idle (by kernel_rfl) ?_
       refine d_idle (by kernel_rfl) ?_
       refine d_idle (by kernel_rfl) ?_
       refine d_idle (by kernel_rfl) ?_
       refine d_qk (.bool true) (by kernel_rfl) ?_
       refine d_nil ?_
       refine k266 _ _ ?_
       refine w_cond true (by kernel_rfl) rfl (fun _ => ?_) (fun h => by cases h)
       refine w_seqk fun K269 k269 => ?_
       refine w_reg (by kernel_rfl) ?_
       refine s_qk (.bool false) (by kernel_rfl) ?_
       refine s_nil ?_
       refine k269 _ _ ?_
       refine w_ret (bl_ret (th_ret (th_ret (bl_ret (th_ret (th_ret ?_))))))
       obtain ⟨v270, hv271, hz272⟩ := map_some r268
       subst hz272
       obtain rfl := it_inr hn245
       have hq273 := elim_inl r230
       rw [hq273] at hv271
       refine b_ret (fn := Try.f3) (vs := [.bool false]) (aRes_tmp (by kernel_rfl) (rfl)) ?_
       obtain rfl := Option.some.inj hv271
       exact ⟨rfl, (FrS.step wf ((FrS.step wf (FrS.step wf (FrS.step wf ((FrS.step wf (FrS.step wf (FrS.step wf ((FrS.step wf (FrS.step wf ((FrS.step wf (FrS.step wf ((FrS.step wf ((FrS.refl (W := []) wf).extR e4) e20 Inn.nil).extR e33) e39 (hb34.fresh (ntr e4.next e20.next))) e53 Inn.nil).extR e66) e72 (hb67.fresh (ntr (ntr (ntr (ntr e4.next e20.next) e33.next) e39.next) e53.next))) e93 Inn.nil).extR e106) e112 (hb107.fresh (ntr (ntr (ntr (ntr (ntr (ntr (ntr e4.next e20.next) e33.next) e39.next) e53.next) e66.next) e72.next) e93.next))) e124 Inn.nil) e139 Inn.nil).extR e152) e158 (hb153.fresh (ntr (ntr (ntr (ntr (ntr (ntr (ntr (ntr (ntr (ntr (ntr e4.next e20.next) e33.next) e39.next) e53.next) e66.next) e72.next) e93.next) e106.next) e112.next) e124.next) e139.next))) e167 Inn.nil) e239 Inn.nil).extR e258) e264 (hb259.fresh (ntr (ntr (ntr (ntr (ntr (ntr (ntr (ntr (ntr (ntr (ntr (ntr (ntr (ntr (ntr e4.next e20.next) e33.next) e39.next) e53.next) e66.next) e72.next) e93.next) e106.next) e112.next) e124.next) e139.next) e152.next) e158.next) e167.next) e239.next)))⟩
      ·have r274 := ite_f h267 r254
       refine d_qk (.bool false) (by kernel_rfl) ?_
       refine d_qk (.int .i64 i0) (by kernel_rfl) ?_
       refine d_b (i0 > 0) (by kernel_rfl) (fun h275 => ?_) (fun h275 => ?_)
       ·have r276 := ite_t h275 r274
        refine d_qk (.bool true) (by kernel_rfl) ?_
        refine d_qk (.pointer (some ⟨b256, 0, none⟩)) (by kernel_rfl) ?_
        refine d_ql (.int .i64 ((gt y12.2.1 i0).1)) (x := aLoad Try.prog 3 (.pointer (some ⟨b256, 0, none⟩)) H262) (by kernel_rfl) (r265.ld (by kernel_rfl)) ?_
        refine d_qk (.pointer (some ⟨b31, 1, none⟩)) (by kernel_rfl) ?_
        have u277 := (((u226.frS e239 Dj.nil_l).ext e258).frS e264 (hb259.djn (r35.ltF.le (ntr (ntr (ntr (ntr (ntr (ntr (ntr (ntr (ntr (ntr (ntr (ntr e39.next e53.next) e66.next) e72.next) e93.next) e106.next) e112.next) e124.next) e139.next) e152.next) e158.next) e167.next) e239.next))))
        refine d_ql (.slice a28 n29 c30) (x := aLoad Try.prog 22 (.pointer (some ⟨b31, 1, none⟩)) H262) (by kernel_rfl) (u277.ld (by kernel_rfl)) ?_
        refine d_qk (.int .i64 i0) (by kernel_rfl) ?_
        obtain ⟨g278, r279⟩ := G_some r276
        refine d_w ((i0 - 1)) (k := .i64) (x := (i0 - 1)) (by kernel_rfl) (wrap64 g278) ?_
        obtain ⟨g280, r281⟩ := G_some r279
        have u282 := ((u255.ext e258).fr e264 (hb259.djn (m21.lt.le (ntr (ntr (ntr (ntr (ntr (ntr (ntr (ntr (ntr (ntr (ntr (ntr (ntr e33.next e39.next) e53.next) e66.next) e72.next) e93.next) e106.next) e112.next) e124.next) e139.next) e152.next) e158.next) e167.next) e239.next))))
        refine d_ql (elp (.slice a28 n29 c30) 3 (i0 - 1).toNat 0) (x := aIndexAddr Try.prog 22 (.slice a28 n29 c30) (.int .i64 (i0 - 1))) (by kernel_rfl) (u282.sq.idxb (by kernel_rfl) g280.1 g280.2) ?_
        refine d_ql (elp (.slice a28 n29 c30) 3 (i0 - 1).toNat 0) (x := aFieldAddr Try.prog 34 (elp (.slice a28 n29 c30) 3 (i0 - 1).toNat 0) 0) (by kernel_rfl) (Sq.fldq (d := 0) u282.sq g280.1 g280.2 (by kernel_rfl)) ?_
        refine d_ql (.int .i64 ((gt y12.2.1 (i0 - 1)).1)) (x := aLoad Try.prog 3 (elp (.slice a28 n29 c30) 3 (i0 - 1).toNat 0) H262) (by kernel_rfl) (u282.sq.ld g280.1 g280.2 (by kernel_rfl)) ?_
        refine d_b (((gt y12.2.1 i0).1) < ((gt y12.2.1 (i0 - 1)).1)) (by kernel_rfl) (fun h283 => ?_) (fun h283 => ?_)
        ·have r284 := ite_t h283 r281
         refine d_qk (.bool true) (by kernel_rfl) ?_
         refine d_idle (by kernel_rfl) ?_
         refine d_idle (by kernel_rfl) ?_
         refine d_idle (by kernel_rfl) ?_
         refine d_idle (by kernel_rfl) ?_
         refine d_idle (by kernel_rfl) ?_
         refine d_idle (by kernel_rfl) ?_
         refine d_idle (by kernel_rfl) ?_
         refine d_idle (by kernel_rfl) ?_
         refine d_idle (by kernel_rfl) ?_
         refine d_idle (by kernel_rfl) ?_
         refine d_idle (by kernel_rfl) ?_
         refine d_idle (by kernel_rfl) ?_
         refine d_idle (by kernel_rfl) ?_
         refine d_idle (by kernel_rfl) ?_
         refine d_idle (by kernel_rfl) ?_
         refine d_idle (by kernel_rfl) ?_
         refine d_idle (by kernel_rfl) ?_
         refine d_idle (by kernel_rfl) ?_
         refine d_idle (by kernel_rfl) ?_
         refine d_idle (by kernel_rfl) ?_
         refine d_idle (by kernel_rfl) ?_
         refine d_idle (by kernel_rfl) ?_
         refine d_qk (.bool true) (by kernel_rfl) ?_
         refine d_qk (.bool true) (by kernel_rfl) ?_
         refine d_qk (.bool true) (by kernel_rfl) ?_
         refine d_nil ?_
         refine k266 _ _ ?_
         refine w_cond true (by kernel_rfl) rfl (fun _ => ?_) (fun h => by cases h)
         refine w_seqk fun K285 k285 => ?_
         refine w_reg (by kernel_rfl) ?_
         refine s_qk (.bool false) (by kernel_rfl) ?_
         refine s_nil ?_
         refine k285 _ _ ?_
         refine w_ret (bl_ret (th_ret (th_ret (bl_ret (th_ret (th_ret ?_))))))
         obtain ⟨v286, hv287, hz288⟩ := map_some r284
         subst hz288
         obtain rfl := it_inr hn245
         have hq289 := elim_inl r230
         rw [hq289] at hv287
         refine b_ret (fn := Try.f3) (vs := [.bool false]) (aRes_tmp (by kernel_rfl) (rfl)) ?_
         obtain rfl := Option.some.inj hv287
         exact ⟨rfl, (FrS.step wf ((FrS.step wf (FrS.step wf (FrS.step wf ((FrS.step wf (FrS.step wf (FrS.step wf ((FrS.step wf (FrS.step wf ((FrS.step wf (FrS.step wf ((FrS.step wf ((FrS.refl (W := []) wf).extR e4) e20 Inn.nil).extR e33) e39 (hb34.fresh (ntr e4.next e20.next))) e53 Inn.nil).extR e66) e72 (hb67.fresh (ntr (ntr (ntr (ntr e4.next e20.next) e33.next) e39.next) e53.next))) e93 Inn.nil).extR e106) e112 (hb107.fresh (ntr (ntr (ntr (ntr (ntr (ntr (ntr e4.next e20.next) e33.next) e39.next) e53.next) e66.next) e72.next) e93.next))) e124 Inn.nil) e139 Inn.nil).extR e152) e158 (hb153.fresh (ntr (ntr (ntr (ntr (ntr (ntr (ntr (ntr (ntr (ntr (ntr e4.next e20.next) e33.next) e39.next) e53.next) e66.next) e72.next) e93.next) e106.next) e112.next) e124.next) e139.next))) e167 Inn.nil) e239 Inn.nil).extR e258) e264 (hb259.fresh (ntr (ntr (ntr (ntr (ntr (ntr (ntr (ntr (ntr (ntr (ntr (ntr (ntr (ntr (ntr e4.next e20.next) e33.next) e39.next) e53.next) e66.next) e72.next) e93.next) e106.next) e112.next) e124.next) e139.next) e152.next) e158.next) e167.next) e239.next)))⟩
        ·have r290 := ite_f h283 r281
         refine d_qk (.bool false) (by kernel_rfl) ?_
         refine d_qk (.pointer (some ⟨b256, 0, none⟩)) (by kernel_rfl) ?_
         refine d_ql (.int .i64 ((gt y12.2.1 i0).1)) (x := aLoad Try.prog 3 (.pointer (some ⟨b256, 0, none⟩)) H262) (by kernel_rfl) (r265.ld (by kernel_rfl)) ?_
         refine d_qk (.pointer (some ⟨b31, 1, none⟩)) (by kernel_rfl) ?_
         refine d_ql (.slice a28 n29 c30) (x := aLoad Try.prog 22 (.pointer (some ⟨b31, 1, none⟩)) H262) (by kernel_rfl) (u277.ld (by kernel_rfl)) ?_
         refine d_qk (.int .i64 i0) (by kernel_rfl) ?_
         obtain ⟨g291, r292⟩ := G_some r290
         refine d_w ((i0 - 1)) (k := .i64) (x := (i0 - 1)) (by kernel_rfl) (wrap64 (by have := g291; omega)) ?_
         refine d_ql (elp (.slice a28 n29 c30) 3 (i0 - 1).toNat 0) (x := aIndexAddr Try.prog 22 (.slice a28 n29 c30) (.int .i64 (i0 - 1))) (by kernel_rfl) (u282.sq.idxb (by kernel_rfl) g280.1 g280.2) ?_
         refine d_ql (elp (.slice a28 n29 c30) 3 (i0 - 1).toNat 0) (x := aFieldAddr Try.prog 34 (elp (.slice a28 n29 c30) 3 (i0 - 1).toNat 0) 0) (by kernel_rfl) (Sq.fldq (d := 0) u282.sq g280.1 g280.2 (by kernel_rfl)) ?_
         refine d_ql (.int .i64 ((gt y12.2.1 (i0 - 1)).1)) (x := aLoad Try.prog 3 (elp (.slice a28 n29 c30) 3 (i0 - 1).toNat 0) H262) (by kernel_rfl) (u282.sq.ld g280.1 g280.2 (by kernel_rfl)) ?_
         refine d_b (((gt y12.2.1 i0).1) = ((gt y12.2.1 (i0 - 1)).1)) (by kernel_rfl) (fun h293 => ?_) (fun h293 => ?_)
         ·have r294 := ite_t h293 r292
          refine d_qk (.bool true) (by kernel_rfl) ?_
          refine d_qk (.pointer (some ⟨b256, 1, none⟩)) (by kernel_rfl) ?_
          refine d_ql (.int .i64 ((gt y12.2.1 i0).2.1)) (x := aLoad Try.prog 3 (.pointer (some ⟨b256, 1, none⟩)) H262) (by kernel_rfl) (r265.ld (by kernel_rfl)) ?_
          refine d_qk (.pointer (some ⟨b31, 1, none⟩)) (by kernel_rfl) ?_
          refine d_ql (.slice a28 n29 c30) (x := aLoad Try.prog 22 (.pointer (some ⟨b31, 1, none⟩)) H262) (by kernel_rfl) (u277.ld (by kernel_rfl)) ?_
          refine d_qk (.int .i64 i0) (by kernel_rfl) ?_
          refine d_w ((i0 - 1)) (k := .i64) (x := (i0 - 1)) (by kernel_rfl) (wrap64 (by have := g291; omega)) ?_
          refine d_ql (elp (.slice a28 n29 c30) 3 (i0 - 1).toNat 0) (x := aIndexAddr Try.prog 22 (.slice a28 n29 c30) (.int .i64 (i0 - 1))) (by kernel_rfl) (u282.sq.idxb (by kernel_rfl) g280.1 g280.2) ?_
          refine d_ql (elp (.slice a28 n29 c30) 3 (i0 - 1).toNat 1) (x := aFieldAddr Try.prog 34 (elp (.slice a28 n29 c30) 3 (i0 - 1).toNat 0) 1) (by kernel_rfl) (Sq.fldq (d := 1) u282.sq g280.1 g280.2 (by kernel_rfl)) ?_
          refine d_ql (.int .i64 ((gt y12.2.1 (i0 - 1)).2.1)) (x := aLoad Try.prog 3 (elp (.slice a28 n29 c30) 3 (i0 - 1).toNat 1) H262) (by kernel_rfl) (u282.sq.ld g280.1 g280.2 (by kernel_rfl)) ?_
          refine d_qk (.bool (decide (((gt y12.2.1 i0).2.1) ≤ ((gt y12.2.1 (i0 - 1)).2.1)))) (by kernel_rfl) ?_
          refine d_qk (.bool (decide (((gt y12.2.1 i0).2.1) ≤ ((gt y12.2.1 (i0 - 1)).2.1)))) (by kernel_rfl) ?_
          refine d_qk (.bool (decide (((gt y12.2.1 i0).2.1) ≤ ((gt y12.2.1 (i0 - 1)).2.1)))) (by kernel_rfl) ?_
          refine d_qk (.bool (decide (((gt y12.2.1 i0).2.1) ≤ ((gt y12.2.1 (i0 - 1)).2.1)))) (by kernel_rfl) ?_
          refine d_qk (.bool (decide (((gt y12.2.1 i0).2.1) ≤ ((gt y12.2.1 (i0 - 1)).2.1)))) (by kernel_rfl) ?_
          refine d_nil ?_
          refine k266 _ _ ?_
          refine w_condp (((gt y12.2.1 i0).2.1) ≤ ((gt y12.2.1 (i0 - 1)).2.1)) (by kernel_rfl) rfl (fun h295 => ?_) (fun h295 => ?_)
          ·have r296 := ite_t h295 r294
           refine w_seqk fun K297 k297 => ?_
           refine w_reg (by kernel_rfl) ?_
           refine s_qk (.bool false) (by kernel_rfl) ?_
           refine s_nil ?_
           refine k297 _ _ ?_
           refine w_ret (bl_ret (th_ret (th_ret (bl_ret (th_ret (th_ret ?_))))))
           obtain ⟨v298, hv299, hz300⟩ := map_some r296
           subst hz300
           obtain rfl := it_inr hn245
           have hq301 := elim_inl r230
           rw [hq301] at hv299
           refine b_ret (fn := Try.f3) (vs := [.bool false]) (aRes_tmp (by kernel_rfl) (rfl)) ?_
           obtain rfl := Option.some.inj hv299
           exact ⟨rfl, (FrS.step wf ((FrS.step wf (FrS.step wf (FrS.step wf ((FrS.step wf (FrS.step wf (FrS.step wf ((FrS.step wf (FrS.step wf ((FrS.step wf (FrS.step wf ((FrS.step wf ((FrS.refl (W := []) wf).extR e4) e20 Inn.nil).extR e33) e39 (hb34.fresh (ntr e4.next e20.next))) e53 Inn.nil).extR e66) e72 (hb67.fresh (ntr (ntr (ntr (ntr e4.next e20.next) e33.next) e39.next) e53.next))) e93 Inn.nil).extR e106) e112 (hb107.fresh (ntr (ntr (ntr (ntr (ntr (ntr (ntr e4.next e20.next) e33.next) e39.next) e53.next) e66.next) e72.next) e93.next))) e124 Inn.nil) e139 Inn.nil).extR e152) e158 (hb153.fresh (ntr (ntr (ntr (ntr (ntr (ntr (ntr (ntr (ntr (ntr (ntr e4.next e20.next) e33.next) e39.next) e53.next) e66.next) e72.next) e93.next) e106.next) e112.next) e124.next) e139.next))) e167 Inn.nil) e239 Inn.nil).extR e258) e264 (hb259.fresh (ntr (ntr (ntr (ntr (ntr (ntr (ntr (ntr (ntr (ntr (ntr (ntr (ntr (ntr (ntr e4.next e20.next) e33.next) e39.next) e53.next) e66.next) e72.next) e93.next) e106.next) e112.next) e124.next) e139.next) e152.next) e158.next) e167.next) e239.next)))⟩
          ·have r302 := ite_f h295 r294
           refine w_skip ?_
           refine k251 _ _ ?_
           refine w_reg (by kernel_rfl) ?_
           obtain ⟨g303, r304⟩ := G_some r302
           refine s_w ((i0 + 1)) (k := .i64) (x := (i0 + 1)) (by kernel_rfl) (wrap64 (by have := g303; omega)) ?_
           refine s_qk (.int .i64 (i0 + 1)) (by kernel_rfl) ?_
           refine s_nil ?_
           obtain rfl := Option.some.inj r304
           exact k246 n242 _ _ (Nat.lt_succ_self _) ⟨(i0 + 1), hn245, ⟨by kernel_rfl, by kernel_rfl, by kernel_rfl, by kernel_rfl, by kernel_rfl, trivial⟩, (FrS.step e167.wf ((FrS.step e167.wf (FrS.refl (W := []) e167.wf) e239 Inn.nil).extR e258) e264 (hb259.fresh e239.next))⟩
         ·have r305 := ite_f h293 r292
          refine d_qk (.bool false) (by kernel_rfl) ?_
          refine d_idle (by kernel_rfl) ?_
          refine d_idle (by kernel_rfl) ?_
          refine d_idle (by kernel_rfl) ?_
          refine d_idle (by kernel_rfl) ?_
          refine d_idle (by kernel_rfl) ?_
          refine d_idle (by kernel_rfl) ?_
          refine d_idle (by kernel_rfl) ?_
          refine d_idle (by kernel_rfl) ?_
          refine d_idle (by kernel_rfl) ?_
          refine d_idle (by kernel_rfl) ?_
          refine d_qk (.bool false) (by kernel_rfl) ?_
          refine d_qk (.bool false) (by kernel_rfl) ?_
          refine d_qk (.bool false) (by kernel_rfl) ?_
          refine d_qk (.bool false) (by kernel_rfl) ?_
          refine d_nil ?_
          refine k266 _ _ ?_
          refine w_cond false (by kernel_rfl) rfl (fun h => by cases h) (fun _ => ?_)
          refine w_skip ?_
          refine k251 _ _ ?_
          refine w_reg (by kernel_rfl) ?_
          obtain ⟨g306, r307⟩ := G_some r305
          refine s_w ((i0 + 1)) (k := .i64) (x := (i0 + 1)) (by kernel_rfl) (wrap64 (by have := g306; omega)) ?_
          refine s_qk (.int .i64 (i0 + 1)) (by kernel_rfl) ?_
          refine s_nil ?_
          obtain rfl := Option.some.inj r307
          exact k246 n242 _ _ (Nat.lt_succ_self _) ⟨(i0 + 1), hn245, ⟨by kernel_rfl, by kernel_rfl, by kernel_rfl, by kernel_rfl, by kernel_rfl, trivial⟩, (FrS.step e167.wf ((FrS.step e167.wf (FrS.refl (W := []) e167.wf) e239 Inn.nil).extR e258) e264 (hb259.fresh e239.next))⟩
       ·have r308 := ite_f h275 r274
        refine d_qk (.bool false) (by kernel_rfl) ?_
        refine d_idle (by kernel_rfl) ?_
        refine d_idle (by kernel_rfl) ?_
        refine d_idle (by kernel_rfl) ?_
        refine d_idle (by kernel_rfl) ?_
        refine d_idle (by kernel_rfl) ?_
        refine d_idle (by kernel_rfl) ?_
        refine d_idle (by kernel_rfl) ?_
        refine d_idle (by kernel_rfl) ?_
        refine d_idle (by kernel_rfl) ?_
        refine d_idle (by kernel_rfl) ?_
        refine d_idle (by kernel_rfl) ?_
        refine d_idle (by kernel_rfl) ?_
        refine d_idle (by kernel_rfl) ?_
        refine d_idle (by kernel_rfl) ?_
        refine d_idle (by kernel_rfl) ?_
        refine d_idle (by kernel_rfl) ?_
        refine d_idle (by kernel_rfl) ?_
        refine d_idle (by kernel_rfl) ?_
        refine d_idle (by kernel_rfl) ?_
        refine d_idle (by kernel_rfl) ?_
        refine d_idle (by kernel_rfl) ?_
        refine d_idle (by kernel_rfl) ?_
        refine d_idle (by kernel_rfl) ?_
        refine d_idle (by kernel_rfl) ?_
        refine d_idle (by kernel_rfl) ?_
        refine d_idle (by kernel_rfl) ?_
        refine d_idle (by kernel_rfl) ?_
        refine d_idle (by kernel_rfl) ?_
        refine d_idle (by kernel_rfl) ?_
        refine d_idle (by kernel_rfl) ?_
        refine d_idle (by kernel_rfl) ?_
        refine d_idle (by kernel_rfl) ?_
        refine d_idle (by kernel_rfl) ?_
        refine d_idle (by kernel_rfl) ?_
        refine d_qk (.bool false) (by kernel_rfl) ?_
        refine d_qk (.bool false) (by kernel_rfl) ?_
        refine d_nil ?_
        refine k266 _ _ ?_
        refine w_cond false (by kernel_rfl) rfl (fun h => by cases h) (fun _ => ?_)
        refine w_skip ?_
        refine k251 _ _ ?_
        refine w_reg (by kernel_rfl) ?_
        obtain ⟨g309, r310⟩ := G_some r308
        refine s_w ((i0 + 1)) (k := .i64) (x := (i0 + 1)) (by kernel_rfl) (wrap64 (by have := g309; omega)) ?_
        refine s_qk (.int .i64 (i0 + 1)) (by kernel_rfl) ?_
        refine s_nil ?_
        obtain rfl := Option.some.inj r310
        exact k246 n242 _ _ (Nat.lt_succ_self _) ⟨(i0 + 1), hn245, ⟨by kernel_rfl, by kernel_rfl, by kernel_rfl, by kernel_rfl, by kernel_rfl, trivial⟩, (FrS.step e167.wf ((FrS.step e167.wf (FrS.refl (W := []) e167.wf) e239 Inn.nil).extR e258) e264 (hb259.fresh e239.next))⟩
     ·have r311 := ite_f h249 hz244
      refine w_exit (th_exit (th_exit (bl_eq ?_)))
      obtain rfl := Option.some.inj r311
      obtain rfl := it_inr hn245
      exact k234 _ _ ⟨_, rfl, ⟨by kernel_rfl, by kernel_rfl, trivial⟩, (FrS.step e167.wf (FrS.refl (W := []) e167.wf) e239 Inn.nil)⟩
    ·obtain ⟨o228, rfl, hh235, e233⟩ := hM
     have r312 := elim_inr r230
     obtain ⟨β, rfl⟩ := has_ex hh235
     clear hh235
     refine k224 _ _ ?_
     refine w_seqk fun K313 k313 => ?_
     refine w_reg (by kernel_rfl) ?_
     have u314 := (((((u129.frS e139 Dj.nil_l).ext e152).frS e158 (hb153.djn (r68.ltF.le (ntr (ntr (ntr (ntr (ntr e72.next e93.next) e106.next) e112.next) e124.next) e139.next)))).frS e167 Dj.nil_l).frS e233 Dj.nil_l)
     refine s_ql (.agg #[.int .i64 y45.1, .slice a61 n62 c63]) (x := aLoad Try.prog 24 (.pointer (some ⟨b64, 0, none⟩)) H232) (by kernel_rfl) (u314.ld (by kernel_rfl)) ?_
     have u315 := (((((u130.fr e139 Dj.nil_l).ext e152).fr e158 (hb153.djn (m54.lt.le (ntr (ntr (ntr (ntr (ntr (ntr e66.next e72.next) e93.next) e106.next) e112.next) e124.next) e139.next)))).fr e167 Dj.nil_l).fr e233 Dj.nil_l)
     obtain ⟨y316, hy317, r318⟩ := bind_some r312
     refine s_ck 9 #[.agg #[.int .i64 y45.1, .slice a61 n62 c63]] (by kernel_rfl) (c_normal_Of e233.wf u315.sq hy317) ?_
     rintro _ H323 ⟨s319, f320, v321, f322, rfl, e324, m325, m326, i327, i328, d329⟩
     obtain ⟨a332, n333, c334, rfl⟩ := m325.form
     refine s_qk (.tuple #[.agg #[.int .i64 y316.1, .slice a332 n333 c334], v321]) (by kernel_rfl) ?_
     refine s_qk (.agg #[.int .i64 y316.1, .slice a332 n333 c334]) (by kernel_rfl) ?_
     refine s_qk (v321) (by kernel_rfl) ?_
     refine s_rwk e324.wf [.int .i64 0, .slice none 0 0] (by kernel_rfl) fun b335 H336 e337 hb338 r339 => ?_
     have u345 := (m325.ext e337)
     obtain ⟨H341, q342, e343, r344⟩ := Row.store (P := Try.prog) (t := 24) (p := 0) e337.wf r339 (.agg #[.int .i64 y316.1, .slice a332 n333 c334]) [.int .i64 y316.1, .slice a332 n333 c334] (by kernel_rfl) (by kernel_rfl) (one_cons (rfl) (one_cons (u345.one1) (one_nil))) (Nat.le_of_ble_eq_true (by kernel_rfl)) [.int .i64 y316.1, .slice a332 n333 c334] (by kernel_rfl)
     refine s_ek (undef) (by kernel_rfl) (map_ok q342) ?_
     refine s_qk (v321) (by kernel_rfl) ?_
     refine s_nil ?_
     refine k313 _ _ ?_
     refine w_seqk fun K346 k346 => ?_
     refine w_reg (by kernel_rfl) ?_
     have u347 := ((((u226.frS e233 Dj.nil_l).frS e324 Dj.nil_l).ext e337).frS e343 (hb338.djn (r35.ltF.le (ntr (ntr (ntr (ntr (ntr (ntr (ntr (ntr (ntr (ntr (ntr (ntr (ntr e39.next e53.next) e66.next) e72.next) e93.next) e106.next) e112.next) e124.next) e139.next) e152.next) e158.next) e167.next) e233.next) e324.next))))
     refine s_ql (.agg #[.int .i64 y12.1, .slice a28 n29 c30]) (x := aLoad Try.prog 24 (.pointer (some ⟨b31, 0, none⟩)) H341) (by kernel_rfl) (u347.ld (by kernel_rfl)) ?_
     have u348 := ((((u227.fr e233 Dj.nil_l).fr e324 Dj.nil_l).ext e337).fr e343 (hb338.djn (m21.lt.le (ntr (ntr (ntr (ntr (ntr (ntr (ntr (ntr (ntr (ntr (ntr (ntr (ntr (ntr e33.next e39.next) e53.next) e66.next) e72.next) e93.next) e106.next) e112.next) e124.next) e139.next) e152.next) e158.next) e167.next) e233.next) e324.next))))
     obtain ⟨y349, hy350, r351⟩ := bind_some r318
     refine s_ck 10 #[.agg #[.int .i64 y12.1, .slice a28 n29 c30]] (by kernel_rfl) (c_normal_Reverse e343.wf u348.sq hy350) ?_
     rintro _ H356 ⟨s352, f353, v354, f355, rfl, e357, m358, m359, i360, i361, d362⟩
     obtain ⟨a365, n366, c367, rfl⟩ := m358.form
     refine s_qk (.tuple #[.agg #[.int .i64 y349.1, .slice a365 n366 c367], v354]) (by kernel_rfl) ?_
     refine s_qk (.agg #[.int .i64 y349.1, .slice a365 n366 c367]) (by kernel_rfl) ?_
     refine s_qk (v354) (by kernel_rfl) ?_
     refine s_rwk e357.wf [.int .i64 0, .slice none 0 0] (by kernel_rfl) fun b368 H369 e370 hb371 r372 => ?_
     have u378 := (m358.ext e370)
     obtain ⟨H374, q375, e376, r377⟩ := Row.store (P := Try.prog) (t := 24) (p := 0) e370.wf r372 (.agg #[.int .i64 y349.1, .slice a365 n366 c367]) [.int .i64 y349.1, .slice a365 n366 c367] (by kernel_rfl) (by kernel_rfl) (one_cons (rfl) (one_cons (u378.one1) (one_nil))) (Nat.le_of_ble_eq_true (by kernel_rfl)) [.int .i64 y349.1, .slice a365 n366 c367] (by kernel_rfl)
     refine s_ek (undef) (by kernel_rfl) (map_ok q375) ?_
     refine s_qk (v354) (by kernel_rfl) ?_
     refine s_nil ?_
     refine k346 _ _ ?_
     refine w_seqk fun K379 k379 => ?_
     refine w_reg (by kernel_rfl) ?_
     refine s_ql (.agg #[.int .i64 y349.1, .slice a365 n366 c367]) (x := aLoad Try.prog 24 (.pointer (some ⟨b368, 0, none⟩)) H374) (by kernel_rfl) (r377.ld (by kernel_rfl)) ?_
     have u380 := (u378.fr e376 (hb371.djn m358.lt))
     obtain ⟨y381, hy382, r383⟩ := bind_some r351
     refine s_ck 9 #[.agg #[.int .i64 y349.1, .slice a365 n366 c367]] (by kernel_rfl) (c_normal_Of e376.wf u380.sq hy382) ?_
     rintro _ H388 ⟨s384, f385, v386, f387, rfl, e389, m390, m391, i392, i393, d394⟩
     obtain ⟨a397, n398, c399, rfl⟩ := m390.form
     refine s_qk (.tuple #[.agg #[.int .i64 y381.1, .slice a397 n398 c399], v386]) (by kernel_rfl) ?_
     refine s_qk (.agg #[.int .i64 y381.1, .slice a397 n398 c399]) (by kernel_rfl) ?_
     refine s_qk (v386) (by kernel_rfl) ?_
     refine s_rwk e389.wf [.int .i64 0, .slice none 0 0] (by kernel_rfl) fun b400 H401 e402 hb403 r404 => ?_
     have u410 := (m390.ext e402)
     obtain ⟨H406, q407, e408, r409⟩ := Row.store (P := Try.prog) (t := 24) (p := 0) e402.wf r404 (.agg #[.int .i64 y381.1, .slice a397 n398 c399]) [.int .i64 y381.1, .slice a397 n398 c399] (by kernel_rfl) (by kernel_rfl) (one_cons (rfl) (one_cons (u410.one1) (one_nil))) (Nat.le_of_ble_eq_true (by kernel_rfl)) [.int .i64 y381.1, .slice a397 n398 c399] (by kernel_rfl)
     refine s_ek (undef) (by kernel_rfl) (map_ok q407) ?_
     refine s_qk (v386) (by kernel_rfl) ?_
     refine s_nil ?_
     refine k379 _ _ ?_
     refine w_seqk fun K411 k411 => ?_
     refine w_reg (by kernel_rfl) ?_
     refine s_qk (v321) (by kernel_rfl) ?_
     have u415 := ((((((((m326.ext e337).fr e343 (hb338.djn m326.lt)).fr e357 Dj.nil_l).ext e370).fr e376 (hb371.djn (m326.lt.le (ntr (ntr e337.next e343.next) e357.next)))).fr e389 Dj.nil_l).ext e402).fr e408 (hb403.djn (m326.lt.le (ntr (ntr (ntr (ntr (ntr e337.next e343.next) e357.next) e370.next) e376.next) e389.next))))
     rcases (u415).cases with ⟨h412, rfl⟩ | ⟨h412, t413, x414, rfl⟩
     ·have r416 := ite_t h412 r383
      refine s_qk (.bool true) (by kernel_rfl) ?_
      refine s_qk (.bool true) (by kernel_rfl) ?_
      refine s_qk (v354) (by kernel_rfl) ?_
      have u420 := (((((m359.ext e370).fr e376 (hb371.djn m359.lt)).fr e389 Dj.nil_l).ext e402).fr e408 (hb403.djn (m359.lt.le (ntr (ntr e370.next e376.next) e389.next))))
      rcases (u420).cases with ⟨h417, rfl⟩ | ⟨h417, t418, x419, rfl⟩
      ·have r421 := ite_t h417 r416
       refine s_qk (.bool true) (by kernel_rfl) ?_
       refine s_qk (.bool true) (by kernel_rfl) ?_
       refine s_qk (.bool true) (by kernel_rfl) ?_
       refine s_qk (v386) (by kernel_rfl) ?_
       have u425 := ((m391.ext e402).fr e408 (hb403.djn m391.lt))
       rcases (u425).cases with ⟨h422, rfl⟩ | ⟨h422, t423, x424, rfl⟩
       ·have r426 := ite_t h422 r421
        refine s_qk (.bool true) (by kernel_rfl) ?_
        refine s_qk (.bool true) (by kernel_rfl) ?_
        refine s_qk (.bool true) (by kernel_rfl) ?_
        have u427 := ((((((r344.frS e357 Dj.nil_l).ext e370).frS e376 (hb371.djn (r339.ltF.le (ntr e343.next e357.next)))).frS e389 Dj.nil_l).ext e402).frS e408 (hb403.djn (r339.ltF.le (ntr (ntr (ntr (ntr e343.next e357.next) e370.next) e376.next) e389.next))))
        refine s_ql (.agg #[.int .i64 y316.1, .slice a332 n333 c334]) (x := aLoad Try.prog 24 (.pointer (some ⟨b335, 0, none⟩)) H406) (by kernel_rfl) (u427.ld (by kernel_rfl)) ?_
        refine s_ql (.agg #[.int .i64 y381.1, .slice a397 n398 c399]) (x := aLoad Try.prog 24 (.pointer (some ⟨b400, 0, none⟩)) H406) (by kernel_rfl) (r409.ld (by kernel_rfl)) ?_
        have u428 := (((((((u345.fr e343 (hb338.djn m325.lt)).fr e357 Dj.nil_l).ext e370).fr e376 (hb371.djn (m325.lt.le (ntr (ntr e337.next e343.next) e357.next)))).fr e389 Dj.nil_l).ext e402).fr e408 (hb403.djn (m325.lt.le (ntr (ntr (ntr (ntr (ntr e337.next e343.next) e357.next) e370.next) e376.next) e389.next))))
        have u429 := (u410.fr e408 (hb403.djn m390.lt))
        obtain ⟨y430, hy431, r432⟩ := bind_some r426
        refine s_ck 12 #[.agg #[.int .i64 y316.1, .slice a332 n333 c334], .agg #[.int .i64 y381.1, .slice a397 n398 c399]] (by kernel_rfl) (c_viaductref03_Same e408.wf u428.sq u429.sq hy431) ?_
        rintro _ H433 ⟨rfl, e434⟩
        refine s_qk (.bool y430) (by kernel_rfl) ?_
        refine s_qk (.bool y430) (by kernel_rfl) ?_
        refine s_nil ?_
        refine k411 _ _ ?_
        refine w_ret ?_
        refine b_ret (fn := Try.f3) (vs := [.bool y430]) (aRes_tmp (by kernel_rfl) (rfl)) ?_
        obtain rfl := Option.some.inj r432
        exact ⟨rfl, (FrS.step wf (FrS.step wf ((FrS.step wf (FrS.step wf ((FrS.step wf (FrS.step wf ((FrS.step wf (FrS.step wf (FrS.step wf (FrS.step wf ((FrS.step wf (FrS.step wf (FrS.step wf ((FrS.step wf (FrS.step wf ((FrS.step wf (FrS.step wf ((FrS.step wf ((FrS.refl (W := []) wf).extR e4) e20 Inn.nil).extR e33) e39 (hb34.fresh (ntr e4.next e20.next))) e53 Inn.nil).extR e66) e72 (hb67.fresh (ntr (ntr (ntr (ntr e4.next e20.next) e33.next) e39.next) e53.next))) e93 Inn.nil).extR e106) e112 (hb107.fresh (ntr (ntr (ntr (ntr (ntr (ntr (ntr e4.next e20.next) e33.next) e39.next) e53.next) e66.next) e72.next) e93.next))) e124 Inn.nil) e139 Inn.nil).extR e152) e158 (hb153.fresh (ntr (ntr (ntr (ntr (ntr (ntr (ntr (ntr (ntr (ntr (ntr e4.next e20.next) e33.next) e39.next) e53.next) e66.next) e72.next) e93.next) e106.next) e112.next) e124.next) e139.next))) e167 Inn.nil) e233 Inn.nil) e324 Inn.nil).extR e337) e343 (hb338.fresh (ntr (ntr (ntr (ntr (ntr (ntr (ntr (ntr (ntr (ntr (ntr (ntr (ntr (ntr (ntr (ntr e4.next e20.next) e33.next) e39.next) e53.next) e66.next) e72.next) e93.next) e106.next) e112.next) e124.next) e139.next) e152.next) e158.next) e167.next) e233.next) e324.next))) e357 Inn.nil).extR e370) e376 (hb371.fresh (ntr (ntr (ntr (ntr (ntr (ntr (ntr (ntr (ntr (ntr (ntr (ntr (ntr (ntr (ntr (ntr (ntr (ntr (ntr e4.next e20.next) e33.next) e39.next) e53.next) e66.next) e72.next) e93.next) e106.next) e112.next) e124.next) e139.next) e152.next) e158.next) e167.next) e233.next) e324.next) e337.next) e343.next) e357.next))) e389 Inn.nil).extR e402) e408 (hb403.fresh (ntr (ntr (ntr (ntr (ntr (ntr (ntr (ntr (ntr (ntr (ntr (ntr (ntr (ntr (ntr (ntr (ntr (ntr (ntr (ntr (ntr (ntr e4.next e20.next) e33.next) e39.next) e53.next) e66.next) e72.next) e93.next) e106.next) e112.next) e124.next) e139.next) e152.next) e158.next) e167.next) e233.next) e324.next) e337.next) e343.next) e357.next) e370.next) e376.next) e389.next))) e434 Inn.nil)⟩
       ·have r435 := ite_f h422 r421
        refine s_ql (.bool false) (x := aBin Try.prog .eql 27 (.tmp 172) (.const .nilIface) (.iface t423 x424) .nilIface) (by kernel_rfl) (aBin_nil (by kernel_rfl)) ?_
        refine s_qk (.bool false) (by kernel_rfl) ?_
        refine s_qk (.bool false) (by kernel_rfl) ?_
        refine s_no (by kernel_rfl) ?_
        refine s_no (by kernel_rfl) ?_
        refine s_no (by kernel_rfl) ?_
        refine s_qk (.bool false) (by kernel_rfl) ?_
        refine s_qk (.bool false) (by kernel_rfl) ?_
        refine s_nil ?_
        refine k411 _ _ ?_
        refine w_ret ?_
        refine b_ret (fn := Try.f3) (vs := [.bool false]) (aRes_tmp (by kernel_rfl) (rfl)) ?_
        obtain rfl := Option.some.inj r435
        exact ⟨rfl, (FrS.step wf ((FrS.step wf (FrS.step wf ((FrS.step wf (FrS.step wf ((FrS.step wf (FrS.step wf (FrS.step wf (FrS.step wf ((FrS.step wf (FrS.step wf (FrS.step wf ((FrS.step wf (FrS.step wf ((FrS.step wf (FrS.step wf ((FrS.step wf ((FrS.refl (W := []) wf).extR e4) e20 Inn.nil).extR e33) e39 (hb34.fresh (ntr e4.next e20.next))) e53 Inn.nil).extR e66) e72 (hb67.fresh (ntr (ntr (ntr (ntr e4.next e20.next) e33.next) e39.next) e53.next))) e93 Inn.nil).extR e106) e112 (hb107.fresh (ntr (ntr (ntr (ntr (ntr (ntr (ntr e4.next e20.next) e33.next) e39.next) e53.next) e66.next) e72.next) e93.next))) e124 Inn.nil) e139 Inn.nil).extR e152) e158 (hb153.fresh (ntr (ntr (ntr (ntr (ntr (ntr (ntr (ntr (ntr (ntr (ntr e4.next e20.next) e33.next) e39.next) e53.next) e66.next) e72.next) e93.next) e106.next) e112.next) e124.next) e139.next))) e167 Inn.nil) e233 Inn.nil) e324 Inn.nil).extR e337) e343 (hb338.fresh (ntr (ntr (ntr (ntr (ntr (ntr (ntr (ntr (ntr (ntr (ntr (ntr (ntr (ntr (ntr (ntr e4.next e20.next) e33.next) e39.next) e53.next) e66.next) e72.next) e93.next) e106.next) e112.next) e124.next) e139.next) e152.next) e158.next) e167.next) e233.next) e324.next))) e357 Inn.nil).extR e370) e376 (hb371.fresh (ntr (ntr (ntr (ntr (ntr (ntr (ntr (ntr (ntr (ntr (ntr (ntr (ntr (ntr (ntr (ntr (ntr (ntr (ntr e4.next e20.next) e33.next) e39.next) e53.next) e66.next) e72.next) e93.next) e106.next) e112.next) e124.next) e139.next) e152.next) e158.next) e167.next) e233.next) e324.next) e337.next) e343.next) e357.next))) e389 Inn.nil).extR e402) e408 (hb403.fresh (ntr (ntr (ntr (ntr (ntr (ntr (ntr (ntr (ntr (ntr (ntr (ntr (ntr (ntr (ntr (ntr (ntr (ntr (ntr (ntr (ntr (ntr e4.next e20.next) e33.next) e39.next) e53.next) e66.next) e72.next) e93.next) e106.next) e112.next) e124.next) e139.next) e152.next) e158.next) e167.next) e233.next) e324.next) e337.next) e343.next) e357.next) e370.next) e376.next) e389.next)))⟩
      ·have r436 := ite_f h417 r416
       refine s_ql (.bool false) (x := aBin Try.prog .eql 27 (.tmp 168) (.const .nilIface) (.iface t418 x419) .nilIface) (by kernel_rfl) (aBin_nil (by kernel_rfl)) ?_
       refine s_qk (.bool false) (by kernel_rfl) ?_
       refine s_qk (.bool false) (by kernel_rfl) ?_
       refine s_no (by kernel_rfl) ?_
       refine s_no (by kernel_rfl) ?_
       refine s_qk (.bool false) (by kernel_rfl) ?_
       refine s_qk (.bool false) (by kernel_rfl) ?_
       refine s_no (by kernel_rfl) ?_
       refine s_no (by kernel_rfl) ?_
       refine s_no (by kernel_rfl) ?_
       refine s_qk (.bool false) (by kernel_rfl) ?_
       refine s_qk (.bool false) (by kernel_rfl) ?_
       refine s_nil ?_
       refine k411 _ _ ?_
       refine w_ret ?_
       refine b_ret (fn := Try.f3) (vs := [.bool false]) (aRes_tmp (by kernel_rfl) (rfl)) ?_
       obtain rfl := Option.some.inj r436
       exact ⟨rfl, (FrS.step wf ((FrS.step wf (FrS.step wf ((FrS.step wf (FrS.step wf ((FrS.step wf (FrS.step wf (FrS.step wf (FrS.step wf ((FrS.step wf (FrS.step wf (FrS.step wf ((FrS.step wf (FrS.step wf ((FrS.step wf (FrS.step wf ((FrS.step wf ((FrS.refl (W := []) wf).extR e4) e20 Inn.nil).extR e33) e39 (hb34.fresh (ntr e4.next e20.next))) e53 Inn.nil).extR e66) e72 (hb67.fresh (ntr (ntr (ntr (ntr e4.next e20.next) e33.next) e39.next) e53.next))) e93 Inn.nil).extR e106) e112 (hb107.fresh (ntr (ntr (ntr (ntr (ntr (ntr (ntr e4.next e20.next) e33.next) e39.next) e53.next) e66.next) e72.next) e93.next))) e124 Inn.nil) e139 Inn.nil).extR e152) e158 (hb153.fresh (ntr (ntr (ntr (ntr (ntr (ntr (ntr (ntr (ntr (ntr (ntr e4.next e20.next) e33.next) e39.next) e53.next) e66.next) e72.next) e93.next) e106.next) e112.next) e124.next) e139.next))) e167 Inn.nil) e233 Inn.nil) e324 Inn.nil).extR e337) e343 (hb338.fresh (ntr (ntr (ntr (ntr (ntr (ntr (ntr (ntr (ntr (ntr (ntr (ntr (ntr (ntr (ntr (ntr e4.next e20.next) e33.next) e39.next) e53.next) e66.next) e72.next) e93.next) e106.next) e112.next) e124.next) e139.next) e152.next) e158.next) e167.next) e233.next) e324.next))) e357 Inn.nil).extR e370) e376 (hb371.fresh (ntr (ntr (ntr (ntr (ntr (ntr (ntr (ntr (ntr (ntr (ntr (ntr (ntr (ntr (ntr (ntr (ntr (ntr (ntr e4.next e20.next) e33.next) e39.next) e53.next) e66.next) e72.next) e93.next) e106.next) e112.next) e124.next) e139.next) e152.next) e158.next) e167.next) e233.next) e324.next) e337.next) e343.next) e357.next))) e389 Inn.nil).extR e402) e408 (hb403.fresh (ntr (ntr (ntr (ntr (ntr (ntr (ntr (ntr (ntr (ntr (ntr (ntr (ntr (ntr (ntr (ntr (ntr (ntr (ntr (ntr (ntr (ntr e4.next e20.next) e33.next) e39.next) e53.next) e66.next) e72.next) e93.next) e106.next) e112.next) e124.next) e139.next) e152.next) e158.next) e167.next) e233.next) e324.next) e337.next) e343.next) e357.next) e370.next) e376.next) e389.next)))⟩
     ·have r437 := ite_f h412 r383
      refine s_ql (.bool false) (x := aBin Try.prog .eql 27 (.tmp 165) (.const .nilIface) (.iface t413 x414) .nilIface) (by kernel_rfl) (aBin_nil (by kernel_rfl)) ?_
      refine s_qk (.bool false) (by kernel_rfl) ?_
      refine s_no (by kernel_rfl) ?_
      refine s_no (by kernel_rfl) ?_
      refine s_qk (.bool false) (by kernel_rfl) ?_
      refine s_qk (.bool false) (by kernel_rfl) ?_
      refine s_no (by kernel_rfl) ?_
      refine s_no (by kernel_rfl) ?_
      refine s_qk (.bool false) (by kernel_rfl) ?_
      refine s_qk (.bool false) (by kernel_rfl) ?_
      refine s_no (by kernel_rfl) ?_
      refine s_no (by kernel_rfl) ?_
      refine s_no (by kernel_rfl) ?_
      refine s_qk (.bool false) (by kernel_rfl) ?_
      refine s_qk (.bool false) (by kernel_rfl) ?_
      refine s_nil ?_
      refine k411 _ _ ?_
      refine w_ret ?_
      refine b_ret (fn := Try.f3) (vs := [.bool false]) (aRes_tmp (by kernel_rfl) (rfl)) ?_
      obtain rfl := Option.some.inj r437
      exact ⟨rfl, (FrS.step wf ((FrS.step wf (FrS.step wf ((FrS.step wf (FrS.step wf ((FrS.step wf (FrS.step wf (FrS.step wf (FrS.step wf ((FrS.step wf (FrS.step wf (FrS.step wf ((FrS.step wf (FrS.step wf ((FrS.step wf (FrS.step wf ((FrS.step wf ((FrS.refl (W := []) wf).extR e4) e20 Inn.nil).extR e33) e39 (hb34.fresh (ntr e4.next e20.next))) e53 Inn.nil).extR e66) e72 (hb67.fresh (ntr (ntr (ntr (ntr e4.next e20.next) e33.next) e39.next) e53.next))) e93 Inn.nil).extR e106) e112 (hb107.fresh (ntr (ntr (ntr (ntr (ntr (ntr (ntr e4.next e20.next) e33.next) e39.next) e53.next) e66.next) e72.next) e93.next))) e124 Inn.nil) e139 Inn.nil).extR e152) e158 (hb153.fresh (ntr (ntr (ntr (ntr (ntr (ntr (ntr (ntr (ntr (ntr (ntr e4.next e20.next) e33.next) e39.next) e53.next) e66.next) e72.next) e93.next) e106.next) e112.next) e124.next) e139.next))) e167 Inn.nil) e233 Inn.nil) e324 Inn.nil).extR e337) e343 (hb338.fresh (ntr (ntr (ntr (ntr (ntr (ntr (ntr (ntr (ntr (ntr (ntr (ntr (ntr (ntr (ntr (ntr e4.next e20.next) e33.next) e39.next) e53.next) e66.next) e72.next) e93.next) e106.next) e112.next) e124.next) e139.next) e152.next) e158.next) e167.next) e233.next) e324.next))) e357 Inn.nil).extR e370) e376 (hb371.fresh (ntr (ntr (ntr (ntr (ntr (ntr (ntr (ntr (ntr (ntr (ntr (ntr (ntr (ntr (ntr (ntr (ntr (ntr (ntr e4.next e20.next) e33.next) e39.next) e53.next) e66.next) e72.next) e93.next) e106.next) e112.next) e124.next) e139.next) e152.next) e158.next) e167.next) e233.next) e324.next) e337.next) e343.next) e357.next))) e389 Inn.nil).extR e402) e408 (hb403.fresh (ntr (ntr (ntr (ntr (ntr (ntr (ntr (ntr (ntr (ntr (ntr (ntr (ntr (ntr (ntr (ntr (ntr (ntr (ntr (ntr (ntr (ntr e4.next e20.next) e33.next) e39.next) e53.next) e66.next) e72.next) e93.next) e106.next) e112.next) e124.next) e139.next) e152.next) e158.next) e167.next) e233.next) e324.next) e337.next) e343.next) e357.next) e370.next) e376.next) e389.next)))⟩
 ·have r438 := ite_f h77 r47
  refine s_ql (.bool true) (x := aBin Try.prog .neq 27 (.tmp 30) (.const .nilIface) (.iface t78 x79) .nilIface) (by kernel_rfl) (aBin_nnil (by kernel_rfl)) ?_
  refine s_nil ?_
  refine k76 _ _ ?_
  refine w_cond true (by kernel_rfl) rfl (fun _ => ?_) (fun h => by cases h)
  refine w_seqk fun K439 k439 => ?_
  obtain ⟨o440, hx441, r442⟩ := bind_some r438
  refine w_mid (fun α H443 => Has α [(2, .bool o440)] ∧ H70 = H443) (fun K445 k445 => ?_) (fun α H443 hM => ?_)
  ·refine w_reg (by kernel_rfl) ?_
   refine s_qk (v50) (by kernel_rfl) ?_
   have u450 := ((m55.ext e66).fr e72 (hb67.djn m55.lt))
   rcases (u450).cases with ⟨h447, rfl⟩ | ⟨h447, t448, x449, rfl⟩
   ·have r451 := ite_t h447 hx441
    refine s_qk (.bool false) (by kernel_rfl) ?_
    refine s_qk (.bool false) (by kernel_rfl) ?_
    refine s_no (by kernel_rfl) ?_
    refine s_no (by kernel_rfl) ?_
    refine s_no (by kernel_rfl) ?_
    refine s_qk (.bool false) (by kernel_rfl) ?_
    refine s_qk (.bool false) (by kernel_rfl) ?_
    refine s_no (by kernel_rfl) ?_
    refine s_no (by kernel_rfl) ?_
    refine s_no (by kernel_rfl) ?_
    refine s_no (by kernel_rfl) ?_
    refine s_qk (.bool false) (by kernel_rfl) ?_
    refine s_qk (.bool false) (by kernel_rfl) ?_
    refine s_no (by kernel_rfl) ?_
    refine s_no (by kernel_rfl) ?_
    refine s_no (by kernel_rfl) ?_
    refine s_no (by kernel_rfl) ?_
    refine s_qk (.bool false) (by kernel_rfl) ?_
    refine s_qk (.bool false) (by kernel_rfl) ?_
    refine s_nil ?_
    obtain rfl := Option.some.inj r451
    exact k445 _ _ ⟨⟨by kernel_rfl, trivial⟩, rfl⟩
   ·have r452 := ite_f h447 hx441
    refine s_ql (.bool true) (x := aBin Try.prog .neq 27 (.tmp 32) (.const .nilIface) (.iface t448 x449) .nilIface) (by kernel_rfl) (aBin_nnil (by kernel_rfl)) ?_
    refine s_qk (.bool true) (by kernel_rfl) ?_
    refine s_qk (.pointer (some ⟨b31, 0, none⟩)) (by kernel_rfl) ?_
    have u453 := (((r40.frS e53 Dj.nil_l).ext e66).frS e72 (hb67.djn (r35.ltF.le (ntr e39.next e53.next))))
    refine s_ql (.int .i64 y12.1) (x := aLoad Try.prog 3 (.pointer (some ⟨b31, 0, none⟩)) H70) (by kernel_rfl) (u453.ld (by kernel_rfl)) ?_
    refine s_b (y12.1 = 0) (by kernel_rfl) (fun h454 => ?_) (fun h454 => ?_)
    ·have r455 := ite_t h454 r452
     refine s_qk (.bool true) (by kernel_rfl) ?_
     refine s_qk (.bool true) (by kernel_rfl) ?_
     refine s_qk (.pointer (some ⟨b31, 1, none⟩)) (by kernel_rfl) ?_
     refine s_ql (.slice a28 n29 c30) (x := aLoad Try.prog 22 (.pointer (some ⟨b31, 1, none⟩)) H70) (by kernel_rfl) (u453.ld (by kernel_rfl)) ?_
     have u456 := ((((u41.fr e39 (hb34.djn m21.lt)).fr e53 Dj.nil_l).ext e66).fr e72 (hb67.djn (m21.lt.le (ntr (ntr e33.next e39.next) e53.next))))
     refine s_ql (.int .i64 (y12.2.1.length : Int)) (x := aLen Try.prog 22 (.slice a28 n29 c30) H70) (by kernel_rfl) (u456.sq.lenb (by kernel_rfl)) ?_
     refine s_b ((y12.2.1.length : Int) = 0) (by kernel_rfl) (fun h457 => ?_) (fun h457 => ?_)
     ·have r458 := ite_t h457 r455
      refine s_qk (.bool true) (by kernel_rfl) ?_
      refine s_qk (.bool true) (by kernel_rfl) ?_
      refine s_qk (.pointer (some ⟨b64, 1, none⟩)) (by kernel_rfl) ?_
      refine s_ql (.slice a61 n62 c63) (x := aLoad Try.prog 22 (.pointer (some ⟨b64, 1, none⟩)) H70) (by kernel_rfl) (r73.ld (by kernel_rfl)) ?_
      have u459 := (u74.fr e72 (hb67.djn m54.lt))
      refine s_ql (.int .i64 (y45.2.1.length : Int)) (x := aLen Try.prog 22 (.slice a61 n62 c63) H70) (by kernel_rfl) (u459.sq.lenb (by kernel_rfl)) ?_
      refine s_qk (.bool (decide ((y45.2.1.length : Int) = 0))) (by kernel_rfl) ?_
      refine s_qk (.bool (decide ((y45.2.1.length : Int) = 0))) (by kernel_rfl) ?_
      refine s_qk (.bool (decide ((y45.2.1.length : Int) = 0))) (by kernel_rfl) ?_
      refine s_nil ?_
      obtain rfl := Option.some.inj r458
      exact k445 _ _ ⟨⟨by kernel_rfl, trivial⟩, rfl⟩
     ·have r460 := ite_f h457 r455
      refine s_qk (.bool false) (by kernel_rfl) ?_
      refine s_qk (.bool false) (by kernel_rfl) ?_
      refine s_no (by kernel_rfl) ?_
      refine s_no (by kernel_rfl) ?_
      refine s_no (by kernel_rfl) ?_
      refine s_no (by kernel_rfl) ?_
      refine s_qk (.bool false) (by kernel_rfl) ?_
      refine s_qk (.bool false) (by kernel_rfl) ?_
      refine s_nil ?_
      obtain rfl := Option.some.inj r460
      exact k445 _ _ ⟨⟨by kernel_rfl, trivial⟩, rfl⟩
    ·have r461 := ite_f h454 r452
     refine s_qk (.bool false) (by kernel_rfl) ?_
     refine s_qk (.bool false) (by kernel_rfl) ?_
     refine s_no (by kernel_rfl) ?_
     refine s_no (by kernel_rfl) ?_
     refine s_no (by kernel_rfl) ?_
     refine s_no (by kernel_rfl) ?_
     refine s_qk (.bool false) (by kernel_rfl) ?_
     refine s_qk (.bool false) (by kernel_rfl) ?_
     refine s_no (by kernel_rfl) ?_
     refine s_no (by kernel_rfl) ?_
     refine s_no (by kernel_rfl) ?_
     refine s_no (by kernel_rfl) ?_
     refine s_qk (.bool false) (by kernel_rfl) ?_
     refine s_qk (.bool false) (by kernel_rfl) ?_
     refine s_nil ?_
     obtain rfl := Option.some.inj r461
     exact k445 _ _ ⟨⟨by kernel_rfl, trivial⟩, rfl⟩
  ·obtain ⟨hh446, rfl⟩ := hM
   obtain ⟨β, rfl⟩ := has_ex hh446
   clear hh446
   refine k439 _ _ ?_
   refine w_ret (th_ret ?_)
   refine b_ret (fn := Try.f3) (vs := [.bool o440]) (aRes_tmp (by kernel_rfl) (rfl)) ?_
   obtain rfl := Option.some.inj r442
   exact ⟨rfl, (FrS.step wf ((FrS.step wf (FrS.step wf ((FrS.step wf ((FrS.refl (W := []) wf).extR e4) e20 Inn.nil).extR e33) e39 (hb34.fresh (ntr e4.next e20.next))) e53 Inn.nil).extR e66) e72 (hb67.fresh (ntr (ntr (ntr (ntr e4.next e20.next) e33.next) e39.next) e53.next)))⟩


end Go.Vd
