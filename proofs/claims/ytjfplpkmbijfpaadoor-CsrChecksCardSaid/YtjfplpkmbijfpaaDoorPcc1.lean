/- The walks of the functions (printed by a program of ours). -/
import Derived.Test.YtjfplpkmbijfpaaDoorPcc0
import Derived.Test.YtjfplpkmbijfpaaDoorDrG
import Derived.Test.YtjfplpkmbijfpaaDoorICc
set_option linter.unusedVariables false
set_option linter.unusedSimpArgs false
set_option linter.unusedSectionVars false
/-! (KCc0) -/

set_option maxRecDepth 100000
set_option maxHeartbeats 4000000
set_option linter.unusedVariables false
namespace Go.Vd
open Go.Proofs
attribute [local irreducible] wpSeq wpOrd aWp
set_option linter.unusedSimpArgs false
theorem e_pure {α : Type} (P : Program) (a : α) : pr P (pure a : Sem α) = some a := rfl
theorem e_prog {P : Program} : pr P (program : Sem Program) = some P := rfl
theorem e_und {P : Program} {t : TypeId} {d : TypeDesc} (h : P.underlying t = some d) : pr P (underlying t) = some d := by
 simp only [underlying, pr_bind]
 show ((pr P (program : Sem Program)).bind _) = _
 simp [show pr P (program : Sem Program) = some P from rfl, h]
 rfl
theorem e_int {P : Program} (d : Nat) (t : TypeId) (k : IntKind) (h : P.underlying t = some (.int k)) (a c : Int) : pr P (Op.equalIn (d+1) t (.int k a) (.int k c)) = some (a == c) := by
 simp only [Op.equalIn, pr_bind, e_und h]
 simp [e_pure]
theorem e_bool {P : Program} (d : Nat) (t : TypeId) (h : P.underlying t = some .bool) (a c : Bool) : pr P (Op.equalIn (d+1) t (.bool a) (.bool c)) = some (a == c) := by
 simp only [Op.equalIn, pr_bind, e_und h]
 simp [e_pure]

theorem e51_p0 (a0 : Int) (a1 : Int) (a2 : Int) : pr Tryd.prog (part 3 #[.int .i64 a0, .int .i64 a1, .int .i64 a2] 0) = some (.int .i64 a0) := by kernel_rfl
theorem e51_q0 (a c : Int) : pr Tryd.prog (Op.equalIn 9999 3 (.int .i64 a) (.int .i64 c)) = some (a == c) := e_int 9998 3 .i64 Go.Proofs.Tryd.underlying3 a c
theorem e51_p1 (a0 : Int) (a1 : Int) (a2 : Int) : pr Tryd.prog (part 3 #[.int .i64 a0, .int .i64 a1, .int .i64 a2] 1) = some (.int .i64 a1) := by kernel_rfl
theorem e51_q1 (a c : Int) : pr Tryd.prog (Op.equalIn 9999 3 (.int .i64 a) (.int .i64 c)) = some (a == c) := e_int 9998 3 .i64 Go.Proofs.Tryd.underlying3 a c
theorem e51_p2 (a0 : Int) (a1 : Int) (a2 : Int) : pr Tryd.prog (part 3 #[.int .i64 a0, .int .i64 a1, .int .i64 a2] 2) = some (.int .i64 a2) := by kernel_rfl
theorem e51_q2 (a c : Int) : pr Tryd.prog (Op.equalIn 9999 3 (.int .i64 a) (.int .i64 c)) = some (a == c) := e_int 9998 3 .i64 Go.Proofs.Tryd.underlying3 a c
theorem e51_stood : Tryd.prog.stoodInHeld 51 = false := by kernel_rfl
theorem e51_eq (a0 : Int) (a1 : Int) (a2 : Int) (c0 : Int) (c1 : Int) (c2 : Int) : pr Tryd.prog (Op.equalIn Op.maxDepth 51 (.agg #[.int .i64 a0, .int .i64 a1, .int .i64 a2]) (.agg #[.int .i64 c0, .int .i64 c1, .int .i64 c2])) = some (a0 == c0 && a1 == c1 && a2 == c2) := by
 rw [show Op.maxDepth = 9998 + 1 + 1 from rfl, Op.equalIn]
 rw [pr_bind, e_und Go.Proofs.Tryd.underlying51]
 simp only [Option.bind_some, pr_bind, e_prog, e51_stood, Bool.false_eq_true, if_false]
 simp [pr_bind, e51_p0, e51_p1, e51_p2, e51_q0, e51_q1, e51_q2]
 by_cases h0 : a0 = c0
 ·subst h0
  by_cases h1 : a1 = c1
  ·subst h1
   by_cases h2 : a2 = c2
   ·subst h2
    simp [e_pure, pr_bind, e51_p0, e51_p1, e51_p2, e51_q0, e51_q1, e51_q2]
   ·simp [e_pure, pr_bind, e51_p0, e51_p1, e51_p2, e51_q0, e51_q1, e51_q2, h2]
  ·simp [e_pure, pr_bind, e51_p0, e51_p1, e51_p2, e51_q0, e51_q1, e51_q2, h1]
 ·simp [e_pure, pr_bind, e51_p0, e51_p1, e51_p2, e51_q0, e51_q1, e51_q2, h0]
theorem e51_gneq (x y : Operand) (a0 : Int) (a1 : Int) (a2 : Int) (c0 : Int) (c1 : Int) (c2 : Int) : pr Tryd.prog (eqGuard .neq 51 x y (.agg #[.int .i64 a0, .int .i64 a1, .int .i64 a2]) (.agg #[.int .i64 c0, .int .i64 c1, .int .i64 c2])) = some () := by kernel_rfl
theorem aBin_neq51 (x y : Operand) (a0 : Int) (a1 : Int) (a2 : Int) (c0 : Int) (c1 : Int) (c2 : Int) : aBin Tryd.prog .neq 51 x y (.agg #[.int .i64 a0, .int .i64 a1, .int .i64 a2]) (.agg #[.int .i64 c0, .int .i64 c1, .int .i64 c2]) = some (.bool (!decide (a0 = c0 ∧ a1 = c1 ∧ a2 = c2))) := by
 unfold aBin
 rw [if_pos (show (plain (.agg #[.int .i64 a0, .int .i64 a1, .int .i64 a2]) && plain (.agg #[.int .i64 c0, .int .i64 c1, .int .i64 c2])) = true from rfl), pr_bind, e51_gneq]
 have : pr Tryd.prog (binOp .neq 51 (.agg #[.int .i64 a0, .int .i64 a1, .int .i64 a2]) (.agg #[.int .i64 c0, .int .i64 c1, .int .i64 c2])) = some (.bool (!decide (a0 = c0 ∧ a1 = c1 ∧ a2 = c2))) := by
  simp only [binOp, Op.equal, pr_bind, e51_eq]
  by_cases g0 : a0 = c0 <;> by_cases g1 : a1 = c1 <;> by_cases g2 : a2 = c2 <;> simp [e_pure, g0, g1, g2]
 simp only [Option.bind_some, this]
 rfl
theorem e51_geql (x y : Operand) (a0 : Int) (a1 : Int) (a2 : Int) (c0 : Int) (c1 : Int) (c2 : Int) : pr Tryd.prog (eqGuard .eql 51 x y (.agg #[.int .i64 a0, .int .i64 a1, .int .i64 a2]) (.agg #[.int .i64 c0, .int .i64 c1, .int .i64 c2])) = some () := by kernel_rfl
theorem aBin_eql51 (x y : Operand) (a0 : Int) (a1 : Int) (a2 : Int) (c0 : Int) (c1 : Int) (c2 : Int) : aBin Tryd.prog .eql 51 x y (.agg #[.int .i64 a0, .int .i64 a1, .int .i64 a2]) (.agg #[.int .i64 c0, .int .i64 c1, .int .i64 c2]) = some (.bool (decide (a0 = c0 ∧ a1 = c1 ∧ a2 = c2))) := by
 unfold aBin
 rw [if_pos (show (plain (.agg #[.int .i64 a0, .int .i64 a1, .int .i64 a2]) && plain (.agg #[.int .i64 c0, .int .i64 c1, .int .i64 c2])) = true from rfl), pr_bind, e51_geql]
 have : pr Tryd.prog (binOp .eql 51 (.agg #[.int .i64 a0, .int .i64 a1, .int .i64 a2]) (.agg #[.int .i64 c0, .int .i64 c1, .int .i64 c2])) = some (.bool (decide (a0 = c0 ∧ a1 = c1 ∧ a2 = c2))) := by
  simp only [binOp, Op.equal, pr_bind, e51_eq]
  by_cases g0 : a0 = c0 <;> by_cases g1 : a1 = c1 <;> by_cases g2 : a2 = c2 <;> simp [e_pure, g0, g1, g2]
 simp only [Option.bind_some, this]
 rfl
theorem e89_p0 (a0 : Int) (a1 : Int) : pr Tryd.prog (part 55 #[.int .i64 a0, .int .i64 a1] 0) = some (.int .i64 a0) := by kernel_rfl
theorem e89_q0 (a c : Int) : pr Tryd.prog (Op.equalIn 9999 55 (.int .i64 a) (.int .i64 c)) = some (a == c) := e_int 9998 55 .i64 Go.Proofs.Tryd.underlying55 a c
theorem e89_p1 (a0 : Int) (a1 : Int) : pr Tryd.prog (part 3 #[.int .i64 a0, .int .i64 a1] 1) = some (.int .i64 a1) := by kernel_rfl
theorem e89_q1 (a c : Int) : pr Tryd.prog (Op.equalIn 9999 3 (.int .i64 a) (.int .i64 c)) = some (a == c) := e_int 9998 3 .i64 Go.Proofs.Tryd.underlying3 a c
theorem e89_stood : Tryd.prog.stoodInHeld 89 = false := by kernel_rfl
theorem e89_eq (a0 : Int) (a1 : Int) (c0 : Int) (c1 : Int) : pr Tryd.prog (Op.equalIn Op.maxDepth 89 (.agg #[.int .i64 a0, .int .i64 a1]) (.agg #[.int .i64 c0, .int .i64 c1])) = some (a0 == c0 && a1 == c1) := by
 rw [show Op.maxDepth = 9998 + 1 + 1 from rfl, Op.equalIn]
 rw [pr_bind, e_und Go.Proofs.Tryd.underlying89]
 simp only [Option.bind_some, pr_bind, e_prog, e89_stood, Bool.false_eq_true, if_false]
 simp [pr_bind, e89_p0, e89_p1, e89_q0, e89_q1]
 by_cases h0 : a0 = c0
 ·subst h0
  by_cases h1 : a1 = c1
  ·subst h1
   simp [e_pure, pr_bind, e89_p0, e89_p1, e89_q0, e89_q1]
  ·simp [e_pure, pr_bind, e89_p0, e89_p1, e89_q0, e89_q1, h1]
 ·simp [e_pure, pr_bind, e89_p0, e89_p1, e89_q0, e89_q1, h0]
theorem e89_gneq (x y : Operand) (a0 : Int) (a1 : Int) (c0 : Int) (c1 : Int) : pr Tryd.prog (eqGuard .neq 89 x y (.agg #[.int .i64 a0, .int .i64 a1]) (.agg #[.int .i64 c0, .int .i64 c1])) = some () := by kernel_rfl
theorem aBin_neq89 (x y : Operand) (a0 : Int) (a1 : Int) (c0 : Int) (c1 : Int) : aBin Tryd.prog .neq 89 x y (.agg #[.int .i64 a0, .int .i64 a1]) (.agg #[.int .i64 c0, .int .i64 c1]) = some (.bool (!decide (a0 = c0 ∧ a1 = c1))) := by
 unfold aBin
 rw [if_pos (show (plain (.agg #[.int .i64 a0, .int .i64 a1]) && plain (.agg #[.int .i64 c0, .int .i64 c1])) = true from rfl), pr_bind, e89_gneq]
 have : pr Tryd.prog (binOp .neq 89 (.agg #[.int .i64 a0, .int .i64 a1]) (.agg #[.int .i64 c0, .int .i64 c1])) = some (.bool (!decide (a0 = c0 ∧ a1 = c1))) := by
  simp only [binOp, Op.equal, pr_bind, e89_eq]
  by_cases g0 : a0 = c0 <;> by_cases g1 : a1 = c1 <;> simp [e_pure, g0, g1]
 simp only [Option.bind_some, this]
 rfl
theorem e89_geql (x y : Operand) (a0 : Int) (a1 : Int) (c0 : Int) (c1 : Int) : pr Tryd.prog (eqGuard .eql 89 x y (.agg #[.int .i64 a0, .int .i64 a1]) (.agg #[.int .i64 c0, .int .i64 c1])) = some () := by kernel_rfl
theorem aBin_eql89 (x y : Operand) (a0 : Int) (a1 : Int) (c0 : Int) (c1 : Int) : aBin Tryd.prog .eql 89 x y (.agg #[.int .i64 a0, .int .i64 a1]) (.agg #[.int .i64 c0, .int .i64 c1]) = some (.bool (decide (a0 = c0 ∧ a1 = c1))) := by
 unfold aBin
 rw [if_pos (show (plain (.agg #[.int .i64 a0, .int .i64 a1]) && plain (.agg #[.int .i64 c0, .int .i64 c1])) = true from rfl), pr_bind, e89_geql]
 have : pr Tryd.prog (binOp .eql 89 (.agg #[.int .i64 a0, .int .i64 a1]) (.agg #[.int .i64 c0, .int .i64 c1])) = some (.bool (decide (a0 = c0 ∧ a1 = c1))) := by
  simp only [binOp, Op.equal, pr_bind, e89_eq]
  by_cases g0 : a0 = c0 <;> by_cases g1 : a1 = c1 <;> simp [e_pure, g0, g1]
 simp only [Option.bind_some, this]
 rfl
theorem c_viaductlaw05_awake_ev : evB Tryd.prog 100000 28 #[] = some true := by kernel_rfl
theorem c_viaductlaw05_awake {H : AH} : ACalls Tryd.prog 28 #[] H fun v H' => H = H' ∧ v = .bool true :=
 (acalls_evB mixed c_viaductlaw05_awake_ev rfl H).mono fun _ _ ⟨a, b⟩ => ⟨b.symm, a⟩

theorem c_viaductref02_TwinInts {H : AH} {hd_l : Value} {fp_l : Fp} {l : List (Int)} {r : List (Int)}
  (wf : WF H) (h_l : Sq (encI .i64) 1 H hd_l l fp_l) (hr : z_viaductref02_TwinInts l = some r) :
  ACalls Tryd.prog 87 #[hd_l] H fun v H' => ∃ (s3 : Value) (f4 : Fp), v = s3 ∧ FrS [] H H' ∧ Ow (encI .i64) 1 H' s3 r f4 ∧ Inn [] H f4 := by
 refine acalls_of_body mixed Tryd.func87 rfl (Nat.le_of_ble_eq_true rfl) ?_
 unfold z_viaductref02_TwinInts at hr
 refine w_seqk fun K6 k6 => ?_
 refine w_reg (by kernel_rfl) ?_
 refine s_qk (.slice none 0 0) (by kernel_rfl) ?_
 refine s_nil ?_
 refine k6 _ _ ?_
 refine w_seqk fun K7 k7 => ?_
 refine w_reg (by kernel_rfl) ?_
 refine s_qk (.slice none 0 0) (by kernel_rfl) ?_
 refine s_nil ?_
 refine k7 _ _ ?_
 refine w_seqk fun K8 k8 => ?_
 refine w_seqk fun K9 k9 => ?_
 refine w_reg (by kernel_rfl) ?_
 refine s_qk (hd_l) (by kernel_rfl) ?_
 refine s_ql (.int .i64 (l.length : Int)) (x := aLen Tryd.prog 42 hd_l H) (by kernel_rfl) (h_l.lenb (by kernel_rfl)) ?_
 refine s_qk (.int .i64 0) (by kernel_rfl) ?_
 refine s_nil ?_
 refine k9 _ _ ?_
 obtain ⟨o10, hx11, r12⟩ := bind_some hr
 refine w_mid (fun α H13 => ∃ (s17 : Value) (f18 : Fp), Has α [(3, s17)] ∧ FrS [] H H13 ∧ Ow (encI .i64) 1 H13 s17 o10 f18 ∧ Inn [] H f18) (fun K20 k20 => ?_) (fun α H13 hM => ?_)
 ·refine w_block ?_
  obtain ⟨n22, hn23⟩ := loopO_iff.1 hx11
  refine w_loopn (fun n α H24 => ∃ (m0 : List (Int)), ∃ (i1 : Int), ∃ (s28 : Value), ∃ (f29 : Fp), iterO (fun zz_ => z_viaductref02_TwinInts_l0 l zz_.1 zz_.2) n (m0, i1) = some o10 ∧ Has α [(3, s28), (6, hd_l), (7, .int .i64 (l.length : Int)), (8, .int .i64 i1)] ∧ FrS [] H H24 ∧ Ow (encI .i64) 1 H24 s28 m0 f29 ∧ Inn [] H f29) n22 ⟨[], 0, (.slice none 0 0), [], hn23, ⟨by kernel_rfl, by kernel_rfl, by kernel_rfl, by kernel_rfl, trivial⟩, (FrS.refl (W := []) wf), (Ow.nil (by decide)), Inn.nil⟩ ?_
  rintro n22 α H24 ⟨m0, i1, s28, f29, hi32, hh31, e25, m27, i30⟩ K37 k37
  obtain ⟨n33, z34, rfl, hz35, hn36⟩ := iter_succ hi32
  obtain ⟨β, rfl⟩ := has_ex hh31
  clear hh31
  replace hz35 : z_viaductref02_TwinInts_l0 l m0 i1 = some z34 := hz35
  unfold z_viaductref02_TwinInts_l0 at hz35
  obtain ⟨a38, n39, c40, rfl⟩ := m27.form
  refine w_seqk fun K41 k41 => ?_
  refine w_reg (by kernel_rfl) ?_
  refine s_qk (.bool (decide (i1 < (l.length : Int)))) (by kernel_rfl) ?_
  refine s_nil ?_
  refine k41 _ _ ?_
  refine w_seqk fun K42 k42 => ?_
  refine w_condp (i1 < (l.length : Int)) (by kernel_rfl) rfl (fun h43 => ?_) (fun h43 => ?_)
  ·have r44 := ite_t h43 hz35
   refine w_skip ?_
   refine k42 _ _ ?_
   refine w_seqk fun K45 k45 => ?_
   refine w_block ?_
   refine w_seqk fun K46 k46 => ?_
   refine w_reg (by kernel_rfl) ?_
   obtain ⟨g47, r48⟩ := G_some r44
   have u49 := (h_l.fr e25 Dj.nil_l)
   refine s_ql (elp hd_l 1 i1.toNat 0) (x := aIndexAddr Tryd.prog 42 hd_l (.int .i64 i1)) (by kernel_rfl) (u49.idxb (by kernel_rfl) g47 h43) ?_
   refine s_ql (.int .i64 (gt l i1)) (x := aLoad Tryd.prog 3 (elp hd_l 1 i1.toNat 0) H24) (by kernel_rfl) (u49.ld g47 h43 (by kernel_rfl)) ?_
   refine s_qk (.int .i64 (gt l i1)) (by kernel_rfl) ?_
   refine s_nil ?_
   refine k46 _ _ ?_
   refine w_reg (by kernel_rfl) ?_
   refine s_qk (.slice a38 n39 c40) (by kernel_rfl) ?_
   refine s_qk (.int .i64 (gt l i1)) (by kernel_rfl) ?_
   refine s_owk (enc := (encI .i64)) (sz := 1) e25.wf [(gt l i1)] 1 (by decide) (fun _ _ => rfl) (fun _ _ => rfl) rfl (by kernel_rfl) fun s50 f51 H52 e53 hf54 hm55 => ?_
   obtain ⟨a56, n57, c58, rfl⟩ := hm55.form
   have u60 := (m27.ext e53)
   obtain ⟨g61, r62⟩ := G_some r48
   obtain ⟨s63, H64, f65, q69, e66, hm67, hf68⟩ := Ow.append (P := Tryd.prog) 8 e53.wf u60 hm55.sq (fun _ _ => rfl) (at_ := #[42, 42]) rfl rfl (by kernel_rfl) (by kernel_rfl) (by decide) (by have := g61; first | omega | (simp only [List.length_cons, List.length_nil] at this ⊢; omega) | (simp at this ⊢; omega))
   obtain ⟨a70, n71, c72, rfl⟩ := hm67.form
   refine s_ek (.slice a70 n71 c72) (by kernel_rfl) (q69) ?_
   refine s_qk (.slice a70 n71 c72) (by kernel_rfl) ?_
   refine s_nil ?_
   refine k45 _ _ ?_
   refine w_reg (by kernel_rfl) ?_
   obtain ⟨g74, r75⟩ := G_some r62
   refine s_w ((i1 + 1)) (k := .i64) (x := (i1 + 1)) (by kernel_rfl) (wrap64 (by have := g74; omega)) ?_
   refine s_qk (.int .i64 (i1 + 1)) (by kernel_rfl) ?_
   refine s_nil ?_
   obtain rfl := Option.some.inj r75
   exact k37 n33 _ _ (Nat.lt_succ_self _) ⟨(m0 ++ [(gt l i1)]), (i1 + 1), (.slice a70 n71 c72), f65, hn36, ⟨by kernel_rfl, by kernel_rfl, by kernel_rfl, by kernel_rfl, trivial⟩, (FrS.step wf ((FrS.step wf (FrS.refl (W := []) wf) e25 Inn.nil).extR e53) e66 (i30.fresh (Nat.le_refl _))), hm67, (Inn.trans (i30.fresh (Nat.le_refl _)) (ntr e25.next e53.next) hf68)⟩
  ·have r76 := ite_f h43 hz35
   refine w_exit (th_exit (th_exit (bl_eq ?_)))
   obtain rfl := Option.some.inj r76
   obtain rfl := it_inr hn36
   exact k20 _ _ ⟨(.slice a38 n39 c40), f29, ⟨by kernel_rfl, trivial⟩, (FrS.step wf (FrS.refl (W := []) wf) e25 Inn.nil), m27, (i30.fresh (Nat.le_refl _))⟩
 ·obtain ⟨s17, f18, hh21, e14, m16, i19⟩ := hM
  obtain ⟨β, rfl⟩ := has_ex hh21
  clear hh21
  obtain ⟨a77, n78, c79, rfl⟩ := m16.form
  refine k8 _ _ ?_
  refine w_seqk fun K80 k80 => ?_
  refine w_reg (by kernel_rfl) ?_
  refine s_qk (.slice a77 n78 c79) (by kernel_rfl) ?_
  refine s_qk (.slice a77 n78 c79) (by kernel_rfl) ?_
  refine s_nil ?_
  refine k80 _ _ ?_
  refine w_ret ?_
  refine b_ret (fn := Tryd.f87) (vs := [.slice a77 n78 c79]) (aRes_tmp (by kernel_rfl) (rfl)) ?_
  obtain rfl := Option.some.inj r12
  exact ⟨(.slice a77 n78 c79), f18, rfl, (FrS.step wf (FrS.refl (W := []) wf) e14 Inn.nil), m16, (i19.fresh (Nat.le_refl _))⟩

theorem c_viaductref05_Twin {H : AH} {hd_First : Value} {fp_First : Fp} {hd_To : Value} {fp_To : Fp} {hd_Weight : Value} {fp_Weight : Fp} {First : List (Int)} {To : List (Int)} {Weight : List (Int)} {r : List (Int) × List (Int) × List (Int)}
  (wf : WF H) (h_First : Sq (encI .i64) 1 H hd_First First fp_First) (h_To : Sq (encI .i64) 1 H hd_To To fp_To) (h_Weight : Sq (encI .i64) 1 H hd_Weight Weight fp_Weight) (hr : z_viaductref05_Twin First To Weight = some r) :
  ACalls Tryd.prog 65 #[.agg #[hd_First, hd_To, hd_Weight]] H fun v H' => ∃ (s3 : Value) (f4 : Fp) (s7 : Value) (f8 : Fp) (s11 : Value) (f12 : Fp), v = .agg #[s3, s7, s11] ∧ FrS [] H H' ∧ Ow (encI .i64) 1 H' s3 r.1 f4 ∧ Ow (encI .i64) 1 H' s7 r.2.1 f8 ∧ Ow (encI .i64) 1 H' s11 r.2.2 f12 ∧ Inn [] H f4 ∧ Inn [] H f8 ∧ Inn [] H f12 ∧ Dj f4 f8 ∧ Dj f4 f12 ∧ Dj f8 f12 := by
 refine acalls_of_body mixed Tryd.func65 rfl (Nat.le_of_ble_eq_true rfl) ?_
 unfold z_viaductref05_Twin at hr
 refine w_seqk fun K19 k19 => ?_
 refine w_reg (by kernel_rfl) ?_
 refine s_rwl wf [hd_First, hd_To, hd_Weight] (one_cons (h_First.one1) (one_cons (h_To.one1) (one_cons (h_Weight.one1) (one_nil)))) (by kernel_rfl) fun b20 H21 e22 hb23 r24 => ?_
 refine s_rwk e22.wf [.slice none 0 0, .slice none 0 0, .slice none 0 0] (by kernel_rfl) fun b26 H27 e28 hb29 r30 => ?_
 refine s_nil ?_
 refine k19 _ _ ?_
 refine w_seqk fun K32 k32 => ?_
 refine w_draw [0, 1, 3, 4, 6, 7, 2, 5, 8, 9, 10] (by kernel_rfl) ?_
 refine d_qk (.pointer (some ⟨b20, 0, none⟩)) (by kernel_rfl) ?_
 have u33 := (r24.ext e28)
 refine d_ql (hd_First) (x := aLoad Tryd.prog 42 (.pointer (some ⟨b20, 0, none⟩)) H27) (by kernel_rfl) (u33.ld (by kernel_rfl)) ?_
 refine d_qk (.pointer (some ⟨b20, 1, none⟩)) (by kernel_rfl) ?_
 refine d_fl (hd_To) (x := aLoad Tryd.prog 42 (.pointer (some ⟨b20, 1, none⟩)) H27) (by kernel_rfl) (u33.ld (by kernel_rfl)) ?_
 refine d_qk (.pointer (some ⟨b20, 2, none⟩)) (by kernel_rfl) ?_
 refine d_fl (hd_Weight) (x := aLoad Tryd.prog 42 (.pointer (some ⟨b20, 2, none⟩)) H27) (by kernel_rfl) (u33.ld (by kernel_rfl)) ?_
 have u34 := ((h_First.ext e22).ext e28)
 obtain ⟨y35, hy36, r37⟩ := bind_some hr
 refine d_ck 87 #[hd_First] (by kernel_rfl) (c_viaductref02_TwinInts e28.wf u34 hy36) ?_
 rintro s38 H40 ⟨_, f39, rfl, e41, m42, i43⟩
 obtain ⟨a45, n46, c47, rfl⟩ := m42.form
 have u48 := (u33.frS e41 Dj.nil_l)
 refine ⟨st_ql (y := aLoad Tryd.prog 42 (.pointer (some ⟨b20, 2, none⟩)) H40) (by kernel_rfl) (u48.ld (by kernel_rfl)) (st_ql (y := aLoad Tryd.prog 42 (.pointer (some ⟨b20, 1, none⟩)) H40) (by kernel_rfl) (u48.ld (by kernel_rfl)) (st_nil)), ?_⟩
 have u49 := (((h_To.ext e22).ext e28).fr e41 Dj.nil_l)
 obtain ⟨y50, hy51, r52⟩ := bind_some r37
 refine d_ck 87 #[hd_To] (by kernel_rfl) (c_viaductref02_TwinInts e41.wf u49 hy51) ?_
 rintro s53 H55 ⟨_, f54, rfl, e56, m57, i58⟩
 obtain ⟨a60, n61, c62, rfl⟩ := m57.form
 have u63 := (u48.frS e56 Dj.nil_l)
 refine ⟨st_ql (y := aLoad Tryd.prog 42 (.pointer (some ⟨b20, 2, none⟩)) H55) (by kernel_rfl) (u63.ld (by kernel_rfl)) (st_anc (by kernel_rfl) (st_nil)), ?_⟩
 have u64 := ((((h_Weight.ext e22).ext e28).fr e41 Dj.nil_l).fr e56 Dj.nil_l)
 obtain ⟨y65, hy66, r67⟩ := bind_some r52
 refine d_ck 87 #[hd_Weight] (by kernel_rfl) (c_viaductref02_TwinInts e56.wf u64 hy66) ?_
 rintro s68 H70 ⟨_, f69, rfl, e71, m72, i73⟩
 obtain ⟨a75, n76, c77, rfl⟩ := m72.form
 refine ⟨st_anc (by kernel_rfl) (st_anc (by kernel_rfl) (st_nil)), ?_⟩
 refine d_qk (.agg #[.slice a45 n46 c47, .slice a60 n61 c62, .slice a75 n76 c77]) (by kernel_rfl) ?_
 have u82 := (((r30.frS e41 Dj.nil_l).frS e56 Dj.nil_l).frS e71 Dj.nil_l)
 have u83 := (m57.fr e71 Dj.nil_l)
 have u84 := ((m42.fr e56 Dj.nil_l).fr e71 Dj.nil_l)
 obtain ⟨H78, q79, e80, r81⟩ := Row.store (P := Tryd.prog) (t := 57) (p := 0) e71.wf u82 (.agg #[.slice a45 n46 c47, .slice a60 n61 c62, .slice a75 n76 c77]) [.slice a45 n46 c47, .slice a60 n61 c62, .slice a75 n76 c77] (by kernel_rfl) (by kernel_rfl) (one_cons (u84.one1) (one_cons (u83.one1) (one_cons (m72.one1) (one_nil)))) (Nat.le_of_ble_eq_true (by kernel_rfl)) [.slice a45 n46 c47, .slice a60 n61 c62, .slice a75 n76 c77] (by kernel_rfl)
 refine d_ek (undef) (by kernel_rfl) (map_ok q79) (st_anc (by kernel_rfl) (st_anc (by kernel_rfl) (st_nil))) ?_
 refine d_nil ?_
 refine k32 _ _ ?_
 refine w_ret ?_
 refine b_ret (fn := Tryd.f65) (vs := [.agg #[.slice a45 n46 c47, .slice a60 n61 c62, .slice a75 n76 c77]]) (aRes_cell (Eq.trans (b := aLoad Tryd.prog 57 (.pointer (some ⟨b26, 0, none⟩)) H78) (by kernel_rfl) (r81.ld (by kernel_rfl))) (rfl)) ?_
 have u85 := (u84.fr e80 (Dj.symm (i43.djn r30.ltF)))
 have u86 := (u83.fr e80 (Dj.symm (i58.djn (r30.ltF.le e41.next))))
 have u87 := (m72.fr e80 (Dj.symm (i73.djn (r30.ltF.le (ntr e41.next e56.next)))))
 obtain rfl := Option.some.inj r67
 exact ⟨(.slice a45 n46 c47), f39, (.slice a60 n61 c62), f54, (.slice a75 n76 c77), f69, rfl, (FrS.step wf (FrS.step wf (FrS.step wf (FrS.step wf (((FrS.refl (W := []) wf).extR e22).extR e28) e41 Inn.nil) e56 Inn.nil) e71 Inn.nil) e80 (hb29.fresh e22.next)), u85, u86, u87, (i43.fresh (ntr e22.next e28.next)), (i58.fresh (ntr (ntr e22.next e28.next) e41.next)), (i73.fresh (ntr (ntr (ntr e22.next e28.next) e41.next) e56.next)), (Dj.symm (i58.djn m42.lt)), (Dj.symm (i73.djn (m42.lt.le e56.next))), (Dj.symm (i73.djn m57.lt))⟩

theorem c_viaductlaw05_to {H : AH} {hd_First : Value} {fp_First : Fp} {hd_To : Value} {fp_To : Fp} {hd_Weight : Value} {fp_Weight : Fp} {First : List (Int)} {To : List (Int)} {Weight : List (Int)} {r : List (Int) × List (Int) × List (Int)}
  (wf : WF H) (h_First : Sq (encI .i64) 1 H hd_First First fp_First) (h_To : Sq (encI .i64) 1 H hd_To To fp_To) (h_Weight : Sq (encI .i64) 1 H hd_Weight Weight fp_Weight) (hr : z_viaductlaw05_to First To Weight = some r) :
  ACalls Tryd.prog 30 #[.agg #[hd_First, hd_To, hd_Weight]] H fun v H' => ∃ (s3 : Value) (f4 : Fp) (s7 : Value) (f8 : Fp) (s11 : Value) (f12 : Fp), v = .agg #[s3, s7, s11] ∧ FrS [] H H' ∧ Ow (encI .i64) 1 H' s3 r.1 f4 ∧ Ow (encI .i64) 1 H' s7 r.2.1 f8 ∧ Ow (encI .i64) 1 H' s11 r.2.2 f12 ∧ Inn [] H f4 ∧ Inn [] H f8 ∧ Inn [] H f12 ∧ Dj f4 f8 ∧ Dj f4 f12 ∧ Dj f8 f12 := by
 refine acalls_of_body mixed Tryd.func30 rfl (Nat.le_of_ble_eq_true rfl) ?_
 unfold z_viaductlaw05_to at hr
 refine w_seqk fun K19 k19 => ?_
 refine w_reg (by kernel_rfl) ?_
 refine s_rwl wf [hd_First, hd_To, hd_Weight] (one_cons (h_First.one1) (one_cons (h_To.one1) (one_cons (h_Weight.one1) (one_nil)))) (by kernel_rfl) fun b20 H21 e22 hb23 r24 => ?_
 refine s_rwk e22.wf [.slice none 0 0, .slice none 0 0, .slice none 0 0] (by kernel_rfl) fun b26 H27 e28 hb29 r30 => ?_
 refine s_nil ?_
 refine k19 _ _ ?_
 refine w_seqk fun K32 k32 => ?_
 refine w_reg (by kernel_rfl) ?_
 have u33 := (r24.ext e28)
 refine s_ql (.agg #[hd_First, hd_To, hd_Weight]) (x := aLoad Tryd.prog 57 (.pointer (some ⟨b20, 0, none⟩)) H27) (by kernel_rfl) (u33.ld (by kernel_rfl)) ?_
 have u34 := ((h_First.ext e22).ext e28)
 have u35 := ((h_To.ext e22).ext e28)
 have u36 := ((h_Weight.ext e22).ext e28)
 obtain ⟨y37, hy38, r39⟩ := bind_some hr
 refine s_ck 65 #[.agg #[hd_First, hd_To, hd_Weight]] (by kernel_rfl) (c_viaductref05_Twin e28.wf u34 u35 u36 hy38) ?_
 rintro _ H46 ⟨s40, f41, s42, f43, s44, f45, rfl, e47, m48, m49, m50, i51, i52, i53, d54, d55, d56⟩
 obtain ⟨a60, n61, c62, rfl⟩ := m48.form
 obtain ⟨a63, n64, c65, rfl⟩ := m49.form
 obtain ⟨a66, n67, c68, rfl⟩ := m50.form
 refine s_rwk e47.wf [.slice none 0 0, .slice none 0 0, .slice none 0 0] (by kernel_rfl) fun b69 H70 e71 hb72 r73 => ?_
 have u79 := (m50.ext e71)
 have u80 := (m49.ext e71)
 have u81 := (m48.ext e71)
 obtain ⟨H75, q76, e77, r78⟩ := Row.store (P := Tryd.prog) (t := 57) (p := 0) e71.wf r73 (.agg #[.slice a60 n61 c62, .slice a63 n64 c65, .slice a66 n67 c68]) [.slice a60 n61 c62, .slice a63 n64 c65, .slice a66 n67 c68] (by kernel_rfl) (by kernel_rfl) (one_cons (u81.one1) (one_cons (u80.one1) (one_cons (u79.one1) (one_nil)))) (Nat.le_of_ble_eq_true (by kernel_rfl)) [.slice a60 n61 c62, .slice a63 n64 c65, .slice a66 n67 c68] (by kernel_rfl)
 refine s_ek (undef) (by kernel_rfl) (map_ok q76) ?_
 refine s_nil ?_
 refine k32 _ _ ?_
 refine w_seqk fun K82 k82 => ?_
 refine w_reg (by kernel_rfl) ?_
 refine s_qk (.pointer (some ⟨b69, 0, none⟩)) (by kernel_rfl) ?_
 refine s_ql (.slice a60 n61 c62) (x := aLoad Tryd.prog 42 (.pointer (some ⟨b69, 0, none⟩)) H75) (by kernel_rfl) (r78.ld (by kernel_rfl)) ?_
 refine s_qk (.pointer (some ⟨b69, 1, none⟩)) (by kernel_rfl) ?_
 refine s_ql (.slice a63 n64 c65) (x := aLoad Tryd.prog 42 (.pointer (some ⟨b69, 1, none⟩)) H75) (by kernel_rfl) (r78.ld (by kernel_rfl)) ?_
 refine s_qk (.pointer (some ⟨b69, 2, none⟩)) (by kernel_rfl) ?_
 refine s_ql (.slice a66 n67 c68) (x := aLoad Tryd.prog 42 (.pointer (some ⟨b69, 2, none⟩)) H75) (by kernel_rfl) (r78.ld (by kernel_rfl)) ?_
 refine s_qk (.agg #[.slice a60 n61 c62, .slice a63 n64 c65, .slice a66 n67 c68]) (by kernel_rfl) ?_
 have u87 := (((r30.frS e47 Dj.nil_l).ext e71).frS e77 (hb72.djn (r30.ltF.le e47.next)))
 have u88 := (u79.fr e77 (hb72.djn m50.lt))
 have u89 := (u80.fr e77 (hb72.djn m49.lt))
 have u90 := (u81.fr e77 (hb72.djn m48.lt))
 obtain ⟨H83, q84, e85, r86⟩ := Row.store (P := Tryd.prog) (t := 59) (p := 0) e77.wf u87 (.agg #[.slice a60 n61 c62, .slice a63 n64 c65, .slice a66 n67 c68]) [.slice a60 n61 c62, .slice a63 n64 c65, .slice a66 n67 c68] (by kernel_rfl) (by kernel_rfl) (one_cons (u90.one1) (one_cons (u89.one1) (one_cons (u88.one1) (one_nil)))) (Nat.le_of_ble_eq_true (by kernel_rfl)) [.slice a60 n61 c62, .slice a63 n64 c65, .slice a66 n67 c68] (by kernel_rfl)
 refine s_ek (undef) (by kernel_rfl) (map_ok q84) ?_
 refine s_nil ?_
 refine k82 _ _ ?_
 refine w_ret ?_
 refine b_ret (fn := Tryd.f30) (vs := [.agg #[.slice a60 n61 c62, .slice a63 n64 c65, .slice a66 n67 c68]]) (aRes_cell (Eq.trans (b := aLoad Tryd.prog 59 (.pointer (some ⟨b26, 0, none⟩)) H83) (by kernel_rfl) (r86.ld (by kernel_rfl))) (rfl)) ?_
 have u91 := (u90.fr e85 (Dj.symm (i51.djn r30.ltF)))
 have u92 := (u89.fr e85 (Dj.symm (i52.djn r30.ltF)))
 have u93 := (u88.fr e85 (Dj.symm (i53.djn r30.ltF)))
 obtain rfl := Option.some.inj r39
 exact ⟨(.slice a60 n61 c62), f41, (.slice a63 n64 c65), f43, (.slice a66 n67 c68), f45, rfl, (FrS.step wf (FrS.step wf ((FrS.step wf (((FrS.refl (W := []) wf).extR e22).extR e28) e47 Inn.nil).extR e71) e77 (hb72.fresh (ntr (ntr e22.next e28.next) e47.next))) e85 (hb29.fresh e22.next)), u91, u92, u93, (i51.fresh (ntr e22.next e28.next)), (i52.fresh (ntr e22.next e28.next)), (i53.fresh (ntr e22.next e28.next)), d54, d55, d56⟩

theorem c_csr_Csr_nodes {H : AH} {hd_First : Value} {fp_First : Fp} {hd_To : Value} {fp_To : Fp} {hd_Weight : Value} {fp_Weight : Fp} {First : List (Int)} {To : List (Int)} {Weight : List (Int)} {r : Int}
  (wf : WF H) (h_First : Sq (encI .i64) 1 H hd_First First fp_First) (h_To : Sq (encI .i64) 1 H hd_To To fp_To) (h_Weight : Sq (encI .i64) 1 H hd_Weight Weight fp_Weight) (hr : z_csr_Csr_nodes First To Weight = some r) :
  ACalls Tryd.prog 62 #[.agg #[hd_First, hd_To, hd_Weight]] H fun v H' => v = .int .i64 r ∧ FrS [] H H' := by
 refine acalls_of_body mixed Tryd.func62 rfl (Nat.le_of_ble_eq_true rfl) ?_
 unfold z_csr_Csr_nodes at hr
 refine w_seqk fun K1 k1 => ?_
 refine w_reg (by kernel_rfl) ?_
 refine s_rwl wf [hd_First, hd_To, hd_Weight] (one_cons (h_First.one1) (one_cons (h_To.one1) (one_cons (h_Weight.one1) (one_nil)))) (by kernel_rfl) fun b2 H3 e4 hb5 r6 => ?_
 refine s_qk (.int .i64 0) (by kernel_rfl) ?_
 refine s_nil ?_
 refine k1 _ _ ?_
 refine w_seqk fun K8 k8 => ?_
 refine w_reg (by kernel_rfl) ?_
 refine s_qk (.pointer (some ⟨b2, 0, none⟩)) (by kernel_rfl) ?_
 refine s_ql (hd_First) (x := aLoad Tryd.prog 42 (.pointer (some ⟨b2, 0, none⟩)) H3) (by kernel_rfl) (r6.ld (by kernel_rfl)) ?_
 have u9 := (h_First.ext e4)
 refine s_ql (.int .i64 (First.length : Int)) (x := aLen Tryd.prog 42 hd_First H3) (by kernel_rfl) (u9.lenb (by kernel_rfl)) ?_
 obtain ⟨g10, r11⟩ := G_some hr
 refine s_w (((First.length : Int) - 1)) (k := .i64) (x := ((First.length : Int) - 1)) (by kernel_rfl) (wrap64 g10) ?_
 refine s_qk (.int .i64 ((First.length : Int) - 1)) (by kernel_rfl) ?_
 refine s_nil ?_
 refine k8 _ _ ?_
 refine w_ret ?_
 refine b_ret (fn := Tryd.f62) (vs := [.int .i64 ((First.length : Int) - 1)]) (aRes_tmp (by kernel_rfl) (rfl)) ?_
 obtain rfl := Option.some.inj r11
 exact ⟨rfl, ((FrS.refl (W := []) wf).extR e4)⟩

theorem c_fault_At {H : AH} {ev_err : Value} {fp_err : Fp} {kind : Int} {at_ : Int} {err : Er} {r : Er}
  (wf : WF H) (h_err : Ev 53 90 H ev_err err fp_err) (hr : z_fault_At kind at_ err = some r) :
  ACalls Tryd.prog 63 #[.int .i64 kind, .int .i64 at_, ev_err] H fun v H' => ∃ (v3 : Value) (f4 : Fp), v = v3 ∧ FrS [] H H' ∧ Ev 53 90 H' v3 r f4 ∧ Inn fp_err H f4 := by
 refine acalls_of_body mixed Tryd.func63 rfl (Nat.le_of_ble_eq_true rfl) ?_
 unfold z_fault_At at hr
 refine w_seqk fun K6 k6 => ?_
 refine w_reg (by kernel_rfl) ?_
 refine s_qk (.nilIface) (by kernel_rfl) ?_
 refine s_nil ?_
 refine k6 _ _ ?_
 refine w_seqk fun K7 k7 => ?_
 refine w_seqk fun K8 k8 => ?_
 refine w_reg (by kernel_rfl) ?_
 refine s_qk (ev_err) (by kernel_rfl) ?_
 rcases (h_err).cases with ⟨h9, rfl⟩ | ⟨h9, t10, x11, rfl⟩
 ·have r12 := ite_t h9 hr
  refine s_qk (.bool true) (by kernel_rfl) ?_
  refine s_nil ?_
  refine k8 _ _ ?_
  refine w_cond true (by kernel_rfl) rfl (fun _ => ?_) (fun h => by cases h)
  refine w_seqk fun K13 k13 => ?_
  refine w_reg (by kernel_rfl) ?_
  refine s_qk (.nilIface) (by kernel_rfl) ?_
  refine s_nil ?_
  refine k13 _ _ ?_
  refine w_ret (th_ret ?_)
  refine b_ret (fn := Tryd.f63) (vs := [.nilIface]) (aRes_tmp (by kernel_rfl) (rfl)) ?_
  obtain rfl := Option.some.inj r12
  exact ⟨(.nilIface), [], rfl, (FrS.refl (W := []) wf), Ev.nil, Inn.nil⟩
 ·have r14 := ite_f h9 hr
  refine s_ql (.bool false) (x := aBin Tryd.prog .eql 28 (.tmp 7) (.const .nilIface) (.iface t10 x11) .nilIface) (by kernel_rfl) (aBin_nil (by kernel_rfl)) ?_
  refine s_nil ?_
  refine k8 _ _ ?_
  refine w_cond false (by kernel_rfl) rfl (fun h => by cases h) (fun _ => ?_)
  refine w_skip ?_
  refine k7 _ _ ?_
  refine w_seqk fun K15 k15 => ?_
  refine w_reg (by kernel_rfl) ?_
  refine s_qk (.int .i64 kind) (by kernel_rfl) ?_
  refine s_qk (.int .i64 at_) (by kernel_rfl) ?_
  refine s_qk (.agg #[.int .i64 kind, .int .i64 at_]) (by kernel_rfl) ?_
  refine s_qk (.iface t10 x11) (by kernel_rfl) ?_
  refine s_qk (.agg #[.int .i64 kind, .int .i64 at_, .iface t10 x11]) (by kernel_rfl) ?_
  refine s_rwl wf [.int .i64 kind, .int .i64 at_, .iface t10 x11] (one_cons (rfl) (one_cons (rfl) (one_cons (h_err.one1) (one_nil)))) (by kernel_rfl) fun b16 H17 e18 hb19 r20 => ?_
  have u22 := (h_err.ext e18)
  obtain ⟨fq23, he24, hi25⟩ := Ev.at r20 u22 hb19
  refine s_qk (.iface 90 (.pointer (some ⟨b16, 0, none⟩))) (by kernel_rfl) ?_
  refine s_qk (.iface 90 (.pointer (some ⟨b16, 0, none⟩))) (by kernel_rfl) ?_
  refine s_nil ?_
  refine k15 _ _ ?_
  refine w_ret ?_
  refine b_ret (fn := Tryd.f63) (vs := [.iface 90 (.pointer (some ⟨b16, 0, none⟩))]) (aRes_tmp (by kernel_rfl) (rfl)) ?_
  obtain rfl := Option.some.inj r14
  exact ⟨(.iface 90 (.pointer (some ⟨b16, 0, none⟩))), fq23, rfl, ((FrS.refl (W := []) wf).extR e18), he24, (Inn.trans Inn.refl' (Nat.le_refl _) hi25)⟩

theorem c_csr_Csr_arc {H : AH} {hd_First : Value} {fp_First : Fp} {hd_To : Value} {fp_To : Fp} {hd_Weight : Value} {fp_Weight : Fp} {First : List (Int)} {To : List (Int)} {Weight : List (Int)} {v_ : Int} {i : Int} {r : Er}
  (wf : WF H) (h_First : Sq (encI .i64) 1 H hd_First First fp_First) (h_To : Sq (encI .i64) 1 H hd_To To fp_To) (h_Weight : Sq (encI .i64) 1 H hd_Weight Weight fp_Weight) (hr : z_csr_Csr_arc First To Weight v_ i = some r) :
  ACalls Tryd.prog 64 #[.agg #[hd_First, hd_To, hd_Weight], .int .i64 v_, .int .i64 i] H fun v H' => ∃ (v3 : Value) (f4 : Fp), v = v3 ∧ FrS [] H H' ∧ Ev 53 90 H' v3 r f4 ∧ Inn [] H f4 := by
 refine acalls_of_body mixed Tryd.func64 rfl (Nat.le_of_ble_eq_true rfl) ?_
 unfold z_csr_Csr_arc at hr
 refine w_seqk fun K6 k6 => ?_
 refine w_reg (by kernel_rfl) ?_
 refine s_rwl wf [hd_First, hd_To, hd_Weight] (one_cons (h_First.one1) (one_cons (h_To.one1) (one_cons (h_Weight.one1) (one_nil)))) (by kernel_rfl) fun b7 H8 e9 hb10 r11 => ?_
 refine s_qk (.nilIface) (by kernel_rfl) ?_
 refine s_nil ?_
 refine k6 _ _ ?_
 refine w_seqk fun K13 k13 => ?_
 refine w_reg (by kernel_rfl) ?_
 refine s_qk (.pointer (some ⟨b7, 1, none⟩)) (by kernel_rfl) ?_
 refine s_ql (hd_To) (x := aLoad Tryd.prog 42 (.pointer (some ⟨b7, 1, none⟩)) H8) (by kernel_rfl) (r11.ld (by kernel_rfl)) ?_
 refine s_qk (.int .i64 i) (by kernel_rfl) ?_
 obtain ⟨g14, r15⟩ := G_some hr
 have u16 := (h_To.ext e9)
 refine s_ql (elp hd_To 1 i.toNat 0) (x := aIndexAddr Tryd.prog 42 hd_To (.int .i64 i)) (by kernel_rfl) (u16.idxb (by kernel_rfl) g14.1 g14.2) ?_
 refine s_ql (.int .i64 (gt To i)) (x := aLoad Tryd.prog 3 (elp hd_To 1 i.toNat 0) H8) (by kernel_rfl) (u16.ld g14.1 g14.2 (by kernel_rfl)) ?_
 refine s_qk (.int .i64 (gt To i)) (by kernel_rfl) ?_
 refine s_nil ?_
 refine k13 _ _ ?_
 refine w_seqk fun K17 k17 => ?_
 refine w_block ?_
 refine w_seqk fun K18 k18 => ?_
 obtain ⟨o19, hx20, r21⟩ := bind_some r15
 refine w_mid (fun α H22 => Has α [(1, .int .i64 v_), (2, .int .i64 i), (3, .pointer (some ⟨b7, 0, none⟩)), (7, .int .i64 (gt To i)), (13, .bool o19)] ∧ FrS [] H8 H22) (fun K24 k24 => ?_) (fun α H22 hM => ?_)
 ·refine w_reg (by kernel_rfl) ?_
  refine s_qk (.int .i64 (gt To i)) (by kernel_rfl) ?_
  refine s_b ((gt To i) < 0) (by kernel_rfl) (fun h26 => ?_) (fun h26 => ?_)
  ·have r27 := ite_t h26 hx20
   refine s_qk (.bool true) (by kernel_rfl) ?_
   refine s_no (by kernel_rfl) ?_
   refine s_no (by kernel_rfl) ?_
   refine s_no (by kernel_rfl) ?_
   refine s_no (by kernel_rfl) ?_
   refine s_qk (.bool true) (by kernel_rfl) ?_
   refine s_qk (.bool true) (by kernel_rfl) ?_
   refine s_nil ?_
   obtain rfl := Option.some.inj r27
   exact k24 _ _ ⟨⟨by kernel_rfl, by kernel_rfl, by kernel_rfl, by kernel_rfl, by kernel_rfl, trivial⟩, (FrS.refl (W := []) e9.wf)⟩
  ·have r28 := ite_f h26 hx20
   refine s_qk (.bool false) (by kernel_rfl) ?_
   refine s_qk (.int .i64 (gt To i)) (by kernel_rfl) ?_
   refine s_ql (.agg #[hd_First, hd_To, hd_Weight]) (x := aLoad Tryd.prog 59 (.pointer (some ⟨b7, 0, none⟩)) H8) (by kernel_rfl) (r11.ld (by kernel_rfl)) ?_
   have u29 := (h_First.ext e9)
   have u30 := (h_Weight.ext e9)
   obtain ⟨y31, hy32, r33⟩ := bind_some r28
   refine s_ck 62 #[.agg #[hd_First, hd_To, hd_Weight]] (by kernel_rfl) (c_csr_Csr_nodes e9.wf u29 u16 u30 hy32) ?_
   rintro _ H34 ⟨rfl, e35⟩
   refine s_qk (.bool (decide ((gt To i) ≥ y31))) (by kernel_rfl) ?_
   refine s_qk (.bool (decide ((gt To i) ≥ y31))) (by kernel_rfl) ?_
   refine s_qk (.bool (decide ((gt To i) ≥ y31))) (by kernel_rfl) ?_
   refine s_nil ?_
   obtain rfl := Option.some.inj r33
   exact k24 _ _ ⟨⟨by kernel_rfl, by kernel_rfl, by kernel_rfl, by kernel_rfl, by kernel_rfl, trivial⟩, (FrS.step e9.wf (FrS.refl (W := []) e9.wf) e35 Inn.nil)⟩
 ·obtain ⟨hh25, e23⟩ := hM
  obtain ⟨β, rfl⟩ := has_ex hh25
  clear hh25
  refine k18 _ _ ?_
  refine w_cond (o19) (by kernel_rfl) rfl (fun h36 => ?_) (fun h36 => ?_)
  ·have r37 := ite_t h36 r21
   refine w_seqk fun K38 k38 => ?_
   refine w_reg (by kernel_rfl) ?_
   refine s_qk (.iface 53 (.int .i64 7)) (by kernel_rfl) ?_
   refine s_qk (.iface 53 (.int .i64 7)) (by kernel_rfl) ?_
   refine s_nil ?_
   refine k38 _ _ ?_
   refine w_ret (bl_ret (th_ret ?_))
   refine b_ret (fn := Tryd.f64) (vs := [.iface 53 (.int .i64 7)]) (aRes_tmp (by kernel_rfl) (rfl)) ?_
   obtain rfl := Option.some.inj r37
   exact ⟨(.iface 53 (.int .i64 7)), [], rfl, (FrS.step wf ((FrS.refl (W := []) wf).extR e9) e23 Inn.nil), Ev.no, Inn.nil⟩
  ·have r39 := ite_bf h36 r21
   refine w_seqk fun K40 k40 => ?_
   obtain ⟨o41, hx42, r43⟩ := bind_some r39
   refine w_mid (fun α H44 => Has α [(2, .int .i64 i), (3, .pointer (some ⟨b7, 0, none⟩)), (23, .bool o41)] ∧ H22 = H44) (fun K46 k46 => ?_) (fun α H44 hM => ?_)
   ·refine w_reg (by kernel_rfl) ?_
    refine s_qk (.int .i64 (gt To i)) (by kernel_rfl) ?_
    refine s_qk (.int .i64 v_) (by kernel_rfl) ?_
    refine s_b ((gt To i) = v_) (by kernel_rfl) (fun h48 => ?_) (fun h48 => ?_)
    ·have r49 := ite_t h48 hx42
     refine s_qk (.bool true) (by kernel_rfl) ?_
     refine s_no (by kernel_rfl) ?_
     refine s_no (by kernel_rfl) ?_
     refine s_no (by kernel_rfl) ?_
     refine s_no (by kernel_rfl) ?_
     refine s_no (by kernel_rfl) ?_
     refine s_no (by kernel_rfl) ?_
     refine s_no (by kernel_rfl) ?_
     refine s_no (by kernel_rfl) ?_
     refine s_no (by kernel_rfl) ?_
     refine s_no (by kernel_rfl) ?_
     refine s_no (by kernel_rfl) ?_
     refine s_no (by kernel_rfl) ?_
     refine s_no (by kernel_rfl) ?_
     refine s_no (by kernel_rfl) ?_
     refine s_no (by kernel_rfl) ?_
     refine s_no (by kernel_rfl) ?_
     refine s_no (by kernel_rfl) ?_
     refine s_qk (.bool true) (by kernel_rfl) ?_
     refine s_qk (.bool true) (by kernel_rfl) ?_
     refine s_nil ?_
     obtain rfl := Option.some.inj r49
     exact k46 _ _ ⟨⟨by kernel_rfl, by kernel_rfl, by kernel_rfl, trivial⟩, rfl⟩
    ·have r50 := ite_f h48 hx42
     refine s_qk (.bool false) (by kernel_rfl) ?_
     refine s_qk (.int .i64 i) (by kernel_rfl) ?_
     refine s_qk (.pointer (some ⟨b7, 0, none⟩)) (by kernel_rfl) ?_
     have u51 := (r11.frS e23 Dj.nil_l)
     refine s_ql (hd_First) (x := aLoad Tryd.prog 42 (.pointer (some ⟨b7, 0, none⟩)) H22) (by kernel_rfl) (u51.ld (by kernel_rfl)) ?_
     refine s_qk (.int .i64 v_) (by kernel_rfl) ?_
     obtain ⟨g52, r53⟩ := G_some r50
     have u54 := ((h_First.ext e9).fr e23 Dj.nil_l)
     refine s_ql (elp hd_First 1 v_.toNat 0) (x := aIndexAddr Tryd.prog 42 hd_First (.int .i64 v_)) (by kernel_rfl) (u54.idxb (by kernel_rfl) g52.1 g52.2) ?_
     refine s_ql (.int .i64 (gt First v_)) (x := aLoad Tryd.prog 3 (elp hd_First 1 v_.toNat 0) H22) (by kernel_rfl) (u54.ld g52.1 g52.2 (by kernel_rfl)) ?_
     refine s_b (i > (gt First v_)) (by kernel_rfl) (fun h55 => ?_) (fun h55 => ?_)
     ·have r56 := ite_t h55 r53
      refine s_qk (.bool true) (by kernel_rfl) ?_
      refine s_qk (.int .i64 (gt To i)) (by kernel_rfl) ?_
      refine s_qk (.pointer (some ⟨b7, 1, none⟩)) (by kernel_rfl) ?_
      refine s_ql (hd_To) (x := aLoad Tryd.prog 42 (.pointer (some ⟨b7, 1, none⟩)) H22) (by kernel_rfl) (u51.ld (by kernel_rfl)) ?_
      refine s_qk (.int .i64 i) (by kernel_rfl) ?_
      obtain ⟨g57, r58⟩ := G_some r56
      refine s_w ((i - 1)) (k := .i64) (x := (i - 1)) (by kernel_rfl) (wrap64 g57) ?_
      obtain ⟨g59, r60⟩ := G_some r58
      have u61 := (u16.fr e23 Dj.nil_l)
      refine s_ql (elp hd_To 1 (i - 1).toNat 0) (x := aIndexAddr Tryd.prog 42 hd_To (.int .i64 (i - 1))) (by kernel_rfl) (u61.idxb (by kernel_rfl) g59.1 g59.2) ?_
      refine s_ql (.int .i64 (gt To (i - 1))) (x := aLoad Tryd.prog 3 (elp hd_To 1 (i - 1).toNat 0) H22) (by kernel_rfl) (u61.ld g59.1 g59.2 (by kernel_rfl)) ?_
      refine s_qk (.bool (decide ((gt To i) ≤ (gt To (i - 1))))) (by kernel_rfl) ?_
      refine s_qk (.bool (decide ((gt To i) ≤ (gt To (i - 1))))) (by kernel_rfl) ?_
      refine s_qk (.bool (decide ((gt To i) ≤ (gt To (i - 1))))) (by kernel_rfl) ?_
      refine s_qk (.bool (decide ((gt To i) ≤ (gt To (i - 1))))) (by kernel_rfl) ?_
      refine s_nil ?_
      obtain rfl := Option.some.inj r60
      exact k46 _ _ ⟨⟨by kernel_rfl, by kernel_rfl, by kernel_rfl, trivial⟩, rfl⟩
     ·have r62 := ite_f h55 r53
      refine s_qk (.bool false) (by kernel_rfl) ?_
      refine s_no (by kernel_rfl) ?_
      refine s_no (by kernel_rfl) ?_
      refine s_no (by kernel_rfl) ?_
      refine s_no (by kernel_rfl) ?_
      refine s_no (by kernel_rfl) ?_
      refine s_no (by kernel_rfl) ?_
      refine s_no (by kernel_rfl) ?_
      refine s_no (by kernel_rfl) ?_
      refine s_qk (.bool false) (by kernel_rfl) ?_
      refine s_qk (.bool false) (by kernel_rfl) ?_
      refine s_qk (.bool false) (by kernel_rfl) ?_
      refine s_nil ?_
      obtain rfl := Option.some.inj r62
      exact k46 _ _ ⟨⟨by kernel_rfl, by kernel_rfl, by kernel_rfl, trivial⟩, rfl⟩
   ·obtain ⟨hh47, rfl⟩ := hM
    obtain ⟨β, rfl⟩ := has_ex hh47
    clear hh47
    refine k40 _ _ ?_
    refine w_cond (o41) (by kernel_rfl) rfl (fun h63 => ?_) (fun h63 => ?_)
    ·have r64 := ite_t h63 r43
     refine w_seqk fun K65 k65 => ?_
     refine w_reg (by kernel_rfl) ?_
     refine s_qk (.iface 53 (.int .i64 14)) (by kernel_rfl) ?_
     refine s_qk (.iface 53 (.int .i64 14)) (by kernel_rfl) ?_
     refine s_nil ?_
     refine k65 _ _ ?_
     refine w_ret (bl_ret (th_ret ?_))
     refine b_ret (fn := Tryd.f64) (vs := [.iface 53 (.int .i64 14)]) (aRes_tmp (by kernel_rfl) (rfl)) ?_
     obtain rfl := Option.some.inj r64
     exact ⟨(.iface 53 (.int .i64 14)), [], rfl, (FrS.step wf ((FrS.refl (W := []) wf).extR e9) e23 Inn.nil), Ev.no, Inn.nil⟩
    ·have r66 := ite_bf h63 r43
     refine w_seqk fun K67 k67 => ?_
     refine w_reg (by kernel_rfl) ?_
     refine s_qk (.pointer (some ⟨b7, 2, none⟩)) (by kernel_rfl) ?_
     have u68 := (r11.frS e23 Dj.nil_l)
     refine s_ql (hd_Weight) (x := aLoad Tryd.prog 42 (.pointer (some ⟨b7, 2, none⟩)) H22) (by kernel_rfl) (u68.ld (by kernel_rfl)) ?_
     refine s_qk (.int .i64 i) (by kernel_rfl) ?_
     obtain ⟨g69, r70⟩ := G_some r66
     have u71 := ((h_Weight.ext e9).fr e23 Dj.nil_l)
     refine s_ql (elp hd_Weight 1 i.toNat 0) (x := aIndexAddr Tryd.prog 42 hd_Weight (.int .i64 i)) (by kernel_rfl) (u71.idxb (by kernel_rfl) g14.1 g69) ?_
     refine s_ql (.int .i64 (gt Weight i)) (x := aLoad Tryd.prog 3 (elp hd_Weight 1 i.toNat 0) H22) (by kernel_rfl) (u71.ld g14.1 g69 (by kernel_rfl)) ?_
     refine s_b ((gt Weight i) < 0) (by kernel_rfl) (fun h72 => ?_) (fun h72 => ?_)
     ·have r73 := ite_t h72 r70
      refine s_qk (.bool true) (by kernel_rfl) ?_
      refine s_no (by kernel_rfl) ?_
      refine s_no (by kernel_rfl) ?_
      refine s_no (by kernel_rfl) ?_
      refine s_no (by kernel_rfl) ?_
      refine s_no (by kernel_rfl) ?_
      refine s_no (by kernel_rfl) ?_
      refine s_qk (.bool true) (by kernel_rfl) ?_
      refine s_qk (.bool true) (by kernel_rfl) ?_
      refine s_nil ?_
      refine k67 _ _ ?_
      refine w_cond true (by kernel_rfl) rfl (fun _ => ?_) (fun h => by cases h)
      refine w_seqk fun K74 k74 => ?_
      refine w_reg (by kernel_rfl) ?_
      refine s_qk (.iface 53 (.int .i64 8)) (by kernel_rfl) ?_
      refine s_qk (.iface 53 (.int .i64 8)) (by kernel_rfl) ?_
      refine s_nil ?_
      refine k74 _ _ ?_
      refine w_ret (bl_ret (th_ret ?_))
      refine b_ret (fn := Tryd.f64) (vs := [.iface 53 (.int .i64 8)]) (aRes_tmp (by kernel_rfl) (rfl)) ?_
      obtain rfl := Option.some.inj r73
      exact ⟨(.iface 53 (.int .i64 8)), [], rfl, (FrS.step wf ((FrS.refl (W := []) wf).extR e9) e23 Inn.nil), Ev.no, Inn.nil⟩
     ·have r75 := ite_f h72 r70
      refine s_qk (.bool false) (by kernel_rfl) ?_
      refine s_qk (.pointer (some ⟨b7, 2, none⟩)) (by kernel_rfl) ?_
      refine s_ql (hd_Weight) (x := aLoad Tryd.prog 42 (.pointer (some ⟨b7, 2, none⟩)) H22) (by kernel_rfl) (u68.ld (by kernel_rfl)) ?_
      refine s_qk (.int .i64 i) (by kernel_rfl) ?_
      refine s_ql (elp hd_Weight 1 i.toNat 0) (x := aIndexAddr Tryd.prog 42 hd_Weight (.int .i64 i)) (by kernel_rfl) (u71.idxb (by kernel_rfl) g14.1 g69) ?_
      refine s_ql (.int .i64 (gt Weight i)) (x := aLoad Tryd.prog 3 (elp hd_Weight 1 i.toNat 0) H22) (by kernel_rfl) (u71.ld g14.1 g69 (by kernel_rfl)) ?_
      refine s_qk (.bool (decide ((gt Weight i) > 2147483647))) (by kernel_rfl) ?_
      refine s_qk (.bool (decide ((gt Weight i) > 2147483647))) (by kernel_rfl) ?_
      refine s_qk (.bool (decide ((gt Weight i) > 2147483647))) (by kernel_rfl) ?_
      refine s_nil ?_
      refine k67 _ _ ?_
      refine w_condp ((gt Weight i) > 2147483647) (by kernel_rfl) rfl (fun h76 => ?_) (fun h76 => ?_)
      ·have r77 := ite_t h76 r75
       refine w_seqk fun K78 k78 => ?_
       refine w_reg (by kernel_rfl) ?_
       refine s_qk (.iface 53 (.int .i64 8)) (by kernel_rfl) ?_
       refine s_qk (.iface 53 (.int .i64 8)) (by kernel_rfl) ?_
       refine s_nil ?_
       refine k78 _ _ ?_
       refine w_ret (bl_ret (th_ret ?_))
       refine b_ret (fn := Tryd.f64) (vs := [.iface 53 (.int .i64 8)]) (aRes_tmp (by kernel_rfl) (rfl)) ?_
       obtain rfl := Option.some.inj r77
       exact ⟨(.iface 53 (.int .i64 8)), [], rfl, (FrS.step wf ((FrS.refl (W := []) wf).extR e9) e23 Inn.nil), Ev.no, Inn.nil⟩
      ·have r79 := ite_f h76 r75
       refine w_skip ?_
       refine k17 _ _ ?_
       refine w_seqk fun K80 k80 => ?_
       refine w_reg (by kernel_rfl) ?_
       refine s_qk (.nilIface) (by kernel_rfl) ?_
       refine s_nil ?_
       refine k80 _ _ ?_
       refine w_ret ?_
       refine b_ret (fn := Tryd.f64) (vs := [.nilIface]) (aRes_tmp (by kernel_rfl) (rfl)) ?_
       obtain rfl := Option.some.inj r79
       exact ⟨(.nilIface), [], rfl, (FrS.step wf ((FrS.refl (W := []) wf).extR e9) e23 Inn.nil), Ev.nil, Inn.nil⟩

theorem c_csr_Check {H : AH} {hd_First : Value} {fp_First : Fp} {hd_To : Value} {fp_To : Fp} {hd_Weight : Value} {fp_Weight : Fp} {First : List (Int)} {To : List (Int)} {Weight : List (Int)} {r : Er}
  (wf : WF H) (h_First : Sq (encI .i64) 1 H hd_First First fp_First) (h_To : Sq (encI .i64) 1 H hd_To To fp_To) (h_Weight : Sq (encI .i64) 1 H hd_Weight Weight fp_Weight) (hr : z_csr_Check First To Weight = some r) :
  ACalls Tryd.prog 29 #[.agg #[hd_First, hd_To, hd_Weight]] H fun v H' => ∃ (v3 : Value) (f4 : Fp), v = v3 ∧ FrS [] H H' ∧ Ev 53 90 H' v3 r f4 ∧ Inn [] H f4 := by
 refine acalls_of_body mixed Tryd.func29 rfl (Nat.le_of_ble_eq_true rfl) ?_
 unfold z_csr_Check at hr
 refine w_seqk fun K6 k6 => ?_
 refine w_reg (by kernel_rfl) ?_
 refine s_rwl wf [hd_First, hd_To, hd_Weight] (one_cons (h_First.one1) (one_cons (h_To.one1) (one_cons (h_Weight.one1) (one_nil)))) (by kernel_rfl) fun b7 H8 e9 hb10 r11 => ?_
 refine s_qk (.nilIface) (by kernel_rfl) ?_
 refine s_nil ?_
 refine k6 _ _ ?_
 refine w_seqk fun K13 k13 => ?_
 refine w_reg (by kernel_rfl) ?_
 refine s_ql (.agg #[hd_First, hd_To, hd_Weight]) (x := aLoad Tryd.prog 59 (.pointer (some ⟨b7, 0, none⟩)) H8) (by kernel_rfl) (r11.ld (by kernel_rfl)) ?_
 have u14 := (h_First.ext e9)
 have u15 := (h_To.ext e9)
 have u16 := (h_Weight.ext e9)
 obtain ⟨y17, hy18, r19⟩ := bind_some hr
 refine s_ck 62 #[.agg #[hd_First, hd_To, hd_Weight]] (by kernel_rfl) (c_csr_Csr_nodes e9.wf u14 u15 u16 hy18) ?_
 rintro _ H20 ⟨rfl, e21⟩
 refine s_qk (.int .i64 y17) (by kernel_rfl) ?_
 refine s_nil ?_
 refine k13 _ _ ?_
 refine w_seqk fun K22 k22 => ?_
 refine w_block ?_
 refine w_seqk fun K23 k23 => ?_
 obtain ⟨o24, hx25, r26⟩ := bind_some r19
 refine w_mid (fun α H27 => Has α [(1, .pointer (some ⟨b7, 0, none⟩)), (3, .int .i64 y17), (10, .bool o24)] ∧ H20 = H27) (fun K29 k29 => ?_) (fun α H27 hM => ?_)
 ·refine w_draw [0, 1, 2, 3, 4, 5, 6, 7, 8, 9, 10, 11, 12, 13, 14, 15, 16, 17, 18, 19, 20, 21, 22, 23, 24, 25, 26, 27, 28, 29] (by kernel_rfl) ?_
  refine d_qk (.int .i64 y17) (by kernel_rfl) ?_
  refine d_b (y17 < 0) (by kernel_rfl) (fun h31 => ?_) (fun h31 => ?_)
  ·have r32 := ite_t h31 hx25
   refine d_qk (.bool true) (by kernel_rfl) ?_
   refine d_idle (by kernel_rfl) ?_
   refine d_idle (by kernel_rfl) ?_
   refine d_idle (by kernel_rfl) ?_
   refine d_idle (by kernel_rfl) ?_
   refine d_idle (by kernel_rfl) ?_
   refine d_qk (.bool true) (by kernel_rfl) ?_
   refine d_qk (.bool true) (by kernel_rfl) ?_
   refine d_idle (by kernel_rfl) ?_
   refine d_idle (by kernel_rfl) ?_
   refine d_idle (by kernel_rfl) ?_
   refine d_idle (by kernel_rfl) ?_
   refine d_idle (by kernel_rfl) ?_
   refine d_idle (by kernel_rfl) ?_
   refine d_idle (by kernel_rfl) ?_
   refine d_idle (by kernel_rfl) ?_
   refine d_idle (by kernel_rfl) ?_
   refine d_qk (.bool true) (by kernel_rfl) ?_
   refine d_qk (.bool true) (by kernel_rfl) ?_
   refine d_idle (by kernel_rfl) ?_
   refine d_idle (by kernel_rfl) ?_
   refine d_idle (by kernel_rfl) ?_
   refine d_idle (by kernel_rfl) ?_
   refine d_idle (by kernel_rfl) ?_
   refine d_idle (by kernel_rfl) ?_
   refine d_idle (by kernel_rfl) ?_
   refine d_qk (.bool true) (by kernel_rfl) ?_
   refine d_qk (.bool true) (by kernel_rfl) ?_
   refine d_nil ?_
   obtain rfl := Option.some.inj r32
   exact k29 _ _ ⟨⟨by kernel_rfl, by kernel_rfl, by kernel_rfl, trivial⟩, rfl⟩
  ·have r33 := ite_f h31 hx25
   refine d_qk (.bool false) (by kernel_rfl) ?_
   refine d_qk (.pointer (some ⟨b7, 0, none⟩)) (by kernel_rfl) ?_
   have u34 := (r11.frS e21 Dj.nil_l)
   refine d_ql (hd_First) (x := aLoad Tryd.prog 42 (.pointer (some ⟨b7, 0, none⟩)) H20) (by kernel_rfl) (u34.ld (by kernel_rfl)) ?_
   obtain ⟨g35, r36⟩ := G_some r33
   have u37 := (u14.fr e21 Dj.nil_l)
   refine d_ql (elp hd_First 1 (0 : Int).toNat 0) (x := aIndexAddr Tryd.prog 42 hd_First (.int .i64 0)) (by kernel_rfl) (u37.idxb (by kernel_rfl) (by decide) g35) ?_
   refine d_ql (.int .i64 (gt First 0)) (x := aLoad Tryd.prog 3 (elp hd_First 1 (0 : Int).toNat 0) H20) (by kernel_rfl) (u37.ld (by decide) g35 (by kernel_rfl)) ?_
   refine d_bn ((gt First 0) = 0) (by kernel_rfl) (fun h38 => ?_) (fun h38 => ?_)
   ·have r39 := ite_t h38 r36
    refine d_qk (.bool false) (by kernel_rfl) ?_
    refine d_qk (.bool false) (by kernel_rfl) ?_
    refine d_qk (.pointer (some ⟨b7, 0, none⟩)) (by kernel_rfl) ?_
    refine d_ql (hd_First) (x := aLoad Tryd.prog 42 (.pointer (some ⟨b7, 0, none⟩)) H20) (by kernel_rfl) (u34.ld (by kernel_rfl)) ?_
    refine d_qk (.int .i64 y17) (by kernel_rfl) ?_
    obtain ⟨g40, r41⟩ := G_some r39
    refine d_ql (elp hd_First 1 y17.toNat 0) (x := aIndexAddr Tryd.prog 42 hd_First (.int .i64 y17)) (by kernel_rfl) (u37.idxb (by kernel_rfl) g40.1 g40.2) ?_
    refine d_ql (.int .i64 (gt First y17)) (x := aLoad Tryd.prog 3 (elp hd_First 1 y17.toNat 0) H20) (by kernel_rfl) (u37.ld g40.1 g40.2 (by kernel_rfl)) ?_
    refine d_qk (.pointer (some ⟨b7, 1, none⟩)) (by kernel_rfl) ?_
    refine d_ql (hd_To) (x := aLoad Tryd.prog 42 (.pointer (some ⟨b7, 1, none⟩)) H20) (by kernel_rfl) (u34.ld (by kernel_rfl)) ?_
    have u42 := (u15.fr e21 Dj.nil_l)
    refine d_ql (.int .i64 (To.length : Int)) (x := aLen Tryd.prog 42 hd_To H20) (by kernel_rfl) (u42.lenb (by kernel_rfl)) ?_
    refine d_bn ((gt First y17) = (To.length : Int)) (by kernel_rfl) (fun h43 => ?_) (fun h43 => ?_)
    ·have r44 := ite_t h43 r41
     refine d_qk (.bool false) (by kernel_rfl) ?_
     refine d_qk (.bool false) (by kernel_rfl) ?_
     refine d_qk (.pointer (some ⟨b7, 1, none⟩)) (by kernel_rfl) ?_
     refine d_ql (hd_To) (x := aLoad Tryd.prog 42 (.pointer (some ⟨b7, 1, none⟩)) H20) (by kernel_rfl) (u34.ld (by kernel_rfl)) ?_
     refine d_ql (.int .i64 (To.length : Int)) (x := aLen Tryd.prog 42 hd_To H20) (by kernel_rfl) (u42.lenb (by kernel_rfl)) ?_
     refine d_qk (.pointer (some ⟨b7, 2, none⟩)) (by kernel_rfl) ?_
     refine d_ql (hd_Weight) (x := aLoad Tryd.prog 42 (.pointer (some ⟨b7, 2, none⟩)) H20) (by kernel_rfl) (u34.ld (by kernel_rfl)) ?_
     have u45 := (u16.fr e21 Dj.nil_l)
     refine d_ql (.int .i64 (Weight.length : Int)) (x := aLen Tryd.prog 42 hd_Weight H20) (by kernel_rfl) (u45.lenb (by kernel_rfl)) ?_
     refine d_qk (.bool (!decide ((To.length : Int) = (Weight.length : Int)))) (by kernel_rfl) ?_
     refine d_qk (.bool (!decide ((To.length : Int) = (Weight.length : Int)))) (by kernel_rfl) ?_
     refine d_qk (.bool (!decide ((To.length : Int) = (Weight.length : Int)))) (by kernel_rfl) ?_
     refine d_nil ?_
     obtain rfl := Option.some.inj r44
     exact k29 _ _ ⟨⟨by kernel_rfl, by kernel_rfl, by kernel_rfl, trivial⟩, rfl⟩
    ·have r46 := ite_f h43 r41
     refine d_qk (.bool true) (by kernel_rfl) ?_
     refine d_qk (.bool true) (by kernel_rfl) ?_
     refine d_idle (by kernel_rfl) ?_
     refine d_idle (by kernel_rfl) ?_
     refine d_idle (by kernel_rfl) ?_
     refine d_idle (by kernel_rfl) ?_
     refine d_idle (by kernel_rfl) ?_
     refine d_idle (by kernel_rfl) ?_
     refine d_idle (by kernel_rfl) ?_
     refine d_qk (.bool true) (by kernel_rfl) ?_
     refine d_qk (.bool true) (by kernel_rfl) ?_
     refine d_nil ?_
     obtain rfl := Option.some.inj r46
     exact k29 _ _ ⟨⟨by kernel_rfl, by kernel_rfl, by kernel_rfl, trivial⟩, rfl⟩
   ·have r47 := ite_f h38 r36
    refine d_qk (.bool true) (by kernel_rfl) ?_
    refine d_qk (.bool true) (by kernel_rfl) ?_
    refine d_idle (by kernel_rfl) ?_
    refine d_idle (by kernel_rfl) ?_
    refine d_idle (by kernel_rfl) ?_
    refine d_idle (by kernel_rfl) ?_
    refine d_idle (by kernel_rfl) ?_
    refine d_idle (by kernel_rfl) ?_
    refine d_idle (by kernel_rfl) ?_
    refine d_idle (by kernel_rfl) ?_
    refine d_idle (by kernel_rfl) ?_
    refine d_qk (.bool true) (by kernel_rfl) ?_
    refine d_qk (.bool true) (by kernel_rfl) ?_
    refine d_idle (by kernel_rfl) ?_
    refine d_idle (by kernel_rfl) ?_
    refine d_idle (by kernel_rfl) ?_
    refine d_idle (by kernel_rfl) ?_
    refine d_idle (by kernel_rfl) ?_
    refine d_idle (by kernel_rfl) ?_
    refine d_idle (by kernel_rfl) ?_
    refine d_qk (.bool true) (by kernel_rfl) ?_
    refine d_qk (.bool true) (by kernel_rfl) ?_
    refine d_nil ?_
    obtain rfl := Option.some.inj r47
    exact k29 _ _ ⟨⟨by kernel_rfl, by kernel_rfl, by kernel_rfl, trivial⟩, rfl⟩
 ·obtain ⟨hh30, rfl⟩ := hM
  obtain ⟨β, rfl⟩ := has_ex hh30
  clear hh30
  refine k23 _ _ ?_
  refine w_cond (o24) (by kernel_rfl) rfl (fun h48 => ?_) (fun h48 => ?_)
  ·have r49 := ite_t h48 r26
   refine w_seqk fun K50 k50 => ?_
   refine w_reg (by kernel_rfl) ?_
   refine s_qk (.iface 53 (.int .i64 14)) (by kernel_rfl) ?_
   refine s_qk (.iface 53 (.int .i64 14)) (by kernel_rfl) ?_
   refine s_nil ?_
   refine k50 _ _ ?_
   refine w_ret (bl_ret (th_ret ?_))
   refine b_ret (fn := Tryd.f29) (vs := [.iface 53 (.int .i64 14)]) (aRes_tmp (by kernel_rfl) (rfl)) ?_
   obtain rfl := Option.some.inj r49
   exact ⟨(.iface 53 (.int .i64 14)), [], rfl, (FrS.step wf ((FrS.refl (W := []) wf).extR e9) e21 Inn.nil), Ev.no, Inn.nil⟩
  ·have r51 := ite_bf h48 r26
   refine w_seqk fun K52 k52 => ?_
   obtain ⟨o53, hx54, r55⟩ := bind_some r51
   refine w_mid (fun α H56 => Has α [(1, .pointer (some ⟨b7, 0, none⟩)), (3, .int .i64 y17), (41, .bool o53)] ∧ H20 = H56) (fun K58 k58 => ?_) (fun α H56 hM => ?_)
   ·refine w_reg (by kernel_rfl) ?_
    refine s_qk (.int .i64 y17) (by kernel_rfl) ?_
    refine s_b (y17 > 65536) (by kernel_rfl) (fun h60 => ?_) (fun h60 => ?_)
    ·have r61 := ite_t h60 hx54
     refine s_qk (.bool true) (by kernel_rfl) ?_
     refine s_no (by kernel_rfl) ?_
     refine s_no (by kernel_rfl) ?_
     refine s_no (by kernel_rfl) ?_
     refine s_no (by kernel_rfl) ?_
     refine s_qk (.bool true) (by kernel_rfl) ?_
     refine s_qk (.bool true) (by kernel_rfl) ?_
     refine s_nil ?_
     obtain rfl := Option.some.inj r61
     exact k58 _ _ ⟨⟨by kernel_rfl, by kernel_rfl, by kernel_rfl, trivial⟩, rfl⟩
    ·have r62 := ite_f h60 hx54
     refine s_qk (.bool false) (by kernel_rfl) ?_
     refine s_qk (.pointer (some ⟨b7, 1, none⟩)) (by kernel_rfl) ?_
     have u63 := (r11.frS e21 Dj.nil_l)
     refine s_ql (hd_To) (x := aLoad Tryd.prog 42 (.pointer (some ⟨b7, 1, none⟩)) H20) (by kernel_rfl) (u63.ld (by kernel_rfl)) ?_
     have u64 := (u15.fr e21 Dj.nil_l)
     refine s_ql (.int .i64 (To.length : Int)) (x := aLen Tryd.prog 42 hd_To H20) (by kernel_rfl) (u64.lenb (by kernel_rfl)) ?_
     refine s_qk (.bool (decide ((To.length : Int) > 262144))) (by kernel_rfl) ?_
     refine s_qk (.bool (decide ((To.length : Int) > 262144))) (by kernel_rfl) ?_
     refine s_qk (.bool (decide ((To.length : Int) > 262144))) (by kernel_rfl) ?_
     refine s_nil ?_
     obtain rfl := Option.some.inj r62
     exact k58 _ _ ⟨⟨by kernel_rfl, by kernel_rfl, by kernel_rfl, trivial⟩, rfl⟩
   ·obtain ⟨hh59, rfl⟩ := hM
    obtain ⟨β, rfl⟩ := has_ex hh59
    clear hh59
    refine k52 _ _ ?_
    refine w_cond (o53) (by kernel_rfl) rfl (fun h65 => ?_) (fun h65 => ?_)
    ·have r66 := ite_t h65 r55
     refine w_seqk fun K67 k67 => ?_
     refine w_reg (by kernel_rfl) ?_
     refine s_qk (.iface 53 (.int .i64 9)) (by kernel_rfl) ?_
     refine s_qk (.iface 53 (.int .i64 9)) (by kernel_rfl) ?_
     refine s_nil ?_
     refine k67 _ _ ?_
     refine w_ret (bl_ret (th_ret ?_))
     refine b_ret (fn := Tryd.f29) (vs := [.iface 53 (.int .i64 9)]) (aRes_tmp (by kernel_rfl) (rfl)) ?_
     obtain rfl := Option.some.inj r66
     exact ⟨(.iface 53 (.int .i64 9)), [], rfl, (FrS.step wf ((FrS.refl (W := []) wf).extR e9) e21 Inn.nil), Ev.no, Inn.nil⟩
    ·have r68 := ite_bf h65 r55
     refine w_skip ?_
     refine k22 _ _ ?_
     refine w_seqk fun K69 k69 => ?_
     refine w_seqk fun K70 k70 => ?_
     refine w_reg (by kernel_rfl) ?_
     refine s_qk (.int .i64 y17) (by kernel_rfl) ?_
     refine s_qk (.int .i64 0) (by kernel_rfl) ?_
     refine s_nil ?_
     refine k70 _ _ ?_
     obtain ⟨z74, hx72, r73⟩ := bind_some r68
     refine w_mid (fun α H75 => ∃ o71, z74 = Sum.inr o71 ∧ Has α [(1, .pointer (some ⟨b7, 0, none⟩)), (3, .int .i64 y17)] ∧ H20 = H75) (fun K77 k77 => ?_) (fun α H75 hM => ?_)
     ·refine w_block ?_
      obtain ⟨n79, hn80⟩ := loopO_iff.1 hx72
      refine w_loopn (fun n α H81 => ∃ (i0 : Int), iterO (fun zz_ => z_csr_Check_l0 First y17 zz_) n i0 = some z74 ∧ Has α [(1, .pointer (some ⟨b7, 0, none⟩)), (3, .int .i64 y17), (51, .int .i64 y17), (52, .int .i64 i0)] ∧ H20 = H81) n79 ⟨0, hn80, ⟨by kernel_rfl, by kernel_rfl, by kernel_rfl, by kernel_rfl, trivial⟩, rfl⟩ ?_
      rintro n79 α H81 ⟨i0, hi84, hh83, rfl⟩ K89 k89
      obtain ⟨n85, z86, rfl, hz87, hn88⟩ := iter_succ hi84
      obtain ⟨β, rfl⟩ := has_ex hh83
      clear hh83
      replace hz87 : z_csr_Check_l0 First y17 i0 = some z86 := hz87
      unfold z_csr_Check_l0 at hz87
      refine w_seqk fun K90 k90 => ?_
      refine w_reg (by kernel_rfl) ?_
      refine s_qk (.bool (decide (i0 < y17))) (by kernel_rfl) ?_
      refine s_nil ?_
      refine k90 _ _ ?_
      refine w_seqk fun K91 k91 => ?_
      refine w_condp (i0 < y17) (by kernel_rfl) rfl (fun h92 => ?_) (fun h92 => ?_)
      ·have r93 := ite_t h92 hz87
       refine w_skip ?_
       refine k91 _ _ ?_
       refine w_seqk fun K94 k94 => ?_
       refine w_block ?_
       refine w_seqk fun K95 k95 => ?_
       refine w_reg (by kernel_rfl) ?_
       refine s_qk (.int .i64 i0) (by kernel_rfl) ?_
       refine s_qk (.int .i64 i0) (by kernel_rfl) ?_
       refine s_nil ?_
       refine k95 _ _ ?_
       refine w_seqk fun K96 k96 => ?_
       refine w_draw [0, 1, 2, 3, 4, 5, 6, 7, 8, 9, 10, 11] (by kernel_rfl) ?_
       refine d_qk (.pointer (some ⟨b7, 0, none⟩)) (by kernel_rfl) ?_
       have u97 := (r11.frS e21 Dj.nil_l)
       refine d_ql (hd_First) (x := aLoad Tryd.prog 42 (.pointer (some ⟨b7, 0, none⟩)) H20) (by kernel_rfl) (u97.ld (by kernel_rfl)) ?_
       refine d_qk (.int .i64 i0) (by kernel_rfl) ?_
       obtain ⟨g98, r99⟩ := G_some r93
       refine d_w ((i0 + 1)) (k := .i64) (x := (i0 + 1)) (by kernel_rfl) (wrap64 g98) ?_
       obtain ⟨g100, r101⟩ := G_some r99
       have u102 := (u14.fr e21 Dj.nil_l)
       refine d_ql (elp hd_First 1 (i0 + 1).toNat 0) (x := aIndexAddr Tryd.prog 42 hd_First (.int .i64 (i0 + 1))) (by kernel_rfl) (u102.idxb (by kernel_rfl) g100.1 g100.2) ?_
       refine d_ql (.int .i64 (gt First (i0 + 1))) (x := aLoad Tryd.prog 3 (elp hd_First 1 (i0 + 1).toNat 0) H20) (by kernel_rfl) (u102.ld g100.1 g100.2 (by kernel_rfl)) ?_
       refine d_qk (.pointer (some ⟨b7, 0, none⟩)) (by kernel_rfl) ?_
       refine d_ql (hd_First) (x := aLoad Tryd.prog 42 (.pointer (some ⟨b7, 0, none⟩)) H20) (by kernel_rfl) (u97.ld (by kernel_rfl)) ?_
       refine d_qk (.int .i64 i0) (by kernel_rfl) ?_
       obtain ⟨g103, r104⟩ := G_some r101
       refine d_ql (elp hd_First 1 i0.toNat 0) (x := aIndexAddr Tryd.prog 42 hd_First (.int .i64 i0)) (by kernel_rfl) (u102.idxb (by kernel_rfl) g103.1 g103.2) ?_
       refine d_ql (.int .i64 (gt First i0)) (x := aLoad Tryd.prog 3 (elp hd_First 1 i0.toNat 0) H20) (by kernel_rfl) (u102.ld g103.1 g103.2 (by kernel_rfl)) ?_
       refine d_qk (.bool (decide ((gt First (i0 + 1)) < (gt First i0)))) (by kernel_rfl) ?_
       refine d_nil ?_
       refine k96 _ _ ?_
       refine w_condp ((gt First (i0 + 1)) < (gt First i0)) (by kernel_rfl) rfl (fun h105 => ?_) (fun h105 => ?_)
       ·have r106 := ite_t h105 r104
        refine w_seqk fun K107 k107 => ?_
        refine w_reg (by kernel_rfl) ?_
        refine s_qk (.int .i64 i0) (by kernel_rfl) ?_
        refine s_qk (.iface 53 (.int .i64 14)) (by kernel_rfl) ?_
        obtain ⟨y108, hy109, r110⟩ := bind_some r106
        refine s_ck 63 #[.int .i64 3, .int .i64 i0, .iface 53 (.int .i64 14)] (by kernel_rfl) (c_fault_At e21.wf (Ev.no (tf := 90)) hy109) ?_
        rintro v111 H113 ⟨_, f112, rfl, e114, m115, i116⟩
        refine s_qk (v111) (by kernel_rfl) ?_
        refine s_nil ?_
        refine k107 _ _ ?_
        refine w_ret (bl_ret (th_ret (th_ret (bl_ret (th_ret (th_ret ?_))))))
        obtain ⟨v118, hv119, hz120⟩ := map_some r110
        subst hz120
        obtain rfl := it_inr hn88
        have hq121 := elim_inl r73
        rw [hq121] at hv119
        refine b_ret (fn := Tryd.f29) (vs := [v111]) (aRes_tmp (by kernel_rfl) (rfl)) ?_
        obtain rfl := Option.some.inj hv119
        exact ⟨(v111), f112, rfl, (FrS.step wf (FrS.step wf ((FrS.refl (W := []) wf).extR e9) e21 Inn.nil) e114 Inn.nil), m115, (i116.fresh (ntr e9.next e21.next))⟩
       ·have r122 := ite_f h105 r104
        refine w_skip ?_
        refine k94 _ _ ?_
        refine w_reg (by kernel_rfl) ?_
        obtain ⟨g123, r124⟩ := G_some r122
        refine s_w ((i0 + 1)) (k := .i64) (x := (i0 + 1)) (by kernel_rfl) (wrap64 (by have := g123; omega)) ?_
        refine s_qk (.int .i64 (i0 + 1)) (by kernel_rfl) ?_
        refine s_nil ?_
        obtain rfl := Option.some.inj r124
        exact k89 n85 _ _ (Nat.lt_succ_self _) ⟨(i0 + 1), hn88, ⟨by kernel_rfl, by kernel_rfl, by kernel_rfl, by kernel_rfl, trivial⟩, rfl⟩
      ·have r125 := ite_f h92 hz87
       refine w_exit (th_exit (th_exit (bl_eq ?_)))
       obtain rfl := Option.some.inj r125
       obtain rfl := it_inr hn88
       exact k77 _ _ ⟨_, rfl, ⟨by kernel_rfl, by kernel_rfl, trivial⟩, rfl⟩
     ·obtain ⟨o71, rfl, hh78, rfl⟩ := hM
      have r126 := elim_inr r73
      obtain ⟨β, rfl⟩ := has_ex hh78
      clear hh78
      refine k69 _ _ ?_
      refine w_seqk fun K127 k127 => ?_
      refine w_seqk fun K128 k128 => ?_
      refine w_reg (by kernel_rfl) ?_
      refine s_qk (.int .i64 y17) (by kernel_rfl) ?_
      refine s_qk (.int .i64 0) (by kernel_rfl) ?_
      refine s_nil ?_
      refine k128 _ _ ?_
      obtain ⟨z132, hx130, r131⟩ := bind_some r126
      refine w_mid (fun α H133 => ∃ o129, z132 = Sum.inr o129 ∧ Has α [] ∧ FrS [] H20 H133) (fun K135 k135 => ?_) (fun α H133 hM => ?_)
      ·refine w_block ?_
       obtain ⟨n137, hn138⟩ := loopO_iff.1 hx130
       refine w_loopn (fun n α H139 => ∃ (i2 : Int), iterO (fun zz_ => z_csr_Check_l2 First To Weight y17 zz_) n i2 = some z132 ∧ Has α [(1, .pointer (some ⟨b7, 0, none⟩)), (71, .int .i64 y17), (72, .int .i64 i2)] ∧ FrS [] H20 H139) n137 ⟨0, hn138, ⟨by kernel_rfl, by kernel_rfl, by kernel_rfl, trivial⟩, (FrS.refl (W := []) e21.wf)⟩ ?_
       rintro n137 α H139 ⟨i2, hi142, hh141, e140⟩ K147 k147
       obtain ⟨n143, z144, rfl, hz145, hn146⟩ := iter_succ hi142
       obtain ⟨β, rfl⟩ := has_ex hh141
       clear hh141
       replace hz145 : z_csr_Check_l2 First To Weight y17 i2 = some z144 := hz145
       unfold z_csr_Check_l2 at hz145
       refine w_seqk fun K148 k148 => ?_
       refine w_reg (by kernel_rfl) ?_
       refine s_qk (.bool (decide (i2 < y17))) (by kernel_rfl) ?_
       refine s_nil ?_
       refine k148 _ _ ?_
       refine w_seqk fun K149 k149 => ?_
       refine w_condp (i2 < y17) (by kernel_rfl) rfl (fun h150 => ?_) (fun h150 => ?_)
       ·have r151 := ite_t h150 hz145
        refine w_skip ?_
        refine k149 _ _ ?_
        refine w_seqk fun K152 k152 => ?_
        refine w_block ?_
        refine w_seqk fun K153 k153 => ?_
        refine w_reg (by kernel_rfl) ?_
        refine s_qk (.int .i64 i2) (by kernel_rfl) ?_
        refine s_qk (.int .i64 i2) (by kernel_rfl) ?_
        refine s_nil ?_
        refine k153 _ _ ?_
        refine w_seqk fun K154 k154 => ?_
        refine w_reg (by kernel_rfl) ?_
        refine s_qk (.pointer (some ⟨b7, 0, none⟩)) (by kernel_rfl) ?_
        have u155 := ((r11.frS e21 Dj.nil_l).frS e140 Dj.nil_l)
        refine s_ql (hd_First) (x := aLoad Tryd.prog 42 (.pointer (some ⟨b7, 0, none⟩)) H139) (by kernel_rfl) (u155.ld (by kernel_rfl)) ?_
        refine s_qk (.int .i64 i2) (by kernel_rfl) ?_
        obtain ⟨g156, r157⟩ := G_some r151
        have u158 := ((u14.fr e21 Dj.nil_l).fr e140 Dj.nil_l)
        refine s_ql (elp hd_First 1 i2.toNat 0) (x := aIndexAddr Tryd.prog 42 hd_First (.int .i64 i2)) (by kernel_rfl) (u158.idxb (by kernel_rfl) g156.1 g156.2) ?_
        refine s_ql (.int .i64 (gt First i2)) (x := aLoad Tryd.prog 3 (elp hd_First 1 i2.toNat 0) H139) (by kernel_rfl) (u158.ld g156.1 g156.2 (by kernel_rfl)) ?_
        refine s_qk (.int .i64 (gt First i2)) (by kernel_rfl) ?_
        refine s_nil ?_
        refine k154 _ _ ?_
        obtain ⟨z162, hx160, r161⟩ := bind_some r157
        refine w_mid (fun α H163 => ∃ o159, z162 = Sum.inr o159 ∧ Has α [(1, .pointer (some ⟨b7, 0, none⟩)), (71, .int .i64 y17), (72, .int .i64 i2)] ∧ FrS [] H139 H163) (fun K165 k165 => ?_) (fun α H163 hM => ?_)
        ·refine w_block ?_
         obtain ⟨n167, hn168⟩ := loopO_iff.1 hx160
         refine w_loopn (fun n α H169 => ∃ (i1 : Int), iterO (fun zz_ => z_csr_Check_l1 First To Weight i2 zz_) n i1 = some z162 ∧ Has α [(1, .pointer (some ⟨b7, 0, none⟩)), (5, .int .i64 i2), (6, .int .i64 i1), (71, .int .i64 y17), (72, .int .i64 i2)] ∧ FrS [] H139 H169) n167 ⟨(gt First i2), hn168, ⟨by kernel_rfl, by kernel_rfl, by kernel_rfl, by kernel_rfl, by kernel_rfl, trivial⟩, (FrS.refl (W := []) e140.wf)⟩ ?_
         rintro n167 α H169 ⟨i1, hi172, hh171, e170⟩ K177 k177
         obtain ⟨n173, z174, rfl, hz175, hn176⟩ := iter_succ hi172
         obtain ⟨β, rfl⟩ := has_ex hh171
         clear hh171
         replace hz175 : z_csr_Check_l1 First To Weight i2 i1 = some z174 := hz175
         unfold z_csr_Check_l1 at hz175
         refine w_seqk fun K178 k178 => ?_
         refine w_seqk fun K179 k179 => ?_
         refine w_reg (by kernel_rfl) ?_
         refine s_qk (.int .i64 i1) (by kernel_rfl) ?_
         refine s_qk (.pointer (some ⟨b7, 0, none⟩)) (by kernel_rfl) ?_
         have u180 := (u155.frS e170 Dj.nil_l)
         refine s_ql (hd_First) (x := aLoad Tryd.prog 42 (.pointer (some ⟨b7, 0, none⟩)) H169) (by kernel_rfl) (u180.ld (by kernel_rfl)) ?_
         refine s_qk (.int .i64 i2) (by kernel_rfl) ?_
         obtain ⟨g181, r182⟩ := G_some hz175
         refine s_w ((i2 + 1)) (k := .i64) (x := (i2 + 1)) (by kernel_rfl) (wrap64 (by have := g181; omega)) ?_
         obtain ⟨g183, r184⟩ := G_some r182
         have u185 := (u158.fr e170 Dj.nil_l)
         refine s_ql (elp hd_First 1 (i2 + 1).toNat 0) (x := aIndexAddr Tryd.prog 42 hd_First (.int .i64 (i2 + 1))) (by kernel_rfl) (u185.idxb (by kernel_rfl) g183.1 g183.2) ?_
         refine s_ql (.int .i64 (gt First (i2 + 1))) (x := aLoad Tryd.prog 3 (elp hd_First 1 (i2 + 1).toNat 0) H169) (by kernel_rfl) (u185.ld g183.1 g183.2 (by kernel_rfl)) ?_
         refine s_qk (.bool (decide (i1 < (gt First (i2 + 1))))) (by kernel_rfl) ?_
         refine s_nil ?_
         refine k179 _ _ ?_
         refine w_condp (i1 < (gt First (i2 + 1))) (by kernel_rfl) rfl (fun h186 => ?_) (fun h186 => ?_)
         ·have r187 := ite_t h186 r184
          refine w_skip ?_
          refine k178 _ _ ?_
          refine w_seqk fun K188 k188 => ?_
          refine w_block ?_
          refine w_seqk fun K189 k189 => ?_
          refine w_reg (by kernel_rfl) ?_
          refine s_ql (.agg #[hd_First, hd_To, hd_Weight]) (x := aLoad Tryd.prog 59 (.pointer (some ⟨b7, 0, none⟩)) H169) (by kernel_rfl) (u180.ld (by kernel_rfl)) ?_
          refine s_qk (.int .i64 i2) (by kernel_rfl) ?_
          refine s_qk (.int .i64 i1) (by kernel_rfl) ?_
          have u190 := (((u15.fr e21 Dj.nil_l).fr e140 Dj.nil_l).fr e170 Dj.nil_l)
          have u191 := (((u16.fr e21 Dj.nil_l).fr e140 Dj.nil_l).fr e170 Dj.nil_l)
          obtain ⟨y192, hy193, r194⟩ := bind_some r187
          refine s_ck 64 #[.agg #[hd_First, hd_To, hd_Weight], .int .i64 i2, .int .i64 i1] (by kernel_rfl) (c_csr_Csr_arc e170.wf u185 u190 u191 hy193) ?_
          rintro v195 H197 ⟨_, f196, rfl, e198, m199, i200⟩
          refine s_qk (v195) (by kernel_rfl) ?_
          refine s_nil ?_
          refine k189 _ _ ?_
          refine w_seqk fun K202 k202 => ?_
          refine w_reg (by kernel_rfl) ?_
          refine s_qk (v195) (by kernel_rfl) ?_
          rcases (m199).cases with ⟨h203, rfl⟩ | ⟨h203, t204, x205, rfl⟩
          ·have r206 := ite_t h203 r194
           refine s_qk (.bool false) (by kernel_rfl) ?_
           refine s_nil ?_
           refine k202 _ _ ?_
           refine w_cond false (by kernel_rfl) rfl (fun h => by cases h) (fun _ => ?_)
           refine w_skip ?_
           refine k188 _ _ ?_
           refine w_reg (by kernel_rfl) ?_
           refine s_qk (.int .i64 i1) (by kernel_rfl) ?_
           obtain ⟨g207, r208⟩ := G_some r206
           refine s_w ((i1 + 1)) (k := .i64) (x := (i1 + 1)) (by kernel_rfl) (wrap64 g207) ?_
           refine s_qk (.int .i64 (i1 + 1)) (by kernel_rfl) ?_
           refine s_nil ?_
           obtain rfl := Option.some.inj r208
           exact k177 n173 _ _ (Nat.lt_succ_self _) ⟨(i1 + 1), hn176, ⟨by kernel_rfl, by kernel_rfl, by kernel_rfl, by kernel_rfl, by kernel_rfl, trivial⟩, (FrS.step e140.wf (FrS.step e140.wf (FrS.refl (W := []) e140.wf) e170 Inn.nil) e198 Inn.nil)⟩
          ·have r209 := ite_f h203 r194
           refine s_ql (.bool true) (x := aBin Tryd.prog .neq 28 (.tmp 94) (.const .nilIface) (.iface t204 x205) .nilIface) (by kernel_rfl) (aBin_nnil (by kernel_rfl)) ?_
           refine s_nil ?_
           refine k202 _ _ ?_
           refine w_cond true (by kernel_rfl) rfl (fun _ => ?_) (fun h => by cases h)
           refine w_seqk fun K210 k210 => ?_
           refine w_reg (by kernel_rfl) ?_
           refine s_qk (.int .i64 i1) (by kernel_rfl) ?_
           refine s_qk (.iface t204 x205) (by kernel_rfl) ?_
           obtain ⟨y211, hy212, r213⟩ := bind_some r209
           refine s_ck 63 #[.int .i64 4, .int .i64 i1, .iface t204 x205] (by kernel_rfl) (c_fault_At e198.wf m199 hy212) ?_
           rintro v214 H216 ⟨_, f215, rfl, e217, m218, i219⟩
           refine s_qk (v214) (by kernel_rfl) ?_
           refine s_nil ?_
           refine k210 _ _ ?_
           refine w_ret (bl_ret (th_ret (th_ret (bl_ret (th_ret (bl_ret (th_ret (th_ret (bl_ret (th_ret (th_ret ?_)))))))))))
           obtain ⟨v221, hv222, hz223⟩ := map_some r213
           subst hz223
           obtain rfl := it_inr hn176
           have hq224 := elim_inl r161
           rw [hq224] at hv222
           obtain ⟨v225, hv226, hz227⟩ := map_some hv222
           subst hz227
           obtain rfl := it_inr hn146
           have hq228 := elim_inl r131
           rw [hq228] at hv226
           refine b_ret (fn := Tryd.f29) (vs := [v214]) (aRes_tmp (by kernel_rfl) (rfl)) ?_
           obtain rfl := Option.some.inj hv226
           exact ⟨(v214), f215, rfl, (FrS.step wf (FrS.step wf (FrS.step wf (FrS.step wf (FrS.step wf ((FrS.refl (W := []) wf).extR e9) e21 Inn.nil) e140 Inn.nil) e170 Inn.nil) e198 Inn.nil) e217 Inn.nil), m218, (Inn.trans (i200.fresh (ntr (ntr (ntr e9.next e21.next) e140.next) e170.next)) (ntr (ntr (ntr (ntr e9.next e21.next) e140.next) e170.next) e198.next) i219)⟩
         ·have r229 := ite_f h186 r184
          refine w_exit (th_exit (th_exit (bl_eq ?_)))
          obtain rfl := Option.some.inj r229
          obtain rfl := it_inr hn176
          exact k165 _ _ ⟨_, rfl, ⟨by kernel_rfl, by kernel_rfl, by kernel_rfl, trivial⟩, (FrS.step e140.wf (FrS.refl (W := []) e140.wf) e170 Inn.nil)⟩
        ·obtain ⟨o159, rfl, hh166, e164⟩ := hM
         have r230 := elim_inr r161
         obtain ⟨β, rfl⟩ := has_ex hh166
         clear hh166
         refine k152 _ _ ?_
         refine w_reg (by kernel_rfl) ?_
         obtain ⟨g231, r232⟩ := G_some r230
         refine s_w ((i2 + 1)) (k := .i64) (x := (i2 + 1)) (by kernel_rfl) (wrap64 (by have := g231; omega)) ?_
         refine s_qk (.int .i64 (i2 + 1)) (by kernel_rfl) ?_
         refine s_nil ?_
         obtain rfl := Option.some.inj r232
         exact k147 n143 _ _ (Nat.lt_succ_self _) ⟨(i2 + 1), hn146, ⟨by kernel_rfl, by kernel_rfl, by kernel_rfl, trivial⟩, (FrS.step e21.wf (FrS.step e21.wf (FrS.refl (W := []) e21.wf) e140 Inn.nil) e164 Inn.nil)⟩
       ·have r233 := ite_f h150 hz145
        refine w_exit (th_exit (th_exit (bl_eq ?_)))
        obtain rfl := Option.some.inj r233
        obtain rfl := it_inr hn146
        exact k135 _ _ ⟨_, rfl, trivial, (FrS.step e21.wf (FrS.refl (W := []) e21.wf) e140 Inn.nil)⟩
      ·obtain ⟨o129, rfl, hh136, e134⟩ := hM
       have r234 := elim_inr r131
       obtain ⟨β, rfl⟩ := has_ex hh136
       clear hh136
       refine k127 _ _ ?_
       refine w_seqk fun K235 k235 => ?_
       refine w_reg (by kernel_rfl) ?_
       refine s_qk (.nilIface) (by kernel_rfl) ?_
       refine s_nil ?_
       refine k235 _ _ ?_
       refine w_ret ?_
       refine b_ret (fn := Tryd.f29) (vs := [.nilIface]) (aRes_tmp (by kernel_rfl) (rfl)) ?_
       obtain rfl := Option.some.inj r234
       exact ⟨(.nilIface), [], rfl, (FrS.step wf (FrS.step wf ((FrS.refl (W := []) wf).extR e9) e21 Inn.nil) e134 Inn.nil), Ev.nil, Inn.nil⟩

theorem c_viaductref01_E {H : AH} {n_ : Int} {r : Int}
  (wf : WF H) (hr : z_viaductref01_E n_ = some r) :
  ACalls Tryd.prog 26 #[.int .i64 n_] H fun v H' => v = .agg #[.int .i64 r, .slice none 0 0] ∧ FrS [] H H' := by
 refine acalls_of_body mixed Tryd.func26 rfl (Nat.le_of_ble_eq_true rfl) ?_
 unfold z_viaductref01_E at hr
 refine w_seqk fun K1 k1 => ?_
 refine w_reg (by kernel_rfl) ?_
 refine s_rwk wf [.int .i64 0, .slice none 0 0] (by kernel_rfl) fun b2 H3 e4 hb5 r6 => ?_
 refine s_nil ?_
 refine k1 _ _ ?_
 refine w_seqk fun K8 k8 => ?_
 refine w_reg (by kernel_rfl) ?_
 refine s_qk (.int .i64 n_) (by kernel_rfl) ?_
 refine s_qk (.agg #[.int .i64 n_, .slice none 0 0]) (by kernel_rfl) ?_
 obtain ⟨H9, q10, e11, r12⟩ := Row.store (P := Tryd.prog) (t := 33) (p := 0) e4.wf r6 (.agg #[.int .i64 n_, .slice none 0 0]) [.int .i64 n_, .slice none 0 0] (by kernel_rfl) (by kernel_rfl) (one_cons (rfl) (one_cons (rfl) (one_nil))) (Nat.le_of_ble_eq_true (by kernel_rfl)) [.int .i64 n_, .slice none 0 0] (by kernel_rfl)
 refine s_ek (undef) (by kernel_rfl) (map_ok q10) ?_
 refine s_nil ?_
 refine k8 _ _ ?_
 refine w_ret ?_
 refine b_ret (fn := Tryd.f26) (vs := [.agg #[.int .i64 n_, .slice none 0 0]]) (aRes_cell (Eq.trans (b := aLoad Tryd.prog 33 (.pointer (some ⟨b2, 0, none⟩)) H9) (by kernel_rfl) (r12.ld (by kernel_rfl))) (rfl)) ?_
 obtain rfl := Option.some.inj hr
 exact ⟨rfl, (FrS.step wf ((FrS.refl (W := []) wf).extR e4) e11 (hb5.fresh (Nat.le_refl _)))⟩

theorem c_viaductref01_At {H : AH} {hd_Places : Value} {fp_Places : Fp} {kind : Int} {at_ : Int} {Code : Int} {Places : List (Int × Int)} {r : Int × List (Int × Int)}
  (wf : WF H) (h_Places : Sq enc_i64_i64 2 H hd_Places Places fp_Places) (hr : z_viaductref01_At kind at_ Code Places = some r) :
  ACalls Tryd.prog 27 #[.int .i64 kind, .int .i64 at_, .agg #[.int .i64 Code, hd_Places]] H fun v H' => ∃ (s3 : Value) (f4 : Fp), v = .agg #[.int .i64 r.1, s3] ∧ FrS [] H H' ∧ Ow enc_i64_i64 2 H' s3 r.2 f4 ∧ Inn [] H f4 := by
 refine acalls_of_body mixed Tryd.func27 rfl (Nat.le_of_ble_eq_true rfl) ?_
 unfold z_viaductref01_At at hr
 refine w_seqk fun K6 k6 => ?_
 refine w_reg (by kernel_rfl) ?_
 refine s_rwl wf [.int .i64 Code, hd_Places] (one_cons (rfl) (one_cons (h_Places.one1) (one_nil))) (by kernel_rfl) fun b7 H8 e9 hb10 r11 => ?_
 refine s_rwk e9.wf [.int .i64 0, .slice none 0 0] (by kernel_rfl) fun b13 H14 e15 hb16 r17 => ?_
 refine s_nil ?_
 refine k6 _ _ ?_
 refine w_seqk fun K19 k19 => ?_
 refine w_reg (by kernel_rfl) ?_
 refine s_qk (.int .i64 kind) (by kernel_rfl) ?_
 refine s_qk (.int .i64 at_) (by kernel_rfl) ?_
 refine s_qk (.agg #[.int .i64 kind, .int .i64 at_]) (by kernel_rfl) ?_
 refine s_owk (enc := enc_i64_i64) (sz := 2) e15.wf [(kind, at_)] 1 (by decide) (fun _ _ => rfl) (fun _ _ => rfl) rfl (by kernel_rfl) fun s20 f21 H22 e23 hf24 hm25 => ?_
 obtain ⟨a26, n27, c28, rfl⟩ := hm25.form
 refine s_qk (.slice a26 n27 c28) (by kernel_rfl) ?_
 refine s_nil ?_
 refine k19 _ _ ?_
 refine w_seqk fun K30 k30 => ?_
 refine w_reg (by kernel_rfl) ?_
 refine s_qk (.slice a26 n27 c28) (by kernel_rfl) ?_
 refine s_qk (.pointer (some ⟨b7, 1, none⟩)) (by kernel_rfl) ?_
 have u31 := ((r11.ext e15).ext e23)
 refine s_ql (hd_Places) (x := aLoad Tryd.prog 31 (.pointer (some ⟨b7, 1, none⟩)) H22) (by kernel_rfl) (u31.ld (by kernel_rfl)) ?_
 obtain ⟨g32, r33⟩ := G_some hr
 have u41 := (((h_Places.ext e9).ext e15).ext e23)
 obtain ⟨s34, H35, f36, q40, e37, hm38, hf39⟩ := Ow.append (P := Tryd.prog) 16 e23.wf hm25 u41 (fun _ _ => rfl) (at_ := #[31, 31]) rfl rfl (by kernel_rfl) (by kernel_rfl) (by decide) (by have := g32; first | omega | (simp only [List.length_cons, List.length_nil] at this ⊢; omega) | (simp at this ⊢; omega))
 obtain ⟨a42, n43, c44, rfl⟩ := hm38.form
 refine s_ek (.slice a42 n43 c44) (by kernel_rfl) (q40) ?_
 refine s_qk (.slice a42 n43 c44) (by kernel_rfl) ?_
 refine s_nil ?_
 refine k30 _ _ ?_
 refine w_seqk fun K46 k46 => ?_
 refine w_reg (by kernel_rfl) ?_
 refine s_qk (.pointer (some ⟨b7, 0, none⟩)) (by kernel_rfl) ?_
 have u47 := (u31.frS e37 (hf24.djn (r11.ltF.le e15.next)))
 refine s_ql (.int .i64 Code) (x := aLoad Tryd.prog 3 (.pointer (some ⟨b7, 0, none⟩)) H35) (by kernel_rfl) (u47.ld (by kernel_rfl)) ?_
 refine s_qk (.slice a42 n43 c44) (by kernel_rfl) ?_
 refine s_qk (.agg #[.int .i64 Code, .slice a42 n43 c44]) (by kernel_rfl) ?_
 have u52 := ((r17.ext e23).frS e37 (hf24.djn r17.ltF))
 obtain ⟨H48, q49, e50, r51⟩ := Row.store (P := Tryd.prog) (t := 33) (p := 0) e37.wf u52 (.agg #[.int .i64 Code, .slice a42 n43 c44]) [.int .i64 Code, .slice a42 n43 c44] (by kernel_rfl) (by kernel_rfl) (one_cons (rfl) (one_cons (hm38.one1) (one_nil))) (Nat.le_of_ble_eq_true (by kernel_rfl)) [.int .i64 Code, .slice a42 n43 c44] (by kernel_rfl)
 refine s_ek (undef) (by kernel_rfl) (map_ok q49) ?_
 refine s_nil ?_
 refine k46 _ _ ?_
 refine w_ret ?_
 refine b_ret (fn := Tryd.f27) (vs := [.agg #[.int .i64 Code, .slice a42 n43 c44]]) (aRes_cell (Eq.trans (b := aLoad Tryd.prog 33 (.pointer (some ⟨b13, 0, none⟩)) H48) (by kernel_rfl) (r51.ld (by kernel_rfl))) (rfl)) ?_
 have u53 := (hm38.fr e50 (Dj.symm (hf39.dj (hf24.djn r17.ltF) (r17.ltF.le e23.next))))
 obtain rfl := Option.some.inj r33
 exact ⟨(.slice a42 n43 c44), f36, rfl, (FrS.step wf (FrS.step wf ((((FrS.refl (W := []) wf).extR e9).extR e15).extR e23) e37 (hf24.fresh (ntr e9.next e15.next))) e50 (hb16.fresh e9.next)), u53, (Inn.trans (hf24.fresh (ntr e9.next e15.next)) (ntr (ntr e9.next e15.next) e23.next) hf39)⟩


end Go.Vd

/-! (KCc1) -/

set_option maxRecDepth 100000
set_option maxHeartbeats 4000000
set_option linter.unusedVariables false
namespace Go.Vd
open Go.Proofs
attribute [local irreducible] wpSeq wpOrd aWp
theorem c_viaductref05_DocCheck {H : AH} {hd_First : Value} {fp_First : Fp} {hd_To : Value} {fp_To : Fp} {hd_Weight : Value} {fp_Weight : Fp} {First : List (Int)} {To : List (Int)} {Weight : List (Int)} {r : Int × List (Int × Int)}
  (wf : WF H) (h_First : Sq (encI .i64) 1 H hd_First First fp_First) (h_To : Sq (encI .i64) 1 H hd_To To fp_To) (h_Weight : Sq (encI .i64) 1 H hd_Weight Weight fp_Weight) (hr : z_viaductref05_DocCheck First To Weight = some r) :
  ACalls Tryd.prog 31 #[.agg #[hd_First, hd_To, hd_Weight]] H fun v H' => ∃ (s3 : Value) (f4 : Fp), v = .agg #[.int .i64 r.1, s3] ∧ FrS [] H H' ∧ Ow enc_i64_i64 2 H' s3 r.2 f4 ∧ Inn [] H f4 := by
 refine acalls_of_body mixed Tryd.func31 rfl (Nat.le_of_ble_eq_true rfl) ?_
 unfold z_viaductref05_DocCheck at hr
 refine w_seqk fun K6 k6 => ?_
 refine w_reg (by kernel_rfl) ?_
 refine s_rwl wf [hd_First, hd_To, hd_Weight] (one_cons (h_First.one1) (one_cons (h_To.one1) (one_cons (h_Weight.one1) (one_nil)))) (by kernel_rfl) fun b7 H8 e9 hb10 r11 => ?_
 refine s_rwk e9.wf [.int .i64 0, .slice none 0 0] (by kernel_rfl) fun b13 H14 e15 hb16 r17 => ?_
 refine s_nil ?_
 refine k6 _ _ ?_
 refine w_seqk fun K19 k19 => ?_
 refine w_draw [0, 1, 2, 3, 4, 5, 6, 7, 8] (by kernel_rfl) ?_
 refine d_qk (.pointer (some ⟨b7, 0, none⟩)) (by kernel_rfl) ?_
 have u20 := (r11.ext e15)
 refine d_ql (hd_First) (x := aLoad Tryd.prog 42 (.pointer (some ⟨b7, 0, none⟩)) H14) (by kernel_rfl) (u20.ld (by kernel_rfl)) ?_
 have u21 := ((h_First.ext e9).ext e15)
 refine d_ql (.int .i64 (First.length : Int)) (x := aLen Tryd.prog 42 hd_First H14) (by kernel_rfl) (u21.lenb (by kernel_rfl)) ?_
 obtain ⟨g22, r23⟩ := G_some hr
 refine d_w (((First.length : Int) - 1)) (k := .i64) (x := ((First.length : Int) - 1)) (by kernel_rfl) (wrap64 g22) ?_
 refine d_qk (.pointer (some ⟨b7, 1, none⟩)) (by kernel_rfl) ?_
 refine d_ql (hd_To) (x := aLoad Tryd.prog 42 (.pointer (some ⟨b7, 1, none⟩)) H14) (by kernel_rfl) (u20.ld (by kernel_rfl)) ?_
 have u24 := ((h_To.ext e9).ext e15)
 refine d_ql (.int .i64 (To.length : Int)) (x := aLen Tryd.prog 42 hd_To H14) (by kernel_rfl) (u24.lenb (by kernel_rfl)) ?_
 refine d_qk (.int .i64 ((First.length : Int) - 1)) (by kernel_rfl) ?_
 refine d_qk (.int .i64 (To.length : Int)) (by kernel_rfl) ?_
 refine d_nil ?_
 refine k19 _ _ ?_
 refine w_seqk fun K25 k25 => ?_
 refine w_seqk fun K26 k26 => ?_
 obtain ⟨o27, hx28, r29⟩ := bind_some r23
 refine w_mid (fun α H30 => Has α [(1, .pointer (some ⟨b7, 0, none⟩)), (2, .pointer (some ⟨b13, 0, none⟩)), (3, .int .i64 ((First.length : Int) - 1)), (4, .int .i64 (To.length : Int)), (40, .bool o27)] ∧ H14 = H30) (fun K32 k32 => ?_) (fun α H30 hM => ?_)
 ·refine w_reg (by kernel_rfl) ?_
  refine s_qk (.int .i64 ((First.length : Int) - 1)) (by kernel_rfl) ?_
  refine s_b (((First.length : Int) - 1) < 0) (by kernel_rfl) (fun h34 => ?_) (fun h34 => ?_)
  ·have r35 := ite_t h34 hx28
   refine s_qk (.bool true) (by kernel_rfl) ?_
   refine s_no (by kernel_rfl) ?_
   refine s_no (by kernel_rfl) ?_
   refine s_no (by kernel_rfl) ?_
   refine s_no (by kernel_rfl) ?_
   refine s_no (by kernel_rfl) ?_
   refine s_qk (.bool true) (by kernel_rfl) ?_
   refine s_qk (.bool true) (by kernel_rfl) ?_
   refine s_no (by kernel_rfl) ?_
   refine s_no (by kernel_rfl) ?_
   refine s_no (by kernel_rfl) ?_
   refine s_no (by kernel_rfl) ?_
   refine s_no (by kernel_rfl) ?_
   refine s_no (by kernel_rfl) ?_
   refine s_no (by kernel_rfl) ?_
   refine s_qk (.bool true) (by kernel_rfl) ?_
   refine s_qk (.bool true) (by kernel_rfl) ?_
   refine s_no (by kernel_rfl) ?_
   refine s_no (by kernel_rfl) ?_
   refine s_no (by kernel_rfl) ?_
   refine s_no (by kernel_rfl) ?_
   refine s_no (by kernel_rfl) ?_
   refine s_qk (.bool true) (by kernel_rfl) ?_
   refine s_nil ?_
   obtain rfl := Option.some.inj r35
   exact k32 _ _ ⟨⟨by kernel_rfl, by kernel_rfl, by kernel_rfl, by kernel_rfl, by kernel_rfl, trivial⟩, rfl⟩
  ·have r36 := ite_f h34 hx28
   refine s_qk (.bool false) (by kernel_rfl) ?_
   refine s_qk (.pointer (some ⟨b7, 0, none⟩)) (by kernel_rfl) ?_
   refine s_ql (hd_First) (x := aLoad Tryd.prog 42 (.pointer (some ⟨b7, 0, none⟩)) H14) (by kernel_rfl) (u20.ld (by kernel_rfl)) ?_
   obtain ⟨g37, r38⟩ := G_some r36
   refine s_ql (elp hd_First 1 (0 : Int).toNat 0) (x := aIndexAddr Tryd.prog 42 hd_First (.int .i64 0)) (by kernel_rfl) (u21.idxb (by kernel_rfl) (by decide) g37) ?_
   refine s_ql (.int .i64 (gt First 0)) (x := aLoad Tryd.prog 3 (elp hd_First 1 (0 : Int).toNat 0) H14) (by kernel_rfl) (u21.ld (by decide) g37 (by kernel_rfl)) ?_
   refine s_bn ((gt First 0) = 0) (by kernel_rfl) (fun h39 => ?_) (fun h39 => ?_)
   ·have r40 := ite_t h39 r38
    refine s_qk (.bool false) (by kernel_rfl) ?_
    refine s_qk (.bool false) (by kernel_rfl) ?_
    refine s_qk (.pointer (some ⟨b7, 0, none⟩)) (by kernel_rfl) ?_
    refine s_ql (hd_First) (x := aLoad Tryd.prog 42 (.pointer (some ⟨b7, 0, none⟩)) H14) (by kernel_rfl) (u20.ld (by kernel_rfl)) ?_
    refine s_qk (.int .i64 ((First.length : Int) - 1)) (by kernel_rfl) ?_
    obtain ⟨g41, r42⟩ := G_some r40
    refine s_ql (elp hd_First 1 ((First.length : Int) - 1).toNat 0) (x := aIndexAddr Tryd.prog 42 hd_First (.int .i64 ((First.length : Int) - 1))) (by kernel_rfl) (u21.idxb (by kernel_rfl) g41.1 g41.2) ?_
    refine s_ql (.int .i64 (gt First ((First.length : Int) - 1))) (x := aLoad Tryd.prog 3 (elp hd_First 1 ((First.length : Int) - 1).toNat 0) H14) (by kernel_rfl) (u21.ld g41.1 g41.2 (by kernel_rfl)) ?_
    refine s_qk (.int .i64 (To.length : Int)) (by kernel_rfl) ?_
    refine s_bn ((gt First ((First.length : Int) - 1)) = (To.length : Int)) (by kernel_rfl) (fun h43 => ?_) (fun h43 => ?_)
    ·have r44 := ite_t h43 r42
     refine s_qk (.bool false) (by kernel_rfl) ?_
     refine s_qk (.bool false) (by kernel_rfl) ?_
     refine s_qk (.pointer (some ⟨b7, 2, none⟩)) (by kernel_rfl) ?_
     refine s_ql (hd_Weight) (x := aLoad Tryd.prog 42 (.pointer (some ⟨b7, 2, none⟩)) H14) (by kernel_rfl) (u20.ld (by kernel_rfl)) ?_
     have u45 := ((h_Weight.ext e9).ext e15)
     refine s_ql (.int .i64 (Weight.length : Int)) (x := aLen Tryd.prog 42 hd_Weight H14) (by kernel_rfl) (u45.lenb (by kernel_rfl)) ?_
     refine s_qk (.int .i64 (To.length : Int)) (by kernel_rfl) ?_
     refine s_qk (.bool (!decide ((Weight.length : Int) = (To.length : Int)))) (by kernel_rfl) ?_
     refine s_qk (.bool (!decide ((Weight.length : Int) = (To.length : Int)))) (by kernel_rfl) ?_
     refine s_nil ?_
     obtain rfl := Option.some.inj r44
     exact k32 _ _ ⟨⟨by kernel_rfl, by kernel_rfl, by kernel_rfl, by kernel_rfl, by kernel_rfl, trivial⟩, rfl⟩
    ·have r46 := ite_f h43 r42
     refine s_qk (.bool true) (by kernel_rfl) ?_
     refine s_qk (.bool true) (by kernel_rfl) ?_
     refine s_no (by kernel_rfl) ?_
     refine s_no (by kernel_rfl) ?_
     refine s_no (by kernel_rfl) ?_
     refine s_no (by kernel_rfl) ?_
     refine s_no (by kernel_rfl) ?_
     refine s_qk (.bool true) (by kernel_rfl) ?_
     refine s_nil ?_
     obtain rfl := Option.some.inj r46
     exact k32 _ _ ⟨⟨by kernel_rfl, by kernel_rfl, by kernel_rfl, by kernel_rfl, by kernel_rfl, trivial⟩, rfl⟩
   ·have r47 := ite_f h39 r38
    refine s_qk (.bool true) (by kernel_rfl) ?_
    refine s_qk (.bool true) (by kernel_rfl) ?_
    refine s_no (by kernel_rfl) ?_
    refine s_no (by kernel_rfl) ?_
    refine s_no (by kernel_rfl) ?_
    refine s_no (by kernel_rfl) ?_
    refine s_no (by kernel_rfl) ?_
    refine s_no (by kernel_rfl) ?_
    refine s_no (by kernel_rfl) ?_
    refine s_qk (.bool true) (by kernel_rfl) ?_
    refine s_qk (.bool true) (by kernel_rfl) ?_
    refine s_no (by kernel_rfl) ?_
    refine s_no (by kernel_rfl) ?_
    refine s_no (by kernel_rfl) ?_
    refine s_no (by kernel_rfl) ?_
    refine s_no (by kernel_rfl) ?_
    refine s_qk (.bool true) (by kernel_rfl) ?_
    refine s_nil ?_
    obtain rfl := Option.some.inj r47
    exact k32 _ _ ⟨⟨by kernel_rfl, by kernel_rfl, by kernel_rfl, by kernel_rfl, by kernel_rfl, trivial⟩, rfl⟩
 ·obtain ⟨hh33, rfl⟩ := hM
  obtain ⟨β, rfl⟩ := has_ex hh33
  clear hh33
  refine k26 _ _ ?_
  refine w_cond (o27) (by kernel_rfl) rfl (fun h48 => ?_) (fun h48 => ?_)
  ·have r49 := ite_t h48 r29
   refine w_seqk fun K50 k50 => ?_
   refine w_reg (by kernel_rfl) ?_
   obtain ⟨y51, hy52, r53⟩ := bind_some r49
   refine s_ck 26 #[.int .i64 14] (by kernel_rfl) (c_viaductref01_E e15.wf hy52) ?_
   rintro _ H54 ⟨rfl, e55⟩
   have u60 := (r17.frS e55 Dj.nil_l)
   obtain ⟨H56, q57, e58, r59⟩ := Row.store (P := Tryd.prog) (t := 33) (p := 0) e55.wf u60 (.agg #[.int .i64 y51, .slice none 0 0]) [.int .i64 y51, .slice none 0 0] (by kernel_rfl) (by kernel_rfl) (one_cons (rfl) (one_cons (rfl) (one_nil))) (Nat.le_of_ble_eq_true (by kernel_rfl)) [.int .i64 y51, .slice none 0 0] (by kernel_rfl)
   refine s_ek (undef) (by kernel_rfl) (map_ok q57) ?_
   refine s_nil ?_
   refine k50 _ _ ?_
   refine w_ret (th_ret ?_)
   refine b_ret (fn := Tryd.f31) (vs := [.agg #[.int .i64 y51, .slice none 0 0]]) (aRes_cell (Eq.trans (b := aLoad Tryd.prog 33 (.pointer (some ⟨b13, 0, none⟩)) H56) (by kernel_rfl) (r59.ld (by kernel_rfl))) (rfl)) ?_
   obtain rfl := Option.some.inj r53
   exact ⟨(.slice none 0 0), [], rfl, (FrS.step wf (FrS.step wf (((FrS.refl (W := []) wf).extR e9).extR e15) e55 Inn.nil) e58 (hb16.fresh e9.next)), (Ow.nil (by decide)), Inn.nil⟩
  ·have r61 := ite_bf h48 r29
   refine w_skip ?_
   refine k25 _ _ ?_
   refine w_seqk fun K62 k62 => ?_
   refine w_seqk fun K63 k63 => ?_
   obtain ⟨o64, hx65, r66⟩ := bind_some r61
   refine w_mid (fun α H67 => Has α [(1, .pointer (some ⟨b7, 0, none⟩)), (2, .pointer (some ⟨b13, 0, none⟩)), (3, .int .i64 ((First.length : Int) - 1)), (4, .int .i64 (To.length : Int)), (47, .bool o64)] ∧ H14 = H67) (fun K69 k69 => ?_) (fun α H67 hM => ?_)
   ·refine w_reg (by kernel_rfl) ?_
    refine s_qk (.int .i64 ((First.length : Int) - 1)) (by kernel_rfl) ?_
    refine s_b (((First.length : Int) - 1) > 65536) (by kernel_rfl) (fun h71 => ?_) (fun h71 => ?_)
    ·have r72 := ite_t h71 hx65
     refine s_qk (.bool true) (by kernel_rfl) ?_
     refine s_no (by kernel_rfl) ?_
     refine s_no (by kernel_rfl) ?_
     refine s_qk (.bool true) (by kernel_rfl) ?_
     refine s_nil ?_
     obtain rfl := Option.some.inj r72
     exact k69 _ _ ⟨⟨by kernel_rfl, by kernel_rfl, by kernel_rfl, by kernel_rfl, by kernel_rfl, trivial⟩, rfl⟩
    ·have r73 := ite_f h71 hx65
     refine s_qk (.bool false) (by kernel_rfl) ?_
     refine s_qk (.int .i64 (To.length : Int)) (by kernel_rfl) ?_
     refine s_qk (.bool (decide ((To.length : Int) > 262144))) (by kernel_rfl) ?_
     refine s_qk (.bool (decide ((To.length : Int) > 262144))) (by kernel_rfl) ?_
     refine s_nil ?_
     obtain rfl := Option.some.inj r73
     exact k69 _ _ ⟨⟨by kernel_rfl, by kernel_rfl, by kernel_rfl, by kernel_rfl, by kernel_rfl, trivial⟩, rfl⟩
   ·obtain ⟨hh70, rfl⟩ := hM
    obtain ⟨β, rfl⟩ := has_ex hh70
    clear hh70
    refine k63 _ _ ?_
    refine w_cond (o64) (by kernel_rfl) rfl (fun h74 => ?_) (fun h74 => ?_)
    ·have r75 := ite_t h74 r66
     refine w_seqk fun K76 k76 => ?_
     refine w_reg (by kernel_rfl) ?_
     obtain ⟨y77, hy78, r79⟩ := bind_some r75
     refine s_ck 26 #[.int .i64 9] (by kernel_rfl) (c_viaductref01_E e15.wf hy78) ?_
     rintro _ H80 ⟨rfl, e81⟩
     have u86 := (r17.frS e81 Dj.nil_l)
     obtain ⟨H82, q83, e84, r85⟩ := Row.store (P := Tryd.prog) (t := 33) (p := 0) e81.wf u86 (.agg #[.int .i64 y77, .slice none 0 0]) [.int .i64 y77, .slice none 0 0] (by kernel_rfl) (by kernel_rfl) (one_cons (rfl) (one_cons (rfl) (one_nil))) (Nat.le_of_ble_eq_true (by kernel_rfl)) [.int .i64 y77, .slice none 0 0] (by kernel_rfl)
     refine s_ek (undef) (by kernel_rfl) (map_ok q83) ?_
     refine s_nil ?_
     refine k76 _ _ ?_
     refine w_ret (th_ret ?_)
     refine b_ret (fn := Tryd.f31) (vs := [.agg #[.int .i64 y77, .slice none 0 0]]) (aRes_cell (Eq.trans (b := aLoad Tryd.prog 33 (.pointer (some ⟨b13, 0, none⟩)) H82) (by kernel_rfl) (r85.ld (by kernel_rfl))) (rfl)) ?_
     obtain rfl := Option.some.inj r79
     exact ⟨(.slice none 0 0), [], rfl, (FrS.step wf (FrS.step wf (((FrS.refl (W := []) wf).extR e9).extR e15) e81 Inn.nil) e84 (hb16.fresh e9.next)), (Ow.nil (by decide)), Inn.nil⟩
    ·have r87 := ite_bf h74 r66
     refine w_skip ?_
     refine k62 _ _ ?_
     refine w_seqk fun K88 k88 => ?_
     refine w_seqk fun K89 k89 => ?_
     refine w_reg (by kernel_rfl) ?_
     refine s_qk (.int .i64 0) (by kernel_rfl) ?_
     refine s_nil ?_
     refine k89 _ _ ?_
     obtain ⟨z93, hx91, r92⟩ := bind_some r87
     refine w_mid (fun α H94 => ∃ o90, z93 = Sum.inr o90 ∧ Has α [(1, .pointer (some ⟨b7, 0, none⟩)), (2, .pointer (some ⟨b13, 0, none⟩)), (3, .int .i64 ((First.length : Int) - 1)), (4, .int .i64 (To.length : Int))] ∧ H14 = H94) (fun K96 k96 => ?_) (fun α H94 hM => ?_)
     ·refine w_block ?_
      obtain ⟨n98, hn99⟩ := loopO_iff.1 hx91
      refine w_loopn (fun n α H100 => ∃ (v0 : Int), iterO (fun zz_ => z_viaductref05_DocCheck_l0 First zz_) n v0 = some z93 ∧ Has α [(1, .pointer (some ⟨b7, 0, none⟩)), (2, .pointer (some ⟨b13, 0, none⟩)), (3, .int .i64 ((First.length : Int) - 1)), (4, .int .i64 (To.length : Int)), (5, .int .i64 v0)] ∧ H14 = H100) n98 ⟨0, hn99, ⟨by kernel_rfl, by kernel_rfl, by kernel_rfl, by kernel_rfl, by kernel_rfl, trivial⟩, rfl⟩ ?_
      rintro n98 α H100 ⟨v0, hi103, hh102, rfl⟩ K108 k108
      obtain ⟨n104, z105, rfl, hz106, hn107⟩ := iter_succ hi103
      obtain ⟨β, rfl⟩ := has_ex hh102
      clear hh102
      replace hz106 : z_viaductref05_DocCheck_l0 First v0 = some z105 := hz106
      unfold z_viaductref05_DocCheck_l0 at hz106
      refine w_seqk fun K109 k109 => ?_
      refine w_seqk fun K110 k110 => ?_
      refine w_reg (by kernel_rfl) ?_
      refine s_qk (.int .i64 v0) (by kernel_rfl) ?_
      refine s_qk (.int .i64 ((First.length : Int) - 1)) (by kernel_rfl) ?_
      refine s_qk (.bool (decide (v0 < ((First.length : Int) - 1)))) (by kernel_rfl) ?_
      refine s_nil ?_
      refine k110 _ _ ?_
      refine w_condp (v0 < ((First.length : Int) - 1)) (by kernel_rfl) rfl (fun h111 => ?_) (fun h111 => ?_)
      ·have r112 := ite_t h111 hz106
       refine w_skip ?_
       refine k109 _ _ ?_
       refine w_seqk fun K113 k113 => ?_
       refine w_block ?_
       refine w_seqk fun K114 k114 => ?_
       refine w_draw [0, 1, 2, 3, 4, 5, 6, 7, 8, 9, 10, 11] (by kernel_rfl) ?_
       refine d_qk (.pointer (some ⟨b7, 0, none⟩)) (by kernel_rfl) ?_
       refine d_ql (hd_First) (x := aLoad Tryd.prog 42 (.pointer (some ⟨b7, 0, none⟩)) H14) (by kernel_rfl) (u20.ld (by kernel_rfl)) ?_
       refine d_qk (.int .i64 v0) (by kernel_rfl) ?_
       obtain ⟨g115, r116⟩ := G_some r112
       refine d_w ((v0 + 1)) (k := .i64) (x := (v0 + 1)) (by kernel_rfl) (wrap64 g115) ?_
       obtain ⟨g117, r118⟩ := G_some r116
       refine d_ql (elp hd_First 1 (v0 + 1).toNat 0) (x := aIndexAddr Tryd.prog 42 hd_First (.int .i64 (v0 + 1))) (by kernel_rfl) (u21.idxb (by kernel_rfl) g117.1 g117.2) ?_
       refine d_ql (.int .i64 (gt First (v0 + 1))) (x := aLoad Tryd.prog 3 (elp hd_First 1 (v0 + 1).toNat 0) H14) (by kernel_rfl) (u21.ld g117.1 g117.2 (by kernel_rfl)) ?_
       refine d_qk (.pointer (some ⟨b7, 0, none⟩)) (by kernel_rfl) ?_
       refine d_ql (hd_First) (x := aLoad Tryd.prog 42 (.pointer (some ⟨b7, 0, none⟩)) H14) (by kernel_rfl) (u20.ld (by kernel_rfl)) ?_
       refine d_qk (.int .i64 v0) (by kernel_rfl) ?_
       obtain ⟨g119, r120⟩ := G_some r118
       refine d_ql (elp hd_First 1 v0.toNat 0) (x := aIndexAddr Tryd.prog 42 hd_First (.int .i64 v0)) (by kernel_rfl) (u21.idxb (by kernel_rfl) g119.1 g119.2) ?_
       refine d_ql (.int .i64 (gt First v0)) (x := aLoad Tryd.prog 3 (elp hd_First 1 v0.toNat 0) H14) (by kernel_rfl) (u21.ld g119.1 g119.2 (by kernel_rfl)) ?_
       refine d_qk (.bool (decide ((gt First (v0 + 1)) < (gt First v0)))) (by kernel_rfl) ?_
       refine d_nil ?_
       refine k114 _ _ ?_
       refine w_condp ((gt First (v0 + 1)) < (gt First v0)) (by kernel_rfl) rfl (fun h121 => ?_) (fun h121 => ?_)
       ·have r122 := ite_t h121 r120
        refine w_seqk fun K123 k123 => ?_
        refine w_reg (by kernel_rfl) ?_
        refine s_qk (.int .i64 v0) (by kernel_rfl) ?_
        obtain ⟨y124, hy125, r126⟩ := bind_some r122
        refine s_ck 26 #[.int .i64 14] (by kernel_rfl) (c_viaductref01_E e15.wf hy125) ?_
        rintro _ H127 ⟨rfl, e128⟩
        obtain ⟨y129, hy130, r131⟩ := bind_some r126
        refine s_ck 27 #[.int .i64 3, .int .i64 v0, .agg #[.int .i64 y124, .slice none 0 0]] (by kernel_rfl) (c_viaductref01_At e128.wf (Sq.nil (enc := enc_i64_i64) (sz := 2) (by decide)) hy130) ?_
        rintro _ H134 ⟨s132, f133, rfl, e135, m136, i137⟩
        obtain ⟨a139, n140, c141, rfl⟩ := m136.form
        have u146 := ((r17.frS e128 Dj.nil_l).frS e135 Dj.nil_l)
        obtain ⟨H142, q143, e144, r145⟩ := Row.store (P := Tryd.prog) (t := 33) (p := 0) e135.wf u146 (.agg #[.int .i64 y129.1, .slice a139 n140 c141]) [.int .i64 y129.1, .slice a139 n140 c141] (by kernel_rfl) (by kernel_rfl) (one_cons (rfl) (one_cons (m136.one1) (one_nil))) (Nat.le_of_ble_eq_true (by kernel_rfl)) [.int .i64 y129.1, .slice a139 n140 c141] (by kernel_rfl)
        refine s_ek (undef) (by kernel_rfl) (map_ok q143) ?_
        refine s_nil ?_
        refine k123 _ _ ?_
        refine w_ret (bl_ret (th_ret (th_ret (bl_ret (th_ret (th_ret ?_))))))
        obtain ⟨v147, hv148, hz149⟩ := map_some r131
        subst hz149
        obtain rfl := it_inr hn107
        have hq150 := elim_inl r92
        rw [hq150] at hv148
        refine b_ret (fn := Tryd.f31) (vs := [.agg #[.int .i64 y129.1, .slice a139 n140 c141]]) (aRes_cell (Eq.trans (b := aLoad Tryd.prog 33 (.pointer (some ⟨b13, 0, none⟩)) H142) (by kernel_rfl) (r145.ld (by kernel_rfl))) (rfl)) ?_
        have u151 := (m136.fr e144 (Dj.symm (i137.djn (r17.ltF.le e128.next))))
        obtain rfl := Option.some.inj hv148
        exact ⟨(.slice a139 n140 c141), f133, rfl, (FrS.step wf (FrS.step wf (FrS.step wf (((FrS.refl (W := []) wf).extR e9).extR e15) e128 Inn.nil) e135 Inn.nil) e144 (hb16.fresh e9.next)), u151, (i137.fresh (ntr (ntr e9.next e15.next) e128.next))⟩
       ·have r152 := ite_f h121 r120
        refine w_skip ?_
        refine k113 _ _ ?_
        refine w_reg (by kernel_rfl) ?_
        refine s_qk (.int .i64 v0) (by kernel_rfl) ?_
        obtain ⟨g153, r154⟩ := G_some r152
        refine s_w ((v0 + 1)) (k := .i64) (x := (v0 + 1)) (by kernel_rfl) (wrap64 (by have := g153; omega)) ?_
        refine s_qk (.int .i64 (v0 + 1)) (by kernel_rfl) ?_
        refine s_nil ?_
        obtain rfl := Option.some.inj r154
        exact k108 n104 _ _ (Nat.lt_succ_self _) ⟨(v0 + 1), hn107, ⟨by kernel_rfl, by kernel_rfl, by kernel_rfl, by kernel_rfl, by kernel_rfl, trivial⟩, rfl⟩
      ·have r155 := ite_f h111 hz106
       refine w_exit (th_exit (th_exit (bl_eq ?_)))
       obtain rfl := Option.some.inj r155
       obtain rfl := it_inr hn107
       exact k96 _ _ ⟨_, rfl, ⟨by kernel_rfl, by kernel_rfl, by kernel_rfl, by kernel_rfl, trivial⟩, rfl⟩
     ·obtain ⟨o90, rfl, hh97, rfl⟩ := hM
      have r156 := elim_inr r92
      obtain ⟨β, rfl⟩ := has_ex hh97
      clear hh97
      refine k88 _ _ ?_
      refine w_seqk fun K157 k157 => ?_
      refine w_reg (by kernel_rfl) ?_
      refine s_qk (.int .i64 0) (by kernel_rfl) ?_
      refine s_nil ?_
      refine k157 _ _ ?_
      refine w_seqk fun K158 k158 => ?_
      refine w_seqk fun K159 k159 => ?_
      refine w_reg (by kernel_rfl) ?_
      refine s_qk (.int .i64 0) (by kernel_rfl) ?_
      refine s_nil ?_
      refine k159 _ _ ?_
      obtain ⟨z163, hx161, r162⟩ := bind_some r156
      refine w_mid (fun α H164 => ∃ o160, z163 = Sum.inr o160 ∧ Has α [(2, .pointer (some ⟨b13, 0, none⟩))] ∧ H14 = H164) (fun K166 k166 => ?_) (fun α H164 hM => ?_)
      ·refine w_block ?_
       obtain ⟨n168, hn169⟩ := loopO_iff.1 hx161
       refine w_loopn (fun n α H170 => ∃ (v2 : Int), ∃ (i3 : Int), iterO (fun zz_ => z_viaductref05_DocCheck_l2 First To Weight zz_.1 zz_.2) n (v2, i3) = some z163 ∧ Has α [(1, .pointer (some ⟨b7, 0, none⟩)), (2, .pointer (some ⟨b13, 0, none⟩)), (3, .int .i64 ((First.length : Int) - 1)), (4, .int .i64 (To.length : Int)), (6, .int .i64 v2), (7, .int .i64 i3)] ∧ H14 = H170) n168 ⟨0, 0, hn169, ⟨by kernel_rfl, by kernel_rfl, by kernel_rfl, by kernel_rfl, by kernel_rfl, by kernel_rfl, trivial⟩, rfl⟩ ?_
       rintro n168 α H170 ⟨v2, i3, hi173, hh172, rfl⟩ K178 k178
       obtain ⟨n174, z175, rfl, hz176, hn177⟩ := iter_succ hi173
       obtain ⟨β, rfl⟩ := has_ex hh172
       clear hh172
       replace hz176 : z_viaductref05_DocCheck_l2 First To Weight v2 i3 = some z175 := hz176
       unfold z_viaductref05_DocCheck_l2 at hz176
       refine w_seqk fun K179 k179 => ?_
       refine w_seqk fun K180 k180 => ?_
       refine w_reg (by kernel_rfl) ?_
       refine s_qk (.int .i64 i3) (by kernel_rfl) ?_
       refine s_qk (.int .i64 (To.length : Int)) (by kernel_rfl) ?_
       refine s_qk (.bool (decide (i3 < (To.length : Int)))) (by kernel_rfl) ?_
       refine s_nil ?_
       refine k180 _ _ ?_
       refine w_condp (i3 < (To.length : Int)) (by kernel_rfl) rfl (fun h181 => ?_) (fun h181 => ?_)
       ·have r182 := ite_t h181 hz176
        refine w_skip ?_
        refine k179 _ _ ?_
        refine w_seqk fun K183 k183 => ?_
        refine w_block ?_
        refine w_seqk fun K184 k184 => ?_
        obtain ⟨o185, hx186, r187⟩ := bind_some r182
        refine w_mid (fun α H188 => Has α [(1, .pointer (some ⟨b7, 0, none⟩)), (2, .pointer (some ⟨b13, 0, none⟩)), (3, .int .i64 ((First.length : Int) - 1)), (4, .int .i64 (To.length : Int)), (6, .int .i64 o185), (7, .int .i64 i3)] ∧ H14 = H188) (fun K190 k190 => ?_) (fun α H188 hM => ?_)
        ·refine w_block ?_
         obtain ⟨n192, hn193⟩ := loopO_iff.1 hx186
         refine w_loopn (fun n α H194 => ∃ (v1 : Int), iterO (fun zz_ => z_viaductref05_DocCheck_l1 First i3 zz_) n v1 = some o185 ∧ Has α [(1, .pointer (some ⟨b7, 0, none⟩)), (2, .pointer (some ⟨b13, 0, none⟩)), (3, .int .i64 ((First.length : Int) - 1)), (4, .int .i64 (To.length : Int)), (6, .int .i64 v1), (7, .int .i64 i3)] ∧ H14 = H194) n192 ⟨v2, hn193, ⟨by kernel_rfl, by kernel_rfl, by kernel_rfl, by kernel_rfl, by kernel_rfl, by kernel_rfl, trivial⟩, rfl⟩ ?_
         rintro n192 α H194 ⟨v1, hi197, hh196, rfl⟩ K202 k202
         obtain ⟨n198, z199, rfl, hz200, hn201⟩ := iter_succ hi197
         obtain ⟨β, rfl⟩ := has_ex hh196
         clear hh196
         replace hz200 : z_viaductref05_DocCheck_l1 First i3 v1 = some z199 := hz200
         unfold z_viaductref05_DocCheck_l1 at hz200
         refine w_seqk fun K203 k203 => ?_
         refine w_seqk fun K204 k204 => ?_
         refine w_reg (by kernel_rfl) ?_
         refine s_qk (.pointer (some ⟨b7, 0, none⟩)) (by kernel_rfl) ?_
         refine s_ql (hd_First) (x := aLoad Tryd.prog 42 (.pointer (some ⟨b7, 0, none⟩)) H14) (by kernel_rfl) (u20.ld (by kernel_rfl)) ?_
         refine s_qk (.int .i64 v1) (by kernel_rfl) ?_
         obtain ⟨g205, r206⟩ := G_some hz200
         refine s_w ((v1 + 1)) (k := .i64) (x := (v1 + 1)) (by kernel_rfl) (wrap64 g205) ?_
         obtain ⟨g207, r208⟩ := G_some r206
         refine s_ql (elp hd_First 1 (v1 + 1).toNat 0) (x := aIndexAddr Tryd.prog 42 hd_First (.int .i64 (v1 + 1))) (by kernel_rfl) (u21.idxb (by kernel_rfl) g207.1 g207.2) ?_
         refine s_ql (.int .i64 (gt First (v1 + 1))) (x := aLoad Tryd.prog 3 (elp hd_First 1 (v1 + 1).toNat 0) H14) (by kernel_rfl) (u21.ld g207.1 g207.2 (by kernel_rfl)) ?_
         refine s_qk (.int .i64 i3) (by kernel_rfl) ?_
         refine s_qk (.bool (decide ((gt First (v1 + 1)) ≤ i3))) (by kernel_rfl) ?_
         refine s_nil ?_
         refine k204 _ _ ?_
         refine w_condp ((gt First (v1 + 1)) ≤ i3) (by kernel_rfl) rfl (fun h209 => ?_) (fun h209 => ?_)
         ·have r210 := ite_t h209 r208
          refine w_skip ?_
          refine k203 _ _ ?_
          refine w_block ?_
          refine w_reg (by kernel_rfl) ?_
          refine s_qk (.int .i64 v1) (by kernel_rfl) ?_
          obtain ⟨g211, r212⟩ := G_some r210
          refine s_w ((v1 + 1)) (k := .i64) (x := (v1 + 1)) (by kernel_rfl) (wrap64 (by have := g211; omega)) ?_
          refine s_qk (.int .i64 (v1 + 1)) (by kernel_rfl) ?_
          refine s_nil ?_
          obtain rfl := Option.some.inj r212
          exact k202 n198 _ _ (Nat.lt_succ_self _) ⟨(v1 + 1), hn201, ⟨by kernel_rfl, by kernel_rfl, by kernel_rfl, by kernel_rfl, by kernel_rfl, by kernel_rfl, trivial⟩, rfl⟩
         ·have r213 := ite_f h209 r208
          refine w_exit (th_exit (th_exit (bl_eq ?_)))
          obtain rfl := Option.some.inj r213
          obtain rfl := it_inr hn201
          exact k190 _ _ ⟨⟨by kernel_rfl, by kernel_rfl, by kernel_rfl, by kernel_rfl, by kernel_rfl, by kernel_rfl, trivial⟩, rfl⟩
        ·obtain ⟨hh191, rfl⟩ := hM
         obtain ⟨β, rfl⟩ := has_ex hh191
         clear hh191
         refine k184 _ _ ?_
         refine w_seqk fun K214 k214 => ?_
         refine w_reg (by kernel_rfl) ?_
         refine s_qk (.int .i64 0) (by kernel_rfl) ?_
         refine s_nil ?_
         refine k214 _ _ ?_
         refine w_seqk fun K215 k215 => ?_
         refine w_block ?_
         refine w_seqk fun K216 k216 => ?_
         obtain ⟨o217, hx218, r219⟩ := bind_some r187
         refine w_mid (fun α H220 => Has α [(1, .pointer (some ⟨b7, 0, none⟩)), (2, .pointer (some ⟨b13, 0, none⟩)), (3, .int .i64 ((First.length : Int) - 1)), (4, .int .i64 (To.length : Int)), (6, .int .i64 o185), (7, .int .i64 i3), (8, .int .i64 0), (84, .bool o217)] ∧ H14 = H220) (fun K222 k222 => ?_) (fun α H220 hM => ?_)
         ·refine w_reg (by kernel_rfl) ?_
          refine s_qk (.pointer (some ⟨b7, 1, none⟩)) (by kernel_rfl) ?_
          refine s_ql (hd_To) (x := aLoad Tryd.prog 42 (.pointer (some ⟨b7, 1, none⟩)) H14) (by kernel_rfl) (u20.ld (by kernel_rfl)) ?_
          refine s_qk (.int .i64 i3) (by kernel_rfl) ?_
          obtain ⟨g224, r225⟩ := G_some hx218
          refine s_ql (elp hd_To 1 i3.toNat 0) (x := aIndexAddr Tryd.prog 42 hd_To (.int .i64 i3)) (by kernel_rfl) (u24.idxb (by kernel_rfl) g224 h181) ?_
          refine s_ql (.int .i64 (gt To i3)) (x := aLoad Tryd.prog 3 (elp hd_To 1 i3.toNat 0) H14) (by kernel_rfl) (u24.ld g224 h181 (by kernel_rfl)) ?_
          refine s_b ((gt To i3) < 0) (by kernel_rfl) (fun h226 => ?_) (fun h226 => ?_)
          ·have r227 := ite_t h226 r225
           refine s_qk (.bool true) (by kernel_rfl) ?_
           refine s_no (by kernel_rfl) ?_
           refine s_no (by kernel_rfl) ?_
           refine s_no (by kernel_rfl) ?_
           refine s_no (by kernel_rfl) ?_
           refine s_no (by kernel_rfl) ?_
           refine s_no (by kernel_rfl) ?_
           refine s_no (by kernel_rfl) ?_
           refine s_qk (.bool true) (by kernel_rfl) ?_
           refine s_qk (.bool true) (by kernel_rfl) ?_
           refine s_nil ?_
           obtain rfl := Option.some.inj r227
           exact k222 _ _ ⟨⟨by kernel_rfl, by kernel_rfl, by kernel_rfl, by kernel_rfl, by kernel_rfl, by kernel_rfl, by kernel_rfl, by kernel_rfl, trivial⟩, rfl⟩
          ·have r228 := ite_f h226 r225
           refine s_qk (.bool false) (by kernel_rfl) ?_
           refine s_qk (.pointer (some ⟨b7, 1, none⟩)) (by kernel_rfl) ?_
           refine s_ql (hd_To) (x := aLoad Tryd.prog 42 (.pointer (some ⟨b7, 1, none⟩)) H14) (by kernel_rfl) (u20.ld (by kernel_rfl)) ?_
           refine s_qk (.int .i64 i3) (by kernel_rfl) ?_
           refine s_ql (elp hd_To 1 i3.toNat 0) (x := aIndexAddr Tryd.prog 42 hd_To (.int .i64 i3)) (by kernel_rfl) (u24.idxb (by kernel_rfl) g224 h181) ?_
           refine s_ql (.int .i64 (gt To i3)) (x := aLoad Tryd.prog 3 (elp hd_To 1 i3.toNat 0) H14) (by kernel_rfl) (u24.ld g224 h181 (by kernel_rfl)) ?_
           refine s_qk (.int .i64 ((First.length : Int) - 1)) (by kernel_rfl) ?_
           refine s_qk (.bool (decide ((gt To i3) ≥ ((First.length : Int) - 1)))) (by kernel_rfl) ?_
           refine s_qk (.bool (decide ((gt To i3) ≥ ((First.length : Int) - 1)))) (by kernel_rfl) ?_
           refine s_qk (.bool (decide ((gt To i3) ≥ ((First.length : Int) - 1)))) (by kernel_rfl) ?_
           refine s_nil ?_
           obtain rfl := Option.some.inj r228
           exact k222 _ _ ⟨⟨by kernel_rfl, by kernel_rfl, by kernel_rfl, by kernel_rfl, by kernel_rfl, by kernel_rfl, by kernel_rfl, by kernel_rfl, trivial⟩, rfl⟩
         ·obtain ⟨hh223, rfl⟩ := hM
          obtain ⟨β, rfl⟩ := has_ex hh223
          clear hh223
          refine k216 _ _ ?_
          obtain ⟨o229, hx230, r231⟩ := bind_some r219
          refine w_mid (fun α H232 => Has α [(1, .pointer (some ⟨b7, 0, none⟩)), (2, .pointer (some ⟨b13, 0, none⟩)), (3, .int .i64 ((First.length : Int) - 1)), (4, .int .i64 (To.length : Int)), (6, .int .i64 o185), (7, .int .i64 i3), (8, .int .i64 o229)] ∧ H14 = H232) (fun K234 k234 => ?_) (fun α H232 hM => ?_)
          ·refine w_cond (o217) (by kernel_rfl) rfl (fun h236 => ?_) (fun h236 => ?_)
           ·have r237 := ite_t h236 hx230
            refine w_reg (by kernel_rfl) ?_
            refine s_qk (.int .i64 7) (by kernel_rfl) ?_
            refine s_nil ?_
            obtain rfl := Option.some.inj r237
            exact k234 _ _ ⟨⟨by kernel_rfl, by kernel_rfl, by kernel_rfl, by kernel_rfl, by kernel_rfl, by kernel_rfl, by kernel_rfl, trivial⟩, rfl⟩
           ·have r238 := ite_bf h236 hx230
            refine w_seqk fun K239 k239 => ?_
            obtain ⟨o240, hx241, r242⟩ := bind_some r238
            refine w_mid (fun α H243 => Has α [(1, .pointer (some ⟨b7, 0, none⟩)), (2, .pointer (some ⟨b13, 0, none⟩)), (3, .int .i64 ((First.length : Int) - 1)), (4, .int .i64 (To.length : Int)), (6, .int .i64 o185), (7, .int .i64 i3), (8, .int .i64 0), (100, .bool o240)] ∧ H14 = H243) (fun K245 k245 => ?_) (fun α H243 hM => ?_)
            ·refine w_draw [0, 1, 2, 3, 4, 5, 6, 7, 8, 9, 10, 11, 12, 13, 14, 15, 16, 17, 18, 19, 20, 21, 22, 23, 24, 25, 26, 27, 28, 29, 30] (by kernel_rfl) ?_
             refine d_qk (.pointer (some ⟨b7, 1, none⟩)) (by kernel_rfl) ?_
             refine d_ql (hd_To) (x := aLoad Tryd.prog 42 (.pointer (some ⟨b7, 1, none⟩)) H14) (by kernel_rfl) (u20.ld (by kernel_rfl)) ?_
             refine d_qk (.int .i64 i3) (by kernel_rfl) ?_
             obtain ⟨g247, r248⟩ := G_some hx241
             refine d_ql (elp hd_To 1 i3.toNat 0) (x := aIndexAddr Tryd.prog 42 hd_To (.int .i64 i3)) (by kernel_rfl) (u24.idxb (by kernel_rfl) g247 h181) ?_
             refine d_ql (.int .i64 (gt To i3)) (x := aLoad Tryd.prog 3 (elp hd_To 1 i3.toNat 0) H14) (by kernel_rfl) (u24.ld g247 h181 (by kernel_rfl)) ?_
             refine d_qk (.int .i64 o185) (by kernel_rfl) ?_
             refine d_b ((gt To i3) = o185) (by kernel_rfl) (fun h249 => ?_) (fun h249 => ?_)
             ·have r250 := ite_t h249 r248
              refine d_qk (.bool true) (by kernel_rfl) ?_
              refine d_idle (by kernel_rfl) ?_
              refine d_idle (by kernel_rfl) ?_
              refine d_idle (by kernel_rfl) ?_
              refine d_idle (by kernel_rfl) ?_
              refine d_idle (by kernel_rfl) ?_
              refine d_idle (by kernel_rfl) ?_
              refine d_idle (by kernel_rfl) ?_
              refine d_idle (by kernel_rfl) ?_
              refine d_idle (by kernel_rfl) ?_
              refine d_idle (by kernel_rfl) ?_
              refine d_idle (by kernel_rfl) ?_
              refine d_idle (by kernel_rfl) ?_
              refine d_idle (by kernel_rfl) ?_
              refine d_idle (by kernel_rfl) ?_
              refine d_idle (by kernel_rfl) ?_
              refine d_idle (by kernel_rfl) ?_
              refine d_idle (by kernel_rfl) ?_
              refine d_idle (by kernel_rfl) ?_
              refine d_idle (by kernel_rfl) ?_
              refine d_idle (by kernel_rfl) ?_
              refine d_idle (by kernel_rfl) ?_
              refine d_qk (.bool true) (by kernel_rfl) ?_
              refine d_qk (.bool true) (by kernel_rfl) ?_
              refine d_nil ?_
              obtain rfl := Option.some.inj r250
              exact k245 _ _ ⟨⟨by kernel_rfl, by kernel_rfl, by kernel_rfl, by kernel_rfl, by kernel_rfl, by kernel_rfl, by kernel_rfl, by kernel_rfl, trivial⟩, rfl⟩
             ·have r251 := ite_f h249 r248
              refine d_qk (.bool false) (by kernel_rfl) ?_
              refine d_qk (.int .i64 i3) (by kernel_rfl) ?_
              refine d_qk (.pointer (some ⟨b7, 0, none⟩)) (by kernel_rfl) ?_
              refine d_ql (hd_First) (x := aLoad Tryd.prog 42 (.pointer (some ⟨b7, 0, none⟩)) H14) (by kernel_rfl) (u20.ld (by kernel_rfl)) ?_
              refine d_qk (.int .i64 o185) (by kernel_rfl) ?_
              obtain ⟨g252, r253⟩ := G_some r251
              refine d_ql (elp hd_First 1 o185.toNat 0) (x := aIndexAddr Tryd.prog 42 hd_First (.int .i64 o185)) (by kernel_rfl) (u21.idxb (by kernel_rfl) g252.1 g252.2) ?_
              refine d_ql (.int .i64 (gt First o185)) (x := aLoad Tryd.prog 3 (elp hd_First 1 o185.toNat 0) H14) (by kernel_rfl) (u21.ld g252.1 g252.2 (by kernel_rfl)) ?_
              refine d_b (i3 > (gt First o185)) (by kernel_rfl) (fun h254 => ?_) (fun h254 => ?_)
              ·have r255 := ite_t h254 r253
               refine d_qk (.bool true) (by kernel_rfl) ?_
               refine d_qk (.pointer (some ⟨b7, 1, none⟩)) (by kernel_rfl) ?_
               refine d_ql (hd_To) (x := aLoad Tryd.prog 42 (.pointer (some ⟨b7, 1, none⟩)) H14) (by kernel_rfl) (u20.ld (by kernel_rfl)) ?_
               refine d_qk (.int .i64 i3) (by kernel_rfl) ?_
               refine d_ql (elp hd_To 1 i3.toNat 0) (x := aIndexAddr Tryd.prog 42 hd_To (.int .i64 i3)) (by kernel_rfl) (u24.idxb (by kernel_rfl) g247 h181) ?_
               refine d_ql (.int .i64 (gt To i3)) (x := aLoad Tryd.prog 3 (elp hd_To 1 i3.toNat 0) H14) (by kernel_rfl) (u24.ld g247 h181 (by kernel_rfl)) ?_
               refine d_qk (.pointer (some ⟨b7, 1, none⟩)) (by kernel_rfl) ?_
               refine d_ql (hd_To) (x := aLoad Tryd.prog 42 (.pointer (some ⟨b7, 1, none⟩)) H14) (by kernel_rfl) (u20.ld (by kernel_rfl)) ?_
               refine d_qk (.int .i64 i3) (by kernel_rfl) ?_
               obtain ⟨g256, r257⟩ := G_some r255
               refine d_w ((i3 - 1)) (k := .i64) (x := (i3 - 1)) (by kernel_rfl) (wrap64 g256) ?_
               obtain ⟨g258, r259⟩ := G_some r257
               refine d_ql (elp hd_To 1 (i3 - 1).toNat 0) (x := aIndexAddr Tryd.prog 42 hd_To (.int .i64 (i3 - 1))) (by kernel_rfl) (u24.idxb (by kernel_rfl) g258.1 g258.2) ?_
               refine d_ql (.int .i64 (gt To (i3 - 1))) (x := aLoad Tryd.prog 3 (elp hd_To 1 (i3 - 1).toNat 0) H14) (by kernel_rfl) (u24.ld g258.1 g258.2 (by kernel_rfl)) ?_
               refine d_qk (.bool (decide ((gt To i3) ≤ (gt To (i3 - 1))))) (by kernel_rfl) ?_
               refine d_qk (.bool (decide ((gt To i3) ≤ (gt To (i3 - 1))))) (by kernel_rfl) ?_
               refine d_qk (.bool (decide ((gt To i3) ≤ (gt To (i3 - 1))))) (by kernel_rfl) ?_
               refine d_qk (.bool (decide ((gt To i3) ≤ (gt To (i3 - 1))))) (by kernel_rfl) ?_
               refine d_nil ?_
               obtain rfl := Option.some.inj r259
               exact k245 _ _ ⟨⟨by kernel_rfl, by kernel_rfl, by kernel_rfl, by kernel_rfl, by kernel_rfl, by kernel_rfl, by kernel_rfl, by kernel_rfl, trivial⟩, rfl⟩
              ·have r260 := ite_f h254 r253
               refine d_qk (.bool false) (by kernel_rfl) ?_
               refine d_idle (by kernel_rfl) ?_
               refine d_idle (by kernel_rfl) ?_
               refine d_idle (by kernel_rfl) ?_
               refine d_idle (by kernel_rfl) ?_
               refine d_idle (by kernel_rfl) ?_
               refine d_idle (by kernel_rfl) ?_
               refine d_idle (by kernel_rfl) ?_
               refine d_idle (by kernel_rfl) ?_
               refine d_idle (by kernel_rfl) ?_
               refine d_idle (by kernel_rfl) ?_
               refine d_idle (by kernel_rfl) ?_
               refine d_idle (by kernel_rfl) ?_
               refine d_qk (.bool false) (by kernel_rfl) ?_
               refine d_qk (.bool false) (by kernel_rfl) ?_
               refine d_qk (.bool false) (by kernel_rfl) ?_
               refine d_nil ?_
               obtain rfl := Option.some.inj r260
               exact k245 _ _ ⟨⟨by kernel_rfl, by kernel_rfl, by kernel_rfl, by kernel_rfl, by kernel_rfl, by kernel_rfl, by kernel_rfl, by kernel_rfl, trivial⟩, rfl⟩
            ·obtain ⟨hh246, rfl⟩ := hM
             obtain ⟨β, rfl⟩ := has_ex hh246
             clear hh246
             refine k239 _ _ ?_
             refine w_cond (o240) (by kernel_rfl) rfl (fun h261 => ?_) (fun h261 => ?_)
             ·have r262 := ite_t h261 r242
              refine w_reg (by kernel_rfl) ?_
              refine s_qk (.int .i64 14) (by kernel_rfl) ?_
              refine s_nil ?_
              obtain rfl := Option.some.inj r262
              exact k234 _ _ ⟨⟨by kernel_rfl, by kernel_rfl, by kernel_rfl, by kernel_rfl, by kernel_rfl, by kernel_rfl, by kernel_rfl, trivial⟩, rfl⟩
             ·have r263 := ite_bf h261 r242
              refine w_seqk fun K264 k264 => ?_
              refine w_reg (by kernel_rfl) ?_
              refine s_qk (.pointer (some ⟨b7, 2, none⟩)) (by kernel_rfl) ?_
              refine s_ql (hd_Weight) (x := aLoad Tryd.prog 42 (.pointer (some ⟨b7, 2, none⟩)) H14) (by kernel_rfl) (u20.ld (by kernel_rfl)) ?_
              refine s_qk (.int .i64 i3) (by kernel_rfl) ?_
              obtain ⟨g265, r266⟩ := G_some r263
              have u267 := ((h_Weight.ext e9).ext e15)
              refine s_ql (elp hd_Weight 1 i3.toNat 0) (x := aIndexAddr Tryd.prog 42 hd_Weight (.int .i64 i3)) (by kernel_rfl) (u267.idxb (by kernel_rfl) g265.1 g265.2) ?_
              refine s_ql (.int .i64 (gt Weight i3)) (x := aLoad Tryd.prog 3 (elp hd_Weight 1 i3.toNat 0) H14) (by kernel_rfl) (u267.ld g265.1 g265.2 (by kernel_rfl)) ?_
              refine s_b ((gt Weight i3) < 0) (by kernel_rfl) (fun h268 => ?_) (fun h268 => ?_)
              ·have r269 := ite_t h268 r266
               refine s_qk (.bool true) (by kernel_rfl) ?_
               refine s_no (by kernel_rfl) ?_
               refine s_no (by kernel_rfl) ?_
               refine s_no (by kernel_rfl) ?_
               refine s_no (by kernel_rfl) ?_
               refine s_no (by kernel_rfl) ?_
               refine s_no (by kernel_rfl) ?_
               refine s_qk (.bool true) (by kernel_rfl) ?_
               refine s_qk (.bool true) (by kernel_rfl) ?_
               refine s_nil ?_
               refine k264 _ _ ?_
               refine w_cond true (by kernel_rfl) rfl (fun _ => ?_) (fun h => by cases h)
               refine w_reg (by kernel_rfl) ?_
               refine s_qk (.int .i64 8) (by kernel_rfl) ?_
               refine s_nil ?_
               obtain rfl := Option.some.inj r269
               exact k234 _ _ ⟨⟨by kernel_rfl, by kernel_rfl, by kernel_rfl, by kernel_rfl, by kernel_rfl, by kernel_rfl, by kernel_rfl, trivial⟩, rfl⟩
              ·have r270 := ite_f h268 r266
               refine s_qk (.bool false) (by kernel_rfl) ?_
               refine s_qk (.pointer (some ⟨b7, 2, none⟩)) (by kernel_rfl) ?_
               refine s_ql (hd_Weight) (x := aLoad Tryd.prog 42 (.pointer (some ⟨b7, 2, none⟩)) H14) (by kernel_rfl) (u20.ld (by kernel_rfl)) ?_
               refine s_qk (.int .i64 i3) (by kernel_rfl) ?_
               refine s_ql (elp hd_Weight 1 i3.toNat 0) (x := aIndexAddr Tryd.prog 42 hd_Weight (.int .i64 i3)) (by kernel_rfl) (u267.idxb (by kernel_rfl) g265.1 g265.2) ?_
               refine s_ql (.int .i64 (gt Weight i3)) (x := aLoad Tryd.prog 3 (elp hd_Weight 1 i3.toNat 0) H14) (by kernel_rfl) (u267.ld g265.1 g265.2 (by kernel_rfl)) ?_
               refine s_qk (.bool (decide ((gt Weight i3) > 2147483647))) (by kernel_rfl) ?_
               refine s_qk (.bool (decide ((gt Weight i3) > 2147483647))) (by kernel_rfl) ?_
               refine s_qk (.bool (decide ((gt Weight i3) > 2147483647))) (by kernel_rfl) ?_
               refine s_nil ?_
               refine k264 _ _ ?_
               refine w_condp ((gt Weight i3) > 2147483647) (by kernel_rfl) rfl (fun h271 => ?_) (fun h271 => ?_)
               ·have r272 := ite_t h271 r270
                refine w_reg (by kernel_rfl) ?_
                refine s_qk (.int .i64 8) (by kernel_rfl) ?_
                refine s_nil ?_
                obtain rfl := Option.some.inj r272
                exact k234 _ _ ⟨⟨by kernel_rfl, by kernel_rfl, by kernel_rfl, by kernel_rfl, by kernel_rfl, by kernel_rfl, by kernel_rfl, trivial⟩, rfl⟩
               ·have r273 := ite_f h271 r270
                refine w_skip ?_
                obtain rfl := Option.some.inj r273
                exact k234 _ _ ⟨⟨by kernel_rfl, by kernel_rfl, by kernel_rfl, by kernel_rfl, by kernel_rfl, by kernel_rfl, by kernel_rfl, trivial⟩, rfl⟩
          ·obtain ⟨hh235, rfl⟩ := hM
           obtain ⟨β, rfl⟩ := has_ex hh235
           clear hh235
           refine k215 _ _ ?_
           refine w_seqk fun K274 k274 => ?_
           refine w_reg (by kernel_rfl) ?_
           refine s_qk (.int .i64 o229) (by kernel_rfl) ?_
           refine s_qk (.bool (!decide (o229 = 0))) (by kernel_rfl) ?_
           refine s_nil ?_
           refine k274 _ _ ?_
           refine w_condn (o229 = 0) (by kernel_rfl) rfl (fun h275 => ?_) (fun h275 => ?_)
           ·have r276 := ite_f h275 r231
            refine w_seqk fun K277 k277 => ?_
            refine w_reg (by kernel_rfl) ?_
            refine s_qk (.int .i64 i3) (by kernel_rfl) ?_
            refine s_qk (.int .i64 o229) (by kernel_rfl) ?_
            obtain ⟨y278, hy279, r280⟩ := bind_some r276
            refine s_ck 26 #[.int .i64 o229] (by kernel_rfl) (c_viaductref01_E e15.wf hy279) ?_
            rintro _ H281 ⟨rfl, e282⟩
            obtain ⟨y283, hy284, r285⟩ := bind_some r280
            refine s_ck 27 #[.int .i64 4, .int .i64 i3, .agg #[.int .i64 y278, .slice none 0 0]] (by kernel_rfl) (c_viaductref01_At e282.wf (Sq.nil (enc := enc_i64_i64) (sz := 2) (by decide)) hy284) ?_
            rintro _ H288 ⟨s286, f287, rfl, e289, m290, i291⟩
            obtain ⟨a293, n294, c295, rfl⟩ := m290.form
            have u300 := ((r17.frS e282 Dj.nil_l).frS e289 Dj.nil_l)
            obtain ⟨H296, q297, e298, r299⟩ := Row.store (P := Tryd.prog) (t := 33) (p := 0) e289.wf u300 (.agg #[.int .i64 y283.1, .slice a293 n294 c295]) [.int .i64 y283.1, .slice a293 n294 c295] (by kernel_rfl) (by kernel_rfl) (one_cons (rfl) (one_cons (m290.one1) (one_nil))) (Nat.le_of_ble_eq_true (by kernel_rfl)) [.int .i64 y283.1, .slice a293 n294 c295] (by kernel_rfl)
            refine s_ek (undef) (by kernel_rfl) (map_ok q297) ?_
            refine s_nil ?_
            refine k277 _ _ ?_
            refine w_ret (bl_ret (th_ret (th_ret (bl_ret (th_ret (th_ret ?_))))))
            obtain ⟨v301, hv302, hz303⟩ := map_some r285
            subst hz303
            obtain rfl := it_inr hn177
            have hq304 := elim_inl r162
            rw [hq304] at hv302
            refine b_ret (fn := Tryd.f31) (vs := [.agg #[.int .i64 y283.1, .slice a293 n294 c295]]) (aRes_cell (Eq.trans (b := aLoad Tryd.prog 33 (.pointer (some ⟨b13, 0, none⟩)) H296) (by kernel_rfl) (r299.ld (by kernel_rfl))) (rfl)) ?_
            have u305 := (m290.fr e298 (Dj.symm (i291.djn (r17.ltF.le e282.next))))
            obtain rfl := Option.some.inj hv302
            exact ⟨(.slice a293 n294 c295), f287, rfl, (FrS.step wf (FrS.step wf (FrS.step wf (((FrS.refl (W := []) wf).extR e9).extR e15) e282 Inn.nil) e289 Inn.nil) e298 (hb16.fresh e9.next)), u305, (i291.fresh (ntr (ntr e9.next e15.next) e282.next))⟩
           ·have r306 := ite_t h275 r231
            refine w_skip ?_
            refine k183 _ _ ?_
            refine w_reg (by kernel_rfl) ?_
            refine s_qk (.int .i64 i3) (by kernel_rfl) ?_
            obtain ⟨g307, r308⟩ := G_some r306
            refine s_w ((i3 + 1)) (k := .i64) (x := (i3 + 1)) (by kernel_rfl) (wrap64 g307) ?_
            refine s_qk (.int .i64 (i3 + 1)) (by kernel_rfl) ?_
            refine s_nil ?_
            obtain rfl := Option.some.inj r308
            exact k178 n174 _ _ (Nat.lt_succ_self _) ⟨o185, (i3 + 1), hn177, ⟨by kernel_rfl, by kernel_rfl, by kernel_rfl, by kernel_rfl, by kernel_rfl, by kernel_rfl, trivial⟩, rfl⟩
       ·have r309 := ite_f h181 hz176
        refine w_exit (th_exit (th_exit (bl_eq ?_)))
        obtain rfl := Option.some.inj r309
        obtain rfl := it_inr hn177
        exact k166 _ _ ⟨_, rfl, ⟨by kernel_rfl, trivial⟩, rfl⟩
      ·obtain ⟨o160, rfl, hh167, rfl⟩ := hM
       have r310 := elim_inr r162
       obtain ⟨β, rfl⟩ := has_ex hh167
       clear hh167
       refine k158 _ _ ?_
       refine w_seqk fun K311 k311 => ?_
       refine w_reg (by kernel_rfl) ?_
       refine s_qk (.agg #[.int .i64 0, .slice none 0 0]) (by kernel_rfl) ?_
       obtain ⟨H312, q313, e314, r315⟩ := Row.store (P := Tryd.prog) (t := 33) (p := 0) e15.wf r17 (.agg #[.int .i64 0, .slice none 0 0]) [.int .i64 0, .slice none 0 0] (by kernel_rfl) (by kernel_rfl) (one_cons (rfl) (one_cons (rfl) (one_nil))) (Nat.le_of_ble_eq_true (by kernel_rfl)) [.int .i64 0, .slice none 0 0] (by kernel_rfl)
       refine s_ek (undef) (by kernel_rfl) (map_ok q313) ?_
       refine s_nil ?_
       refine k311 _ _ ?_
       refine w_ret ?_
       refine b_ret (fn := Tryd.f31) (vs := [.agg #[.int .i64 0, .slice none 0 0]]) (aRes_cell (Eq.trans (b := aLoad Tryd.prog 33 (.pointer (some ⟨b13, 0, none⟩)) H312) (by kernel_rfl) (r315.ld (by kernel_rfl))) (rfl)) ?_
       obtain rfl := Option.some.inj r310
       exact ⟨(.slice none 0 0), [], rfl, (FrS.step wf (((FrS.refl (W := []) wf).extR e9).extR e15) e314 (hb16.fresh e9.next)), (Ow.nil (by decide)), Inn.nil⟩

theorem c_viaductref01_Err_Bad {H : AH} {hd_Places : Value} {fp_Places : Fp} {Code : Int} {Places : List (Int × Int)} {r : Bool}
  (wf : WF H) (h_Places : Sq enc_i64_i64 2 H hd_Places Places fp_Places) (hr : z_viaductref01_Err_Bad Code Places = some r) :
  ACalls Tryd.prog 53 #[.agg #[.int .i64 Code, hd_Places]] H fun v H' => v = .bool r ∧ FrS [] H H' := by
 refine acalls_of_body mixed Tryd.func53 rfl (Nat.le_of_ble_eq_true rfl) ?_
 unfold z_viaductref01_Err_Bad at hr
 refine w_seqk fun K1 k1 => ?_
 refine w_reg (by kernel_rfl) ?_
 refine s_rwl wf [.int .i64 Code, hd_Places] (one_cons (rfl) (one_cons (h_Places.one1) (one_nil))) (by kernel_rfl) fun b2 H3 e4 hb5 r6 => ?_
 refine s_qk (.bool false) (by kernel_rfl) ?_
 refine s_nil ?_
 refine k1 _ _ ?_
 refine w_seqk fun K8 k8 => ?_
 refine w_reg (by kernel_rfl) ?_
 refine s_qk (.pointer (some ⟨b2, 0, none⟩)) (by kernel_rfl) ?_
 refine s_ql (.int .i64 Code) (x := aLoad Tryd.prog 3 (.pointer (some ⟨b2, 0, none⟩)) H3) (by kernel_rfl) (r6.ld (by kernel_rfl)) ?_
 refine s_bn (Code = 0) (by kernel_rfl) (fun h9 => ?_) (fun h9 => ?_)
 ·have r10 := ite_t h9 hr
  refine s_qk (.bool false) (by kernel_rfl) ?_
  refine s_qk (.pointer (some ⟨b2, 1, none⟩)) (by kernel_rfl) ?_
  refine s_ql (hd_Places) (x := aLoad Tryd.prog 31 (.pointer (some ⟨b2, 1, none⟩)) H3) (by kernel_rfl) (r6.ld (by kernel_rfl)) ?_
  have u11 := (h_Places.ext e4)
  refine s_ql (.int .i64 (Places.length : Int)) (x := aLen Tryd.prog 31 hd_Places H3) (by kernel_rfl) (u11.lenb (by kernel_rfl)) ?_
  refine s_qk (.bool (decide ((Places.length : Int) > 0))) (by kernel_rfl) ?_
  refine s_qk (.bool (decide ((Places.length : Int) > 0))) (by kernel_rfl) ?_
  refine s_qk (.bool (decide ((Places.length : Int) > 0))) (by kernel_rfl) ?_
  refine s_nil ?_
  refine k8 _ _ ?_
  refine w_ret ?_
  refine b_ret (fn := Tryd.f53) (vs := [.bool (decide ((Places.length : Int) > 0))]) (aRes_tmp (by kernel_rfl) (rfl)) ?_
  obtain rfl := Option.some.inj r10
  exact ⟨rfl, ((FrS.refl (W := []) wf).extR e4)⟩
 ·have r12 := ite_f h9 hr
  refine s_qk (.bool true) (by kernel_rfl) ?_
  refine s_no (by kernel_rfl) ?_
  refine s_no (by kernel_rfl) ?_
  refine s_no (by kernel_rfl) ?_
  refine s_no (by kernel_rfl) ?_
  refine s_qk (.bool true) (by kernel_rfl) ?_
  refine s_qk (.bool true) (by kernel_rfl) ?_
  refine s_nil ?_
  refine k8 _ _ ?_
  refine w_ret ?_
  refine b_ret (fn := Tryd.f53) (vs := [.bool true]) (aRes_tmp (by kernel_rfl) (rfl)) ?_
  obtain rfl := Option.some.inj r12
  exact ⟨rfl, ((FrS.refl (W := []) wf).extR e4)⟩

theorem c_viaductseen_Same {H : AH} {ev_err : Value} {fp_err : Fp} {hd_Places : Value} {fp_Places : Fp} {err : Er} {Code : Int} {Places : List (Int × Int)} {r : Bool}
  (wf : WF H) (h_err : Ev 53 90 H ev_err err fp_err) (h_Places : Sq enc_i64_i64 2 H hd_Places Places fp_Places) (hr : z_viaductseen_Same err Code Places = some r) :
  ACalls Tryd.prog 16 #[ev_err, .agg #[.int .i64 Code, hd_Places]] H fun v H' => v = .bool r ∧ FrS [] H H' := by
 refine acalls_of_body mixed Tryd.func16 rfl (Nat.le_of_ble_eq_true rfl) ?_
 unfold z_viaductseen_Same at hr
 refine w_seqk fun K1 k1 => ?_
 refine w_reg (by kernel_rfl) ?_
 refine s_rwl wf [.int .i64 Code, hd_Places] (one_cons (rfl) (one_cons (h_Places.one1) (one_nil))) (by kernel_rfl) fun b2 H3 e4 hb5 r6 => ?_
 refine s_qk (.bool false) (by kernel_rfl) ?_
 refine s_nil ?_
 refine k1 _ _ ?_
 refine w_seqk fun K8 k8 => ?_
 refine w_seqk fun K9 k9 => ?_
 refine w_reg (by kernel_rfl) ?_
 refine s_ql (.agg #[.int .i64 Code, hd_Places]) (x := aLoad Tryd.prog 33 (.pointer (some ⟨b2, 0, none⟩)) H3) (by kernel_rfl) (r6.ld (by kernel_rfl)) ?_
 have u10 := (h_Places.ext e4)
 obtain ⟨y11, hy12, r13⟩ := bind_some hr
 refine s_ck 53 #[.agg #[.int .i64 Code, hd_Places]] (by kernel_rfl) (c_viaductref01_Err_Bad e4.wf u10 hy12) ?_
 rintro _ H14 ⟨rfl, e15⟩
 refine s_qk (.bool (!y11)) (by kernel_rfl) ?_
 refine s_nil ?_
 refine k9 _ _ ?_
 refine w_cond ((!y11)) (by kernel_rfl) rfl (fun h16 => ?_) (fun h16 => ?_)
 ·have r17 := ite_t h16 r13
  refine w_seqk fun K18 k18 => ?_
  refine w_reg (by kernel_rfl) ?_
  refine s_qk (ev_err) (by kernel_rfl) ?_
  have u22 := ((h_err.ext e4).fr e15 Dj.nil_l)
  rcases (u22).cases with ⟨h19, rfl⟩ | ⟨h19, t20, x21, rfl⟩
  ·have r23 := ite_t h19 r17
   refine s_qk (.bool true) (by kernel_rfl) ?_
   refine s_qk (.bool true) (by kernel_rfl) ?_
   refine s_nil ?_
   refine k18 _ _ ?_
   refine w_ret (th_ret ?_)
   refine b_ret (fn := Tryd.f16) (vs := [.bool true]) (aRes_tmp (by kernel_rfl) (rfl)) ?_
   obtain rfl := Option.some.inj r23
   exact ⟨rfl, (FrS.step wf ((FrS.refl (W := []) wf).extR e4) e15 Inn.nil)⟩
  ·have r24 := ite_f h19 r17
   refine s_ql (.bool false) (x := aBin Tryd.prog .eql 28 (.tmp 15) (.const .nilIface) (.iface t20 x21) .nilIface) (by kernel_rfl) (aBin_nil (by kernel_rfl)) ?_
   refine s_qk (.bool false) (by kernel_rfl) ?_
   refine s_nil ?_
   refine k18 _ _ ?_
   refine w_ret (th_ret ?_)
   refine b_ret (fn := Tryd.f16) (vs := [.bool false]) (aRes_tmp (by kernel_rfl) (rfl)) ?_
   obtain rfl := Option.some.inj r24
   exact ⟨rfl, (FrS.step wf ((FrS.refl (W := []) wf).extR e4) e15 Inn.nil)⟩
 ·have r25 := ite_bf h16 r13
  refine w_skip ?_
  refine k8 _ _ ?_
  refine w_seqk fun K26 k26 => ?_
  refine w_seqk fun K27 k27 => ?_
  refine w_reg (by kernel_rfl) ?_
  refine s_qk (ev_err) (by kernel_rfl) ?_
  have u31 := ((h_err.ext e4).fr e15 Dj.nil_l)
  rcases (u31).cases with ⟨h28, rfl⟩ | ⟨h28, t29, x30, rfl⟩
  ·have r32 := ite_t h28 r25
   refine s_qk (.bool true) (by kernel_rfl) ?_
   refine s_nil ?_
   refine k27 _ _ ?_
   refine w_cond true (by kernel_rfl) rfl (fun _ => ?_) (fun h => by cases h)
   refine w_seqk fun K33 k33 => ?_
   refine w_reg (by kernel_rfl) ?_
   refine s_qk (.bool false) (by kernel_rfl) ?_
   refine s_nil ?_
   refine k33 _ _ ?_
   refine w_ret (th_ret ?_)
   refine b_ret (fn := Tryd.f16) (vs := [.bool false]) (aRes_tmp (by kernel_rfl) (rfl)) ?_
   obtain rfl := Option.some.inj r32
   exact ⟨rfl, (FrS.step wf ((FrS.refl (W := []) wf).extR e4) e15 Inn.nil)⟩
  ·have r34 := ite_f h28 r25
   refine s_ql (.bool false) (x := aBin Tryd.prog .eql 28 (.tmp 17) (.const .nilIface) (.iface t29 x30) .nilIface) (by kernel_rfl) (aBin_nil (by kernel_rfl)) ?_
   refine s_nil ?_
   refine k27 _ _ ?_
   refine w_cond false (by kernel_rfl) rfl (fun h => by cases h) (fun _ => ?_)
   refine w_skip ?_
   refine k26 _ _ ?_
   refine w_seqk fun K35 k35 => ?_
   refine w_reg (by kernel_rfl) ?_
   refine s_qk (.iface t29 x30) (by kernel_rfl) ?_
   refine s_qk (.iface t29 x30) (by kernel_rfl) ?_
   refine s_nil ?_
   refine k35 _ _ ?_
   refine w_seqk fun K36 k36 => ?_
   refine w_seqk fun K37 k37 => ?_
   refine w_reg (by kernel_rfl) ?_
   refine s_qk (.pointer (some ⟨b2, 1, none⟩)) (by kernel_rfl) ?_
   have u38 := (r6.frS e15 Dj.nil_l)
   refine s_ql (hd_Places) (x := aLoad Tryd.prog 31 (.pointer (some ⟨b2, 1, none⟩)) H14) (by kernel_rfl) (u38.ld (by kernel_rfl)) ?_
   have u39 := (u10.fr e15 Dj.nil_l)
   refine s_ql (.int .i64 (Places.length : Int)) (x := aLen Tryd.prog 31 hd_Places H14) (by kernel_rfl) (u39.lenb (by kernel_rfl)) ?_
   refine s_qk (.int .i64 0) (by kernel_rfl) ?_
   refine s_nil ?_
   refine k37 _ _ ?_
   obtain ⟨z43, hx41, r42⟩ := bind_some r34
   refine w_mid (fun α H44 => ∃ o40, z43 = Sum.inr o40 ∧ ∃ (v48 : Value), Has α [(0, .iface t29 x30), (3, .pointer (some ⟨b2, 0, none⟩)), (5, v48)] ∧ FrS [] H14 H44 ∧ Ev 53 90 H44 v48 o40 fp_err) (fun K49 k49 => ?_) (fun α H44 hM => ?_)
   ·refine w_block ?_
    obtain ⟨n51, hn52⟩ := loopO_iff.1 hx41
    refine w_loopn (fun n α H53 => ∃ (i0 : Int), ∃ (e1 : Er), ∃ (v57 : Value), iterO (fun zz_ => z_viaductseen_Same_l0 Places zz_.1 zz_.2) n (i0, e1) = some z43 ∧ Has α [(0, .iface t29 x30), (3, .pointer (some ⟨b2, 0, none⟩)), (5, v57), (21, hd_Places), (22, .int .i64 (Places.length : Int)), (23, .int .i64 i0)] ∧ FrS [] H14 H53 ∧ Ev 53 90 H53 v57 e1 fp_err) n51 ⟨0, err, (.iface t29 x30), hn52, ⟨by kernel_rfl, by kernel_rfl, by kernel_rfl, by kernel_rfl, by kernel_rfl, by kernel_rfl, trivial⟩, (FrS.refl (W := []) e15.wf), u31⟩ ?_
    rintro n51 α H53 ⟨i0, e1, v57, hi59, hh58, e54, m56⟩ K64 k64
    obtain ⟨n60, z61, rfl, hz62, hn63⟩ := iter_succ hi59
    obtain ⟨β, rfl⟩ := has_ex hh58
    clear hh58
    replace hz62 : z_viaductseen_Same_l0 Places i0 e1 = some z61 := hz62
    unfold z_viaductseen_Same_l0 at hz62
    refine w_seqk fun K65 k65 => ?_
    refine w_reg (by kernel_rfl) ?_
    refine s_qk (.bool (decide (i0 < (Places.length : Int)))) (by kernel_rfl) ?_
    refine s_nil ?_
    refine k65 _ _ ?_
    refine w_seqk fun K66 k66 => ?_
    refine w_condp (i0 < (Places.length : Int)) (by kernel_rfl) rfl (fun h67 => ?_) (fun h67 => ?_)
    ·have r68 := ite_t h67 hz62
     refine w_skip ?_
     refine k66 _ _ ?_
     refine w_seqk fun K69 k69 => ?_
     refine w_block ?_
     refine w_seqk fun K70 k70 => ?_
     refine w_reg (by kernel_rfl) ?_
     obtain ⟨g71, r72⟩ := G_some r68
     have u73 := (u39.fr e54 Dj.nil_l)
     refine s_ql (elp hd_Places 2 i0.toNat 0) (x := aIndexAddr Tryd.prog 31 hd_Places (.int .i64 i0)) (by kernel_rfl) (u73.idxb (by kernel_rfl) g71 h67) ?_
     refine s_ql (.agg #[.int .i64 ((gt Places i0).1), .int .i64 ((gt Places i0).2)]) (x := aLoad Tryd.prog 89 (elp hd_Places 2 i0.toNat 0) H53) (by kernel_rfl) (u73.ld g71 h67 (by kernel_rfl)) ?_
     refine s_rwk e54.wf [.int .i64 0, .int .i64 0] (by kernel_rfl) fun b74 H75 e76 hb77 r78 => ?_
     obtain ⟨H80, q81, e82, r83⟩ := Row.store (P := Tryd.prog) (t := 89) (p := 0) e76.wf r78 (.agg #[.int .i64 ((gt Places i0).1), .int .i64 ((gt Places i0).2)]) [.int .i64 ((gt Places i0).1), .int .i64 ((gt Places i0).2)] (by kernel_rfl) (by kernel_rfl) (one_cons (rfl) (one_cons (rfl) (one_nil))) (Nat.le_of_ble_eq_true (by kernel_rfl)) [.int .i64 ((gt Places i0).1), .int .i64 ((gt Places i0).2)] (by kernel_rfl)
     refine s_ek (undef) (by kernel_rfl) (map_ok q81) ?_
     refine s_nil ?_
     refine k70 _ _ ?_
     refine w_seqk fun K84 k84 => ?_
     refine w_reg (by kernel_rfl) ?_
     refine s_rwk e82.wf [.pointer none] (by kernel_rfl) fun b85 H86 e87 hb88 r89 => ?_
     refine s_nil ?_
     refine k84 _ _ ?_
     refine w_seqk fun K91 k91 => ?_
     refine w_seqk fun K92 k92 => ?_
     refine w_draw [0, 1, 2, 3, 4, 5, 6, 7, 8, 9, 10, 11, 12, 13, 14, 15] (by kernel_rfl) ?_
     refine d_qk (v57) (by kernel_rfl) ?_
     refine d_qk (.iface 92 (.pointer (some ⟨b85, 0, none⟩))) (by kernel_rfl) ?_
     by_cases h93 : Er.isAt e1 = true
     ·have r94 := ite_t h93 r72
      have u103 := (((m56.ext e76).fr e82 (hb77.djn (h_err.lt.le (ntr (ntr e4.next e15.next) e54.next)))).ext e87)
      refine d_ck 55 #[v57, .iface 92 (.pointer (some ⟨b85, 0, none⟩))] (by kernel_rfl) (a_asF_at e87.wf r89 (hb88.djn (h_err.lt.le (ntr (ntr (ntr (ntr e4.next e15.next) e54.next) e76.next) e82.next))) u103 h93) ?_
      rintro _ H95 ⟨rfl, e96, b98, u99, -, i100, r97, r101, v102⟩
      refine ⟨st_nil, ?_⟩
      refine d_qk (.bool false) (by kernel_rfl) ?_
      refine d_qk (.bool false) (by kernel_rfl) ?_
      refine d_ql (.pointer (some ⟨b98, 0, none⟩)) (x := aLoad Tryd.prog 90 (.pointer (some ⟨b85, 0, none⟩)) H95) (by kernel_rfl) (r97.ld (by kernel_rfl)) ?_
      refine d_qk (.bool false) (by kernel_rfl) ?_
      refine d_qk (.bool false) (by kernel_rfl) ?_
      refine d_qk (.bool false) (by kernel_rfl) ?_
      refine d_ql (.pointer (some ⟨b98, 0, none⟩)) (x := aLoad Tryd.prog 90 (.pointer (some ⟨b85, 0, none⟩)) H95) (by kernel_rfl) (r97.ld (by kernel_rfl)) ?_
      refine d_qk (.pointer (some ⟨b98, 0, none⟩)) (by kernel_rfl) ?_
      refine d_qk (.pointer (some ⟨b98, 0, none⟩)) (by kernel_rfl) ?_
      refine d_ql (.agg #[.int .i64 (Er.fk e1), .int .i64 (Er.fi e1)]) (x := aLoad Tryd.prog 89 (.pointer (some ⟨b98, 0, none⟩)) H95) (by kernel_rfl) (r101.ld (by kernel_rfl)) ?_
      have u106 := ((r83.ext e87).frS e96 (hb88.djn (r78.ltF.le e82.next)))
      refine d_ql (.agg #[.int .i64 ((gt Places i0).1), .int .i64 ((gt Places i0).2)]) (x := aLoad Tryd.prog 89 (.pointer (some ⟨b74, 0, none⟩)) H95) (by kernel_rfl) (u106.ld (by kernel_rfl)) ?_
      refine d_ql (.bool (!decide ((Er.fk e1) = ((gt Places i0).1) ∧ (Er.fi e1) = ((gt Places i0).2)))) (x := aBin Tryd.prog .neq 89 (.tmp 39) (.tmp 40) (.agg #[.int .i64 (Er.fk e1), .int .i64 (Er.fi e1)]) (.agg #[.int .i64 ((gt Places i0).1), .int .i64 ((gt Places i0).2)])) (by kernel_rfl) (aBin_neq89 _ _ (Er.fk e1) (Er.fi e1) ((gt Places i0).1) ((gt Places i0).2)) ?_
      refine d_qk (.bool (!decide ((Er.fk e1) = ((gt Places i0).1) ∧ (Er.fi e1) = ((gt Places i0).2)))) (by kernel_rfl) ?_
      refine d_nil ?_
      refine k92 _ _ ?_
      refine w_condn ((Er.fk e1) = ((gt Places i0).1) ∧ (Er.fi e1) = ((gt Places i0).2)) (by kernel_rfl) rfl (fun h107 => ?_) (fun h107 => ?_)
      ·have r108 := ite_f h107 r94
       refine w_seqk fun K109 k109 => ?_
       refine w_reg (by kernel_rfl) ?_
       refine s_qk (.bool false) (by kernel_rfl) ?_
       refine s_nil ?_
       refine k109 _ _ ?_
       refine w_ret (th_ret (bl_ret (th_ret (th_ret (bl_ret (th_ret (th_ret ?_)))))))
       obtain ⟨v110, hv111, hz112⟩ := map_some r108
       subst hz112
       obtain rfl := it_inr hn63
       have hq113 := elim_inl r42
       rw [hq113] at hv111
       refine b_ret (fn := Tryd.f16) (vs := [.bool false]) (aRes_tmp (by kernel_rfl) (rfl)) ?_
       obtain rfl := Option.some.inj hv111
       exact ⟨rfl, (FrS.step wf ((FrS.step wf ((FrS.step wf (FrS.step wf ((FrS.refl (W := []) wf).extR e4) e15 Inn.nil) e54 Inn.nil).extR e76) e82 (hb77.fresh (ntr (ntr e4.next e15.next) e54.next))).extR e87) e96 (hb88.fresh (ntr (ntr (ntr (ntr e4.next e15.next) e54.next) e76.next) e82.next)))⟩
      ·have r114 := ite_t h107 r94
       refine w_skip ?_
       refine k91 _ _ ?_
       refine w_reg (by kernel_rfl) ?_
       refine s_ql (.pointer (some ⟨b98, 0, none⟩)) (x := aLoad Tryd.prog 90 (.pointer (some ⟨b85, 0, none⟩)) H95) (by kernel_rfl) (r97.ld (by kernel_rfl)) ?_
       refine s_qk (.pointer (some ⟨b98, 0, none⟩)) (by kernel_rfl) ?_
       refine s_qk (.pointer (some ⟨b98, 2, none⟩)) (by kernel_rfl) ?_
       refine s_ql (u99) (x := aLoad Tryd.prog 28 (.pointer (some ⟨b98, 2, none⟩)) H95) (by kernel_rfl) (r101.ld (by kernel_rfl)) ?_
       refine s_qk (u99) (by kernel_rfl) ?_
       refine s_nil ?_
       refine k69 _ _ ?_
       refine w_reg (by kernel_rfl) ?_
       obtain ⟨g115, r116⟩ := G_some r114
       refine s_w ((i0 + 1)) (k := .i64) (x := (i0 + 1)) (by kernel_rfl) (wrap64 (by have := g115; omega)) ?_
       refine s_qk (.int .i64 (i0 + 1)) (by kernel_rfl) ?_
       refine s_nil ?_
       obtain rfl := Option.some.inj r116
       exact k64 n60 _ _ (Nat.lt_succ_self _) ⟨(i0 + 1), (Er.fe e1), (u99), hn63, ⟨by kernel_rfl, by kernel_rfl, by kernel_rfl, by kernel_rfl, by kernel_rfl, by kernel_rfl, trivial⟩, (FrS.step e15.wf ((FrS.step e15.wf ((FrS.step e15.wf (FrS.refl (W := []) e15.wf) e54 Inn.nil).extR e76) e82 (hb77.fresh e54.next)).extR e87) e96 (hb88.fresh (ntr (ntr e54.next e76.next) e82.next))), v102⟩
     ·have r117 := ite_f h93 r72
      have u118 := (((m56.ext e76).fr e82 (hb77.djn (h_err.lt.le (ntr (ntr e4.next e15.next) e54.next)))).ext e87)
      refine d_ck 55 #[v57, .iface 92 (.pointer (some ⟨b85, 0, none⟩))] (by kernel_rfl) (a_asF_no r89 u118 h93) ?_
      rintro _ _ ⟨rfl, rfl⟩
      refine ⟨st_nil, ?_⟩
      refine d_qk (.bool true) (by kernel_rfl) ?_
      refine d_qk (.bool true) (by kernel_rfl) ?_
      refine d_idle (by kernel_rfl) ?_
      refine d_idle (by kernel_rfl) ?_
      refine d_qk (.bool true) (by kernel_rfl) ?_
      refine d_qk (.bool true) (by kernel_rfl) ?_
      refine d_idle (by kernel_rfl) ?_
      refine d_idle (by kernel_rfl) ?_
      refine d_idle (by kernel_rfl) ?_
      refine d_idle (by kernel_rfl) ?_
      refine d_idle (by kernel_rfl) ?_
      refine d_idle (by kernel_rfl) ?_
      refine d_qk (.bool true) (by kernel_rfl) ?_
      refine d_nil ?_
      refine k92 _ _ ?_
      refine w_cond true (by kernel_rfl) rfl (fun _ => ?_) (fun h => by cases h)
      refine w_seqk fun K119 k119 => ?_
      refine w_reg (by kernel_rfl) ?_
      refine s_qk (.bool false) (by kernel_rfl) ?_
      refine s_nil ?_
      refine k119 _ _ ?_
      refine w_ret (th_ret (bl_ret (th_ret (th_ret (bl_ret (th_ret (th_ret ?_)))))))
      obtain ⟨v120, hv121, hz122⟩ := map_some r117
      subst hz122
      obtain rfl := it_inr hn63
      have hq123 := elim_inl r42
      rw [hq123] at hv121
      refine b_ret (fn := Tryd.f16) (vs := [.bool false]) (aRes_tmp (by kernel_rfl) (rfl)) ?_
      obtain rfl := Option.some.inj hv121
      exact ⟨rfl, ((FrS.step wf ((FrS.step wf (FrS.step wf ((FrS.refl (W := []) wf).extR e4) e15 Inn.nil) e54 Inn.nil).extR e76) e82 (hb77.fresh (ntr (ntr e4.next e15.next) e54.next))).extR e87)⟩
    ·have r124 := ite_f h67 hz62
     refine w_exit (th_exit (th_exit (bl_eq ?_)))
     obtain rfl := Option.some.inj r124
     obtain rfl := it_inr hn63
     exact k49 _ _ ⟨_, rfl, (v57), ⟨by kernel_rfl, by kernel_rfl, by kernel_rfl, trivial⟩, (FrS.step e15.wf (FrS.refl (W := []) e15.wf) e54 Inn.nil), m56⟩
   ·obtain ⟨o40, rfl, v48, hh50, e45, m47⟩ := hM
    have r125 := elim_inr r42
    obtain ⟨β, rfl⟩ := has_ex hh50
    clear hh50
    refine k36 _ _ ?_
    refine w_seqk fun K126 k126 => ?_
    refine w_reg (by kernel_rfl) ?_
    refine s_rwk e45.wf [.pointer none] (by kernel_rfl) fun b127 H128 e129 hb130 r131 => ?_
    refine s_nil ?_
    refine k126 _ _ ?_
    refine w_seqk fun K133 k133 => ?_
    refine w_seqk fun K134 k134 => ?_
    refine w_reg (by kernel_rfl) ?_
    refine s_qk (v48) (by kernel_rfl) ?_
    refine s_qk (.iface 92 (.pointer (some ⟨b127, 0, none⟩))) (by kernel_rfl) ?_
    by_cases h135 : Er.isAt o40 = true
    ·have r136 := ite_t h135 r125
     have u145 := (m47.ext e129)
     refine s_ck 55 #[v48, .iface 92 (.pointer (some ⟨b127, 0, none⟩))] (by kernel_rfl) (a_asF_at e129.wf r131 (hb130.djn (h_err.lt.le (ntr (ntr e4.next e15.next) e45.next))) u145 h135) ?_
     rintro _ H137 ⟨rfl, e138, b140, u141, -, i142, r139, r143, v144⟩
     refine s_nil ?_
     refine k134 _ _ ?_
     refine w_cond true (by kernel_rfl) rfl (fun _ => ?_) (fun h => by cases h)
     refine w_seqk fun K148 k148 => ?_
     refine w_reg (by kernel_rfl) ?_
     refine s_qk (.bool false) (by kernel_rfl) ?_
     refine s_nil ?_
     refine k148 _ _ ?_
     refine w_ret (th_ret ?_)
     refine b_ret (fn := Tryd.f16) (vs := [.bool false]) (aRes_tmp (by kernel_rfl) (rfl)) ?_
     obtain rfl := Option.some.inj r136
     exact ⟨rfl, (FrS.step wf ((FrS.step wf (FrS.step wf ((FrS.refl (W := []) wf).extR e4) e15 Inn.nil) e45 Inn.nil).extR e129) e138 (hb130.fresh (ntr (ntr e4.next e15.next) e45.next)))⟩
    ·have r149 := ite_f h135 r125
     have u150 := (m47.ext e129)
     refine s_ck 55 #[v48, .iface 92 (.pointer (some ⟨b127, 0, none⟩))] (by kernel_rfl) (a_asF_no r131 u150 h135) ?_
     rintro _ _ ⟨rfl, rfl⟩
     refine s_nil ?_
     refine k134 _ _ ?_
     refine w_cond false (by kernel_rfl) rfl (fun h => by cases h) (fun _ => ?_)
     refine w_skip ?_
     refine k133 _ _ ?_
     refine w_seqk fun K151 k151 => ?_
     refine w_reg (by kernel_rfl) ?_
     refine s_rwk e129.wf [.int .i64 0] (by kernel_rfl) fun b152 H153 e154 hb155 r156 => ?_
     refine s_nil ?_
     refine k151 _ _ ?_
     refine w_seqk fun K158 k158 => ?_
     refine w_seqk fun K159 k159 => ?_
     obtain ⟨o160, hx161, r162⟩ := bind_some r149
     refine w_mid (fun α H163 => Has α [(0, .iface t29 x30), (3, .pointer (some ⟨b2, 0, none⟩)), (60, .bool o160)] ∧ FrS [b152] H153 H163) (fun K165 k165 => ?_) (fun α H163 hM => ?_)
     ·refine w_reg (by kernel_rfl) ?_
      refine s_qk (.iface t29 x30) (by kernel_rfl) ?_
      refine s_qk (.iface 95 (.pointer (some ⟨b152, 0, none⟩))) (by kernel_rfl) ?_
      by_cases h167 : (Er.num err).isSome = true
      ·have r168 := ite_t h167 hx161
       have u172 := (((u31.fr e45 Dj.nil_l).ext e129).ext e154)
       refine s_ck 55 #[.iface t29 x30, .iface 95 (.pointer (some ⟨b152, 0, none⟩))] (by kernel_rfl) (a_asN_y e154.wf r156 u172 h28 h167) ?_
       rintro _ H169 ⟨rfl, e170, r171⟩
       refine s_qk (.bool false) (by kernel_rfl) ?_
       refine s_qk (.bool false) (by kernel_rfl) ?_
       refine s_ql (.int .i64 ((Er.num err).getD 0)) (x := aLoad Tryd.prog 53 (.pointer (some ⟨b152, 0, none⟩)) H169) (by kernel_rfl) (r171.ld (by kernel_rfl)) ?_
       refine s_qk (.pointer (some ⟨b2, 0, none⟩)) (by kernel_rfl) ?_
       have u173 := ((((u38.frS e45 Dj.nil_l).ext e129).ext e154).frS e170 (hb155.djn (r6.ltF.le (ntr (ntr e15.next e45.next) e129.next))))
       refine s_ql (.int .i64 Code) (x := aLoad Tryd.prog 3 (.pointer (some ⟨b2, 0, none⟩)) H169) (by kernel_rfl) (u173.ld (by kernel_rfl)) ?_
       refine s_qk (.bool (!decide (((Er.num err).getD 0) = Code))) (by kernel_rfl) ?_
       refine s_qk (.bool (!decide (((Er.num err).getD 0) = Code))) (by kernel_rfl) ?_
       refine s_nil ?_
       obtain rfl := Option.some.inj r168
       exact k165 _ _ ⟨⟨by kernel_rfl, by kernel_rfl, by kernel_rfl, trivial⟩, (FrS.step e154.wf (FrS.refl (W := [b152]) e154.wf) e170 Inn.refl')⟩
      ·have r174 := ite_f h167 hx161
       have u178 := (((u31.fr e45 Dj.nil_l).ext e129).ext e154)
       refine s_ck 55 #[.iface t29 x30, .iface 95 (.pointer (some ⟨b152, 0, none⟩))] (by kernel_rfl) (a_asN_n e154.wf r156 u178 h28 h167) ?_
       rintro _ H175 ⟨rfl, e176, r177⟩
       refine s_qk (.bool true) (by kernel_rfl) ?_
       refine s_qk (.bool true) (by kernel_rfl) ?_
       refine s_no (by kernel_rfl) ?_
       refine s_no (by kernel_rfl) ?_
       refine s_no (by kernel_rfl) ?_
       refine s_no (by kernel_rfl) ?_
       refine s_qk (.bool true) (by kernel_rfl) ?_
       refine s_nil ?_
       obtain rfl := Option.some.inj r174
       exact k165 _ _ ⟨⟨by kernel_rfl, by kernel_rfl, by kernel_rfl, trivial⟩, (FrS.step e154.wf (FrS.refl (W := [b152]) e154.wf) e176 Inn.refl')⟩
     ·obtain ⟨hh166, e164⟩ := hM
      obtain ⟨β, rfl⟩ := has_ex hh166
      clear hh166
      refine k159 _ _ ?_
      refine w_cond (o160) (by kernel_rfl) rfl (fun h179 => ?_) (fun h179 => ?_)
      ·have r180 := ite_t h179 r162
       refine w_seqk fun K181 k181 => ?_
       refine w_reg (by kernel_rfl) ?_
       refine s_qk (.bool false) (by kernel_rfl) ?_
       refine s_nil ?_
       refine k181 _ _ ?_
       refine w_ret (th_ret ?_)
       refine b_ret (fn := Tryd.f16) (vs := [.bool false]) (aRes_tmp (by kernel_rfl) (rfl)) ?_
       obtain rfl := Option.some.inj r180
       exact ⟨rfl, (FrS.step wf (((FrS.step wf (FrS.step wf ((FrS.refl (W := []) wf).extR e4) e15 Inn.nil) e45 Inn.nil).extR e129).extR e154) e164 (hb155.fresh (ntr (ntr (ntr e4.next e15.next) e45.next) e129.next)))⟩
      ·have r182 := ite_bf h179 r162
       refine w_skip ?_
       refine k158 _ _ ?_
       refine w_seqk fun K183 k183 => ?_
       refine w_seqk fun K184 k184 => ?_
       refine w_reg (by kernel_rfl) ?_
       refine s_qk (.int .i64 1) (by kernel_rfl) ?_
       refine s_nil ?_
       refine k184 _ _ ?_
       obtain ⟨z188, hx186, r187⟩ := bind_some r182
       refine w_mid (fun α H189 => ∃ o185, z188 = Sum.inr o185 ∧ Has α [] ∧ H163 = H189) (fun K191 k191 => ?_) (fun α H189 hM => ?_)
       ·refine w_block ?_
        obtain ⟨n193, hn194⟩ := loopO_iff.1 hx186
        refine w_loopn (fun n α H195 => ∃ (i2 : Int), iterO (fun zz_ => z_viaductseen_Same_l1 err Code zz_) n i2 = some z188 ∧ Has α [(0, .iface t29 x30), (3, .pointer (some ⟨b2, 0, none⟩)), (11, .int .i64 i2)] ∧ H163 = H195) n193 ⟨1, hn194, ⟨by kernel_rfl, by kernel_rfl, by kernel_rfl, trivial⟩, rfl⟩ ?_
        rintro n193 α H195 ⟨i2, hi198, hh197, rfl⟩ K203 k203
        obtain ⟨n199, z200, rfl, hz201, hn202⟩ := iter_succ hi198
        obtain ⟨β, rfl⟩ := has_ex hh197
        clear hh197
        replace hz201 : z_viaductseen_Same_l1 err Code i2 = some z200 := hz201
        unfold z_viaductseen_Same_l1 at hz201
        refine w_seqk fun K204 k204 => ?_
        refine w_seqk fun K205 k205 => ?_
        refine w_reg (by kernel_rfl) ?_
        refine s_qk (.int .i64 i2) (by kernel_rfl) ?_
        refine s_qk (.bool (decide (i2 ≤ 20))) (by kernel_rfl) ?_
        refine s_nil ?_
        refine k205 _ _ ?_
        refine w_condp (i2 ≤ 20) (by kernel_rfl) rfl (fun h206 => ?_) (fun h206 => ?_)
        ·have r207 := ite_t h206 hz201
         refine w_skip ?_
         refine k204 _ _ ?_
         refine w_seqk fun K208 k208 => ?_
         refine w_block ?_
         refine w_seqk fun K209 k209 => ?_
         refine w_draw [0, 1, 2, 4, 5, 6, 7, 3, 8] (by kernel_rfl) ?_
         refine d_qk (.iface t29 x30) (by kernel_rfl) ?_
         refine d_qk (.int .i64 i2) (by kernel_rfl) ?_
         refine d_qk (.iface 53 (.int .i64 i2)) (by kernel_rfl) ?_
         refine d_qk (.int .i64 i2) (by kernel_rfl) ?_
         refine d_qk (.pointer (some ⟨b2, 0, none⟩)) (by kernel_rfl) ?_
         have u210 := ((((u38.frS e45 Dj.nil_l).ext e129).ext e154).frS e164 (hb155.djn (r6.ltF.le (ntr (ntr e15.next e45.next) e129.next))))
         refine d_fl (.int .i64 Code) (x := aLoad Tryd.prog 3 (.pointer (some ⟨b2, 0, none⟩)) H163) (by kernel_rfl) (u210.ld (by kernel_rfl)) ?_
         refine d_qk (.bool (decide (i2 = Code))) (by kernel_rfl) ?_
         have u211 := ((((u31.fr e45 Dj.nil_l).ext e129).ext e154).fr e164 (hb155.djn (h_err.lt.le (ntr (ntr (ntr e4.next e15.next) e45.next) e129.next))))
         refine d_ck 56 #[.iface t29 x30, .iface 53 (.int .i64 i2)] (by kernel_rfl) (a_isN u211 h28) ?_
         rintro _ _ ⟨rfl, rfl⟩
         refine ⟨st_ql (y := aLoad Tryd.prog 3 (.pointer (some ⟨b2, 0, none⟩)) H163) (by kernel_rfl) (u210.ld (by kernel_rfl)) (st_nil), ?_⟩
         refine d_qk (.bool (!decide ((decide (Er.num err = some i2)) = (decide (i2 = Code))))) (by kernel_rfl) ?_
         refine d_nil ?_
         refine k209 _ _ ?_
         refine w_condn ((decide (Er.num err = some i2)) = (decide (i2 = Code))) (by kernel_rfl) rfl (fun h212 => ?_) (fun h212 => ?_)
         ·have r213 := ite_f h212 r207
          refine w_seqk fun K214 k214 => ?_
          refine w_reg (by kernel_rfl) ?_
          refine s_qk (.bool false) (by kernel_rfl) ?_
          refine s_nil ?_
          refine k214 _ _ ?_
          refine w_ret (bl_ret (th_ret (th_ret (bl_ret (th_ret (th_ret ?_))))))
          obtain ⟨v215, hv216, hz217⟩ := map_some r213
          subst hz217
          obtain rfl := it_inr hn202
          have hq218 := elim_inl r187
          rw [hq218] at hv216
          refine b_ret (fn := Tryd.f16) (vs := [.bool false]) (aRes_tmp (by kernel_rfl) (rfl)) ?_
          obtain rfl := Option.some.inj hv216
          exact ⟨rfl, (FrS.step wf (((FrS.step wf (FrS.step wf ((FrS.refl (W := []) wf).extR e4) e15 Inn.nil) e45 Inn.nil).extR e129).extR e154) e164 (hb155.fresh (ntr (ntr (ntr e4.next e15.next) e45.next) e129.next)))⟩
         ·have r219 := ite_t h212 r207
          refine w_skip ?_
          refine k208 _ _ ?_
          refine w_reg (by kernel_rfl) ?_
          refine s_qk (.int .i64 i2) (by kernel_rfl) ?_
          obtain ⟨g220, r221⟩ := G_some r219
          refine s_w ((i2 + 1)) (k := .i64) (x := (i2 + 1)) (by kernel_rfl) (wrap64 g220) ?_
          refine s_qk (.int .i64 (i2 + 1)) (by kernel_rfl) ?_
          refine s_nil ?_
          obtain rfl := Option.some.inj r221
          exact k203 n199 _ _ (Nat.lt_succ_self _) ⟨(i2 + 1), hn202, ⟨by kernel_rfl, by kernel_rfl, by kernel_rfl, trivial⟩, rfl⟩
        ·have r222 := ite_f h206 hz201
         refine w_exit (th_exit (th_exit (bl_eq ?_)))
         obtain rfl := Option.some.inj r222
         obtain rfl := it_inr hn202
         exact k191 _ _ ⟨_, rfl, trivial, rfl⟩
       ·obtain ⟨o185, rfl, hh192, rfl⟩ := hM
        have r223 := elim_inr r187
        obtain ⟨β, rfl⟩ := has_ex hh192
        clear hh192
        refine k183 _ _ ?_
        refine w_seqk fun K224 k224 => ?_
        refine w_reg (by kernel_rfl) ?_
        refine s_qk (.bool true) (by kernel_rfl) ?_
        refine s_nil ?_
        refine k224 _ _ ?_
        refine w_ret ?_
        refine b_ret (fn := Tryd.f16) (vs := [.bool true]) (aRes_tmp (by kernel_rfl) (rfl)) ?_
        obtain rfl := Option.some.inj r223
        exact ⟨rfl, (FrS.step wf (((FrS.step wf (FrS.step wf ((FrS.refl (W := []) wf).extR e4) e15 Inn.nil) e45 Inn.nil).extR e129).extR e154) e164 (hb155.fresh (ntr (ntr (ntr e4.next e15.next) e45.next) e129.next)))⟩

theorem c_csr_Csr_row {H : AH} {hd_First : Value} {fp_First : Fp} {hd_To : Value} {fp_To : Fp} {hd_Weight : Value} {fp_Weight : Fp} {First : List (Int)} {To : List (Int)} {Weight : List (Int)} {v_ : Int} {r : List (Int × Int × Int)}
  (wf : WF H) (h_First : Sq (encI .i64) 1 H hd_First First fp_First) (h_To : Sq (encI .i64) 1 H hd_To To fp_To) (h_Weight : Sq (encI .i64) 1 H hd_Weight Weight fp_Weight) (hr : z_csr_Csr_row First To Weight v_ = some r) :
  ACalls Tryd.prog 66 #[.agg #[hd_First, hd_To, hd_Weight], .int .i64 v_] H fun v H' => ∃ (s3 : Value) (f4 : Fp), v = s3 ∧ FrS [] H H' ∧ Ow enc_i64_i64_i64 3 H' s3 r f4 ∧ Inn [] H f4 := by
 refine acalls_of_body mixed Tryd.func66 rfl (Nat.le_of_ble_eq_true rfl) ?_
 unfold z_csr_Csr_row at hr
 refine w_seqk fun K6 k6 => ?_
 refine w_reg (by kernel_rfl) ?_
 refine s_rwl wf [hd_First, hd_To, hd_Weight] (one_cons (h_First.one1) (one_cons (h_To.one1) (one_cons (h_Weight.one1) (one_nil)))) (by kernel_rfl) fun b7 H8 e9 hb10 r11 => ?_
 refine s_qk (.slice none 0 0) (by kernel_rfl) ?_
 refine s_nil ?_
 refine k6 _ _ ?_
 refine w_seqk fun K13 k13 => ?_
 refine w_reg (by kernel_rfl) ?_
 refine s_qk (.slice none 0 0) (by kernel_rfl) ?_
 refine s_nil ?_
 refine k13 _ _ ?_
 refine w_seqk fun K14 k14 => ?_
 refine w_seqk fun K15 k15 => ?_
 refine w_reg (by kernel_rfl) ?_
 refine s_qk (.pointer (some ⟨b7, 0, none⟩)) (by kernel_rfl) ?_
 refine s_ql (hd_First) (x := aLoad Tryd.prog 42 (.pointer (some ⟨b7, 0, none⟩)) H8) (by kernel_rfl) (r11.ld (by kernel_rfl)) ?_
 refine s_qk (.int .i64 v_) (by kernel_rfl) ?_
 obtain ⟨g16, r17⟩ := G_some hr
 have u18 := (h_First.ext e9)
 refine s_ql (elp hd_First 1 v_.toNat 0) (x := aIndexAddr Tryd.prog 42 hd_First (.int .i64 v_)) (by kernel_rfl) (u18.idxb (by kernel_rfl) g16.1 g16.2) ?_
 refine s_ql (.int .i64 (gt First v_)) (x := aLoad Tryd.prog 3 (elp hd_First 1 v_.toNat 0) H8) (by kernel_rfl) (u18.ld g16.1 g16.2 (by kernel_rfl)) ?_
 refine s_qk (.int .i64 (gt First v_)) (by kernel_rfl) ?_
 refine s_nil ?_
 refine k15 _ _ ?_
 obtain ⟨o19, hx20, r21⟩ := bind_some r17
 refine w_mid (fun α H22 => ∃ (s26 : Value) (f27 : Fp), Has α [(5, s26)] ∧ FrS [] H8 H22 ∧ Ow enc_i64_i64_i64 3 H22 s26 o19 f27 ∧ Inn [] H8 f27) (fun K29 k29 => ?_) (fun α H22 hM => ?_)
 ·refine w_block ?_
  obtain ⟨n31, hn32⟩ := loopO_iff.1 hx20
  refine w_loopn (fun n α H33 => ∃ (l0 : List (Int × Int × Int)), ∃ (i1 : Int), ∃ (s37 : Value), ∃ (f38 : Fp), iterO (fun zz_ => z_csr_Csr_row_l0 First To Weight v_ zz_.1 zz_.2) n (l0, i1) = some o19 ∧ Has α [(1, .int .i64 v_), (2, .pointer (some ⟨b7, 0, none⟩)), (5, s37), (6, .int .i64 i1)] ∧ FrS [] H8 H33 ∧ Ow enc_i64_i64_i64 3 H33 s37 l0 f38 ∧ Inn [] H8 f38) n31 ⟨[], (gt First v_), (.slice none 0 0), [], hn32, ⟨by kernel_rfl, by kernel_rfl, by kernel_rfl, by kernel_rfl, trivial⟩, (FrS.refl (W := []) e9.wf), (Ow.nil (by decide)), Inn.nil⟩ ?_
  rintro n31 α H33 ⟨l0, i1, s37, f38, hi41, hh40, e34, m36, i39⟩ K46 k46
  obtain ⟨n42, z43, rfl, hz44, hn45⟩ := iter_succ hi41
  obtain ⟨β, rfl⟩ := has_ex hh40
  clear hh40
  replace hz44 : z_csr_Csr_row_l0 First To Weight v_ l0 i1 = some z43 := hz44
  unfold z_csr_Csr_row_l0 at hz44
  obtain ⟨a47, n48, c49, rfl⟩ := m36.form
  refine w_seqk fun K50 k50 => ?_
  refine w_seqk fun K51 k51 => ?_
  refine w_reg (by kernel_rfl) ?_
  refine s_qk (.int .i64 i1) (by kernel_rfl) ?_
  refine s_qk (.pointer (some ⟨b7, 0, none⟩)) (by kernel_rfl) ?_
  have u52 := (r11.frS e34 Dj.nil_l)
  refine s_ql (hd_First) (x := aLoad Tryd.prog 42 (.pointer (some ⟨b7, 0, none⟩)) H33) (by kernel_rfl) (u52.ld (by kernel_rfl)) ?_
  refine s_qk (.int .i64 v_) (by kernel_rfl) ?_
  obtain ⟨g53, r54⟩ := G_some hz44
  refine s_w ((v_ + 1)) (k := .i64) (x := (v_ + 1)) (by kernel_rfl) (wrap64 (by have := g53; omega)) ?_
  obtain ⟨g55, r56⟩ := G_some r54
  have u57 := (u18.fr e34 Dj.nil_l)
  refine s_ql (elp hd_First 1 (v_ + 1).toNat 0) (x := aIndexAddr Tryd.prog 42 hd_First (.int .i64 (v_ + 1))) (by kernel_rfl) (u57.idxb (by kernel_rfl) g55.1 g55.2) ?_
  refine s_ql (.int .i64 (gt First (v_ + 1))) (x := aLoad Tryd.prog 3 (elp hd_First 1 (v_ + 1).toNat 0) H33) (by kernel_rfl) (u57.ld g55.1 g55.2 (by kernel_rfl)) ?_
  refine s_qk (.bool (decide (i1 < (gt First (v_ + 1))))) (by kernel_rfl) ?_
  refine s_nil ?_
  refine k51 _ _ ?_
  refine w_condp (i1 < (gt First (v_ + 1))) (by kernel_rfl) rfl (fun h58 => ?_) (fun h58 => ?_)
  ·have r59 := ite_t h58 r56
   refine w_skip ?_
   refine k50 _ _ ?_
   refine w_seqk fun K60 k60 => ?_
   refine w_block ?_
   refine w_draw [0, 1, 2, 3, 4, 5, 6, 7, 8, 9, 10, 11, 12, 13, 14, 15] (by kernel_rfl) ?_
   refine d_qk (.slice a47 n48 c49) (by kernel_rfl) ?_
   refine d_qk (.int .i64 v_) (by kernel_rfl) ?_
   refine d_qk (.pointer (some ⟨b7, 1, none⟩)) (by kernel_rfl) ?_
   refine d_ql (hd_To) (x := aLoad Tryd.prog 42 (.pointer (some ⟨b7, 1, none⟩)) H33) (by kernel_rfl) (u52.ld (by kernel_rfl)) ?_
   refine d_qk (.int .i64 i1) (by kernel_rfl) ?_
   obtain ⟨g61, r62⟩ := G_some r59
   have u63 := ((h_To.ext e9).fr e34 Dj.nil_l)
   refine d_ql (elp hd_To 1 i1.toNat 0) (x := aIndexAddr Tryd.prog 42 hd_To (.int .i64 i1)) (by kernel_rfl) (u63.idxb (by kernel_rfl) g61.1 g61.2) ?_
   refine d_ql (.int .i64 (gt To i1)) (x := aLoad Tryd.prog 3 (elp hd_To 1 i1.toNat 0) H33) (by kernel_rfl) (u63.ld g61.1 g61.2 (by kernel_rfl)) ?_
   refine d_qk (.pointer (some ⟨b7, 2, none⟩)) (by kernel_rfl) ?_
   refine d_ql (hd_Weight) (x := aLoad Tryd.prog 42 (.pointer (some ⟨b7, 2, none⟩)) H33) (by kernel_rfl) (u52.ld (by kernel_rfl)) ?_
   refine d_qk (.int .i64 i1) (by kernel_rfl) ?_
   obtain ⟨g64, r65⟩ := G_some r62
   have u66 := ((h_Weight.ext e9).fr e34 Dj.nil_l)
   refine d_ql (elp hd_Weight 1 i1.toNat 0) (x := aIndexAddr Tryd.prog 42 hd_Weight (.int .i64 i1)) (by kernel_rfl) (u66.idxb (by kernel_rfl) g61.1 g64) ?_
   refine d_ql (.int .i64 (gt Weight i1)) (x := aLoad Tryd.prog 3 (elp hd_Weight 1 i1.toNat 0) H33) (by kernel_rfl) (u66.ld g61.1 g64 (by kernel_rfl)) ?_
   refine d_qk (.agg #[.int .i64 v_, .int .i64 (gt To i1), .int .i64 (gt Weight i1)]) (by kernel_rfl) ?_
   refine d_owk (enc := enc_i64_i64_i64) (sz := 3) e34.wf [(v_, (gt To i1), (gt Weight i1))] 1 (by decide) (fun _ _ => rfl) (fun _ _ => rfl) rfl (by kernel_rfl) fun s67 f68 H69 e70 hf71 hm72 => ?_
   obtain ⟨a73, n74, c75, rfl⟩ := hm72.form
   have u77 := (m36.ext e70)
   obtain ⟨g78, r79⟩ := G_some r65
   obtain ⟨s80, H81, f82, q86, e83, hm84, hf85⟩ := Ow.append (P := Tryd.prog) 24 e70.wf u77 hm72.sq (fun _ _ => rfl) (at_ := #[22, 22]) rfl rfl (by kernel_rfl) (by kernel_rfl) (by decide) (by have := g78; first | omega | (simp only [List.length_cons, List.length_nil] at this ⊢; omega) | (simp at this ⊢; omega))
   obtain ⟨a87, n88, c89, rfl⟩ := hm84.form
   refine d_ek (.slice a87 n88 c89) (by kernel_rfl) (q86) (st_nil) ?_
   refine d_qk (.slice a87 n88 c89) (by kernel_rfl) ?_
   refine d_nil ?_
   refine k60 _ _ ?_
   refine w_reg (by kernel_rfl) ?_
   refine s_qk (.int .i64 i1) (by kernel_rfl) ?_
   obtain ⟨g91, r92⟩ := G_some r79
   refine s_w ((i1 + 1)) (k := .i64) (x := (i1 + 1)) (by kernel_rfl) (wrap64 (by have := g91; omega)) ?_
   refine s_qk (.int .i64 (i1 + 1)) (by kernel_rfl) ?_
   refine s_nil ?_
   obtain rfl := Option.some.inj r92
   exact k46 n42 _ _ (Nat.lt_succ_self _) ⟨(l0 ++ [(v_, (gt To i1), (gt Weight i1))]), (i1 + 1), (.slice a87 n88 c89), f82, hn45, ⟨by kernel_rfl, by kernel_rfl, by kernel_rfl, by kernel_rfl, trivial⟩, (FrS.step e9.wf ((FrS.step e9.wf (FrS.refl (W := []) e9.wf) e34 Inn.nil).extR e70) e83 (i39.fresh (Nat.le_refl _))), hm84, (Inn.trans (i39.fresh (Nat.le_refl _)) (ntr e34.next e70.next) hf85)⟩
  ·have r93 := ite_f h58 r56
   refine w_exit (th_exit (th_exit (bl_eq ?_)))
   obtain rfl := Option.some.inj r93
   obtain rfl := it_inr hn45
   exact k29 _ _ ⟨(.slice a47 n48 c49), f38, ⟨by kernel_rfl, trivial⟩, (FrS.step e9.wf (FrS.refl (W := []) e9.wf) e34 Inn.nil), m36, (i39.fresh (Nat.le_refl _))⟩
 ·obtain ⟨s26, f27, hh30, e23, m25, i28⟩ := hM
  obtain ⟨β, rfl⟩ := has_ex hh30
  clear hh30
  obtain ⟨a94, n95, c96, rfl⟩ := m25.form
  refine k14 _ _ ?_
  refine w_seqk fun K97 k97 => ?_
  refine w_reg (by kernel_rfl) ?_
  refine s_qk (.slice a94 n95 c96) (by kernel_rfl) ?_
  refine s_qk (.slice a94 n95 c96) (by kernel_rfl) ?_
  refine s_nil ?_
  refine k97 _ _ ?_
  refine w_ret ?_
  refine b_ret (fn := Tryd.f66) (vs := [.slice a94 n95 c96]) (aRes_tmp (by kernel_rfl) (rfl)) ?_
  obtain rfl := Option.some.inj r21
  exact ⟨(.slice a94 n95 c96), f27, rfl, (FrS.step wf ((FrS.refl (W := []) wf).extR e9) e23 Inn.nil), m25, (i28.fresh e9.next)⟩


end Go.Vd

/-! (KCc2) -/

set_option maxRecDepth 100000
set_option maxHeartbeats 4000000
set_option linter.unusedVariables false
namespace Go.Vd
open Go.Proofs
attribute [local irreducible] wpSeq wpOrd aWp
theorem c_csr_Graph {H : AH} {hd_First : Value} {fp_First : Fp} {hd_To : Value} {fp_To : Fp} {hd_Weight : Value} {fp_Weight : Fp} {First : List (Int)} {To : List (Int)} {Weight : List (Int)} {r : Int × List (Int × Int × Int) × Er}
  (wf : WF H) (h_First : Sq (encI .i64) 1 H hd_First First fp_First) (h_To : Sq (encI .i64) 1 H hd_To To fp_To) (h_Weight : Sq (encI .i64) 1 H hd_Weight Weight fp_Weight) (hr : z_csr_Graph First To Weight = some r) :
  ACalls Tryd.prog 32 #[.agg #[hd_First, hd_To, hd_Weight]] H fun v H' => ∃ (s3 : Value) (f4 : Fp) (v7 : Value) (f8 : Fp), v = .tuple #[.agg #[.int .i64 r.1, s3], v7] ∧ FrS [] H H' ∧ Ow enc_i64_i64_i64 3 H' s3 r.2.1 f4 ∧ Ev 53 90 H' v7 r.2.2 f8 ∧ Inn [] H f4 ∧ Inn [] H f8 ∧ Dj f4 f8 := by
 refine acalls_of_body mixed Tryd.func32 rfl (Nat.le_of_ble_eq_true rfl) ?_
 unfold z_csr_Graph at hr
 refine w_seqk fun K12 k12 => ?_
 refine w_reg (by kernel_rfl) ?_
 refine s_rwl wf [hd_First, hd_To, hd_Weight] (one_cons (h_First.one1) (one_cons (h_To.one1) (one_cons (h_Weight.one1) (one_nil)))) (by kernel_rfl) fun b13 H14 e15 hb16 r17 => ?_
 refine s_rwk e15.wf [.int .i64 0, .slice none 0 0] (by kernel_rfl) fun b19 H20 e21 hb22 r23 => ?_
 refine s_qk (.nilIface) (by kernel_rfl) ?_
 refine s_nil ?_
 refine k12 _ _ ?_
 refine w_seqk fun K25 k25 => ?_
 refine w_seqk fun K26 k26 => ?_
 refine w_reg (by kernel_rfl) ?_
 have u27 := (r17.ext e21)
 refine s_ql (.agg #[hd_First, hd_To, hd_Weight]) (x := aLoad Tryd.prog 59 (.pointer (some ⟨b13, 0, none⟩)) H20) (by kernel_rfl) (u27.ld (by kernel_rfl)) ?_
 have u28 := ((h_First.ext e15).ext e21)
 have u29 := ((h_To.ext e15).ext e21)
 have u30 := ((h_Weight.ext e15).ext e21)
 obtain ⟨y31, hy32, r33⟩ := bind_some hr
 refine s_ck 29 #[.agg #[hd_First, hd_To, hd_Weight]] (by kernel_rfl) (c_csr_Check e21.wf u28 u29 u30 hy32) ?_
 rintro v34 H36 ⟨_, f35, rfl, e37, m38, i39⟩
 refine s_qk (v34) (by kernel_rfl) ?_
 refine s_nil ?_
 refine k26 _ _ ?_
 refine w_seqk fun K41 k41 => ?_
 refine w_reg (by kernel_rfl) ?_
 refine s_qk (v34) (by kernel_rfl) ?_
 rcases (m38).cases with ⟨h42, rfl⟩ | ⟨h42, t43, x44, rfl⟩
 ·have r45 := ite_t h42 r33
  refine s_qk (.bool false) (by kernel_rfl) ?_
  refine s_nil ?_
  refine k41 _ _ ?_
  refine w_cond false (by kernel_rfl) rfl (fun h => by cases h) (fun _ => ?_)
  refine w_skip ?_
  refine k25 _ _ ?_
  refine w_seqk fun K46 k46 => ?_
  refine w_reg (by kernel_rfl) ?_
  have u47 := (u27.frS e37 Dj.nil_l)
  refine s_ql (.agg #[hd_First, hd_To, hd_Weight]) (x := aLoad Tryd.prog 59 (.pointer (some ⟨b13, 0, none⟩)) H36) (by kernel_rfl) (u47.ld (by kernel_rfl)) ?_
  have u48 := (u28.fr e37 Dj.nil_l)
  have u49 := (u29.fr e37 Dj.nil_l)
  have u50 := (u30.fr e37 Dj.nil_l)
  obtain ⟨y51, hy52, r53⟩ := bind_some r45
  refine s_ck 62 #[.agg #[hd_First, hd_To, hd_Weight]] (by kernel_rfl) (c_csr_Csr_nodes e37.wf u48 u49 u50 hy52) ?_
  rintro _ H54 ⟨rfl, e55⟩
  refine s_qk (.agg #[.int .i64 y51, .slice none 0 0]) (by kernel_rfl) ?_
  refine s_rwk e55.wf [.int .i64 0, .slice none 0 0] (by kernel_rfl) fun b56 H57 e58 hb59 r60 => ?_
  obtain ⟨H62, q63, e64, r65⟩ := Row.store (P := Tryd.prog) (t := 24) (p := 0) e58.wf r60 (.agg #[.int .i64 y51, .slice none 0 0]) [.int .i64 y51, .slice none 0 0] (by kernel_rfl) (by kernel_rfl) (one_cons (rfl) (one_cons (rfl) (one_nil))) (Nat.le_of_ble_eq_true (by kernel_rfl)) [.int .i64 y51, .slice none 0 0] (by kernel_rfl)
  refine s_ek (undef) (by kernel_rfl) (map_ok q63) ?_
  refine s_nil ?_
  refine k46 _ _ ?_
  refine w_seqk fun K66 k66 => ?_
  refine w_seqk fun K67 k67 => ?_
  refine w_reg (by kernel_rfl) ?_
  refine s_qk (.pointer (some ⟨b56, 0, none⟩)) (by kernel_rfl) ?_
  refine s_ql (.int .i64 y51) (x := aLoad Tryd.prog 3 (.pointer (some ⟨b56, 0, none⟩)) H62) (by kernel_rfl) (r65.ld (by kernel_rfl)) ?_
  refine s_qk (.int .i64 0) (by kernel_rfl) ?_
  refine s_nil ?_
  refine k67 _ _ ?_
  obtain ⟨o68, hx69, r70⟩ := bind_some r53
  refine w_mid (fun α H71 => ∃ (s75 : Value) (f76 : Fp), Has α [(2, .pointer (some ⟨b19, 0, none⟩)), (5, .pointer (some ⟨b56, 0, none⟩))] ∧ FrS [b56] H62 H71 ∧ Ow enc_i64_i64_i64 3 H71 s75 o68 f76 ∧ Row H71 b56 [.int .i64 y51, s75] ∧ Inn [] H62 f76) (fun K80 k80 => ?_) (fun α H71 hM => ?_)
  ·refine w_block ?_
   obtain ⟨n82, hn83⟩ := loopO_iff.1 hx69
   refine w_loopn (fun n α H84 => ∃ (i0 : Int), ∃ (g1 : List (Int × Int × Int)), ∃ (s88 : Value), ∃ (f89 : Fp), iterO (fun zz_ => z_csr_Graph_l0 First To Weight y51 zz_.1 zz_.2) n (i0, g1) = some o68 ∧ Has α [(1, .pointer (some ⟨b13, 0, none⟩)), (2, .pointer (some ⟨b19, 0, none⟩)), (5, .pointer (some ⟨b56, 0, none⟩)), (17, .int .i64 y51), (18, .int .i64 i0)] ∧ FrS [b56] H62 H84 ∧ Ow enc_i64_i64_i64 3 H84 s88 g1 f89 ∧ Row H84 b56 [.int .i64 y51, s88] ∧ Inn [] H62 f89) n82 ⟨0, [], (.slice none 0 0), [], hn83, ⟨by kernel_rfl, by kernel_rfl, by kernel_rfl, by kernel_rfl, by kernel_rfl, trivial⟩, (FrS.refl (W := [b56]) e64.wf), (Ow.nil (by decide)), r65, Inn.nil⟩ ?_
   rintro n82 α H84 ⟨i0, g1, s88, f89, hi94, hh93, e85, m87, m91, i92⟩ K99 k99
   obtain ⟨n95, z96, rfl, hz97, hn98⟩ := iter_succ hi94
   obtain ⟨β, rfl⟩ := has_ex hh93
   clear hh93
   replace hz97 : z_csr_Graph_l0 First To Weight y51 i0 g1 = some z96 := hz97
   unfold z_csr_Graph_l0 at hz97
   obtain ⟨a100, n101, c102, rfl⟩ := m87.form
   refine w_seqk fun K103 k103 => ?_
   refine w_reg (by kernel_rfl) ?_
   refine s_qk (.bool (decide (i0 < y51))) (by kernel_rfl) ?_
   refine s_nil ?_
   refine k103 _ _ ?_
   refine w_seqk fun K104 k104 => ?_
   refine w_condp (i0 < y51) (by kernel_rfl) rfl (fun h105 => ?_) (fun h105 => ?_)
   ·have r106 := ite_t h105 hz97
    refine w_skip ?_
    refine k104 _ _ ?_
    refine w_seqk fun K107 k107 => ?_
    refine w_block ?_
    refine w_seqk fun K108 k108 => ?_
    refine w_reg (by kernel_rfl) ?_
    refine s_qk (.int .i64 i0) (by kernel_rfl) ?_
    refine s_qk (.int .i64 i0) (by kernel_rfl) ?_
    refine s_nil ?_
    refine k108 _ _ ?_
    refine w_draw [0, 1, 2, 3, 4, 5, 6, 7] (by kernel_rfl) ?_
    refine d_qk (.pointer (some ⟨b56, 1, none⟩)) (by kernel_rfl) ?_
    refine d_fl (.slice a100 n101 c102) (x := aLoad Tryd.prog 22 (.pointer (some ⟨b56, 1, none⟩)) H84) (by kernel_rfl) (m91.ld (by kernel_rfl)) ?_
    have u109 := ((((u47.frS e55 Dj.nil_l).ext e58).frS e64 (hb59.djn (r17.ltF.le (ntr (ntr e21.next e37.next) e55.next)))).frS e85 (hb59.djn (r17.ltF.le (ntr (ntr e21.next e37.next) e55.next))))
    refine d_ql (.agg #[hd_First, hd_To, hd_Weight]) (x := aLoad Tryd.prog 59 (.pointer (some ⟨b13, 0, none⟩)) H84) (by kernel_rfl) (u109.ld (by kernel_rfl)) ?_
    refine d_qk (.int .i64 i0) (by kernel_rfl) ?_
    have u110 := ((((u48.fr e55 Dj.nil_l).ext e58).fr e64 (hb59.djn (h_First.lt.le (ntr (ntr (ntr e15.next e21.next) e37.next) e55.next)))).fr e85 (hb59.djn (h_First.lt.le (ntr (ntr (ntr e15.next e21.next) e37.next) e55.next))))
    have u111 := ((((u49.fr e55 Dj.nil_l).ext e58).fr e64 (hb59.djn (h_To.lt.le (ntr (ntr (ntr e15.next e21.next) e37.next) e55.next)))).fr e85 (hb59.djn (h_To.lt.le (ntr (ntr (ntr e15.next e21.next) e37.next) e55.next))))
    have u112 := ((((u50.fr e55 Dj.nil_l).ext e58).fr e64 (hb59.djn (h_Weight.lt.le (ntr (ntr (ntr e15.next e21.next) e37.next) e55.next)))).fr e85 (hb59.djn (h_Weight.lt.le (ntr (ntr (ntr e15.next e21.next) e37.next) e55.next))))
    obtain ⟨y113, hy114, r115⟩ := bind_some r106
    refine d_ck 66 #[.agg #[hd_First, hd_To, hd_Weight], .int .i64 i0] (by kernel_rfl) (c_csr_Csr_row e85.wf u110 u111 u112 hy114) ?_
    rintro s116 H118 ⟨_, f117, rfl, e119, m120, i121⟩
    obtain ⟨a123, n124, c125, rfl⟩ := m120.form
    have u126 := (m91.frS e119 Dj.nil_l)
    refine ⟨st_ql (y := aLoad Tryd.prog 22 (.pointer (some ⟨b56, 1, none⟩)) H118) (by kernel_rfl) (u126.ld (by kernel_rfl)) (st_nil), ?_⟩
    have u127 := (m87.fr e119 Dj.nil_l)
    obtain ⟨g128, r129⟩ := G_some r115
    obtain ⟨s130, H131, f132, q136, e133, hm134, hf135⟩ := Ow.append (P := Tryd.prog) 24 e119.wf u127 m120.sq (fun _ _ => rfl) (at_ := #[22, 22]) rfl rfl (by kernel_rfl) (by kernel_rfl) (by decide) (by have := g128; first | omega | (simp only [List.length_cons, List.length_nil] at this ⊢; omega) | (simp at this ⊢; omega))
    obtain ⟨a137, n138, c139, rfl⟩ := hm134.form
    refine d_ek (.slice a137 n138 c139) (by kernel_rfl) (q136) (st_anc (by kernel_rfl) (st_nil)) ?_
    refine d_qk (.pointer (some ⟨b56, 1, none⟩)) (by kernel_rfl) ?_
    have u145 := (u126.frS e133 (i92.djn (r60.ltF.le e64.next)))
    obtain ⟨H141, q142, e143, r144⟩ := Row.store (P := Tryd.prog) (t := 22) (p := 1) e133.wf u145 (.slice a137 n138 c139) [.slice a137 n138 c139] (by kernel_rfl) (by kernel_rfl) (one_cons (hm134.one1) (one_nil)) (Nat.le_of_ble_eq_true (by kernel_rfl)) [.int .i64 y51, .slice a137 n138 c139] (by kernel_rfl)
    refine d_ek (undef) (by kernel_rfl) (map_ok q142) (st_anc (by kernel_rfl) (st_nil)) ?_
    refine d_nil ?_
    refine k107 _ _ ?_
    refine w_reg (by kernel_rfl) ?_
    obtain ⟨g146, r147⟩ := G_some r129
    refine s_w ((i0 + 1)) (k := .i64) (x := (i0 + 1)) (by kernel_rfl) (wrap64 g146) ?_
    refine s_qk (.int .i64 (i0 + 1)) (by kernel_rfl) ?_
    refine s_nil ?_
    have u148 := (hm134.fr e143 (Dj.symm (hf135.dj (i92.djn (r60.ltF.le e64.next)) (r60.ltF.le (ntr (ntr e64.next e85.next) e119.next)))))
    obtain rfl := Option.some.inj r147
    exact k99 n95 _ _ (Nat.lt_succ_self _) ⟨(i0 + 1), (g1 ++ y113), (.slice a137 n138 c139), f132, hn98, ⟨by kernel_rfl, by kernel_rfl, by kernel_rfl, by kernel_rfl, by kernel_rfl, trivial⟩, (FrS.step e64.wf (FrS.step e64.wf (FrS.step e64.wf (FrS.step e64.wf (FrS.refl (W := [b56]) e64.wf) e85 Inn.refl') e119 Inn.nil) e133 (i92.fresh (Nat.le_refl _))) e143 Inn.refl'), u148, r144, (Inn.trans (i92.fresh (Nat.le_refl _)) (ntr e85.next e119.next) hf135)⟩
   ·have r149 := ite_f h105 hz97
    refine w_exit (th_exit (th_exit (bl_eq ?_)))
    obtain rfl := Option.some.inj r149
    obtain rfl := it_inr hn98
    exact k80 _ _ ⟨(.slice a100 n101 c102), f89, ⟨by kernel_rfl, by kernel_rfl, trivial⟩, (FrS.step e64.wf (FrS.refl (W := [b56]) e64.wf) e85 Inn.refl'), m87, m91, (i92.fresh (Nat.le_refl _))⟩
  ·obtain ⟨s75, f76, hh81, e72, m74, m78, i79⟩ := hM
   obtain ⟨β, rfl⟩ := has_ex hh81
   clear hh81
   obtain ⟨a150, n151, c152, rfl⟩ := m74.form
   refine k66 _ _ ?_
   refine w_seqk fun K153 k153 => ?_
   refine w_reg (by kernel_rfl) ?_
   refine s_ql (.agg #[.int .i64 y51, .slice a150 n151 c152]) (x := aLoad Tryd.prog 24 (.pointer (some ⟨b56, 0, none⟩)) H71) (by kernel_rfl) (m78.ld (by kernel_rfl)) ?_
   have u158 := (((((r23.frS e37 Dj.nil_l).frS e55 Dj.nil_l).ext e58).frS e64 (hb59.djn (r23.ltF.le (ntr e37.next e55.next)))).frS e72 (hb59.djn (r23.ltF.le (ntr e37.next e55.next))))
   obtain ⟨H154, q155, e156, r157⟩ := Row.store (P := Tryd.prog) (t := 24) (p := 0) e72.wf u158 (.agg #[.int .i64 y51, .slice a150 n151 c152]) [.int .i64 y51, .slice a150 n151 c152] (by kernel_rfl) (by kernel_rfl) (one_cons (rfl) (one_cons (m74.one1) (one_nil))) (Nat.le_of_ble_eq_true (by kernel_rfl)) [.int .i64 y51, .slice a150 n151 c152] (by kernel_rfl)
   refine s_ek (undef) (by kernel_rfl) (map_ok q155) ?_
   refine s_qk (.nilIface) (by kernel_rfl) ?_
   refine s_nil ?_
   refine k153 _ _ ?_
   refine w_ret ?_
   refine b_ret (fn := Tryd.f32) (vs := [.agg #[.int .i64 y51, .slice a150 n151 c152], .nilIface]) (aRes_cell (Eq.trans (b := aLoad Tryd.prog 24 (.pointer (some ⟨b19, 0, none⟩)) H154) (by kernel_rfl) (r157.ld (by kernel_rfl))) (aRes_tmp (by kernel_rfl) (rfl))) ?_
   have u159 := (m74.fr e156 (Dj.symm (i79.djn (r23.ltF.le (ntr (ntr (ntr e37.next e55.next) e58.next) e64.next)))))
   obtain rfl := Option.some.inj r70
   exact ⟨(.slice a150 n151 c152), f76, (.nilIface), [], rfl, (FrS.step wf (FrS.step wf (FrS.step wf ((FrS.step wf (FrS.step wf (((FrS.refl (W := []) wf).extR e15).extR e21) e37 Inn.nil) e55 Inn.nil).extR e58) e64 (hb59.fresh (ntr (ntr (ntr e15.next e21.next) e37.next) e55.next))) e72 (hb59.fresh (ntr (ntr (ntr e15.next e21.next) e37.next) e55.next))) e156 (hb22.fresh e15.next)), u159, Ev.nil, (i79.fresh (ntr (ntr (ntr (ntr (ntr e15.next e21.next) e37.next) e55.next) e58.next) e64.next)), Inn.nil, Dj.nil_r⟩
 ·have r160 := ite_f h42 r33
  refine s_ql (.bool true) (x := aBin Tryd.prog .neq 28 (.tmp 9) (.const .nilIface) (.iface t43 x44) .nilIface) (by kernel_rfl) (aBin_nnil (by kernel_rfl)) ?_
  refine s_nil ?_
  refine k41 _ _ ?_
  refine w_cond true (by kernel_rfl) rfl (fun _ => ?_) (fun h => by cases h)
  refine w_seqk fun K161 k161 => ?_
  refine w_reg (by kernel_rfl) ?_
  refine s_qk (.agg #[.int .i64 0, .slice none 0 0]) (by kernel_rfl) ?_
  refine s_qk (.iface t43 x44) (by kernel_rfl) ?_
  have u166 := (r23.frS e37 Dj.nil_l)
  obtain ⟨H162, q163, e164, r165⟩ := Row.store (P := Tryd.prog) (t := 24) (p := 0) e37.wf u166 (.agg #[.int .i64 0, .slice none 0 0]) [.int .i64 0, .slice none 0 0] (by kernel_rfl) (by kernel_rfl) (one_cons (rfl) (one_cons (rfl) (one_nil))) (Nat.le_of_ble_eq_true (by kernel_rfl)) [.int .i64 0, .slice none 0 0] (by kernel_rfl)
  refine s_ek (undef) (by kernel_rfl) (map_ok q163) ?_
  refine s_qk (.iface t43 x44) (by kernel_rfl) ?_
  refine s_nil ?_
  refine k161 _ _ ?_
  refine w_ret (th_ret ?_)
  refine b_ret (fn := Tryd.f32) (vs := [.agg #[.int .i64 0, .slice none 0 0], .iface t43 x44]) (aRes_cell (Eq.trans (b := aLoad Tryd.prog 24 (.pointer (some ⟨b19, 0, none⟩)) H162) (by kernel_rfl) (r165.ld (by kernel_rfl))) (aRes_tmp (by kernel_rfl) (rfl))) ?_
  have u167 := (m38.fr e164 (Dj.symm (i39.djn r23.ltF)))
  obtain rfl := Option.some.inj r160
  exact ⟨(.slice none 0 0), [], (.iface t43 x44), f35, rfl, (FrS.step wf (FrS.step wf (((FrS.refl (W := []) wf).extR e15).extR e21) e37 Inn.nil) e164 (hb22.fresh e15.next)), (Ow.nil (by decide)), u167, Inn.nil, (i39.fresh (ntr e15.next e21.next)), Dj.nil_l⟩

theorem c_viaductref05_Row {H : AH} {hd_First : Value} {fp_First : Fp} {hd_To : Value} {fp_To : Fp} {hd_Weight : Value} {fp_Weight : Fp} {First : List (Int)} {To : List (Int)} {Weight : List (Int)} {v_ : Int} {r : List (Int × Int × Int)}
  (wf : WF H) (h_First : Sq (encI .i64) 1 H hd_First First fp_First) (h_To : Sq (encI .i64) 1 H hd_To To fp_To) (h_Weight : Sq (encI .i64) 1 H hd_Weight Weight fp_Weight) (hr : z_viaductref05_Row First To Weight v_ = some r) :
  ACalls Tryd.prog 69 #[.agg #[hd_First, hd_To, hd_Weight], .int .i64 v_] H fun v H' => ∃ (s3 : Value) (f4 : Fp), v = s3 ∧ FrS [] H H' ∧ Ow enc_i64_i64_i64 3 H' s3 r f4 ∧ Inn [] H f4 := by
 refine acalls_of_body mixed Tryd.func69 rfl (Nat.le_of_ble_eq_true rfl) ?_
 unfold z_viaductref05_Row at hr
 refine w_seqk fun K6 k6 => ?_
 refine w_reg (by kernel_rfl) ?_
 refine s_rwl wf [hd_First, hd_To, hd_Weight] (one_cons (h_First.one1) (one_cons (h_To.one1) (one_cons (h_Weight.one1) (one_nil)))) (by kernel_rfl) fun b7 H8 e9 hb10 r11 => ?_
 refine s_qk (.slice none 0 0) (by kernel_rfl) ?_
 refine s_nil ?_
 refine k6 _ _ ?_
 refine w_seqk fun K13 k13 => ?_
 refine w_reg (by kernel_rfl) ?_
 refine s_qk (.slice none 0 0) (by kernel_rfl) ?_
 refine s_nil ?_
 refine k13 _ _ ?_
 refine w_seqk fun K14 k14 => ?_
 refine w_seqk fun K15 k15 => ?_
 refine w_reg (by kernel_rfl) ?_
 refine s_qk (.pointer (some ⟨b7, 0, none⟩)) (by kernel_rfl) ?_
 refine s_ql (hd_First) (x := aLoad Tryd.prog 42 (.pointer (some ⟨b7, 0, none⟩)) H8) (by kernel_rfl) (r11.ld (by kernel_rfl)) ?_
 refine s_qk (.int .i64 v_) (by kernel_rfl) ?_
 obtain ⟨g16, r17⟩ := G_some hr
 have u18 := (h_First.ext e9)
 refine s_ql (elp hd_First 1 v_.toNat 0) (x := aIndexAddr Tryd.prog 42 hd_First (.int .i64 v_)) (by kernel_rfl) (u18.idxb (by kernel_rfl) g16.1 g16.2) ?_
 refine s_ql (.int .i64 (gt First v_)) (x := aLoad Tryd.prog 3 (elp hd_First 1 v_.toNat 0) H8) (by kernel_rfl) (u18.ld g16.1 g16.2 (by kernel_rfl)) ?_
 refine s_qk (.int .i64 (gt First v_)) (by kernel_rfl) ?_
 refine s_nil ?_
 refine k15 _ _ ?_
 obtain ⟨o19, hx20, r21⟩ := bind_some r17
 refine w_mid (fun α H22 => ∃ (s26 : Value) (f27 : Fp), Has α [(5, s26)] ∧ FrS [] H8 H22 ∧ Ow enc_i64_i64_i64 3 H22 s26 o19 f27 ∧ Inn [] H8 f27) (fun K29 k29 => ?_) (fun α H22 hM => ?_)
 ·refine w_block ?_
  obtain ⟨n31, hn32⟩ := loopO_iff.1 hx20
  refine w_loopn (fun n α H33 => ∃ (l0 : List (Int × Int × Int)), ∃ (i1 : Int), ∃ (s37 : Value), ∃ (f38 : Fp), iterO (fun zz_ => z_viaductref05_Row_l0 First To Weight v_ zz_.1 zz_.2) n (l0, i1) = some o19 ∧ Has α [(1, .int .i64 v_), (2, .pointer (some ⟨b7, 0, none⟩)), (5, s37), (6, .int .i64 i1)] ∧ FrS [] H8 H33 ∧ Ow enc_i64_i64_i64 3 H33 s37 l0 f38 ∧ Inn [] H8 f38) n31 ⟨[], (gt First v_), (.slice none 0 0), [], hn32, ⟨by kernel_rfl, by kernel_rfl, by kernel_rfl, by kernel_rfl, trivial⟩, (FrS.refl (W := []) e9.wf), (Ow.nil (by decide)), Inn.nil⟩ ?_
  rintro n31 α H33 ⟨l0, i1, s37, f38, hi41, hh40, e34, m36, i39⟩ K46 k46
  obtain ⟨n42, z43, rfl, hz44, hn45⟩ := iter_succ hi41
  obtain ⟨β, rfl⟩ := has_ex hh40
  clear hh40
  replace hz44 : z_viaductref05_Row_l0 First To Weight v_ l0 i1 = some z43 := hz44
  unfold z_viaductref05_Row_l0 at hz44
  obtain ⟨a47, n48, c49, rfl⟩ := m36.form
  refine w_seqk fun K50 k50 => ?_
  refine w_seqk fun K51 k51 => ?_
  refine w_reg (by kernel_rfl) ?_
  refine s_qk (.int .i64 i1) (by kernel_rfl) ?_
  refine s_qk (.pointer (some ⟨b7, 0, none⟩)) (by kernel_rfl) ?_
  have u52 := (r11.frS e34 Dj.nil_l)
  refine s_ql (hd_First) (x := aLoad Tryd.prog 42 (.pointer (some ⟨b7, 0, none⟩)) H33) (by kernel_rfl) (u52.ld (by kernel_rfl)) ?_
  refine s_qk (.int .i64 v_) (by kernel_rfl) ?_
  obtain ⟨g53, r54⟩ := G_some hz44
  refine s_w ((v_ + 1)) (k := .i64) (x := (v_ + 1)) (by kernel_rfl) (wrap64 (by have := g53; omega)) ?_
  obtain ⟨g55, r56⟩ := G_some r54
  have u57 := (u18.fr e34 Dj.nil_l)
  refine s_ql (elp hd_First 1 (v_ + 1).toNat 0) (x := aIndexAddr Tryd.prog 42 hd_First (.int .i64 (v_ + 1))) (by kernel_rfl) (u57.idxb (by kernel_rfl) g55.1 g55.2) ?_
  refine s_ql (.int .i64 (gt First (v_ + 1))) (x := aLoad Tryd.prog 3 (elp hd_First 1 (v_ + 1).toNat 0) H33) (by kernel_rfl) (u57.ld g55.1 g55.2 (by kernel_rfl)) ?_
  refine s_qk (.bool (decide (i1 < (gt First (v_ + 1))))) (by kernel_rfl) ?_
  refine s_nil ?_
  refine k51 _ _ ?_
  refine w_condp (i1 < (gt First (v_ + 1))) (by kernel_rfl) rfl (fun h58 => ?_) (fun h58 => ?_)
  ·have r59 := ite_t h58 r56
   refine w_skip ?_
   refine k50 _ _ ?_
   refine w_seqk fun K60 k60 => ?_
   refine w_block ?_
   refine w_draw [0, 1, 2, 3, 4, 5, 6, 7, 8, 9, 10, 11, 12, 13, 14, 15] (by kernel_rfl) ?_
   refine d_qk (.slice a47 n48 c49) (by kernel_rfl) ?_
   refine d_qk (.int .i64 v_) (by kernel_rfl) ?_
   refine d_qk (.pointer (some ⟨b7, 1, none⟩)) (by kernel_rfl) ?_
   refine d_ql (hd_To) (x := aLoad Tryd.prog 42 (.pointer (some ⟨b7, 1, none⟩)) H33) (by kernel_rfl) (u52.ld (by kernel_rfl)) ?_
   refine d_qk (.int .i64 i1) (by kernel_rfl) ?_
   obtain ⟨g61, r62⟩ := G_some r59
   have u63 := ((h_To.ext e9).fr e34 Dj.nil_l)
   refine d_ql (elp hd_To 1 i1.toNat 0) (x := aIndexAddr Tryd.prog 42 hd_To (.int .i64 i1)) (by kernel_rfl) (u63.idxb (by kernel_rfl) g61.1 g61.2) ?_
   refine d_ql (.int .i64 (gt To i1)) (x := aLoad Tryd.prog 3 (elp hd_To 1 i1.toNat 0) H33) (by kernel_rfl) (u63.ld g61.1 g61.2 (by kernel_rfl)) ?_
   refine d_qk (.pointer (some ⟨b7, 2, none⟩)) (by kernel_rfl) ?_
   refine d_ql (hd_Weight) (x := aLoad Tryd.prog 42 (.pointer (some ⟨b7, 2, none⟩)) H33) (by kernel_rfl) (u52.ld (by kernel_rfl)) ?_
   refine d_qk (.int .i64 i1) (by kernel_rfl) ?_
   obtain ⟨g64, r65⟩ := G_some r62
   have u66 := ((h_Weight.ext e9).fr e34 Dj.nil_l)
   refine d_ql (elp hd_Weight 1 i1.toNat 0) (x := aIndexAddr Tryd.prog 42 hd_Weight (.int .i64 i1)) (by kernel_rfl) (u66.idxb (by kernel_rfl) g61.1 g64) ?_
   refine d_ql (.int .i64 (gt Weight i1)) (x := aLoad Tryd.prog 3 (elp hd_Weight 1 i1.toNat 0) H33) (by kernel_rfl) (u66.ld g61.1 g64 (by kernel_rfl)) ?_
   refine d_qk (.agg #[.int .i64 v_, .int .i64 (gt To i1), .int .i64 (gt Weight i1)]) (by kernel_rfl) ?_
   refine d_owk (enc := enc_i64_i64_i64) (sz := 3) e34.wf [(v_, (gt To i1), (gt Weight i1))] 1 (by decide) (fun _ _ => rfl) (fun _ _ => rfl) rfl (by kernel_rfl) fun s67 f68 H69 e70 hf71 hm72 => ?_
   obtain ⟨a73, n74, c75, rfl⟩ := hm72.form
   have u77 := (m36.ext e70)
   obtain ⟨g78, r79⟩ := G_some r65
   obtain ⟨s80, H81, f82, q86, e83, hm84, hf85⟩ := Ow.append (P := Tryd.prog) 24 e70.wf u77 hm72.sq (fun _ _ => rfl) (at_ := #[22, 22]) rfl rfl (by kernel_rfl) (by kernel_rfl) (by decide) (by have := g78; first | omega | (simp only [List.length_cons, List.length_nil] at this ⊢; omega) | (simp at this ⊢; omega))
   obtain ⟨a87, n88, c89, rfl⟩ := hm84.form
   refine d_ek (.slice a87 n88 c89) (by kernel_rfl) (q86) (st_nil) ?_
   refine d_qk (.slice a87 n88 c89) (by kernel_rfl) ?_
   refine d_nil ?_
   refine k60 _ _ ?_
   refine w_reg (by kernel_rfl) ?_
   refine s_qk (.int .i64 i1) (by kernel_rfl) ?_
   obtain ⟨g91, r92⟩ := G_some r79
   refine s_w ((i1 + 1)) (k := .i64) (x := (i1 + 1)) (by kernel_rfl) (wrap64 (by have := g91; omega)) ?_
   refine s_qk (.int .i64 (i1 + 1)) (by kernel_rfl) ?_
   refine s_nil ?_
   obtain rfl := Option.some.inj r92
   exact k46 n42 _ _ (Nat.lt_succ_self _) ⟨(l0 ++ [(v_, (gt To i1), (gt Weight i1))]), (i1 + 1), (.slice a87 n88 c89), f82, hn45, ⟨by kernel_rfl, by kernel_rfl, by kernel_rfl, by kernel_rfl, trivial⟩, (FrS.step e9.wf ((FrS.step e9.wf (FrS.refl (W := []) e9.wf) e34 Inn.nil).extR e70) e83 (i39.fresh (Nat.le_refl _))), hm84, (Inn.trans (i39.fresh (Nat.le_refl _)) (ntr e34.next e70.next) hf85)⟩
  ·have r93 := ite_f h58 r56
   refine w_exit (th_exit (th_exit (bl_eq ?_)))
   obtain rfl := Option.some.inj r93
   obtain rfl := it_inr hn45
   exact k29 _ _ ⟨(.slice a47 n48 c49), f38, ⟨by kernel_rfl, trivial⟩, (FrS.step e9.wf (FrS.refl (W := []) e9.wf) e34 Inn.nil), m36, (i39.fresh (Nat.le_refl _))⟩
 ·obtain ⟨s26, f27, hh30, e23, m25, i28⟩ := hM
  obtain ⟨β, rfl⟩ := has_ex hh30
  clear hh30
  obtain ⟨a94, n95, c96, rfl⟩ := m25.form
  refine k14 _ _ ?_
  refine w_seqk fun K97 k97 => ?_
  refine w_reg (by kernel_rfl) ?_
  refine s_qk (.slice a94 n95 c96) (by kernel_rfl) ?_
  refine s_qk (.slice a94 n95 c96) (by kernel_rfl) ?_
  refine s_nil ?_
  refine k97 _ _ ?_
  refine w_ret ?_
  refine b_ret (fn := Tryd.f69) (vs := [.slice a94 n95 c96]) (aRes_tmp (by kernel_rfl) (rfl)) ?_
  obtain rfl := Option.some.inj r21
  exact ⟨(.slice a94 n95 c96), f27, rfl, (FrS.step wf ((FrS.refl (W := []) wf).extR e9) e23 Inn.nil), m25, (i28.fresh e9.next)⟩

theorem c_viaductref05_Graph {H : AH} {hd_First : Value} {fp_First : Fp} {hd_To : Value} {fp_To : Fp} {hd_Weight : Value} {fp_Weight : Fp} {First : List (Int)} {To : List (Int)} {Weight : List (Int)} {r : Int × List (Int × Int × Int)}
  (wf : WF H) (h_First : Sq (encI .i64) 1 H hd_First First fp_First) (h_To : Sq (encI .i64) 1 H hd_To To fp_To) (h_Weight : Sq (encI .i64) 1 H hd_Weight Weight fp_Weight) (hr : z_viaductref05_Graph First To Weight = some r) :
  ACalls Tryd.prog 67 #[.agg #[hd_First, hd_To, hd_Weight]] H fun v H' => ∃ (s3 : Value) (f4 : Fp), v = .agg #[.int .i64 r.1, s3] ∧ FrS [] H H' ∧ Ow enc_i64_i64_i64 3 H' s3 r.2 f4 ∧ Inn [] H f4 := by
 refine acalls_of_body mixed Tryd.func67 rfl (Nat.le_of_ble_eq_true rfl) ?_
 unfold z_viaductref05_Graph at hr
 refine w_seqk fun K6 k6 => ?_
 refine w_reg (by kernel_rfl) ?_
 refine s_rwl wf [hd_First, hd_To, hd_Weight] (one_cons (h_First.one1) (one_cons (h_To.one1) (one_cons (h_Weight.one1) (one_nil)))) (by kernel_rfl) fun b7 H8 e9 hb10 r11 => ?_
 refine s_rwk e9.wf [.int .i64 0, .slice none 0 0] (by kernel_rfl) fun b13 H14 e15 hb16 r17 => ?_
 refine s_nil ?_
 refine k6 _ _ ?_
 refine w_seqk fun K19 k19 => ?_
 refine w_reg (by kernel_rfl) ?_
 refine s_qk (.pointer (some ⟨b7, 0, none⟩)) (by kernel_rfl) ?_
 have u20 := (r11.ext e15)
 refine s_ql (hd_First) (x := aLoad Tryd.prog 42 (.pointer (some ⟨b7, 0, none⟩)) H14) (by kernel_rfl) (u20.ld (by kernel_rfl)) ?_
 have u21 := ((h_First.ext e9).ext e15)
 refine s_ql (.int .i64 (First.length : Int)) (x := aLen Tryd.prog 42 hd_First H14) (by kernel_rfl) (u21.lenb (by kernel_rfl)) ?_
 obtain ⟨g22, r23⟩ := G_some hr
 refine s_w (((First.length : Int) - 1)) (k := .i64) (x := ((First.length : Int) - 1)) (by kernel_rfl) (wrap64 g22) ?_
 refine s_qk (.agg #[.int .i64 ((First.length : Int) - 1), .slice none 0 0]) (by kernel_rfl) ?_
 refine s_rwk e15.wf [.int .i64 0, .slice none 0 0] (by kernel_rfl) fun b24 H25 e26 hb27 r28 => ?_
 obtain ⟨H30, q31, e32, r33⟩ := Row.store (P := Tryd.prog) (t := 24) (p := 0) e26.wf r28 (.agg #[.int .i64 ((First.length : Int) - 1), .slice none 0 0]) [.int .i64 ((First.length : Int) - 1), .slice none 0 0] (by kernel_rfl) (by kernel_rfl) (one_cons (rfl) (one_cons (rfl) (one_nil))) (Nat.le_of_ble_eq_true (by kernel_rfl)) [.int .i64 ((First.length : Int) - 1), .slice none 0 0] (by kernel_rfl)
 refine s_ek (undef) (by kernel_rfl) (map_ok q31) ?_
 refine s_nil ?_
 refine k19 _ _ ?_
 refine w_seqk fun K34 k34 => ?_
 refine w_seqk fun K35 k35 => ?_
 refine w_reg (by kernel_rfl) ?_
 refine s_qk (.int .i64 0) (by kernel_rfl) ?_
 refine s_nil ?_
 refine k35 _ _ ?_
 obtain ⟨o36, hx37, r38⟩ := bind_some r23
 refine w_mid (fun α H39 => ∃ (s43 : Value) (f44 : Fp), Has α [(2, .pointer (some ⟨b13, 0, none⟩)), (3, .pointer (some ⟨b24, 0, none⟩))] ∧ FrS [b24] H30 H39 ∧ Ow enc_i64_i64_i64 3 H39 s43 o36 f44 ∧ Row H39 b24 [.int .i64 ((First.length : Int) - 1), s43] ∧ Inn [] H30 f44) (fun K48 k48 => ?_) (fun α H39 hM => ?_)
 ·refine w_block ?_
  obtain ⟨n50, hn51⟩ := loopO_iff.1 hx37
  refine w_loopn (fun n α H52 => ∃ (g0 : List (Int × Int × Int)), ∃ (v1 : Int), ∃ (s56 : Value), ∃ (f57 : Fp), iterO (fun zz_ => z_viaductref05_Graph_l0 First To Weight zz_.1 zz_.2) n (g0, v1) = some o36 ∧ Has α [(1, .pointer (some ⟨b7, 0, none⟩)), (2, .pointer (some ⟨b13, 0, none⟩)), (3, .pointer (some ⟨b24, 0, none⟩)), (4, .int .i64 v1)] ∧ FrS [b24] H30 H52 ∧ Ow enc_i64_i64_i64 3 H52 s56 g0 f57 ∧ Row H52 b24 [.int .i64 ((First.length : Int) - 1), s56] ∧ Inn [] H30 f57) n50 ⟨[], 0, (.slice none 0 0), [], hn51, ⟨by kernel_rfl, by kernel_rfl, by kernel_rfl, by kernel_rfl, trivial⟩, (FrS.refl (W := [b24]) e32.wf), (Ow.nil (by decide)), r33, Inn.nil⟩ ?_
  rintro n50 α H52 ⟨g0, v1, s56, f57, hi62, hh61, e53, m55, m59, i60⟩ K67 k67
  obtain ⟨n63, z64, rfl, hz65, hn66⟩ := iter_succ hi62
  obtain ⟨β, rfl⟩ := has_ex hh61
  clear hh61
  replace hz65 : z_viaductref05_Graph_l0 First To Weight g0 v1 = some z64 := hz65
  unfold z_viaductref05_Graph_l0 at hz65
  obtain ⟨a68, n69, c70, rfl⟩ := m55.form
  refine w_seqk fun K71 k71 => ?_
  refine w_seqk fun K72 k72 => ?_
  refine w_reg (by kernel_rfl) ?_
  refine s_qk (.int .i64 v1) (by kernel_rfl) ?_
  refine s_qk (.pointer (some ⟨b24, 0, none⟩)) (by kernel_rfl) ?_
  refine s_ql (.int .i64 ((First.length : Int) - 1)) (x := aLoad Tryd.prog 3 (.pointer (some ⟨b24, 0, none⟩)) H52) (by kernel_rfl) (m59.ld (by kernel_rfl)) ?_
  refine s_qk (.bool (decide (v1 < ((First.length : Int) - 1)))) (by kernel_rfl) ?_
  refine s_nil ?_
  refine k72 _ _ ?_
  refine w_condp (v1 < ((First.length : Int) - 1)) (by kernel_rfl) rfl (fun h73 => ?_) (fun h73 => ?_)
  ·have r74 := ite_t h73 hz65
   refine w_skip ?_
   refine k71 _ _ ?_
   refine w_seqk fun K75 k75 => ?_
   refine w_block ?_
   refine w_draw [0, 1, 2, 3, 4, 5, 6, 7] (by kernel_rfl) ?_
   refine d_qk (.pointer (some ⟨b24, 1, none⟩)) (by kernel_rfl) ?_
   refine d_fl (.slice a68 n69 c70) (x := aLoad Tryd.prog 22 (.pointer (some ⟨b24, 1, none⟩)) H52) (by kernel_rfl) (m59.ld (by kernel_rfl)) ?_
   have u76 := (((u20.ext e26).frS e32 (hb27.djn (r11.ltF.le e15.next))).frS e53 (hb27.djn (r11.ltF.le e15.next)))
   refine d_ql (.agg #[hd_First, hd_To, hd_Weight]) (x := aLoad Tryd.prog 57 (.pointer (some ⟨b7, 0, none⟩)) H52) (by kernel_rfl) (u76.ld (by kernel_rfl)) ?_
   refine d_qk (.int .i64 v1) (by kernel_rfl) ?_
   have u77 := (((u21.ext e26).fr e32 (hb27.djn (h_First.lt.le (ntr e9.next e15.next)))).fr e53 (hb27.djn (h_First.lt.le (ntr e9.next e15.next))))
   have u78 := (((((h_To.ext e9).ext e15).ext e26).fr e32 (hb27.djn (h_To.lt.le (ntr e9.next e15.next)))).fr e53 (hb27.djn (h_To.lt.le (ntr e9.next e15.next))))
   have u79 := (((((h_Weight.ext e9).ext e15).ext e26).fr e32 (hb27.djn (h_Weight.lt.le (ntr e9.next e15.next)))).fr e53 (hb27.djn (h_Weight.lt.le (ntr e9.next e15.next))))
   obtain ⟨y80, hy81, r82⟩ := bind_some r74
   refine d_ck 69 #[.agg #[hd_First, hd_To, hd_Weight], .int .i64 v1] (by kernel_rfl) (c_viaductref05_Row e53.wf u77 u78 u79 hy81) ?_
   rintro s83 H85 ⟨_, f84, rfl, e86, m87, i88⟩
   obtain ⟨a90, n91, c92, rfl⟩ := m87.form
   have u93 := (m59.frS e86 Dj.nil_l)
   refine ⟨st_ql (y := aLoad Tryd.prog 22 (.pointer (some ⟨b24, 1, none⟩)) H85) (by kernel_rfl) (u93.ld (by kernel_rfl)) (st_nil), ?_⟩
   have u94 := (m55.fr e86 Dj.nil_l)
   obtain ⟨g95, r96⟩ := G_some r82
   obtain ⟨s97, H98, f99, q103, e100, hm101, hf102⟩ := Ow.append (P := Tryd.prog) 24 e86.wf u94 m87.sq (fun _ _ => rfl) (at_ := #[22, 22]) rfl rfl (by kernel_rfl) (by kernel_rfl) (by decide) (by have := g95; first | omega | (simp only [List.length_cons, List.length_nil] at this ⊢; omega) | (simp at this ⊢; omega))
   obtain ⟨a104, n105, c106, rfl⟩ := hm101.form
   refine d_ek (.slice a104 n105 c106) (by kernel_rfl) (q103) (st_anc (by kernel_rfl) (st_nil)) ?_
   refine d_qk (.pointer (some ⟨b24, 1, none⟩)) (by kernel_rfl) ?_
   have u112 := (u93.frS e100 (i60.djn (r28.ltF.le e32.next)))
   obtain ⟨H108, q109, e110, r111⟩ := Row.store (P := Tryd.prog) (t := 22) (p := 1) e100.wf u112 (.slice a104 n105 c106) [.slice a104 n105 c106] (by kernel_rfl) (by kernel_rfl) (one_cons (hm101.one1) (one_nil)) (Nat.le_of_ble_eq_true (by kernel_rfl)) [.int .i64 ((First.length : Int) - 1), .slice a104 n105 c106] (by kernel_rfl)
   refine d_ek (undef) (by kernel_rfl) (map_ok q109) (st_anc (by kernel_rfl) (st_nil)) ?_
   refine d_nil ?_
   refine k75 _ _ ?_
   refine w_reg (by kernel_rfl) ?_
   refine s_qk (.int .i64 v1) (by kernel_rfl) ?_
   obtain ⟨g113, r114⟩ := G_some r96
   refine s_w ((v1 + 1)) (k := .i64) (x := (v1 + 1)) (by kernel_rfl) (wrap64 g113) ?_
   refine s_qk (.int .i64 (v1 + 1)) (by kernel_rfl) ?_
   refine s_nil ?_
   have u115 := (hm101.fr e110 (Dj.symm (hf102.dj (i60.djn (r28.ltF.le e32.next)) (r28.ltF.le (ntr (ntr e32.next e53.next) e86.next)))))
   obtain rfl := Option.some.inj r114
   exact k67 n63 _ _ (Nat.lt_succ_self _) ⟨(g0 ++ y80), (v1 + 1), (.slice a104 n105 c106), f99, hn66, ⟨by kernel_rfl, by kernel_rfl, by kernel_rfl, by kernel_rfl, trivial⟩, (FrS.step e32.wf (FrS.step e32.wf (FrS.step e32.wf (FrS.step e32.wf (FrS.refl (W := [b24]) e32.wf) e53 Inn.refl') e86 Inn.nil) e100 (i60.fresh (Nat.le_refl _))) e110 Inn.refl'), u115, r111, (Inn.trans (i60.fresh (Nat.le_refl _)) (ntr e53.next e86.next) hf102)⟩
  ·have r116 := ite_f h73 hz65
   refine w_exit (th_exit (th_exit (bl_eq ?_)))
   obtain rfl := Option.some.inj r116
   obtain rfl := it_inr hn66
   exact k48 _ _ ⟨(.slice a68 n69 c70), f57, ⟨by kernel_rfl, by kernel_rfl, trivial⟩, (FrS.step e32.wf (FrS.refl (W := [b24]) e32.wf) e53 Inn.refl'), m55, m59, (i60.fresh (Nat.le_refl _))⟩
 ·obtain ⟨s43, f44, hh49, e40, m42, m46, i47⟩ := hM
  obtain ⟨β, rfl⟩ := has_ex hh49
  clear hh49
  obtain ⟨a117, n118, c119, rfl⟩ := m42.form
  refine k34 _ _ ?_
  refine w_seqk fun K120 k120 => ?_
  refine w_reg (by kernel_rfl) ?_
  refine s_ql (.agg #[.int .i64 ((First.length : Int) - 1), .slice a117 n118 c119]) (x := aLoad Tryd.prog 24 (.pointer (some ⟨b24, 0, none⟩)) H39) (by kernel_rfl) (m46.ld (by kernel_rfl)) ?_
  have u125 := (((r17.ext e26).frS e32 (hb27.djn r17.ltF)).frS e40 (hb27.djn r17.ltF))
  obtain ⟨H121, q122, e123, r124⟩ := Row.store (P := Tryd.prog) (t := 24) (p := 0) e40.wf u125 (.agg #[.int .i64 ((First.length : Int) - 1), .slice a117 n118 c119]) [.int .i64 ((First.length : Int) - 1), .slice a117 n118 c119] (by kernel_rfl) (by kernel_rfl) (one_cons (rfl) (one_cons (m42.one1) (one_nil))) (Nat.le_of_ble_eq_true (by kernel_rfl)) [.int .i64 ((First.length : Int) - 1), .slice a117 n118 c119] (by kernel_rfl)
  refine s_ek (undef) (by kernel_rfl) (map_ok q122) ?_
  refine s_nil ?_
  refine k120 _ _ ?_
  refine w_ret ?_
  refine b_ret (fn := Tryd.f67) (vs := [.agg #[.int .i64 ((First.length : Int) - 1), .slice a117 n118 c119]]) (aRes_cell (Eq.trans (b := aLoad Tryd.prog 24 (.pointer (some ⟨b13, 0, none⟩)) H121) (by kernel_rfl) (r124.ld (by kernel_rfl))) (rfl)) ?_
  have u126 := (m42.fr e123 (Dj.symm (i47.djn (r17.ltF.le (ntr e26.next e32.next)))))
  obtain rfl := Option.some.inj r38
  exact ⟨(.slice a117 n118 c119), f44, rfl, (FrS.step wf (FrS.step wf (FrS.step wf ((((FrS.refl (W := []) wf).extR e9).extR e15).extR e26) e32 (hb27.fresh (ntr e9.next e15.next))) e40 (hb27.fresh (ntr e9.next e15.next))) e123 (hb16.fresh e9.next)), u126, (i47.fresh (ntr (ntr (ntr e9.next e15.next) e26.next) e32.next))⟩

theorem c_viaductref05_DocGraph {H : AH} {hd_First : Value} {fp_First : Fp} {hd_To : Value} {fp_To : Fp} {hd_Weight : Value} {fp_Weight : Fp} {First : List (Int)} {To : List (Int)} {Weight : List (Int)} {r : Int × List (Int × Int × Int) × Int × List (Int × Int)}
  (wf : WF H) (h_First : Sq (encI .i64) 1 H hd_First First fp_First) (h_To : Sq (encI .i64) 1 H hd_To To fp_To) (h_Weight : Sq (encI .i64) 1 H hd_Weight Weight fp_Weight) (hr : z_viaductref05_DocGraph First To Weight = some r) :
  ACalls Tryd.prog 33 #[.agg #[hd_First, hd_To, hd_Weight]] H fun v H' => ∃ (s3 : Value) (f4 : Fp) (s7 : Value) (f8 : Fp), v = .tuple #[.agg #[.int .i64 r.1, s3], .agg #[.int .i64 r.2.2.1, s7]] ∧ FrS [] H H' ∧ Ow enc_i64_i64_i64 3 H' s3 r.2.1 f4 ∧ Ow enc_i64_i64 2 H' s7 r.2.2.2 f8 ∧ Inn [] H f4 ∧ Inn [] H f8 ∧ Dj f4 f8 := by
 refine acalls_of_body mixed Tryd.func33 rfl (Nat.le_of_ble_eq_true rfl) ?_
 unfold z_viaductref05_DocGraph at hr
 refine w_seqk fun K12 k12 => ?_
 refine w_reg (by kernel_rfl) ?_
 refine s_rwl wf [hd_First, hd_To, hd_Weight] (one_cons (h_First.one1) (one_cons (h_To.one1) (one_cons (h_Weight.one1) (one_nil)))) (by kernel_rfl) fun b13 H14 e15 hb16 r17 => ?_
 refine s_rwk e15.wf [.int .i64 0, .slice none 0 0] (by kernel_rfl) fun b19 H20 e21 hb22 r23 => ?_
 refine s_rwk e21.wf [.int .i64 0, .slice none 0 0] (by kernel_rfl) fun b25 H26 e27 hb28 r29 => ?_
 refine s_nil ?_
 refine k12 _ _ ?_
 refine w_seqk fun K31 k31 => ?_
 refine w_seqk fun K32 k32 => ?_
 refine w_reg (by kernel_rfl) ?_
 have u33 := ((r17.ext e21).ext e27)
 refine s_ql (.agg #[hd_First, hd_To, hd_Weight]) (x := aLoad Tryd.prog 57 (.pointer (some ⟨b13, 0, none⟩)) H26) (by kernel_rfl) (u33.ld (by kernel_rfl)) ?_
 have u34 := (((h_First.ext e15).ext e21).ext e27)
 have u35 := (((h_To.ext e15).ext e21).ext e27)
 have u36 := (((h_Weight.ext e15).ext e21).ext e27)
 obtain ⟨y37, hy38, r39⟩ := bind_some hr
 refine s_ck 31 #[.agg #[hd_First, hd_To, hd_Weight]] (by kernel_rfl) (c_viaductref05_DocCheck e27.wf u34 u35 u36 hy38) ?_
 rintro _ H42 ⟨s40, f41, rfl, e43, m44, i45⟩
 obtain ⟨a47, n48, c49, rfl⟩ := m44.form
 refine s_rwk e43.wf [.int .i64 0, .slice none 0 0] (by kernel_rfl) fun b50 H51 e52 hb53 r54 => ?_
 have u60 := (m44.ext e52)
 obtain ⟨H56, q57, e58, r59⟩ := Row.store (P := Tryd.prog) (t := 33) (p := 0) e52.wf r54 (.agg #[.int .i64 y37.1, .slice a47 n48 c49]) [.int .i64 y37.1, .slice a47 n48 c49] (by kernel_rfl) (by kernel_rfl) (one_cons (rfl) (one_cons (u60.one1) (one_nil))) (Nat.le_of_ble_eq_true (by kernel_rfl)) [.int .i64 y37.1, .slice a47 n48 c49] (by kernel_rfl)
 refine s_ek (undef) (by kernel_rfl) (map_ok q57) ?_
 refine s_nil ?_
 refine k32 _ _ ?_
 refine w_seqk fun K61 k61 => ?_
 refine w_reg (by kernel_rfl) ?_
 refine s_ql (.agg #[.int .i64 y37.1, .slice a47 n48 c49]) (x := aLoad Tryd.prog 33 (.pointer (some ⟨b50, 0, none⟩)) H56) (by kernel_rfl) (r59.ld (by kernel_rfl)) ?_
 have u62 := (u60.fr e58 (hb53.djn m44.lt))
 obtain ⟨y63, hy64, r65⟩ := bind_some r39
 refine s_ck 53 #[.agg #[.int .i64 y37.1, .slice a47 n48 c49]] (by kernel_rfl) (c_viaductref01_Err_Bad e58.wf u62.sq hy64) ?_
 rintro _ H66 ⟨rfl, e67⟩
 refine s_nil ?_
 refine k61 _ _ ?_
 refine w_cond (y63) (by kernel_rfl) rfl (fun h68 => ?_) (fun h68 => ?_)
 ·have r69 := ite_t h68 r65
  refine w_seqk fun K70 k70 => ?_
  refine w_draw [0, 1, 2, 3] (by kernel_rfl) ?_
  refine d_qk (.agg #[.int .i64 0, .slice none 0 0]) (by kernel_rfl) ?_
  have u71 := (r59.frS e67 Dj.nil_l)
  refine d_fl (.agg #[.int .i64 y37.1, .slice a47 n48 c49]) (x := aLoad Tryd.prog 33 (.pointer (some ⟨b50, 0, none⟩)) H66) (by kernel_rfl) (u71.ld (by kernel_rfl)) ?_
  have u76 := (((((r23.ext e27).frS e43 Dj.nil_l).ext e52).frS e58 (hb53.djn (r23.ltF.le (ntr e27.next e43.next)))).frS e67 Dj.nil_l)
  obtain ⟨H72, q73, e74, r75⟩ := Row.store (P := Tryd.prog) (t := 24) (p := 0) e67.wf u76 (.agg #[.int .i64 0, .slice none 0 0]) [.int .i64 0, .slice none 0 0] (by kernel_rfl) (by kernel_rfl) (one_cons (rfl) (one_cons (rfl) (one_nil))) (Nat.le_of_ble_eq_true (by kernel_rfl)) [.int .i64 0, .slice none 0 0] (by kernel_rfl)
  have u77 := (u71.frS e74 (Dj.symm (hb53.djn (r23.ltF.le (ntr e27.next e43.next)))))
  refine d_ek (undef) (by kernel_rfl) (map_ok q73) (st_ql (y := aLoad Tryd.prog 33 (.pointer (some ⟨b50, 0, none⟩)) H72) (by kernel_rfl) (u77.ld (by kernel_rfl)) (st_nil)) ?_
  have u82 := (((((r29.frS e43 Dj.nil_l).ext e52).frS e58 (hb53.djn (r29.ltF.le e43.next))).frS e67 Dj.nil_l).frS e74 (Dj.symm (hb28.djn r23.ltF)))
  have u83 := ((u62.fr e67 Dj.nil_l).fr e74 (Dj.symm (i45.djn (r23.ltF.le e27.next))))
  obtain ⟨H78, q79, e80, r81⟩ := Row.store (P := Tryd.prog) (t := 33) (p := 0) e74.wf u82 (.agg #[.int .i64 y37.1, .slice a47 n48 c49]) [.int .i64 y37.1, .slice a47 n48 c49] (by kernel_rfl) (by kernel_rfl) (one_cons (rfl) (one_cons (u83.one1) (one_nil))) (Nat.le_of_ble_eq_true (by kernel_rfl)) [.int .i64 y37.1, .slice a47 n48 c49] (by kernel_rfl)
  refine d_ek (undef) (by kernel_rfl) (map_ok q79) (st_anc (by kernel_rfl) (st_nil)) ?_
  refine d_nil ?_
  refine k70 _ _ ?_
  refine w_ret (th_ret ?_)
  have u84 := (r75.frS e80 (hb28.djn r23.ltF))
  refine b_ret (fn := Tryd.f33) (vs := [.agg #[.int .i64 0, .slice none 0 0], .agg #[.int .i64 y37.1, .slice a47 n48 c49]]) (aRes_cell (Eq.trans (b := aLoad Tryd.prog 24 (.pointer (some ⟨b19, 0, none⟩)) H78) (by kernel_rfl) (u84.ld (by kernel_rfl))) (aRes_cell (Eq.trans (b := aLoad Tryd.prog 33 (.pointer (some ⟨b25, 0, none⟩)) H78) (by kernel_rfl) (r81.ld (by kernel_rfl))) (rfl))) ?_
  have u85 := (u83.fr e80 (Dj.symm (i45.djn r29.ltF)))
  obtain rfl := Option.some.inj r69
  exact ⟨(.slice none 0 0), [], (.slice a47 n48 c49), f41, rfl, (FrS.step wf (FrS.step wf (FrS.step wf (FrS.step wf ((FrS.step wf ((((FrS.refl (W := []) wf).extR e15).extR e21).extR e27) e43 Inn.nil).extR e52) e58 (hb53.fresh (ntr (ntr (ntr e15.next e21.next) e27.next) e43.next))) e67 Inn.nil) e74 (hb22.fresh e15.next)) e80 (hb28.fresh (ntr e15.next e21.next))), (Ow.nil (by decide)), u85, Inn.nil, (i45.fresh (ntr (ntr e15.next e21.next) e27.next)), Dj.nil_l⟩
 ·have r86 := ite_bf h68 r65
  refine w_skip ?_
  refine k31 _ _ ?_
  refine w_seqk fun K87 k87 => ?_
  refine w_reg (by kernel_rfl) ?_
  have u88 := ((((u33.frS e43 Dj.nil_l).ext e52).frS e58 (hb53.djn (r17.ltF.le (ntr (ntr e21.next e27.next) e43.next)))).frS e67 Dj.nil_l)
  refine s_ql (.agg #[hd_First, hd_To, hd_Weight]) (x := aLoad Tryd.prog 57 (.pointer (some ⟨b13, 0, none⟩)) H66) (by kernel_rfl) (u88.ld (by kernel_rfl)) ?_
  have u89 := ((((u34.fr e43 Dj.nil_l).ext e52).fr e58 (hb53.djn (h_First.lt.le (ntr (ntr (ntr e15.next e21.next) e27.next) e43.next)))).fr e67 Dj.nil_l)
  have u90 := ((((u35.fr e43 Dj.nil_l).ext e52).fr e58 (hb53.djn (h_To.lt.le (ntr (ntr (ntr e15.next e21.next) e27.next) e43.next)))).fr e67 Dj.nil_l)
  have u91 := ((((u36.fr e43 Dj.nil_l).ext e52).fr e58 (hb53.djn (h_Weight.lt.le (ntr (ntr (ntr e15.next e21.next) e27.next) e43.next)))).fr e67 Dj.nil_l)
  obtain ⟨y92, hy93, r94⟩ := bind_some r86
  refine s_ck 67 #[.agg #[hd_First, hd_To, hd_Weight]] (by kernel_rfl) (c_viaductref05_Graph e67.wf u89 u90 u91 hy93) ?_
  rintro _ H97 ⟨s95, f96, rfl, e98, m99, i100⟩
  obtain ⟨a102, n103, c104, rfl⟩ := m99.form
  refine s_qk (.agg #[.int .i64 0, .slice none 0 0]) (by kernel_rfl) ?_
  have u109 := ((((((r23.ext e27).frS e43 Dj.nil_l).ext e52).frS e58 (hb53.djn (r23.ltF.le (ntr e27.next e43.next)))).frS e67 Dj.nil_l).frS e98 Dj.nil_l)
  obtain ⟨H105, q106, e107, r108⟩ := Row.store (P := Tryd.prog) (t := 24) (p := 0) e98.wf u109 (.agg #[.int .i64 y92.1, .slice a102 n103 c104]) [.int .i64 y92.1, .slice a102 n103 c104] (by kernel_rfl) (by kernel_rfl) (one_cons (rfl) (one_cons (m99.one1) (one_nil))) (Nat.le_of_ble_eq_true (by kernel_rfl)) [.int .i64 y92.1, .slice a102 n103 c104] (by kernel_rfl)
  refine s_ek (undef) (by kernel_rfl) (map_ok q106) ?_
  have u114 := ((((((r29.frS e43 Dj.nil_l).ext e52).frS e58 (hb53.djn (r29.ltF.le e43.next))).frS e67 Dj.nil_l).frS e98 Dj.nil_l).frS e107 (Dj.symm (hb28.djn r23.ltF)))
  obtain ⟨H110, q111, e112, r113⟩ := Row.store (P := Tryd.prog) (t := 33) (p := 0) e107.wf u114 (.agg #[.int .i64 0, .slice none 0 0]) [.int .i64 0, .slice none 0 0] (by kernel_rfl) (by kernel_rfl) (one_cons (rfl) (one_cons (rfl) (one_nil))) (Nat.le_of_ble_eq_true (by kernel_rfl)) [.int .i64 0, .slice none 0 0] (by kernel_rfl)
  refine s_ek (undef) (by kernel_rfl) (map_ok q111) ?_
  refine s_nil ?_
  refine k87 _ _ ?_
  refine w_ret ?_
  have u115 := (r108.frS e112 (hb28.djn r23.ltF))
  refine b_ret (fn := Tryd.f33) (vs := [.agg #[.int .i64 y92.1, .slice a102 n103 c104], .agg #[.int .i64 0, .slice none 0 0]]) (aRes_cell (Eq.trans (b := aLoad Tryd.prog 24 (.pointer (some ⟨b19, 0, none⟩)) H110) (by kernel_rfl) (u115.ld (by kernel_rfl))) (aRes_cell (Eq.trans (b := aLoad Tryd.prog 33 (.pointer (some ⟨b25, 0, none⟩)) H110) (by kernel_rfl) (r113.ld (by kernel_rfl))) (rfl))) ?_
  have u116 := ((m99.fr e107 (Dj.symm (i100.djn (r23.ltF.le (ntr (ntr (ntr (ntr e27.next e43.next) e52.next) e58.next) e67.next))))).fr e112 (Dj.symm (i100.djn (r29.ltF.le (ntr (ntr (ntr e43.next e52.next) e58.next) e67.next)))))
  obtain rfl := Option.some.inj r94
  exact ⟨(.slice a102 n103 c104), f96, (.slice none 0 0), [], rfl, (FrS.step wf (FrS.step wf (FrS.step wf (FrS.step wf (FrS.step wf ((FrS.step wf ((((FrS.refl (W := []) wf).extR e15).extR e21).extR e27) e43 Inn.nil).extR e52) e58 (hb53.fresh (ntr (ntr (ntr e15.next e21.next) e27.next) e43.next))) e67 Inn.nil) e98 Inn.nil) e107 (hb22.fresh e15.next)) e112 (hb28.fresh (ntr e15.next e21.next))), u116, (Ow.nil (by decide)), (i100.fresh (ntr (ntr (ntr (ntr (ntr (ntr e15.next e21.next) e27.next) e43.next) e52.next) e58.next) e67.next)), Inn.nil, Dj.nil_r⟩

theorem c_viaductref03_SameArcs {H : AH} {hd_a : Value} {fp_a : Fp} {hd_b : Value} {fp_b : Fp} {a : List (Int × Int × Int)} {b : List (Int × Int × Int)} {r : Bool}
  (wf : WF H) (h_a : Sq enc_i64_i64_i64 3 H hd_a a fp_a) (h_b : Sq enc_i64_i64_i64 3 H hd_b b fp_b) (hr : z_viaductref03_SameArcs a b = some r) :
  ACalls Tryd.prog 36 #[hd_a, hd_b] H fun v H' => v = .bool r ∧ H = H' := by
 refine acalls_of_body mixed Tryd.func36 rfl (Nat.le_of_ble_eq_true rfl) ?_
 unfold z_viaductref03_SameArcs at hr
 refine w_seqk fun K1 k1 => ?_
 refine w_reg (by kernel_rfl) ?_
 refine s_qk (.bool false) (by kernel_rfl) ?_
 refine s_nil ?_
 refine k1 _ _ ?_
 refine w_seqk fun K2 k2 => ?_
 refine w_seqk fun K3 k3 => ?_
 refine w_reg (by kernel_rfl) ?_
 refine s_qk (hd_a) (by kernel_rfl) ?_
 refine s_ql (.int .i64 (a.length : Int)) (x := aLen Tryd.prog 22 hd_a H) (by kernel_rfl) (h_a.lenb (by kernel_rfl)) ?_
 refine s_qk (hd_b) (by kernel_rfl) ?_
 refine s_ql (.int .i64 (b.length : Int)) (x := aLen Tryd.prog 22 hd_b H) (by kernel_rfl) (h_b.lenb (by kernel_rfl)) ?_
 refine s_qk (.bool (!decide ((a.length : Int) = (b.length : Int)))) (by kernel_rfl) ?_
 refine s_nil ?_
 refine k3 _ _ ?_
 refine w_condn ((a.length : Int) = (b.length : Int)) (by kernel_rfl) rfl (fun h4 => ?_) (fun h4 => ?_)
 ·have r5 := ite_f h4 hr
  refine w_seqk fun K6 k6 => ?_
  refine w_reg (by kernel_rfl) ?_
  refine s_qk (.bool false) (by kernel_rfl) ?_
  refine s_nil ?_
  refine k6 _ _ ?_
  refine w_ret (th_ret ?_)
  refine b_ret (fn := Tryd.f36) (vs := [.bool false]) (aRes_tmp (by kernel_rfl) (rfl)) ?_
  obtain rfl := Option.some.inj r5
  exact ⟨rfl, rfl⟩
 ·have r7 := ite_t h4 hr
  refine w_skip ?_
  refine k2 _ _ ?_
  refine w_seqk fun K8 k8 => ?_
  refine w_seqk fun K9 k9 => ?_
  refine w_reg (by kernel_rfl) ?_
  refine s_qk (hd_a) (by kernel_rfl) ?_
  refine s_ql (.int .i64 (a.length : Int)) (x := aLen Tryd.prog 22 hd_a H) (by kernel_rfl) (h_a.lenb (by kernel_rfl)) ?_
  refine s_qk (.int .i64 0) (by kernel_rfl) ?_
  refine s_nil ?_
  refine k9 _ _ ?_
  obtain ⟨z13, hx11, r12⟩ := bind_some r7
  refine w_mid (fun α H14 => ∃ o10, z13 = Sum.inr o10 ∧ Has α [] ∧ H = H14) (fun K16 k16 => ?_) (fun α H14 hM => ?_)
  ·refine w_block ?_
   obtain ⟨n18, hn19⟩ := loopO_iff.1 hx11
   refine w_loopn (fun n α H20 => ∃ (i0 : Int), iterO (fun zz_ => z_viaductref03_SameArcs_l0 a b zz_) n i0 = some z13 ∧ Has α [(0, hd_a), (1, hd_b), (12, .int .i64 (a.length : Int)), (13, .int .i64 i0)] ∧ H = H20) n18 ⟨0, hn19, ⟨by kernel_rfl, by kernel_rfl, by kernel_rfl, by kernel_rfl, trivial⟩, rfl⟩ ?_
   rintro n18 α H20 ⟨i0, hi23, hh22, rfl⟩ K28 k28
   obtain ⟨n24, z25, rfl, hz26, hn27⟩ := iter_succ hi23
   obtain ⟨β, rfl⟩ := has_ex hh22
   clear hh22
   replace hz26 : z_viaductref03_SameArcs_l0 a b i0 = some z25 := hz26
   unfold z_viaductref03_SameArcs_l0 at hz26
   refine w_seqk fun K29 k29 => ?_
   refine w_reg (by kernel_rfl) ?_
   refine s_qk (.bool (decide (i0 < (a.length : Int)))) (by kernel_rfl) ?_
   refine s_nil ?_
   refine k29 _ _ ?_
   refine w_seqk fun K30 k30 => ?_
   refine w_condp (i0 < (a.length : Int)) (by kernel_rfl) rfl (fun h31 => ?_) (fun h31 => ?_)
   ·have r32 := ite_t h31 hz26
    refine w_skip ?_
    refine k30 _ _ ?_
    refine w_seqk fun K33 k33 => ?_
    refine w_block ?_
    refine w_seqk fun K34 k34 => ?_
    refine w_reg (by kernel_rfl) ?_
    refine s_qk (.int .i64 i0) (by kernel_rfl) ?_
    refine s_qk (.int .i64 i0) (by kernel_rfl) ?_
    refine s_nil ?_
    refine k34 _ _ ?_
    refine w_seqk fun K35 k35 => ?_
    refine w_draw [0, 1, 2, 3, 4, 5, 6, 7, 8] (by kernel_rfl) ?_
    refine d_qk (hd_a) (by kernel_rfl) ?_
    refine d_qk (.int .i64 i0) (by kernel_rfl) ?_
    obtain ⟨g36, r37⟩ := G_some r32
    refine d_ql (elp hd_a 3 i0.toNat 0) (x := aIndexAddr Tryd.prog 22 hd_a (.int .i64 i0)) (by kernel_rfl) (h_a.idxb (by kernel_rfl) g36 h31) ?_
    refine d_ql (.agg #[.int .i64 ((gt a i0).1), .int .i64 ((gt a i0).2.1), .int .i64 ((gt a i0).2.2)]) (x := aLoad Tryd.prog 51 (elp hd_a 3 i0.toNat 0) H) (by kernel_rfl) (h_a.ld g36 h31 (by kernel_rfl)) ?_
    refine d_qk (hd_b) (by kernel_rfl) ?_
    refine d_qk (.int .i64 i0) (by kernel_rfl) ?_
    obtain ⟨g38, r39⟩ := G_some r37
    refine d_ql (elp hd_b 3 i0.toNat 0) (x := aIndexAddr Tryd.prog 22 hd_b (.int .i64 i0)) (by kernel_rfl) (h_b.idxb (by kernel_rfl) g36 g38) ?_
    refine d_ql (.agg #[.int .i64 ((gt b i0).1), .int .i64 ((gt b i0).2.1), .int .i64 ((gt b i0).2.2)]) (x := aLoad Tryd.prog 51 (elp hd_b 3 i0.toNat 0) H) (by kernel_rfl) (h_b.ld g36 g38 (by kernel_rfl)) ?_
    refine d_ql (.bool (!decide (((gt a i0).1) = ((gt b i0).1) ∧ ((gt a i0).2.1) = ((gt b i0).2.1) ∧ ((gt a i0).2.2) = ((gt b i0).2.2)))) (x := aBin Tryd.prog .neq 51 (.tmp 19) (.tmp 23) (.agg #[.int .i64 ((gt a i0).1), .int .i64 ((gt a i0).2.1), .int .i64 ((gt a i0).2.2)]) (.agg #[.int .i64 ((gt b i0).1), .int .i64 ((gt b i0).2.1), .int .i64 ((gt b i0).2.2)])) (by kernel_rfl) (aBin_neq51 _ _ ((gt a i0).1) ((gt a i0).2.1) ((gt a i0).2.2) ((gt b i0).1) ((gt b i0).2.1) ((gt b i0).2.2)) ?_
    refine d_nil ?_
    refine k35 _ _ ?_
    refine w_condn (((gt a i0).1) = ((gt b i0).1) ∧ ((gt a i0).2.1) = ((gt b i0).2.1) ∧ ((gt a i0).2.2) = ((gt b i0).2.2)) (by kernel_rfl) rfl (fun h40 => ?_) (fun h40 => ?_)
    ·have r41 := ite_f h40 r39
     refine w_seqk fun K42 k42 => ?_
     refine w_reg (by kernel_rfl) ?_
     refine s_qk (.bool false) (by kernel_rfl) ?_
     refine s_nil ?_
     refine k42 _ _ ?_
     refine w_ret (bl_ret (th_ret (th_ret (bl_ret (th_ret (th_ret ?_))))))
     obtain ⟨v43, hv44, hz45⟩ := map_some r41
     subst hz45
     obtain rfl := it_inr hn27
     have hq46 := elim_inl r12
     rw [hq46] at hv44
     refine b_ret (fn := Tryd.f36) (vs := [.bool false]) (aRes_tmp (by kernel_rfl) (rfl)) ?_
     obtain rfl := Option.some.inj hv44
     exact ⟨rfl, rfl⟩
    ·have r47 := ite_t h40 r39
     refine w_skip ?_
     refine k33 _ _ ?_
     refine w_reg (by kernel_rfl) ?_
     obtain ⟨g48, r49⟩ := G_some r47
     refine s_w ((i0 + 1)) (k := .i64) (x := (i0 + 1)) (by kernel_rfl) (wrap64 (by have := g48; omega)) ?_
     refine s_qk (.int .i64 (i0 + 1)) (by kernel_rfl) ?_
     refine s_nil ?_
     obtain rfl := Option.some.inj r49
     exact k28 n24 _ _ (Nat.lt_succ_self _) ⟨(i0 + 1), hn27, ⟨by kernel_rfl, by kernel_rfl, by kernel_rfl, by kernel_rfl, trivial⟩, rfl⟩
   ·have r50 := ite_f h31 hz26
    refine w_exit (th_exit (th_exit (bl_eq ?_)))
    obtain rfl := Option.some.inj r50
    obtain rfl := it_inr hn27
    exact k16 _ _ ⟨_, rfl, trivial, rfl⟩
  ·obtain ⟨o10, rfl, hh17, rfl⟩ := hM
   have r51 := elim_inr r12
   obtain ⟨β, rfl⟩ := has_ex hh17
   clear hh17
   refine k8 _ _ ?_
   refine w_seqk fun K52 k52 => ?_
   refine w_reg (by kernel_rfl) ?_
   refine s_qk (.bool true) (by kernel_rfl) ?_
   refine s_nil ?_
   refine k52 _ _ ?_
   refine w_ret ?_
   refine b_ret (fn := Tryd.f36) (vs := [.bool true]) (aRes_tmp (by kernel_rfl) (rfl)) ?_
   obtain rfl := Option.some.inj r51
   exact ⟨rfl, rfl⟩

theorem c_viaductref03_Same {H : AH} {hd_Arcs : Value} {fp_Arcs : Fp} {hd_Arcs_ : Value} {fp_Arcs_ : Fp} {N_ : Int} {Arcs : List (Int × Int × Int)} {N_2 : Int} {Arcs_ : List (Int × Int × Int)} {r : Bool}
  (wf : WF H) (h_Arcs : Sq enc_i64_i64_i64 3 H hd_Arcs Arcs fp_Arcs) (h_Arcs_ : Sq enc_i64_i64_i64 3 H hd_Arcs_ Arcs_ fp_Arcs_) (hr : z_viaductref03_Same N_ Arcs N_2 Arcs_ = some r) :
  ACalls Tryd.prog 15 #[.agg #[.int .i64 N_, hd_Arcs], .agg #[.int .i64 N_2, hd_Arcs_]] H fun v H' => v = .bool r ∧ FrS [] H H' := by
 refine acalls_of_body mixed Tryd.func15 rfl (Nat.le_of_ble_eq_true rfl) ?_
 unfold z_viaductref03_Same at hr
 refine w_seqk fun K1 k1 => ?_
 refine w_reg (by kernel_rfl) ?_
 refine s_rwl wf [.int .i64 N_, hd_Arcs] (one_cons (rfl) (one_cons (h_Arcs.one1) (one_nil))) (by kernel_rfl) fun b2 H3 e4 hb5 r6 => ?_
 have u13 := (h_Arcs_.ext e4)
 refine s_rwl e4.wf [.int .i64 N_2, hd_Arcs_] (one_cons (rfl) (one_cons (u13.one1) (one_nil))) (by kernel_rfl) fun b8 H9 e10 hb11 r12 => ?_
 refine s_qk (.bool false) (by kernel_rfl) ?_
 refine s_nil ?_
 refine k1 _ _ ?_
 refine w_seqk fun K15 k15 => ?_
 refine w_reg (by kernel_rfl) ?_
 refine s_qk (.pointer (some ⟨b2, 0, none⟩)) (by kernel_rfl) ?_
 have u16 := (r6.ext e10)
 refine s_ql (.int .i64 N_) (x := aLoad Tryd.prog 3 (.pointer (some ⟨b2, 0, none⟩)) H9) (by kernel_rfl) (u16.ld (by kernel_rfl)) ?_
 refine s_qk (.pointer (some ⟨b8, 0, none⟩)) (by kernel_rfl) ?_
 refine s_ql (.int .i64 N_2) (x := aLoad Tryd.prog 3 (.pointer (some ⟨b8, 0, none⟩)) H9) (by kernel_rfl) (r12.ld (by kernel_rfl)) ?_
 refine s_b (N_ = N_2) (by kernel_rfl) (fun h17 => ?_) (fun h17 => ?_)
 ·have r18 := ite_t h17 hr
  refine s_qk (.bool true) (by kernel_rfl) ?_
  refine s_qk (.pointer (some ⟨b2, 1, none⟩)) (by kernel_rfl) ?_
  refine s_ql (hd_Arcs) (x := aLoad Tryd.prog 22 (.pointer (some ⟨b2, 1, none⟩)) H9) (by kernel_rfl) (u16.ld (by kernel_rfl)) ?_
  refine s_qk (.pointer (some ⟨b8, 1, none⟩)) (by kernel_rfl) ?_
  refine s_ql (hd_Arcs_) (x := aLoad Tryd.prog 22 (.pointer (some ⟨b8, 1, none⟩)) H9) (by kernel_rfl) (r12.ld (by kernel_rfl)) ?_
  have u19 := ((h_Arcs.ext e4).ext e10)
  have u20 := (u13.ext e10)
  obtain ⟨y21, hy22, r23⟩ := bind_some r18
  refine s_ck 36 #[hd_Arcs, hd_Arcs_] (by kernel_rfl) (c_viaductref03_SameArcs e10.wf u19 u20 hy22) ?_
  rintro _ _ ⟨rfl, rfl⟩
  refine s_qk (.bool y21) (by kernel_rfl) ?_
  refine s_qk (.bool y21) (by kernel_rfl) ?_
  refine s_nil ?_
  refine k15 _ _ ?_
  refine w_ret ?_
  refine b_ret (fn := Tryd.f15) (vs := [.bool y21]) (aRes_tmp (by kernel_rfl) (rfl)) ?_
  obtain rfl := Option.some.inj r23
  exact ⟨rfl, (((FrS.refl (W := []) wf).extR e4).extR e10)⟩
 ·have r26 := ite_f h17 hr
  refine s_qk (.bool false) (by kernel_rfl) ?_
  refine s_no (by kernel_rfl) ?_
  refine s_no (by kernel_rfl) ?_
  refine s_no (by kernel_rfl) ?_
  refine s_no (by kernel_rfl) ?_
  refine s_no (by kernel_rfl) ?_
  refine s_qk (.bool false) (by kernel_rfl) ?_
  refine s_qk (.bool false) (by kernel_rfl) ?_
  refine s_nil ?_
  refine k15 _ _ ?_
  refine w_ret ?_
  refine b_ret (fn := Tryd.f15) (vs := [.bool false]) (aRes_tmp (by kernel_rfl) (rfl)) ?_
  obtain rfl := Option.some.inj r26
  exact ⟨rfl, (((FrS.refl (W := []) wf).extR e4).extR e10)⟩

theorem c_csr_Row {H : AH} {hd_First : Value} {fp_First : Fp} {hd_To : Value} {fp_To : Fp} {hd_Weight : Value} {fp_Weight : Fp} {First : List (Int)} {To : List (Int)} {Weight : List (Int)} {v_ : Int} {r : List (Int × Int × Int) × Er}
  (wf : WF H) (h_First : Sq (encI .i64) 1 H hd_First First fp_First) (h_To : Sq (encI .i64) 1 H hd_To To fp_To) (h_Weight : Sq (encI .i64) 1 H hd_Weight Weight fp_Weight) (hr : z_csr_Row First To Weight v_ = some r) :
  ACalls Tryd.prog 34 #[.agg #[hd_First, hd_To, hd_Weight], .int .i64 v_] H fun v H' => ∃ (s3 : Value) (f4 : Fp) (v7 : Value) (f8 : Fp), v = .tuple #[s3, v7] ∧ FrS [] H H' ∧ Ow enc_i64_i64_i64 3 H' s3 r.1 f4 ∧ Ev 53 90 H' v7 r.2 f8 ∧ Inn [] H f4 ∧ Inn [] H f8 ∧ Dj f4 f8 := by
 refine acalls_of_body mixed Tryd.func34 rfl (Nat.le_of_ble_eq_true rfl) ?_
 unfold z_csr_Row at hr
 refine w_seqk fun K12 k12 => ?_
 refine w_reg (by kernel_rfl) ?_
 refine s_rwl wf [hd_First, hd_To, hd_Weight] (one_cons (h_First.one1) (one_cons (h_To.one1) (one_cons (h_Weight.one1) (one_nil)))) (by kernel_rfl) fun b13 H14 e15 hb16 r17 => ?_
 refine s_qk (.slice none 0 0) (by kernel_rfl) ?_
 refine s_qk (.nilIface) (by kernel_rfl) ?_
 refine s_nil ?_
 refine k12 _ _ ?_
 refine w_seqk fun K19 k19 => ?_
 refine w_seqk fun K20 k20 => ?_
 refine w_reg (by kernel_rfl) ?_
 refine s_ql (.agg #[hd_First, hd_To, hd_Weight]) (x := aLoad Tryd.prog 59 (.pointer (some ⟨b13, 0, none⟩)) H14) (by kernel_rfl) (r17.ld (by kernel_rfl)) ?_
 have u21 := (h_First.ext e15)
 have u22 := (h_To.ext e15)
 have u23 := (h_Weight.ext e15)
 obtain ⟨y24, hy25, r26⟩ := bind_some hr
 refine s_ck 29 #[.agg #[hd_First, hd_To, hd_Weight]] (by kernel_rfl) (c_csr_Check e15.wf u21 u22 u23 hy25) ?_
 rintro v27 H29 ⟨_, f28, rfl, e30, m31, i32⟩
 refine s_qk (v27) (by kernel_rfl) ?_
 refine s_nil ?_
 refine k20 _ _ ?_
 refine w_seqk fun K34 k34 => ?_
 refine w_reg (by kernel_rfl) ?_
 refine s_qk (v27) (by kernel_rfl) ?_
 rcases (m31).cases with ⟨h35, rfl⟩ | ⟨h35, t36, x37, rfl⟩
 ·have r38 := ite_t h35 r26
  refine s_qk (.bool false) (by kernel_rfl) ?_
  refine s_nil ?_
  refine k34 _ _ ?_
  refine w_cond false (by kernel_rfl) rfl (fun h => by cases h) (fun _ => ?_)
  refine w_skip ?_
  refine k19 _ _ ?_
  refine w_seqk fun K39 k39 => ?_
  refine w_seqk fun K40 k40 => ?_
  obtain ⟨o41, hx42, r43⟩ := bind_some r38
  refine w_mid (fun α H44 => Has α [(1, .int .i64 v_), (2, .pointer (some ⟨b13, 0, none⟩)), (19, .bool o41)] ∧ FrS [] H29 H44) (fun K46 k46 => ?_) (fun α H44 hM => ?_)
  ·refine w_reg (by kernel_rfl) ?_
   refine s_qk (.int .i64 v_) (by kernel_rfl) ?_
   refine s_b (v_ < 0) (by kernel_rfl) (fun h48 => ?_) (fun h48 => ?_)
   ·have r49 := ite_t h48 hx42
    refine s_qk (.bool true) (by kernel_rfl) ?_
    refine s_no (by kernel_rfl) ?_
    refine s_no (by kernel_rfl) ?_
    refine s_no (by kernel_rfl) ?_
    refine s_no (by kernel_rfl) ?_
    refine s_qk (.bool true) (by kernel_rfl) ?_
    refine s_nil ?_
    obtain rfl := Option.some.inj r49
    exact k46 _ _ ⟨⟨by kernel_rfl, by kernel_rfl, by kernel_rfl, trivial⟩, (FrS.refl (W := []) e30.wf)⟩
   ·have r50 := ite_f h48 hx42
    refine s_qk (.bool false) (by kernel_rfl) ?_
    refine s_qk (.int .i64 v_) (by kernel_rfl) ?_
    have u51 := (r17.frS e30 Dj.nil_l)
    refine s_ql (.agg #[hd_First, hd_To, hd_Weight]) (x := aLoad Tryd.prog 59 (.pointer (some ⟨b13, 0, none⟩)) H29) (by kernel_rfl) (u51.ld (by kernel_rfl)) ?_
    have u52 := (u21.fr e30 Dj.nil_l)
    have u53 := (u22.fr e30 Dj.nil_l)
    have u54 := (u23.fr e30 Dj.nil_l)
    obtain ⟨y55, hy56, r57⟩ := bind_some r50
    refine s_ck 62 #[.agg #[hd_First, hd_To, hd_Weight]] (by kernel_rfl) (c_csr_Csr_nodes e30.wf u52 u53 u54 hy56) ?_
    rintro _ H58 ⟨rfl, e59⟩
    refine s_qk (.bool (decide (v_ ≥ y55))) (by kernel_rfl) ?_
    refine s_qk (.bool (decide (v_ ≥ y55))) (by kernel_rfl) ?_
    refine s_nil ?_
    obtain rfl := Option.some.inj r57
    exact k46 _ _ ⟨⟨by kernel_rfl, by kernel_rfl, by kernel_rfl, trivial⟩, (FrS.step e30.wf (FrS.refl (W := []) e30.wf) e59 Inn.nil)⟩
  ·obtain ⟨hh47, e45⟩ := hM
   obtain ⟨β, rfl⟩ := has_ex hh47
   clear hh47
   refine k40 _ _ ?_
   refine w_cond (o41) (by kernel_rfl) rfl (fun h60 => ?_) (fun h60 => ?_)
   ·have r61 := ite_t h60 r43
    refine w_seqk fun K62 k62 => ?_
    refine w_reg (by kernel_rfl) ?_
    refine s_qk (.iface 53 (.int .i64 7)) (by kernel_rfl) ?_
    refine s_qk (.slice none 0 0) (by kernel_rfl) ?_
    refine s_qk (.iface 53 (.int .i64 7)) (by kernel_rfl) ?_
    refine s_nil ?_
    refine k62 _ _ ?_
    refine w_ret (th_ret ?_)
    refine b_ret (fn := Tryd.f34) (vs := [.slice none 0 0, .iface 53 (.int .i64 7)]) (aRes_tmp (by kernel_rfl) (aRes_tmp (by kernel_rfl) (rfl))) ?_
    obtain rfl := Option.some.inj r61
    exact ⟨(.slice none 0 0), [], (.iface 53 (.int .i64 7)), [], rfl, (FrS.step wf (FrS.step wf ((FrS.refl (W := []) wf).extR e15) e30 Inn.nil) e45 Inn.nil), (Ow.nil (by decide)), Ev.no, Inn.nil, Inn.nil, Dj.nil_l⟩
   ·have r63 := ite_bf h60 r43
    refine w_skip ?_
    refine k39 _ _ ?_
    refine w_seqk fun K64 k64 => ?_
    refine w_reg (by kernel_rfl) ?_
    have u65 := ((r17.frS e30 Dj.nil_l).frS e45 Dj.nil_l)
    refine s_ql (.agg #[hd_First, hd_To, hd_Weight]) (x := aLoad Tryd.prog 59 (.pointer (some ⟨b13, 0, none⟩)) H44) (by kernel_rfl) (u65.ld (by kernel_rfl)) ?_
    refine s_qk (.int .i64 v_) (by kernel_rfl) ?_
    have u66 := ((u21.fr e30 Dj.nil_l).fr e45 Dj.nil_l)
    have u67 := ((u22.fr e30 Dj.nil_l).fr e45 Dj.nil_l)
    have u68 := ((u23.fr e30 Dj.nil_l).fr e45 Dj.nil_l)
    obtain ⟨y69, hy70, r71⟩ := bind_some r63
    refine s_ck 66 #[.agg #[hd_First, hd_To, hd_Weight], .int .i64 v_] (by kernel_rfl) (c_csr_Csr_row e45.wf u66 u67 u68 hy70) ?_
    rintro s72 H74 ⟨_, f73, rfl, e75, m76, i77⟩
    obtain ⟨a79, n80, c81, rfl⟩ := m76.form
    refine s_qk (.slice a79 n80 c81) (by kernel_rfl) ?_
    refine s_qk (.nilIface) (by kernel_rfl) ?_
    refine s_nil ?_
    refine k64 _ _ ?_
    refine w_ret ?_
    refine b_ret (fn := Tryd.f34) (vs := [.slice a79 n80 c81, .nilIface]) (aRes_tmp (by kernel_rfl) (aRes_tmp (by kernel_rfl) (rfl))) ?_
    obtain rfl := Option.some.inj r71
    exact ⟨(.slice a79 n80 c81), f73, (.nilIface), [], rfl, (FrS.step wf (FrS.step wf (FrS.step wf ((FrS.refl (W := []) wf).extR e15) e30 Inn.nil) e45 Inn.nil) e75 Inn.nil), m76, Ev.nil, (i77.fresh (ntr (ntr e15.next e30.next) e45.next)), Inn.nil, Dj.nil_r⟩
 ·have r82 := ite_f h35 r26
  refine s_ql (.bool true) (x := aBin Tryd.prog .neq 28 (.tmp 9) (.const .nilIface) (.iface t36 x37) .nilIface) (by kernel_rfl) (aBin_nnil (by kernel_rfl)) ?_
  refine s_nil ?_
  refine k34 _ _ ?_
  refine w_cond true (by kernel_rfl) rfl (fun _ => ?_) (fun h => by cases h)
  refine w_seqk fun K83 k83 => ?_
  refine w_reg (by kernel_rfl) ?_
  refine s_qk (.iface t36 x37) (by kernel_rfl) ?_
  refine s_qk (.slice none 0 0) (by kernel_rfl) ?_
  refine s_qk (.iface t36 x37) (by kernel_rfl) ?_
  refine s_nil ?_
  refine k83 _ _ ?_
  refine w_ret (th_ret ?_)
  refine b_ret (fn := Tryd.f34) (vs := [.slice none 0 0, .iface t36 x37]) (aRes_tmp (by kernel_rfl) (aRes_tmp (by kernel_rfl) (rfl))) ?_
  obtain rfl := Option.some.inj r82
  exact ⟨(.slice none 0 0), [], (.iface t36 x37), f28, rfl, (FrS.step wf ((FrS.refl (W := []) wf).extR e15) e30 Inn.nil), (Ow.nil (by decide)), m31, Inn.nil, (i32.fresh e15.next), Dj.nil_l⟩

theorem c_viaductref05_Node {H : AH} {hd_First : Value} {fp_First : Fp} {hd_To : Value} {fp_To : Fp} {hd_Weight : Value} {fp_Weight : Fp} {First : List (Int)} {To : List (Int)} {Weight : List (Int)} {v_ : Int} {r : Bool}
  (wf : WF H) (h_First : Sq (encI .i64) 1 H hd_First First fp_First) (h_To : Sq (encI .i64) 1 H hd_To To fp_To) (h_Weight : Sq (encI .i64) 1 H hd_Weight Weight fp_Weight) (hr : z_viaductref05_Node First To Weight v_ = some r) :
  ACalls Tryd.prog 68 #[.agg #[hd_First, hd_To, hd_Weight], .int .i64 v_] H fun v H' => v = .bool r ∧ FrS [] H H' := by
 refine acalls_of_body mixed Tryd.func68 rfl (Nat.le_of_ble_eq_true rfl) ?_
 unfold z_viaductref05_Node at hr
 refine w_seqk fun K1 k1 => ?_
 refine w_reg (by kernel_rfl) ?_
 refine s_rwl wf [hd_First, hd_To, hd_Weight] (one_cons (h_First.one1) (one_cons (h_To.one1) (one_cons (h_Weight.one1) (one_nil)))) (by kernel_rfl) fun b2 H3 e4 hb5 r6 => ?_
 refine s_qk (.bool false) (by kernel_rfl) ?_
 refine s_nil ?_
 refine k1 _ _ ?_
 refine w_seqk fun K8 k8 => ?_
 refine w_reg (by kernel_rfl) ?_
 refine s_qk (.int .i64 v_) (by kernel_rfl) ?_
 refine s_b (v_ ≥ 0) (by kernel_rfl) (fun h9 => ?_) (fun h9 => ?_)
 ·have r10 := ite_t h9 hr
  refine s_qk (.bool true) (by kernel_rfl) ?_
  refine s_qk (.int .i64 v_) (by kernel_rfl) ?_
  refine s_qk (.pointer (some ⟨b2, 0, none⟩)) (by kernel_rfl) ?_
  refine s_ql (hd_First) (x := aLoad Tryd.prog 42 (.pointer (some ⟨b2, 0, none⟩)) H3) (by kernel_rfl) (r6.ld (by kernel_rfl)) ?_
  have u11 := (h_First.ext e4)
  refine s_ql (.int .i64 (First.length : Int)) (x := aLen Tryd.prog 42 hd_First H3) (by kernel_rfl) (u11.lenb (by kernel_rfl)) ?_
  obtain ⟨g12, r13⟩ := G_some r10
  refine s_w (((First.length : Int) - 1)) (k := .i64) (x := ((First.length : Int) - 1)) (by kernel_rfl) (wrap64 g12) ?_
  refine s_qk (.bool (decide (v_ < ((First.length : Int) - 1)))) (by kernel_rfl) ?_
  refine s_qk (.bool (decide (v_ < ((First.length : Int) - 1)))) (by kernel_rfl) ?_
  refine s_qk (.bool (decide (v_ < ((First.length : Int) - 1)))) (by kernel_rfl) ?_
  refine s_nil ?_
  refine k8 _ _ ?_
  refine w_ret ?_
  refine b_ret (fn := Tryd.f68) (vs := [.bool (decide (v_ < ((First.length : Int) - 1)))]) (aRes_tmp (by kernel_rfl) (rfl)) ?_
  obtain rfl := Option.some.inj r13
  exact ⟨rfl, ((FrS.refl (W := []) wf).extR e4)⟩
 ·have r14 := ite_f h9 hr
  refine s_qk (.bool false) (by kernel_rfl) ?_
  refine s_no (by kernel_rfl) ?_
  refine s_no (by kernel_rfl) ?_
  refine s_no (by kernel_rfl) ?_
  refine s_no (by kernel_rfl) ?_
  refine s_no (by kernel_rfl) ?_
  refine s_no (by kernel_rfl) ?_
  refine s_qk (.bool false) (by kernel_rfl) ?_
  refine s_qk (.bool false) (by kernel_rfl) ?_
  refine s_nil ?_
  refine k8 _ _ ?_
  refine w_ret ?_
  refine b_ret (fn := Tryd.f68) (vs := [.bool false]) (aRes_tmp (by kernel_rfl) (rfl)) ?_
  obtain rfl := Option.some.inj r14
  exact ⟨rfl, ((FrS.refl (W := []) wf).extR e4)⟩

theorem c_viaductref05_DocRow {H : AH} {hd_First : Value} {fp_First : Fp} {hd_To : Value} {fp_To : Fp} {hd_Weight : Value} {fp_Weight : Fp} {First : List (Int)} {To : List (Int)} {Weight : List (Int)} {v_ : Int} {r : List (Int × Int × Int) × Int × List (Int × Int)}
  (wf : WF H) (h_First : Sq (encI .i64) 1 H hd_First First fp_First) (h_To : Sq (encI .i64) 1 H hd_To To fp_To) (h_Weight : Sq (encI .i64) 1 H hd_Weight Weight fp_Weight) (hr : z_viaductref05_DocRow First To Weight v_ = some r) :
  ACalls Tryd.prog 35 #[.agg #[hd_First, hd_To, hd_Weight], .int .i64 v_] H fun v H' => ∃ (s3 : Value) (f4 : Fp) (s7 : Value) (f8 : Fp), v = .tuple #[s3, .agg #[.int .i64 r.2.1, s7]] ∧ FrS [] H H' ∧ Ow enc_i64_i64_i64 3 H' s3 r.1 f4 ∧ Ow enc_i64_i64 2 H' s7 r.2.2 f8 ∧ Inn [] H f4 ∧ Inn [] H f8 ∧ Dj f4 f8 := by
 refine acalls_of_body mixed Tryd.func35 rfl (Nat.le_of_ble_eq_true rfl) ?_
 unfold z_viaductref05_DocRow at hr
 refine w_seqk fun K12 k12 => ?_
 refine w_reg (by kernel_rfl) ?_
 refine s_rwl wf [hd_First, hd_To, hd_Weight] (one_cons (h_First.one1) (one_cons (h_To.one1) (one_cons (h_Weight.one1) (one_nil)))) (by kernel_rfl) fun b13 H14 e15 hb16 r17 => ?_
 refine s_qk (.slice none 0 0) (by kernel_rfl) ?_
 refine s_rwk e15.wf [.int .i64 0, .slice none 0 0] (by kernel_rfl) fun b19 H20 e21 hb22 r23 => ?_
 refine s_nil ?_
 refine k12 _ _ ?_
 refine w_seqk fun K25 k25 => ?_
 refine w_reg (by kernel_rfl) ?_
 have u26 := (r17.ext e21)
 refine s_ql (.agg #[hd_First, hd_To, hd_Weight]) (x := aLoad Tryd.prog 57 (.pointer (some ⟨b13, 0, none⟩)) H20) (by kernel_rfl) (u26.ld (by kernel_rfl)) ?_
 have u27 := ((h_First.ext e15).ext e21)
 have u28 := ((h_To.ext e15).ext e21)
 have u29 := ((h_Weight.ext e15).ext e21)
 obtain ⟨y30, hy31, r32⟩ := bind_some hr
 refine s_ck 31 #[.agg #[hd_First, hd_To, hd_Weight]] (by kernel_rfl) (c_viaductref05_DocCheck e21.wf u27 u28 u29 hy31) ?_
 rintro _ H35 ⟨s33, f34, rfl, e36, m37, i38⟩
 obtain ⟨a40, n41, c42, rfl⟩ := m37.form
 refine s_rwk e36.wf [.int .i64 0, .slice none 0 0] (by kernel_rfl) fun b43 H44 e45 hb46 r47 => ?_
 have u53 := (m37.ext e45)
 obtain ⟨H49, q50, e51, r52⟩ := Row.store (P := Tryd.prog) (t := 33) (p := 0) e45.wf r47 (.agg #[.int .i64 y30.1, .slice a40 n41 c42]) [.int .i64 y30.1, .slice a40 n41 c42] (by kernel_rfl) (by kernel_rfl) (one_cons (rfl) (one_cons (u53.one1) (one_nil))) (Nat.le_of_ble_eq_true (by kernel_rfl)) [.int .i64 y30.1, .slice a40 n41 c42] (by kernel_rfl)
 refine s_ek (undef) (by kernel_rfl) (map_ok q50) ?_
 refine s_nil ?_
 refine k25 _ _ ?_
 refine w_seqk fun K54 k54 => ?_
 refine w_seqk fun K55 k55 => ?_
 obtain ⟨o56, hx57, r58⟩ := bind_some r32
 refine w_mid (fun α H59 => Has α [(1, .int .i64 v_), (2, .pointer (some ⟨b13, 0, none⟩)), (5, .pointer (some ⟨b19, 0, none⟩)), (6, .pointer (some ⟨b43, 0, none⟩)), (17, .bool o56)] ∧ FrS [] H49 H59) (fun K61 k61 => ?_) (fun α H59 hM => ?_)
 ·refine w_reg (by kernel_rfl) ?_
  refine s_ql (.agg #[.int .i64 y30.1, .slice a40 n41 c42]) (x := aLoad Tryd.prog 33 (.pointer (some ⟨b43, 0, none⟩)) H49) (by kernel_rfl) (r52.ld (by kernel_rfl)) ?_
  have u63 := (u53.fr e51 (hb46.djn m37.lt))
  obtain ⟨y64, hy65, r66⟩ := bind_some hx57
  refine s_ck 53 #[.agg #[.int .i64 y30.1, .slice a40 n41 c42]] (by kernel_rfl) (c_viaductref01_Err_Bad e51.wf u63.sq hy65) ?_
  rintro _ H67 ⟨rfl, e68⟩
  by_cases h69 : y64 = true
  ·have r70 := ite_t h69 r66
   rw [h69]
   refine s_qk (.bool false) (by kernel_rfl) ?_
   refine s_qk (.bool false) (by kernel_rfl) ?_
   refine s_no (by kernel_rfl) ?_
   refine s_no (by kernel_rfl) ?_
   refine s_no (by kernel_rfl) ?_
   refine s_no (by kernel_rfl) ?_
   refine s_qk (.bool false) (by kernel_rfl) ?_
   refine s_nil ?_
   obtain rfl := Option.some.inj r70
   exact k61 _ _ ⟨⟨by kernel_rfl, by kernel_rfl, by kernel_rfl, by kernel_rfl, by kernel_rfl, trivial⟩, (FrS.step e51.wf (FrS.refl (W := []) e51.wf) e68 Inn.nil)⟩
  ·have r72 := ite_f h69 r66
   rw [nb h69]
   refine s_qk (.bool true) (by kernel_rfl) ?_
   refine s_qk (.bool true) (by kernel_rfl) ?_
   have u74 := ((((u26.frS e36 Dj.nil_l).ext e45).frS e51 (hb46.djn (r17.ltF.le (ntr e21.next e36.next)))).frS e68 Dj.nil_l)
   refine s_ql (.agg #[hd_First, hd_To, hd_Weight]) (x := aLoad Tryd.prog 57 (.pointer (some ⟨b13, 0, none⟩)) H67) (by kernel_rfl) (u74.ld (by kernel_rfl)) ?_
   refine s_qk (.int .i64 v_) (by kernel_rfl) ?_
   have u75 := ((((u27.fr e36 Dj.nil_l).ext e45).fr e51 (hb46.djn (h_First.lt.le (ntr (ntr e15.next e21.next) e36.next)))).fr e68 Dj.nil_l)
   have u76 := ((((u28.fr e36 Dj.nil_l).ext e45).fr e51 (hb46.djn (h_To.lt.le (ntr (ntr e15.next e21.next) e36.next)))).fr e68 Dj.nil_l)
   have u77 := ((((u29.fr e36 Dj.nil_l).ext e45).fr e51 (hb46.djn (h_Weight.lt.le (ntr (ntr e15.next e21.next) e36.next)))).fr e68 Dj.nil_l)
   obtain ⟨y78, hy79, r80⟩ := bind_some r72
   refine s_ck 68 #[.agg #[hd_First, hd_To, hd_Weight], .int .i64 v_] (by kernel_rfl) (c_viaductref05_Node e68.wf u75 u76 u77 hy79) ?_
   rintro _ H81 ⟨rfl, e82⟩
   refine s_qk (.bool (!y78)) (by kernel_rfl) ?_
   refine s_qk (.bool (!y78)) (by kernel_rfl) ?_
   refine s_nil ?_
   obtain rfl := Option.some.inj r80
   exact k61 _ _ ⟨⟨by kernel_rfl, by kernel_rfl, by kernel_rfl, by kernel_rfl, by kernel_rfl, trivial⟩, (FrS.step e51.wf (FrS.step e51.wf (FrS.refl (W := []) e51.wf) e68 Inn.nil) e82 Inn.nil)⟩
 ·obtain ⟨hh62, e60⟩ := hM
  obtain ⟨β, rfl⟩ := has_ex hh62
  clear hh62
  refine k55 _ _ ?_
  obtain ⟨o83, hx84, r85⟩ := bind_some r58
  refine w_mid (fun α H86 => ∃ (s90 : Value) (f91 : Fp), Has α [(1, .int .i64 v_), (2, .pointer (some ⟨b13, 0, none⟩)), (5, .pointer (some ⟨b19, 0, none⟩)), (6, .pointer (some ⟨b43, 0, none⟩))] ∧ FrS [b43] H59 H86 ∧ Ow enc_i64_i64 2 H86 s90 o83.2 f91 ∧ Row H86 b43 [.int .i64 o83.1, s90] ∧ Inn f34 H59 f91) (fun K95 k95 => ?_) (fun α H86 hM => ?_)
  ·refine w_cond (o56) (by kernel_rfl) rfl (fun h97 => ?_) (fun h97 => ?_)
   ·have r98 := ite_t h97 hx84
    refine w_reg (by kernel_rfl) ?_
    obtain ⟨y99, hy100, r101⟩ := bind_some r98
    refine s_ck 26 #[.int .i64 7] (by kernel_rfl) (c_viaductref01_E e60.wf hy100) ?_
    rintro _ H102 ⟨rfl, e103⟩
    have u108 := ((r52.frS e60 Dj.nil_l).frS e103 Dj.nil_l)
    obtain ⟨H104, q105, e106, r107⟩ := Row.store (P := Tryd.prog) (t := 33) (p := 0) e103.wf u108 (.agg #[.int .i64 y99, .slice none 0 0]) [.int .i64 y99, .slice none 0 0] (by kernel_rfl) (by kernel_rfl) (one_cons (rfl) (one_cons (rfl) (one_nil))) (Nat.le_of_ble_eq_true (by kernel_rfl)) [.int .i64 y99, .slice none 0 0] (by kernel_rfl)
    refine s_ek (undef) (by kernel_rfl) (map_ok q105) ?_
    refine s_nil ?_
    obtain rfl := Option.some.inj r101
    exact k95 _ _ ⟨(.slice none 0 0), [], ⟨by kernel_rfl, by kernel_rfl, by kernel_rfl, by kernel_rfl, trivial⟩, (FrS.step e60.wf (FrS.step e60.wf (FrS.refl (W := [b43]) e60.wf) e103 Inn.nil) e106 Inn.refl'), (Ow.nil (by decide)), r107, Inn.nil⟩
   ·have r109 := ite_bf h97 hx84
    refine w_skip ?_
    have u110 := ((u53.fr e51 (hb46.djn m37.lt)).fr e60 Dj.nil_l)
    have u111 := (r52.frS e60 Dj.nil_l)
    obtain rfl := Option.some.inj r109
    exact k95 _ _ ⟨(.slice a40 n41 c42), f34, ⟨by kernel_rfl, by kernel_rfl, by kernel_rfl, by kernel_rfl, trivial⟩, (FrS.refl (W := [b43]) e60.wf), u110, u111, Inn.refl'⟩
  ·obtain ⟨s90, f91, hh96, e87, m89, m93, i94⟩ := hM
   obtain ⟨β, rfl⟩ := has_ex hh96
   clear hh96
   obtain ⟨a112, n113, c114, rfl⟩ := m89.form
   refine k54 _ _ ?_
   refine w_seqk fun K115 k115 => ?_
   refine w_seqk fun K116 k116 => ?_
   refine w_reg (by kernel_rfl) ?_
   refine s_ql (.agg #[.int .i64 o83.1, .slice a112 n113 c114]) (x := aLoad Tryd.prog 33 (.pointer (some ⟨b43, 0, none⟩)) H86) (by kernel_rfl) (m93.ld (by kernel_rfl)) ?_
   obtain ⟨y117, hy118, r119⟩ := bind_some r85
   refine s_ck 53 #[.agg #[.int .i64 o83.1, .slice a112 n113 c114]] (by kernel_rfl) (c_viaductref01_Err_Bad e87.wf m89.sq hy118) ?_
   rintro _ H120 ⟨rfl, e121⟩
   refine s_nil ?_
   refine k116 _ _ ?_
   refine w_cond (y117) (by kernel_rfl) rfl (fun h122 => ?_) (fun h122 => ?_)
   ·have r123 := ite_t h122 r119
    refine w_seqk fun K124 k124 => ?_
    refine w_draw [0, 1, 2] (by kernel_rfl) ?_
    have u125 := (m93.frS e121 Dj.nil_l)
    refine d_ql (.agg #[.int .i64 o83.1, .slice a112 n113 c114]) (x := aLoad Tryd.prog 33 (.pointer (some ⟨b43, 0, none⟩)) H120) (by kernel_rfl) (u125.ld (by kernel_rfl)) ?_
    refine d_qk (.slice none 0 0) (by kernel_rfl) ?_
    have u130 := ((((((r23.frS e36 Dj.nil_l).ext e45).frS e51 (hb46.djn (r23.ltF.le e36.next))).frS e60 Dj.nil_l).frS e87 (hb46.djn (r23.ltF.le e36.next))).frS e121 Dj.nil_l)
    have u131 := (m89.fr e121 Dj.nil_l)
    obtain ⟨H126, q127, e128, r129⟩ := Row.store (P := Tryd.prog) (t := 33) (p := 0) e121.wf u130 (.agg #[.int .i64 o83.1, .slice a112 n113 c114]) [.int .i64 o83.1, .slice a112 n113 c114] (by kernel_rfl) (by kernel_rfl) (one_cons (rfl) (one_cons (u131.one1) (one_nil))) (Nat.le_of_ble_eq_true (by kernel_rfl)) [.int .i64 o83.1, .slice a112 n113 c114] (by kernel_rfl)
    refine d_ek (undef) (by kernel_rfl) (map_ok q127) (st_nil) ?_
    refine d_nil ?_
    refine k124 _ _ ?_
    refine w_ret (th_ret ?_)
    refine b_ret (fn := Tryd.f35) (vs := [.slice none 0 0, .agg #[.int .i64 o83.1, .slice a112 n113 c114]]) (aRes_tmp (by kernel_rfl) (aRes_cell (Eq.trans (b := aLoad Tryd.prog 33 (.pointer (some ⟨b19, 0, none⟩)) H126) (by kernel_rfl) (r129.ld (by kernel_rfl))) (rfl))) ?_
    have u132 := (u131.fr e128 (Dj.symm (i94.dj (i38.djn r23.ltF) (r23.ltF.le (ntr (ntr (ntr e36.next e45.next) e51.next) e60.next)))))
    obtain rfl := Option.some.inj r123
    exact ⟨(.slice none 0 0), [], (.slice a112 n113 c114), f91, rfl, (FrS.step wf (FrS.step wf (FrS.step wf (FrS.step wf (FrS.step wf ((FrS.step wf (((FrS.refl (W := []) wf).extR e15).extR e21) e36 Inn.nil).extR e45) e51 (hb46.fresh (ntr (ntr e15.next e21.next) e36.next))) e60 Inn.nil) e87 (hb46.fresh (ntr (ntr e15.next e21.next) e36.next))) e121 Inn.nil) e128 (hb22.fresh e15.next)), (Ow.nil (by decide)), u132, Inn.nil, (Inn.trans (i38.fresh (ntr e15.next e21.next)) (ntr (ntr (ntr (ntr (ntr e15.next e21.next) e36.next) e45.next) e51.next) e60.next) i94), Dj.nil_l⟩
   ·have r133 := ite_bf h122 r119
    refine w_skip ?_
    refine k115 _ _ ?_
    refine w_seqk fun K134 k134 => ?_
    refine w_draw [0, 1, 3, 2, 4, 5] (by kernel_rfl) ?_
    have u135 := ((((((u26.frS e36 Dj.nil_l).ext e45).frS e51 (hb46.djn (r17.ltF.le (ntr e21.next e36.next)))).frS e60 Dj.nil_l).frS e87 (hb46.djn (r17.ltF.le (ntr e21.next e36.next)))).frS e121 Dj.nil_l)
    refine d_ql (.agg #[hd_First, hd_To, hd_Weight]) (x := aLoad Tryd.prog 57 (.pointer (some ⟨b13, 0, none⟩)) H120) (by kernel_rfl) (u135.ld (by kernel_rfl)) ?_
    refine d_qk (.int .i64 v_) (by kernel_rfl) ?_
    have u136 := (m93.frS e121 Dj.nil_l)
    refine d_fl (.agg #[.int .i64 o83.1, .slice a112 n113 c114]) (x := aLoad Tryd.prog 33 (.pointer (some ⟨b43, 0, none⟩)) H120) (by kernel_rfl) (u136.ld (by kernel_rfl)) ?_
    have u137 := ((((((u27.fr e36 Dj.nil_l).ext e45).fr e51 (hb46.djn (h_First.lt.le (ntr (ntr e15.next e21.next) e36.next)))).fr e60 Dj.nil_l).fr e87 (hb46.djn (h_First.lt.le (ntr (ntr e15.next e21.next) e36.next)))).fr e121 Dj.nil_l)
    have u138 := ((((((u28.fr e36 Dj.nil_l).ext e45).fr e51 (hb46.djn (h_To.lt.le (ntr (ntr e15.next e21.next) e36.next)))).fr e60 Dj.nil_l).fr e87 (hb46.djn (h_To.lt.le (ntr (ntr e15.next e21.next) e36.next)))).fr e121 Dj.nil_l)
    have u139 := ((((((u29.fr e36 Dj.nil_l).ext e45).fr e51 (hb46.djn (h_Weight.lt.le (ntr (ntr e15.next e21.next) e36.next)))).fr e60 Dj.nil_l).fr e87 (hb46.djn (h_Weight.lt.le (ntr (ntr e15.next e21.next) e36.next)))).fr e121 Dj.nil_l)
    obtain ⟨y140, hy141, r142⟩ := bind_some r133
    refine d_ck 69 #[.agg #[hd_First, hd_To, hd_Weight], .int .i64 v_] (by kernel_rfl) (c_viaductref05_Row e121.wf u137 u138 u139 hy141) ?_
    rintro s143 H145 ⟨_, f144, rfl, e146, m147, i148⟩
    obtain ⟨a150, n151, c152, rfl⟩ := m147.form
    have u153 := (u136.frS e146 Dj.nil_l)
    refine ⟨st_ql (y := aLoad Tryd.prog 33 (.pointer (some ⟨b43, 0, none⟩)) H145) (by kernel_rfl) (u153.ld (by kernel_rfl)) (st_nil), ?_⟩
    refine d_qk (.slice a150 n151 c152) (by kernel_rfl) ?_
    have u158 := (((((((r23.frS e36 Dj.nil_l).ext e45).frS e51 (hb46.djn (r23.ltF.le e36.next))).frS e60 Dj.nil_l).frS e87 (hb46.djn (r23.ltF.le e36.next))).frS e121 Dj.nil_l).frS e146 Dj.nil_l)
    have u159 := ((m89.fr e121 Dj.nil_l).fr e146 Dj.nil_l)
    obtain ⟨H154, q155, e156, r157⟩ := Row.store (P := Tryd.prog) (t := 33) (p := 0) e146.wf u158 (.agg #[.int .i64 o83.1, .slice a112 n113 c114]) [.int .i64 o83.1, .slice a112 n113 c114] (by kernel_rfl) (by kernel_rfl) (one_cons (rfl) (one_cons (u159.one1) (one_nil))) (Nat.le_of_ble_eq_true (by kernel_rfl)) [.int .i64 o83.1, .slice a112 n113 c114] (by kernel_rfl)
    refine d_ek (undef) (by kernel_rfl) (map_ok q155) (st_anc (by kernel_rfl) (st_nil)) ?_
    refine d_nil ?_
    refine k134 _ _ ?_
    refine w_ret ?_
    refine b_ret (fn := Tryd.f35) (vs := [.slice a150 n151 c152, .agg #[.int .i64 o83.1, .slice a112 n113 c114]]) (aRes_tmp (by kernel_rfl) (aRes_cell (Eq.trans (b := aLoad Tryd.prog 33 (.pointer (some ⟨b19, 0, none⟩)) H154) (by kernel_rfl) (r157.ld (by kernel_rfl))) (rfl))) ?_
    have u160 := (m147.fr e156 (Dj.symm (i148.djn (r23.ltF.le (ntr (ntr (ntr (ntr (ntr e36.next e45.next) e51.next) e60.next) e87.next) e121.next)))))
    have u161 := (u159.fr e156 (Dj.symm (i94.dj (i38.djn r23.ltF) (r23.ltF.le (ntr (ntr (ntr e36.next e45.next) e51.next) e60.next)))))
    obtain rfl := Option.some.inj r142
    exact ⟨(.slice a150 n151 c152), f144, (.slice a112 n113 c114), f91, rfl, (FrS.step wf (FrS.step wf (FrS.step wf (FrS.step wf (FrS.step wf (FrS.step wf ((FrS.step wf (((FrS.refl (W := []) wf).extR e15).extR e21) e36 Inn.nil).extR e45) e51 (hb46.fresh (ntr (ntr e15.next e21.next) e36.next))) e60 Inn.nil) e87 (hb46.fresh (ntr (ntr e15.next e21.next) e36.next))) e121 Inn.nil) e146 Inn.nil) e156 (hb22.fresh e15.next)), u160, u161, (i148.fresh (ntr (ntr (ntr (ntr (ntr (ntr (ntr e15.next e21.next) e36.next) e45.next) e51.next) e60.next) e87.next) e121.next)), (Inn.trans (i38.fresh (ntr e15.next e21.next)) (ntr (ntr (ntr (ntr (ntr e15.next e21.next) e36.next) e45.next) e51.next) e60.next) i94), (i148.djn (m89.lt.le e121.next))⟩

theorem c_csr_Find_1 {H : AH} {From : Int} {To : Int} {Weight : Int} {w : Int} {r : Int}
  (wf : WF H) (hr : z_csr_Find_1 From To Weight w = some r) :
  ACalls Tryd.prog 71 #[.agg #[.int .i64 From, .int .i64 To, .int .i64 Weight], .int .i64 w] H fun v H' => v = .int .i64 r ∧ FrS [] H H' := by
 refine acalls_of_body mixed Tryd.func71 rfl (Nat.le_of_ble_eq_true rfl) ?_
 unfold z_csr_Find_1 at hr
 refine w_seqk fun K1 k1 => ?_
 refine w_reg (by kernel_rfl) ?_
 refine s_rwl wf [.int .i64 From, .int .i64 To, .int .i64 Weight] (one_cons (rfl) (one_cons (rfl) (one_cons (rfl) (one_nil)))) (by kernel_rfl) fun b2 H3 e4 hb5 r6 => ?_
 refine s_qk (.int .i64 0) (by kernel_rfl) ?_
 refine s_nil ?_
 refine k1 _ _ ?_
 refine w_seqk fun K8 k8 => ?_
 refine w_reg (by kernel_rfl) ?_
 refine s_qk (.pointer (some ⟨b2, 1, none⟩)) (by kernel_rfl) ?_
 refine s_ql (.int .i64 To) (x := aLoad Tryd.prog 3 (.pointer (some ⟨b2, 1, none⟩)) H3) (by kernel_rfl) (r6.ld (by kernel_rfl)) ?_
 refine s_qk (.int .i64 w) (by kernel_rfl) ?_
 obtain ⟨g9, r10⟩ := G_some hr
 refine s_w ((To - w)) (k := .i64) (x := (To - w)) (by kernel_rfl) (wrap64 g9) ?_
 refine s_qk (.int .i64 (To - w)) (by kernel_rfl) ?_
 refine s_nil ?_
 refine k8 _ _ ?_
 refine w_ret ?_
 refine b_ret (fn := Tryd.f71) (vs := [.int .i64 (To - w)]) (aRes_tmp (by kernel_rfl) (rfl)) ?_
 obtain rfl := Option.some.inj r10
 exact ⟨rfl, ((FrS.refl (W := []) wf).extR e4)⟩

theorem c_slices_BinarySearchFunc {H : AH} {hd_x : Value} {fp_x : Fp} {x : List (Int × Int × Int)} {target : Int} {r : Int × Bool}
  (wf : WF H) (h_x : Sq enc_i64_i64_i64 3 H hd_x x fp_x) (hr : z_slices_BinarySearchFunc x target = some r) :
  ACalls Tryd.prog 70 #[hd_x, .int .i64 target, .func (.func 71) #[] #[]] H fun v H' => v = .tuple #[.int .i64 r.1, .bool r.2] ∧ FrS [] H H' := by
 refine acalls_of_body mixed Tryd.func70 rfl (Nat.le_of_ble_eq_true rfl) ?_
 unfold z_slices_BinarySearchFunc at hr
 refine w_seqk fun K1 k1 => ?_
 refine w_reg (by kernel_rfl) ?_
 refine s_qk (.int .i64 0) (by kernel_rfl) ?_
 refine s_qk (.bool false) (by kernel_rfl) ?_
 refine s_nil ?_
 refine k1 _ _ ?_
 refine w_seqk fun K2 k2 => ?_
 refine w_reg (by kernel_rfl) ?_
 refine s_qk (hd_x) (by kernel_rfl) ?_
 refine s_ql (.int .i64 (x.length : Int)) (x := aLen Tryd.prog 22 hd_x H) (by kernel_rfl) (h_x.lenb (by kernel_rfl)) ?_
 refine s_qk (.int .i64 (x.length : Int)) (by kernel_rfl) ?_
 refine s_nil ?_
 refine k2 _ _ ?_
 refine w_seqk fun K3 k3 => ?_
 refine w_reg (by kernel_rfl) ?_
 refine s_qk (.int .i64 (x.length : Int)) (by kernel_rfl) ?_
 refine s_qk (.int .i64 0) (by kernel_rfl) ?_
 refine s_qk (.int .i64 (x.length : Int)) (by kernel_rfl) ?_
 refine s_nil ?_
 refine k3 _ _ ?_
 refine w_seqk fun K4 k4 => ?_
 obtain ⟨o5, hx6, r7⟩ := bind_some hr
 refine w_mid (fun α H8 => Has α [(0, hd_x), (1, .int .i64 target), (2, .func (.func 71) #[] #[]), (8, .int .i64 (x.length : Int)), (9, .int .i64 o5)] ∧ FrS [] H H8) (fun K10 k10 => ?_) (fun α H8 hM => ?_)
 ·refine w_block ?_
  obtain ⟨n12, hn13⟩ := loopO_iff.1 hx6
  refine w_loopn (fun n α H14 => ∃ (j0 : Int), ∃ (i1 : Int), iterO (fun zz_ => z_slices_BinarySearchFunc_l0 x target zz_.1 zz_.2) n (j0, i1) = some o5 ∧ Has α [(0, hd_x), (1, .int .i64 target), (2, .func (.func 71) #[] #[]), (8, .int .i64 (x.length : Int)), (9, .int .i64 i1), (10, .int .i64 j0)] ∧ FrS [] H H14) n12 ⟨(x.length : Int), 0, hn13, ⟨by kernel_rfl, by kernel_rfl, by kernel_rfl, by kernel_rfl, by kernel_rfl, by kernel_rfl, trivial⟩, (FrS.refl (W := []) wf)⟩ ?_
  rintro n12 α H14 ⟨j0, i1, hi17, hh16, e15⟩ K22 k22
  obtain ⟨n18, z19, rfl, hz20, hn21⟩ := iter_succ hi17
  obtain ⟨β, rfl⟩ := has_ex hh16
  clear hh16
  replace hz20 : z_slices_BinarySearchFunc_l0 x target j0 i1 = some z19 := hz20
  unfold z_slices_BinarySearchFunc_l0 at hz20
  refine w_seqk fun K23 k23 => ?_
  refine w_seqk fun K24 k24 => ?_
  refine w_reg (by kernel_rfl) ?_
  refine s_qk (.int .i64 i1) (by kernel_rfl) ?_
  refine s_qk (.int .i64 j0) (by kernel_rfl) ?_
  refine s_qk (.bool (decide (i1 < j0))) (by kernel_rfl) ?_
  refine s_nil ?_
  refine k24 _ _ ?_
  refine w_condp (i1 < j0) (by kernel_rfl) rfl (fun h25 => ?_) (fun h25 => ?_)
  ·have r26 := ite_t h25 hz20
   refine w_skip ?_
   refine k23 _ _ ?_
   refine w_block ?_
   refine w_seqk fun K27 k27 => ?_
   refine w_reg (by kernel_rfl) ?_
   refine s_qk (.int .i64 i1) (by kernel_rfl) ?_
   refine s_qk (.int .i64 j0) (by kernel_rfl) ?_
   obtain ⟨g28, r29⟩ := G_some r26
   refine s_w ((i1 + j0)) (k := .i64) (x := (i1 + j0)) (by kernel_rfl) (wrap64 g28) ?_
   obtain ⟨g30, r31⟩ := G_some r29
   refine s_w ((i1 + j0)) (k := .u64) (x := (i1 + j0)) (by kernel_rfl) (wrapu64 g30) ?_
   refine s_ql (.int .u64 ((i1 + j0) / 2)) (x := some (.int .u64 (Int.fdiv (i1 + j0) 2))) (by kernel_rfl) (by rw [Int.fdiv_eq_ediv_of_nonneg _ (by decide)]) ?_
   obtain ⟨g32, r33⟩ := G_some r31
   refine s_w (((i1 + j0) / 2)) (k := .i64) (x := ((i1 + j0) / 2)) (by kernel_rfl) (wrap64 g32) ?_
   refine s_qk (.int .i64 ((i1 + j0) / 2)) (by kernel_rfl) ?_
   refine s_nil ?_
   refine k27 _ _ ?_
   refine w_seqk fun K34 k34 => ?_
   refine w_reg (by kernel_rfl) ?_
   refine s_qk (.func (.func 71) #[] #[]) (by kernel_rfl) ?_
   refine s_qk (hd_x) (by kernel_rfl) ?_
   refine s_qk (.int .i64 ((i1 + j0) / 2)) (by kernel_rfl) ?_
   obtain ⟨g35, r36⟩ := G_some r33
   have u37 := (h_x.fr e15 Dj.nil_l)
   refine s_ql (elp hd_x 3 ((i1 + j0) / 2).toNat 0) (x := aIndexAddr Tryd.prog 22 hd_x (.int .i64 ((i1 + j0) / 2))) (by kernel_rfl) (u37.idxb (by kernel_rfl) g35.1 g35.2) ?_
   refine s_ql (.agg #[.int .i64 ((gt x ((i1 + j0) / 2)).1), .int .i64 ((gt x ((i1 + j0) / 2)).2.1), .int .i64 ((gt x ((i1 + j0) / 2)).2.2)]) (x := aLoad Tryd.prog 51 (elp hd_x 3 ((i1 + j0) / 2).toNat 0) H14) (by kernel_rfl) (u37.ld g35.1 g35.2 (by kernel_rfl)) ?_
   refine s_qk (.int .i64 target) (by kernel_rfl) ?_
   obtain ⟨y38, hy39, r40⟩ := bind_some r36
   refine s_ck 71 #[.agg #[.int .i64 ((gt x ((i1 + j0) / 2)).1), .int .i64 ((gt x ((i1 + j0) / 2)).2.1), .int .i64 ((gt x ((i1 + j0) / 2)).2.2)], .int .i64 target] (by kernel_rfl) (c_csr_Find_1 e15.wf hy39) ?_
   rintro _ H41 ⟨rfl, e42⟩
   refine s_qk (.bool (decide (y38 < 0))) (by kernel_rfl) ?_
   refine s_nil ?_
   refine k34 _ _ ?_
   refine w_condp (y38 < 0) (by kernel_rfl) rfl (fun h43 => ?_) (fun h43 => ?_)
   ·have r44 := ite_t h43 r40
    refine w_reg (by kernel_rfl) ?_
    refine s_qk (.int .i64 ((i1 + j0) / 2)) (by kernel_rfl) ?_
    obtain ⟨g45, r46⟩ := G_some r44
    refine s_w ((((i1 + j0) / 2) + 1)) (k := .i64) (x := (((i1 + j0) / 2) + 1)) (by kernel_rfl) (wrap64 (by have := g45; omega)) ?_
    refine s_qk (.int .i64 (((i1 + j0) / 2) + 1)) (by kernel_rfl) ?_
    refine s_nil ?_
    obtain rfl := Option.some.inj r46
    exact k22 n18 _ _ (Nat.lt_succ_self _) ⟨j0, (((i1 + j0) / 2) + 1), hn21, ⟨by kernel_rfl, by kernel_rfl, by kernel_rfl, by kernel_rfl, by kernel_rfl, by kernel_rfl, trivial⟩, (FrS.step wf (FrS.step wf (FrS.refl (W := []) wf) e15 Inn.nil) e42 Inn.nil)⟩
   ·have r47 := ite_f h43 r40
    refine w_reg (by kernel_rfl) ?_
    refine s_qk (.int .i64 ((i1 + j0) / 2)) (by kernel_rfl) ?_
    refine s_qk (.int .i64 ((i1 + j0) / 2)) (by kernel_rfl) ?_
    refine s_nil ?_
    obtain rfl := Option.some.inj r47
    exact k22 n18 _ _ (Nat.lt_succ_self _) ⟨((i1 + j0) / 2), i1, hn21, ⟨by kernel_rfl, by kernel_rfl, by kernel_rfl, by kernel_rfl, by kernel_rfl, by kernel_rfl, trivial⟩, (FrS.step wf (FrS.step wf (FrS.refl (W := []) wf) e15 Inn.nil) e42 Inn.nil)⟩
  ·have r48 := ite_f h25 hz20
   refine w_exit (th_exit (th_exit (bl_eq ?_)))
   obtain rfl := Option.some.inj r48
   obtain rfl := it_inr hn21
   exact k10 _ _ ⟨⟨by kernel_rfl, by kernel_rfl, by kernel_rfl, by kernel_rfl, by kernel_rfl, trivial⟩, (FrS.step wf (FrS.refl (W := []) wf) e15 Inn.nil)⟩
 ·obtain ⟨hh11, e9⟩ := hM
  obtain ⟨β, rfl⟩ := has_ex hh11
  clear hh11
  refine k4 _ _ ?_
  refine w_seqk fun K49 k49 => ?_
  refine w_reg (by kernel_rfl) ?_
  refine s_qk (.int .i64 o5) (by kernel_rfl) ?_
  refine s_qk (.int .i64 o5) (by kernel_rfl) ?_
  refine s_qk (.int .i64 (x.length : Int)) (by kernel_rfl) ?_
  refine s_b (o5 < (x.length : Int)) (by kernel_rfl) (fun h50 => ?_) (fun h50 => ?_)
  ·have r51 := ite_t h50 r7
   refine s_qk (.bool true) (by kernel_rfl) ?_
   refine s_qk (.func (.func 71) #[] #[]) (by kernel_rfl) ?_
   refine s_qk (hd_x) (by kernel_rfl) ?_
   refine s_qk (.int .i64 o5) (by kernel_rfl) ?_
   obtain ⟨g52, r53⟩ := G_some r51
   have u54 := (h_x.fr e9 Dj.nil_l)
   refine s_ql (elp hd_x 3 o5.toNat 0) (x := aIndexAddr Tryd.prog 22 hd_x (.int .i64 o5)) (by kernel_rfl) (u54.idxb (by kernel_rfl) g52 h50) ?_
   refine s_ql (.agg #[.int .i64 ((gt x o5).1), .int .i64 ((gt x o5).2.1), .int .i64 ((gt x o5).2.2)]) (x := aLoad Tryd.prog 51 (elp hd_x 3 o5.toNat 0) H8) (by kernel_rfl) (u54.ld g52 h50 (by kernel_rfl)) ?_
   refine s_qk (.int .i64 target) (by kernel_rfl) ?_
   obtain ⟨y55, hy56, r57⟩ := bind_some r53
   refine s_ck 71 #[.agg #[.int .i64 ((gt x o5).1), .int .i64 ((gt x o5).2.1), .int .i64 ((gt x o5).2.2)], .int .i64 target] (by kernel_rfl) (c_csr_Find_1 e9.wf hy56) ?_
   rintro _ H58 ⟨rfl, e59⟩
   refine s_qk (.bool (decide (y55 = 0))) (by kernel_rfl) ?_
   refine s_qk (.bool (decide (y55 = 0))) (by kernel_rfl) ?_
   refine s_qk (.int .i64 o5) (by kernel_rfl) ?_
   refine s_qk (.bool (decide (y55 = 0))) (by kernel_rfl) ?_
   refine s_nil ?_
   refine k49 _ _ ?_
   refine w_ret ?_
   refine b_ret (fn := Tryd.f70) (vs := [.int .i64 o5, .bool (decide (y55 = 0))]) (aRes_tmp (by kernel_rfl) (aRes_tmp (by kernel_rfl) (rfl))) ?_
   obtain rfl := Option.some.inj r57
   exact ⟨rfl, (FrS.step wf (FrS.step wf (FrS.refl (W := []) wf) e9 Inn.nil) e59 Inn.nil)⟩
  ·have r60 := ite_f h50 r7
   refine s_qk (.bool false) (by kernel_rfl) ?_
   refine s_no (by kernel_rfl) ?_
   refine s_no (by kernel_rfl) ?_
   refine s_no (by kernel_rfl) ?_
   refine s_no (by kernel_rfl) ?_
   refine s_no (by kernel_rfl) ?_
   refine s_no (by kernel_rfl) ?_
   refine s_no (by kernel_rfl) ?_
   refine s_no (by kernel_rfl) ?_
   refine s_qk (.bool false) (by kernel_rfl) ?_
   refine s_qk (.int .i64 o5) (by kernel_rfl) ?_
   refine s_qk (.bool false) (by kernel_rfl) ?_
   refine s_nil ?_
   refine k49 _ _ ?_
   refine w_ret ?_
   refine b_ret (fn := Tryd.f70) (vs := [.int .i64 o5, .bool false]) (aRes_tmp (by kernel_rfl) (aRes_tmp (by kernel_rfl) (rfl))) ?_
   obtain rfl := Option.some.inj r60
   exact ⟨rfl, (FrS.step wf (FrS.refl (W := []) wf) e9 Inn.nil)⟩


end Go.Vd
