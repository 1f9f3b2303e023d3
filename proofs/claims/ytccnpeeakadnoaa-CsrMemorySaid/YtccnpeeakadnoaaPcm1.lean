/- The walks of the functions (printed by a program of ours). -/
import Derived.Test.YtccnpeeakadnoaaPcm0
import Derived.Test.YtccnpeeakadnoaaVeC
import Derived.Test.YtccnpeeakadnoaaICm
import Derived.Test.YtccnpeeakadnoaaVeN
import Derived.Test.YtccnpeeakadnoaaVeM
import Derived.Test.YtccnpeeakadnoaaSoA
import Derived.Test.YtccnpeeakadnoaaVeV
set_option linter.unusedVariables false
set_option linter.unusedSimpArgs false
set_option linter.unusedSectionVars false
/-! (KCm0) -/

set_option maxRecDepth 100000
set_option maxHeartbeats 4000000
set_option linter.unusedVariables false
namespace Go.Vd
open Go.Proofs
attribute [local irreducible] wpSeq wpOrd aWp
set_option linter.unusedSimpArgs false
theorem e_pure {α : Type} (P : Program) (a : α) : pr P (pure a : Sem α) = some a := rfl
theorem e_prog {P : Program} : pr P (program : Sem Program) = some P := rfl
theorem e_und {P : Program} {t : TypeId} {d : TypeDesc} (h : P.underlying t = some d) : pr P (underlying t) = some d := by
 simp only [underlying, pr_bind]
 show ((pr P (program : Sem Program)).bind _) = _
 simp [show pr P (program : Sem Program) = some P from rfl, h]
 rfl
theorem e_int {P : Program} (d : Nat) (t : TypeId) (k : IntKind) (h : P.underlying t = some (.int k)) (a c : Int) : pr P (Op.equalIn (d+1) t (.int k a) (.int k c)) = some (a == c) := by
 simp only [Op.equalIn, pr_bind, e_und h]
 simp [e_pure]
theorem e_bool {P : Program} (d : Nat) (t : TypeId) (h : P.underlying t = some .bool) (a c : Bool) : pr P (Op.equalIn (d+1) t (.bool a) (.bool c)) = some (a == c) := by
 simp only [Op.equalIn, pr_bind, e_und h]
 simp [e_pure]

theorem e73_p0 (a0 : Int) (a1 : Int) (a2 : Int) : pr Try.prog (part 3 #[.int .i64 a0, .int .i64 a1, .int .i64 a2] 0) = some (.int .i64 a0) := by kernel_rfl
theorem e73_q0 (a c : Int) : pr Try.prog (Op.equalIn 9999 3 (.int .i64 a) (.int .i64 c)) = some (a == c) := e_int 9998 3 .i64 Go.Proofs.Try.underlying3 a c
theorem e73_p1 (a0 : Int) (a1 : Int) (a2 : Int) : pr Try.prog (part 3 #[.int .i64 a0, .int .i64 a1, .int .i64 a2] 1) = some (.int .i64 a1) := by kernel_rfl
theorem e73_q1 (a c : Int) : pr Try.prog (Op.equalIn 9999 3 (.int .i64 a) (.int .i64 c)) = some (a == c) := e_int 9998 3 .i64 Go.Proofs.Try.underlying3 a c
theorem e73_p2 (a0 : Int) (a1 : Int) (a2 : Int) : pr Try.prog (part 3 #[.int .i64 a0, .int .i64 a1, .int .i64 a2] 2) = some (.int .i64 a2) := by kernel_rfl
theorem e73_q2 (a c : Int) : pr Try.prog (Op.equalIn 9999 3 (.int .i64 a) (.int .i64 c)) = some (a == c) := e_int 9998 3 .i64 Go.Proofs.Try.underlying3 a c
theorem e73_stood : Try.prog.stoodInHeld 73 = false := by kernel_rfl
theorem e73_eq (a0 : Int) (a1 : Int) (a2 : Int) (c0 : Int) (c1 : Int) (c2 : Int) : pr Try.prog (Op.equalIn Op.maxDepth 73 (.agg #[.int .i64 a0, .int .i64 a1, .int .i64 a2]) (.agg #[.int .i64 c0, .int .i64 c1, .int .i64 c2])) = some (a0 == c0 && a1 == c1 && a2 == c2) := by
 rw [show Op.maxDepth = 9998 + 1 + 1 from rfl, Op.equalIn]
 rw [pr_bind, e_und Go.Proofs.Try.underlying73]
 simp only [Option.bind_some, pr_bind, e_prog, e73_stood, Bool.false_eq_true, if_false]
 simp [pr_bind, e73_p0, e73_p1, e73_p2, e73_q0, e73_q1, e73_q2]
 by_cases h0 : a0 = c0
 ·subst h0
  by_cases h1 : a1 = c1
  ·subst h1
   by_cases h2 : a2 = c2
   ·subst h2
    simp [e_pure, pr_bind, e73_p0, e73_p1, e73_p2, e73_q0, e73_q1, e73_q2]
   ·simp [e_pure, pr_bind, e73_p0, e73_p1, e73_p2, e73_q0, e73_q1, e73_q2, h2]
  ·simp [e_pure, pr_bind, e73_p0, e73_p1, e73_p2, e73_q0, e73_q1, e73_q2, h1]
 ·simp [e_pure, pr_bind, e73_p0, e73_p1, e73_p2, e73_q0, e73_q1, e73_q2, h0]
theorem e73_gneq (x y : Operand) (a0 : Int) (a1 : Int) (a2 : Int) (c0 : Int) (c1 : Int) (c2 : Int) : pr Try.prog (eqGuard .neq 73 x y (.agg #[.int .i64 a0, .int .i64 a1, .int .i64 a2]) (.agg #[.int .i64 c0, .int .i64 c1, .int .i64 c2])) = some () := by kernel_rfl
theorem aBin_neq73 (x y : Operand) (a0 : Int) (a1 : Int) (a2 : Int) (c0 : Int) (c1 : Int) (c2 : Int) : aBin Try.prog .neq 73 x y (.agg #[.int .i64 a0, .int .i64 a1, .int .i64 a2]) (.agg #[.int .i64 c0, .int .i64 c1, .int .i64 c2]) = some (.bool (!decide (a0 = c0 ∧ a1 = c1 ∧ a2 = c2))) := by
 unfold aBin
 rw [if_pos (show (plain (.agg #[.int .i64 a0, .int .i64 a1, .int .i64 a2]) && plain (.agg #[.int .i64 c0, .int .i64 c1, .int .i64 c2])) = true from rfl), pr_bind, e73_gneq]
 have : pr Try.prog (binOp .neq 73 (.agg #[.int .i64 a0, .int .i64 a1, .int .i64 a2]) (.agg #[.int .i64 c0, .int .i64 c1, .int .i64 c2])) = some (.bool (!decide (a0 = c0 ∧ a1 = c1 ∧ a2 = c2))) := by
  simp only [binOp, Op.equal, pr_bind, e73_eq]
  by_cases g0 : a0 = c0 <;> by_cases g1 : a1 = c1 <;> by_cases g2 : a2 = c2 <;> simp [e_pure, g0, g1, g2]
 simp only [Option.bind_some, this]
 rfl
theorem e73_geql (x y : Operand) (a0 : Int) (a1 : Int) (a2 : Int) (c0 : Int) (c1 : Int) (c2 : Int) : pr Try.prog (eqGuard .eql 73 x y (.agg #[.int .i64 a0, .int .i64 a1, .int .i64 a2]) (.agg #[.int .i64 c0, .int .i64 c1, .int .i64 c2])) = some () := by kernel_rfl
theorem aBin_eql73 (x y : Operand) (a0 : Int) (a1 : Int) (a2 : Int) (c0 : Int) (c1 : Int) (c2 : Int) : aBin Try.prog .eql 73 x y (.agg #[.int .i64 a0, .int .i64 a1, .int .i64 a2]) (.agg #[.int .i64 c0, .int .i64 c1, .int .i64 c2]) = some (.bool (decide (a0 = c0 ∧ a1 = c1 ∧ a2 = c2))) := by
 unfold aBin
 rw [if_pos (show (plain (.agg #[.int .i64 a0, .int .i64 a1, .int .i64 a2]) && plain (.agg #[.int .i64 c0, .int .i64 c1, .int .i64 c2])) = true from rfl), pr_bind, e73_geql]
 have : pr Try.prog (binOp .eql 73 (.agg #[.int .i64 a0, .int .i64 a1, .int .i64 a2]) (.agg #[.int .i64 c0, .int .i64 c1, .int .i64 c2])) = some (.bool (decide (a0 = c0 ∧ a1 = c1 ∧ a2 = c2))) := by
  simp only [binOp, Op.equal, pr_bind, e73_eq]
  by_cases g0 : a0 = c0 <;> by_cases g1 : a1 = c1 <;> by_cases g2 : a2 = c2 <;> simp [e_pure, g0, g1, g2]
 simp only [Option.bind_some, this]
 rfl
theorem c_viaductlaw05_awake_ev : evB Try.prog 100000 46 #[] = some true := by kernel_rfl
theorem c_viaductlaw05_awake {H : AH} : ACalls Try.prog 46 #[] H fun v H' => H = H' ∧ v = .bool true :=
 (acalls_evB mixed c_viaductlaw05_awake_ev rfl H).mono fun _ _ ⟨a, b⟩ => ⟨b.symm, a⟩

theorem c_viaductlaw05_great {H : AH} {hd_Arcs : Value} {fp_Arcs : Fp} {N_ : Int} {Arcs : List (Int × Int × Int)} {r : Bool}
  (wf : WF H) (h_Arcs : Sq enc_i64_i64_i64 3 H hd_Arcs Arcs fp_Arcs) (hr : z_viaductlaw05_great N_ Arcs = some r) :
  ACalls Try.prog 47 #[.agg #[.int .i64 N_, hd_Arcs]] H fun v H' => v = .bool r ∧ FrS [] H H' := by
 refine acalls_of_body mixed Try.func47 rfl (Nat.le_of_ble_eq_true rfl) ?_
 unfold z_viaductlaw05_great at hr
 refine w_seqk fun K1 k1 => ?_
 refine w_reg (by kernel_rfl) ?_
 refine s_rwl wf [.int .i64 N_, hd_Arcs] (one_cons (rfl) (one_cons (h_Arcs.one1) (one_nil))) (by kernel_rfl) fun b2 H3 e4 hb5 r6 => ?_
 refine s_qk (.bool false) (by kernel_rfl) ?_
 refine s_nil ?_
 refine k1 _ _ ?_
 refine w_seqk fun K8 k8 => ?_
 refine w_reg (by kernel_rfl) ?_
 refine s_qk (.pointer (some ⟨b2, 1, none⟩)) (by kernel_rfl) ?_
 refine s_ql (hd_Arcs) (x := aLoad Try.prog 57 (.pointer (some ⟨b2, 1, none⟩)) H3) (by kernel_rfl) (r6.ld (by kernel_rfl)) ?_
 have u9 := (h_Arcs.ext e4)
 refine s_ql (.int .i64 (Arcs.length : Int)) (x := aLen Try.prog 57 hd_Arcs H3) (by kernel_rfl) (u9.lenb (by kernel_rfl)) ?_
 refine s_b ((Arcs.length : Int) > 3000) (by kernel_rfl) (fun h10 => ?_) (fun h10 => ?_)
 ·have r11 := ite_t h10 hr
  refine s_qk (.bool true) (by kernel_rfl) ?_
  refine s_qk (.pointer (some ⟨b2, 1, none⟩)) (by kernel_rfl) ?_
  refine s_ql (hd_Arcs) (x := aLoad Try.prog 57 (.pointer (some ⟨b2, 1, none⟩)) H3) (by kernel_rfl) (r6.ld (by kernel_rfl)) ?_
  refine s_ql (.int .i64 (Arcs.length : Int)) (x := aLen Try.prog 57 hd_Arcs H3) (by kernel_rfl) (u9.lenb (by kernel_rfl)) ?_
  refine s_qk (.bool (decide ((Arcs.length : Int) ≤ 262144))) (by kernel_rfl) ?_
  refine s_qk (.bool (decide ((Arcs.length : Int) ≤ 262144))) (by kernel_rfl) ?_
  refine s_qk (.bool (decide ((Arcs.length : Int) ≤ 262144))) (by kernel_rfl) ?_
  refine s_nil ?_
  refine k8 _ _ ?_
  refine w_ret ?_
  refine b_ret (fn := Try.f47) (vs := [.bool (decide ((Arcs.length : Int) ≤ 262144))]) (aRes_tmp (by kernel_rfl) (rfl)) ?_
  obtain rfl := Option.some.inj r11
  exact ⟨rfl, ((FrS.refl (W := []) wf).extR e4)⟩
 ·have r12 := ite_f h10 hr
  refine s_qk (.bool false) (by kernel_rfl) ?_
  refine s_no (by kernel_rfl) ?_
  refine s_no (by kernel_rfl) ?_
  refine s_no (by kernel_rfl) ?_
  refine s_no (by kernel_rfl) ?_
  refine s_qk (.bool false) (by kernel_rfl) ?_
  refine s_qk (.bool false) (by kernel_rfl) ?_
  refine s_nil ?_
  refine k8 _ _ ?_
  refine w_ret ?_
  refine b_ret (fn := Try.f47) (vs := [.bool false]) (aRes_tmp (by kernel_rfl) (rfl)) ?_
  obtain rfl := Option.some.inj r12
  exact ⟨rfl, ((FrS.refl (W := []) wf).extR e4)⟩

theorem c_viaductref03_Spare {H : AH} {hd_Arcs : Value} {fp_Arcs : Fp} {N_ : Int} {Arcs : List (Int × Int × Int)} {r : Int × List (Int × Int × Int) × List (Int × Int × Int)}
  (wf : WF H) (h_Arcs : Sq enc_i64_i64_i64 3 H hd_Arcs Arcs fp_Arcs) (hr : z_viaductref03_Spare N_ Arcs = some r) :
  ACalls Try.prog 23 #[.agg #[.int .i64 N_, hd_Arcs]] H fun v H' => ∃ (s3 : Value) (f4 : Fp) (s7 : Value), v = .tuple #[.agg #[.int .i64 r.1, s3], s7] ∧ FrS [] H H' ∧ Ow enc_i64_i64_i64 3 H' s3 r.2.1 f4 ∧ Ow enc_i64_i64_i64 3 H' s7 r.2.2 f4 ∧ Inn [] H f4 := by
 refine acalls_of_body mixed Try.func23 rfl (Nat.le_of_ble_eq_true rfl) ?_
 unfold z_viaductref03_Spare at hr
 refine w_seqk fun K9 k9 => ?_
 refine w_reg (by kernel_rfl) ?_
 refine s_rwl wf [.int .i64 N_, hd_Arcs] (one_cons (rfl) (one_cons (h_Arcs.one1) (one_nil))) (by kernel_rfl) fun b10 H11 e12 hb13 r14 => ?_
 refine s_rwk e12.wf [.int .i64 0, .slice none 0 0] (by kernel_rfl) fun b16 H17 e18 hb19 r20 => ?_
 refine s_qk (.slice none 0 0) (by kernel_rfl) ?_
 refine s_nil ?_
 refine k9 _ _ ?_
 refine w_seqk fun K22 k22 => ?_
 refine w_reg (by kernel_rfl) ?_
 refine s_qk (.pointer (some ⟨b10, 1, none⟩)) (by kernel_rfl) ?_
 have u23 := (r14.ext e18)
 refine s_ql (hd_Arcs) (x := aLoad Try.prog 57 (.pointer (some ⟨b10, 1, none⟩)) H17) (by kernel_rfl) (u23.ld (by kernel_rfl)) ?_
 have u24 := ((h_Arcs.ext e12).ext e18)
 refine s_ql (.int .i64 (Arcs.length : Int)) (x := aLen Try.prog 57 hd_Arcs H17) (by kernel_rfl) (u24.lenb (by kernel_rfl)) ?_
 obtain ⟨g25, r26⟩ := G_some hr
 refine s_w (((Arcs.length : Int) + 2)) (k := .i64) (x := ((Arcs.length : Int) + 2)) (by kernel_rfl) (wrap64 (by have := g25; omega)) ?_
 obtain ⟨g27, r28⟩ := G_some r26
 refine s_mkx (t := 57) (m := 24) (l := 0) (c := ((Arcs.length : Int) + 2)) (enc := enc_i64_i64_i64) (sz := 3) e18.wf ((0, 0, 0) : Int × Int × Int) (by kernel_rfl) (by decide) g27.1 g27.2.1 (by omega) (by have := g27; omega) (newQ_mk (k := .i64) (k' := .i64) rfl (by kernel_rfl) (by kernel_rfl) (by kernel_rfl)) fun b29 H30 e31 hf32 hm33 => ?_
 have hm33 : Ow enc_i64_i64_i64 3 H30 (.slice (some ⟨b29, 0, none⟩) (0 : Int).toNat ((Arcs.length : Int) + 2).toNat) (List.replicate (0 : Int).toNat ((0, 0, 0) : Int × Int × Int)) [b29] := hm33
 refine s_qk (.slice (some ⟨b29, 0, none⟩) (0 : Int).toNat ((Arcs.length : Int) + 2).toNat) (by kernel_rfl) ?_
 refine s_nil ?_
 refine k22 _ _ ?_
 refine w_seqk fun K35 k35 => ?_
 refine w_reg (by kernel_rfl) ?_
 refine s_qk (.slice (some ⟨b29, 0, none⟩) (0 : Int).toNat ((Arcs.length : Int) + 2).toNat) (by kernel_rfl) ?_
 refine s_qk (.pointer (some ⟨b10, 1, none⟩)) (by kernel_rfl) ?_
 have u36 := (u23.ext e31)
 refine s_ql (hd_Arcs) (x := aLoad Try.prog 57 (.pointer (some ⟨b10, 1, none⟩)) H30) (by kernel_rfl) (u36.ld (by kernel_rfl)) ?_
 obtain ⟨g37, r38⟩ := G_some r28
 have u44 := (u24.ext e31)
 obtain ⟨H39, q40, e41, hm42, hs43⟩ := Ow.appendIn (P := Try.prog) 24 e31.wf hm33 u44 (fun _ _ => rfl) (at_ := #[57, 57]) rfl rfl (by kernel_rfl) (by kernel_rfl) g37
 refine s_ek (.slice (some ⟨b29, 0, none⟩) ((List.replicate (0 : Int).toNat ((0, 0, 0) : Int × Int × Int)).length + Arcs.length) ((Arcs.length : Int) + 2).toNat) (by kernel_rfl) (q40) ?_
 refine s_qk (.slice (some ⟨b29, 0, none⟩) ((List.replicate (0 : Int).toNat ((0, 0, 0) : Int × Int × Int)).length + Arcs.length) ((Arcs.length : Int) + 2).toNat) (by kernel_rfl) ?_
 refine s_nil ?_
 refine k35 _ _ ?_
 refine w_seqk fun K46 k46 => ?_
 refine w_reg (by kernel_rfl) ?_
 refine s_qk (.slice (some ⟨b29, 0, none⟩) ((List.replicate (0 : Int).toNat ((0, 0, 0) : Int × Int × Int)).length + Arcs.length) ((Arcs.length : Int) + 2).toNat) (by kernel_rfl) ?_
 refine s_qk (.agg #[.int .i64 41, .int .i64 0, .int .i64 0]) (by kernel_rfl) ?_
 refine s_qk (.agg #[.int .i64 42, .int .i64 0, .int .i64 0]) (by kernel_rfl) ?_
 refine s_owk (enc := enc_i64_i64_i64) (sz := 3) e41.wf [(41, 0, 0), (42, 0, 0)] 2 (by decide) (fun _ _ => rfl) (fun _ _ => rfl) rfl (by kernel_rfl) fun s47 f48 H49 e50 hf51 hm52 => ?_
 obtain ⟨a53, n54, c55, rfl⟩ := hm52.form
 have u57 := (hm42.ext e50)
 obtain ⟨g58, r59⟩ := G_some r38
 obtain ⟨H60, q61, e62, hm63, hs64⟩ := Ow.appendIn (P := Try.prog) 24 e50.wf u57 hm52.sq (fun _ _ => rfl) (at_ := #[57, 57]) rfl rfl (by kernel_rfl) (by kernel_rfl) g58
 refine s_ek (.slice (some ⟨b29, 0, none⟩) (((List.replicate (0 : Int).toNat ((0, 0, 0) : Int × Int × Int)) ++ Arcs).length + [(41, 0, 0), (42, 0, 0)].length) ((Arcs.length : Int) + 2).toNat) (by kernel_rfl) (q61) ?_
 refine s_qk (.slice (some ⟨b29, 0, none⟩) (((List.replicate (0 : Int).toNat ((0, 0, 0) : Int × Int × Int)) ++ Arcs).length + [(41, 0, 0), (42, 0, 0)].length) ((Arcs.length : Int) + 2).toNat) (by kernel_rfl) ?_
 refine s_nil ?_
 refine k46 _ _ ?_
 refine w_seqk fun K66 k66 => ?_
 refine w_draw [0, 1, 2, 3, 4, 5, 6, 7, 8, 9, 10] (by kernel_rfl) ?_
 refine d_qk (.pointer (some ⟨b10, 0, none⟩)) (by kernel_rfl) ?_
 have u67 := (((u36.frS e41 (hf32.djn (r14.ltF.le e18.next))).ext e50).frS e62 (hf32.djn (r14.ltF.le e18.next)))
 refine d_ql (.int .i64 N_) (x := aLoad Try.prog 3 (.pointer (some ⟨b10, 0, none⟩)) H60) (by kernel_rfl) (u67.ld (by kernel_rfl)) ?_
 refine d_qk (.slice (some ⟨b29, 0, none⟩) (((List.replicate (0 : Int).toNat ((0, 0, 0) : Int × Int × Int)) ++ Arcs).length + [(41, 0, 0), (42, 0, 0)].length) ((Arcs.length : Int) + 2).toNat) (by kernel_rfl) ?_
 refine d_qk (.pointer (some ⟨b10, 1, none⟩)) (by kernel_rfl) ?_
 refine d_ql (hd_Arcs) (x := aLoad Try.prog 57 (.pointer (some ⟨b10, 1, none⟩)) H60) (by kernel_rfl) (u67.ld (by kernel_rfl)) ?_
 have u68 := (((u44.fr e41 (hf32.djn (h_Arcs.lt.le (ntr e12.next e18.next)))).ext e50).fr e62 (hf32.djn (h_Arcs.lt.le (ntr e12.next e18.next))))
 refine d_ql (.int .i64 (Arcs.length : Int)) (x := aLen Try.prog 57 hd_Arcs H60) (by kernel_rfl) (u68.lenb (by kernel_rfl)) ?_
 obtain ⟨g69, r70⟩ := G_some r59
 obtain ⟨s71, q72, hs73⟩ := Ow.head (P := Try.prog) hm63 (t := 57) (by kernel_rfl) (hi := (some (.int .i64 (Arcs.length : Int)))) (r := Arcs.length) (aBound_int _ (by have := g69; omega)) (by have := g69; omega)
 obtain ⟨a74, n75, c76, rfl⟩ := hs73.form
 refine d_ql (.slice a74 n75 c76) (by kernel_rfl) q72 ?_
 refine d_qk (.agg #[.int .i64 N_, .slice a74 n75 c76]) (by kernel_rfl) ?_
 refine d_qk (.slice (some ⟨b29, 0, none⟩) (((List.replicate (0 : Int).toNat ((0, 0, 0) : Int × Int × Int)) ++ Arcs).length + [(41, 0, 0), (42, 0, 0)].length) ((Arcs.length : Int) + 2).toNat) (by kernel_rfl) ?_
 have u82 := ((((r20.ext e31).frS e41 (hf32.djn r20.ltF)).ext e50).frS e62 (hf32.djn r20.ltF))
 obtain ⟨H78, q79, e80, r81⟩ := Row.store (P := Try.prog) (t := 59) (p := 0) e62.wf u82 (.agg #[.int .i64 N_, .slice a74 n75 c76]) [.int .i64 N_, .slice a74 n75 c76] (by kernel_rfl) (by kernel_rfl) (one_cons (rfl) (one_cons (hs73.one1) (one_nil))) (Nat.le_of_ble_eq_true (by kernel_rfl)) [.int .i64 N_, .slice a74 n75 c76] (by kernel_rfl)
 refine d_ek (undef) (by kernel_rfl) (map_ok q79) (st_nil) ?_
 refine d_qk (.slice (some ⟨b29, 0, none⟩) (((List.replicate (0 : Int).toNat ((0, 0, 0) : Int × Int × Int)) ++ Arcs).length + [(41, 0, 0), (42, 0, 0)].length) ((Arcs.length : Int) + 2).toNat) (by kernel_rfl) ?_
 refine d_nil ?_
 refine k66 _ _ ?_
 refine w_ret ?_
 refine b_ret (fn := Try.f23) (vs := [.agg #[.int .i64 N_, .slice a74 n75 c76], .slice (some ⟨b29, 0, none⟩) (((List.replicate (0 : Int).toNat ((0, 0, 0) : Int × Int × Int)) ++ Arcs).length + [(41, 0, 0), (42, 0, 0)].length) ((Arcs.length : Int) + 2).toNat]) (aRes_cell (Eq.trans (b := aLoad Try.prog 59 (.pointer (some ⟨b16, 0, none⟩)) H78) (by kernel_rfl) (r81.ld (by kernel_rfl))) (aRes_tmp (by kernel_rfl) (rfl))) ?_
 have u83 := (hs73.fr e80 (Dj.symm (hf32.djn r20.ltF)))
 have u84 := (hm63.fr e80 (Dj.symm (hf32.djn r20.ltF)))
 obtain rfl := Option.some.inj r70
 exact ⟨(.slice a74 n75 c76), [b29], (.slice (some ⟨b29, 0, none⟩) (((List.replicate (0 : Int).toNat ((0, 0, 0) : Int × Int × Int)) ++ Arcs).length + [(41, 0, 0), (42, 0, 0)].length) ((Arcs.length : Int) + 2).toNat), rfl, (FrS.step wf (FrS.step wf ((FrS.step wf ((((FrS.refl (W := []) wf).extR e12).extR e18).extR e31) e41 (hf32.fresh (ntr e12.next e18.next))).extR e50) e62 (hf32.fresh (ntr e12.next e18.next))) e80 (hb19.fresh e12.next)), u83, u84, (hf32.fresh (ntr e12.next e18.next))⟩

theorem c_gtext_within {H : AH} {x : Int} {n_ : Int} {r : Bool}
  (wf : WF H) (hr : z_gtext_within x n_ = some r) :
  ACalls Try.prog 147 #[.int .i64 x, .int .i64 n_] H fun v H' => v = .bool r ∧ H = H' := by
 refine acalls_of_body mixed Try.func147 rfl (Nat.le_of_ble_eq_true rfl) ?_
 unfold z_gtext_within at hr
 refine w_seqk fun K1 k1 => ?_
 refine w_reg (by kernel_rfl) ?_
 refine s_qk (.bool false) (by kernel_rfl) ?_
 refine s_nil ?_
 refine k1 _ _ ?_
 refine w_seqk fun K2 k2 => ?_
 refine w_reg (by kernel_rfl) ?_
 refine s_qk (.int .i64 x) (by kernel_rfl) ?_
 refine s_b (x ≥ 0) (by kernel_rfl) (fun h3 => ?_) (fun h3 => ?_)
 ·have r4 := ite_t h3 hr
  refine s_qk (.bool true) (by kernel_rfl) ?_
  refine s_qk (.int .i64 x) (by kernel_rfl) ?_
  refine s_qk (.int .i64 n_) (by kernel_rfl) ?_
  refine s_qk (.bool (decide (x < n_))) (by kernel_rfl) ?_
  refine s_qk (.bool (decide (x < n_))) (by kernel_rfl) ?_
  refine s_qk (.bool (decide (x < n_))) (by kernel_rfl) ?_
  refine s_nil ?_
  refine k2 _ _ ?_
  refine w_ret ?_
  refine b_ret (fn := Try.f147) (vs := [.bool (decide (x < n_))]) (aRes_tmp (by kernel_rfl) (rfl)) ?_
  obtain rfl := Option.some.inj r4
  exact ⟨rfl, rfl⟩
 ·have r5 := ite_f h3 hr
  refine s_qk (.bool false) (by kernel_rfl) ?_
  refine s_no (by kernel_rfl) ?_
  refine s_no (by kernel_rfl) ?_
  refine s_no (by kernel_rfl) ?_
  refine s_qk (.bool false) (by kernel_rfl) ?_
  refine s_qk (.bool false) (by kernel_rfl) ?_
  refine s_nil ?_
  refine k2 _ _ ?_
  refine w_ret ?_
  refine b_ret (fn := Try.f147) (vs := [.bool false]) (aRes_tmp (by kernel_rfl) (rfl)) ?_
  obtain rfl := Option.some.inj r5
  exact ⟨rfl, rfl⟩

theorem c_gtext_arc {H : AH} {From : Int} {To : Int} {Weight : Int} {n_ : Int} {r : Er}
  (wf : WF H) (hr : z_gtext_arc From To Weight n_ = some r) :
  ACalls Try.prog 122 #[.agg #[.int .i64 From, .int .i64 To, .int .i64 Weight], .int .i64 n_] H fun v H' => ∃ (v3 : Value) (f4 : Fp), v = v3 ∧ FrS [] H H' ∧ Ev 122 235 H' v3 r f4 ∧ Inn [] H f4 := by
 refine acalls_of_body mixed Try.func122 rfl (Nat.le_of_ble_eq_true rfl) ?_
 unfold z_gtext_arc at hr
 refine w_seqk fun K6 k6 => ?_
 refine w_reg (by kernel_rfl) ?_
 refine s_rwl wf [.int .i64 From, .int .i64 To, .int .i64 Weight] (one_cons (rfl) (one_cons (rfl) (one_cons (rfl) (one_nil)))) (by kernel_rfl) fun b7 H8 e9 hb10 r11 => ?_
 refine s_qk (.nilIface) (by kernel_rfl) ?_
 refine s_nil ?_
 refine k6 _ _ ?_
 refine w_seqk fun K13 k13 => ?_
 refine w_block ?_
 refine w_seqk fun K14 k14 => ?_
 obtain ⟨o15, hx16, r17⟩ := bind_some hr
 refine w_mid (fun α H18 => Has α [(2, .pointer (some ⟨b7, 0, none⟩)), (5, .bool o15)] ∧ H8 = H18) (fun K20 k20 => ?_) (fun α H18 hM => ?_)
 ·refine w_reg (by kernel_rfl) ?_
  refine s_qk (.pointer (some ⟨b7, 0, none⟩)) (by kernel_rfl) ?_
  refine s_ql (.int .i64 From) (x := aLoad Try.prog 3 (.pointer (some ⟨b7, 0, none⟩)) H8) (by kernel_rfl) (r11.ld (by kernel_rfl)) ?_
  refine s_qk (.int .i64 n_) (by kernel_rfl) ?_
  obtain ⟨y22, hy23, r24⟩ := bind_some hx16
  refine s_ck 147 #[.int .i64 From, .int .i64 n_] (by kernel_rfl) (c_gtext_within e9.wf hy23) ?_
  rintro _ _ ⟨rfl, rfl⟩
  by_cases h27 : y22 = true
  ·have r28 := ite_t h27 r24
   rw [h27]
   refine s_qk (.bool false) (by kernel_rfl) ?_
   refine s_qk (.bool false) (by kernel_rfl) ?_
   refine s_qk (.pointer (some ⟨b7, 1, none⟩)) (by kernel_rfl) ?_
   refine s_ql (.int .i64 To) (x := aLoad Try.prog 3 (.pointer (some ⟨b7, 1, none⟩)) H8) (by kernel_rfl) (r11.ld (by kernel_rfl)) ?_
   refine s_qk (.int .i64 n_) (by kernel_rfl) ?_
   obtain ⟨y30, hy31, r32⟩ := bind_some r28
   refine s_ck 147 #[.int .i64 To, .int .i64 n_] (by kernel_rfl) (c_gtext_within e9.wf hy31) ?_
   rintro _ _ ⟨rfl, rfl⟩
   refine s_qk (.bool (!y30)) (by kernel_rfl) ?_
   refine s_qk (.bool (!y30)) (by kernel_rfl) ?_
   refine s_qk (.bool (!y30)) (by kernel_rfl) ?_
   refine s_nil ?_
   obtain rfl := Option.some.inj r32
   exact k20 _ _ ⟨⟨by kernel_rfl, by kernel_rfl, trivial⟩, rfl⟩
  ·have r35 := ite_f h27 r24
   rw [nb h27]
   refine s_qk (.bool true) (by kernel_rfl) ?_
   refine s_qk (.bool true) (by kernel_rfl) ?_
   refine s_no (by kernel_rfl) ?_
   refine s_no (by kernel_rfl) ?_
   refine s_no (by kernel_rfl) ?_
   refine s_no (by kernel_rfl) ?_
   refine s_no (by kernel_rfl) ?_
   refine s_qk (.bool true) (by kernel_rfl) ?_
   refine s_qk (.bool true) (by kernel_rfl) ?_
   refine s_nil ?_
   obtain rfl := Option.some.inj r35
   exact k20 _ _ ⟨⟨by kernel_rfl, by kernel_rfl, trivial⟩, rfl⟩
 ·obtain ⟨hh21, rfl⟩ := hM
  obtain ⟨β, rfl⟩ := has_ex hh21
  clear hh21
  refine k14 _ _ ?_
  refine w_cond (o15) (by kernel_rfl) rfl (fun h37 => ?_) (fun h37 => ?_)
  ·have r38 := ite_t h37 r17
   refine w_seqk fun K39 k39 => ?_
   refine w_reg (by kernel_rfl) ?_
   refine s_qk (.iface 122 (.int .i64 7)) (by kernel_rfl) ?_
   refine s_qk (.iface 122 (.int .i64 7)) (by kernel_rfl) ?_
   refine s_nil ?_
   refine k39 _ _ ?_
   refine w_ret (bl_ret (th_ret ?_))
   refine b_ret (fn := Try.f122) (vs := [.iface 122 (.int .i64 7)]) (aRes_tmp (by kernel_rfl) (rfl)) ?_
   obtain rfl := Option.some.inj r38
   exact ⟨(.iface 122 (.int .i64 7)), [], rfl, ((FrS.refl (W := []) wf).extR e9), Ev.no, Inn.nil⟩
  ·have r40 := ite_bf h37 r17
   refine w_seqk fun K41 k41 => ?_
   refine w_reg (by kernel_rfl) ?_
   refine s_qk (.pointer (some ⟨b7, 2, none⟩)) (by kernel_rfl) ?_
   refine s_ql (.int .i64 Weight) (x := aLoad Try.prog 3 (.pointer (some ⟨b7, 2, none⟩)) H8) (by kernel_rfl) (r11.ld (by kernel_rfl)) ?_
   refine s_b (Weight < 0) (by kernel_rfl) (fun h42 => ?_) (fun h42 => ?_)
   ·have r43 := ite_t h42 r40
    refine s_qk (.bool true) (by kernel_rfl) ?_
    refine s_no (by kernel_rfl) ?_
    refine s_no (by kernel_rfl) ?_
    refine s_no (by kernel_rfl) ?_
    refine s_qk (.bool true) (by kernel_rfl) ?_
    refine s_qk (.bool true) (by kernel_rfl) ?_
    refine s_nil ?_
    refine k41 _ _ ?_
    refine w_cond true (by kernel_rfl) rfl (fun _ => ?_) (fun h => by cases h)
    refine w_seqk fun K44 k44 => ?_
    refine w_reg (by kernel_rfl) ?_
    refine s_qk (.iface 122 (.int .i64 8)) (by kernel_rfl) ?_
    refine s_qk (.iface 122 (.int .i64 8)) (by kernel_rfl) ?_
    refine s_nil ?_
    refine k44 _ _ ?_
    refine w_ret (bl_ret (th_ret ?_))
    refine b_ret (fn := Try.f122) (vs := [.iface 122 (.int .i64 8)]) (aRes_tmp (by kernel_rfl) (rfl)) ?_
    obtain rfl := Option.some.inj r43
    exact ⟨(.iface 122 (.int .i64 8)), [], rfl, ((FrS.refl (W := []) wf).extR e9), Ev.no, Inn.nil⟩
   ·have r45 := ite_f h42 r40
    refine s_qk (.bool false) (by kernel_rfl) ?_
    refine s_qk (.pointer (some ⟨b7, 2, none⟩)) (by kernel_rfl) ?_
    refine s_ql (.int .i64 Weight) (x := aLoad Try.prog 3 (.pointer (some ⟨b7, 2, none⟩)) H8) (by kernel_rfl) (r11.ld (by kernel_rfl)) ?_
    refine s_qk (.bool (decide (Weight > 2147483647))) (by kernel_rfl) ?_
    refine s_qk (.bool (decide (Weight > 2147483647))) (by kernel_rfl) ?_
    refine s_qk (.bool (decide (Weight > 2147483647))) (by kernel_rfl) ?_
    refine s_nil ?_
    refine k41 _ _ ?_
    refine w_condp (Weight > 2147483647) (by kernel_rfl) rfl (fun h46 => ?_) (fun h46 => ?_)
    ·have r47 := ite_t h46 r45
     refine w_seqk fun K48 k48 => ?_
     refine w_reg (by kernel_rfl) ?_
     refine s_qk (.iface 122 (.int .i64 8)) (by kernel_rfl) ?_
     refine s_qk (.iface 122 (.int .i64 8)) (by kernel_rfl) ?_
     refine s_nil ?_
     refine k48 _ _ ?_
     refine w_ret (bl_ret (th_ret ?_))
     refine b_ret (fn := Try.f122) (vs := [.iface 122 (.int .i64 8)]) (aRes_tmp (by kernel_rfl) (rfl)) ?_
     obtain rfl := Option.some.inj r47
     exact ⟨(.iface 122 (.int .i64 8)), [], rfl, ((FrS.refl (W := []) wf).extR e9), Ev.no, Inn.nil⟩
    ·have r49 := ite_f h46 r45
     refine w_skip ?_
     refine k13 _ _ ?_
     refine w_seqk fun K50 k50 => ?_
     refine w_reg (by kernel_rfl) ?_
     refine s_qk (.nilIface) (by kernel_rfl) ?_
     refine s_nil ?_
     refine k50 _ _ ?_
     refine w_ret ?_
     refine b_ret (fn := Try.f122) (vs := [.nilIface]) (aRes_tmp (by kernel_rfl) (rfl)) ?_
     obtain rfl := Option.some.inj r49
     exact ⟨(.nilIface), [], rfl, ((FrS.refl (W := []) wf).extR e9), Ev.nil, Inn.nil⟩

theorem c_fault_At {H : AH} {ev_err : Value} {fp_err : Fp} {kind : Int} {at_ : Int} {err : Er} {r : Er}
  (wf : WF H) (h_err : Ev 122 235 H ev_err err fp_err) (hr : z_fault_At kind at_ err = some r) :
  ACalls Try.prog 119 #[.int .i64 kind, .int .i64 at_, ev_err] H fun v H' => ∃ (v3 : Value) (f4 : Fp), v = v3 ∧ FrS [] H H' ∧ Ev 122 235 H' v3 r f4 ∧ Inn fp_err H f4 := by
 refine acalls_of_body mixed Try.func119 rfl (Nat.le_of_ble_eq_true rfl) ?_
 unfold z_fault_At at hr
 refine w_seqk fun K6 k6 => ?_
 refine w_reg (by kernel_rfl) ?_
 refine s_qk (.nilIface) (by kernel_rfl) ?_
 refine s_nil ?_
 refine k6 _ _ ?_
 refine w_seqk fun K7 k7 => ?_
 refine w_seqk fun K8 k8 => ?_
 refine w_reg (by kernel_rfl) ?_
 refine s_qk (ev_err) (by kernel_rfl) ?_
 rcases (h_err).cases with ⟨h9, rfl⟩ | ⟨h9, t10, x11, rfl⟩
 ·have r12 := ite_t h9 hr
  refine s_qk (.bool true) (by kernel_rfl) ?_
  refine s_nil ?_
  refine k8 _ _ ?_
  refine w_cond true (by kernel_rfl) rfl (fun _ => ?_) (fun h => by cases h)
  refine w_seqk fun K13 k13 => ?_
  refine w_reg (by kernel_rfl) ?_
  refine s_qk (.nilIface) (by kernel_rfl) ?_
  refine s_nil ?_
  refine k13 _ _ ?_
  refine w_ret (th_ret ?_)
  refine b_ret (fn := Try.f119) (vs := [.nilIface]) (aRes_tmp (by kernel_rfl) (rfl)) ?_
  obtain rfl := Option.some.inj r12
  exact ⟨(.nilIface), [], rfl, (FrS.refl (W := []) wf), Ev.nil, Inn.nil⟩
 ·have r14 := ite_f h9 hr
  refine s_ql (.bool false) (x := aBin Try.prog .eql 31 (.tmp 7) (.const .nilIface) (.iface t10 x11) .nilIface) (by kernel_rfl) (aBin_nil (by kernel_rfl)) ?_
  refine s_nil ?_
  refine k8 _ _ ?_
  refine w_cond false (by kernel_rfl) rfl (fun h => by cases h) (fun _ => ?_)
  refine w_skip ?_
  refine k7 _ _ ?_
  refine w_seqk fun K15 k15 => ?_
  refine w_reg (by kernel_rfl) ?_
  refine s_qk (.int .i64 kind) (by kernel_rfl) ?_
  refine s_qk (.int .i64 at_) (by kernel_rfl) ?_
  refine s_qk (.agg #[.int .i64 kind, .int .i64 at_]) (by kernel_rfl) ?_
  refine s_qk (.iface t10 x11) (by kernel_rfl) ?_
  refine s_qk (.agg #[.int .i64 kind, .int .i64 at_, .iface t10 x11]) (by kernel_rfl) ?_
  refine s_rwl wf [.int .i64 kind, .int .i64 at_, .iface t10 x11] (one_cons (rfl) (one_cons (rfl) (one_cons (h_err.one1) (one_nil)))) (by kernel_rfl) fun b16 H17 e18 hb19 r20 => ?_
  have u22 := (h_err.ext e18)
  obtain ⟨fq23, he24, hi25⟩ := Ev.at r20 u22 hb19
  refine s_qk (.iface 235 (.pointer (some ⟨b16, 0, none⟩))) (by kernel_rfl) ?_
  refine s_qk (.iface 235 (.pointer (some ⟨b16, 0, none⟩))) (by kernel_rfl) ?_
  refine s_nil ?_
  refine k15 _ _ ?_
  refine w_ret ?_
  refine b_ret (fn := Try.f119) (vs := [.iface 235 (.pointer (some ⟨b16, 0, none⟩))]) (aRes_tmp (by kernel_rfl) (rfl)) ?_
  obtain rfl := Option.some.inj r14
  exact ⟨(.iface 235 (.pointer (some ⟨b16, 0, none⟩))), fq23, rfl, ((FrS.refl (W := []) wf).extR e18), he24, (Inn.trans Inn.refl' (Nat.le_refl _) hi25)⟩

theorem c_gtext_Check {H : AH} {hd_Arcs : Value} {fp_Arcs : Fp} {N_ : Int} {Arcs : List (Int × Int × Int)} {r : Er}
  (wf : WF H) (h_Arcs : Sq enc_i64_i64_i64 3 H hd_Arcs Arcs fp_Arcs) (hr : z_gtext_Check N_ Arcs = some r) :
  ACalls Try.prog 73 #[.agg #[.int .i64 N_, hd_Arcs]] H fun v H' => ∃ (v3 : Value) (f4 : Fp), v = v3 ∧ FrS [] H H' ∧ Ev 122 235 H' v3 r f4 ∧ Inn [] H f4 := by
 refine acalls_of_body mixed Try.func73 rfl (Nat.le_of_ble_eq_true rfl) ?_
 unfold z_gtext_Check at hr
 refine w_seqk fun K6 k6 => ?_
 refine w_reg (by kernel_rfl) ?_
 refine s_rwl wf [.int .i64 N_, hd_Arcs] (one_cons (rfl) (one_cons (h_Arcs.one1) (one_nil))) (by kernel_rfl) fun b7 H8 e9 hb10 r11 => ?_
 refine s_qk (.nilIface) (by kernel_rfl) ?_
 refine s_nil ?_
 refine k6 _ _ ?_
 refine w_seqk fun K13 k13 => ?_
 refine w_seqk fun K14 k14 => ?_
 obtain ⟨o15, hx16, r17⟩ := bind_some hr
 refine w_mid (fun α H18 => Has α [(1, .pointer (some ⟨b7, 0, none⟩)), (19, .bool o15)] ∧ H8 = H18) (fun K20 k20 => ?_) (fun α H18 hM => ?_)
 ·refine w_reg (by kernel_rfl) ?_
  refine s_qk (.pointer (some ⟨b7, 0, none⟩)) (by kernel_rfl) ?_
  refine s_ql (.int .i64 N_) (x := aLoad Try.prog 3 (.pointer (some ⟨b7, 0, none⟩)) H8) (by kernel_rfl) (r11.ld (by kernel_rfl)) ?_
  refine s_b (N_ < 0) (by kernel_rfl) (fun h22 => ?_) (fun h22 => ?_)
  ·have r23 := ite_t h22 hx16
   refine s_qk (.bool true) (by kernel_rfl) ?_
   refine s_no (by kernel_rfl) ?_
   refine s_no (by kernel_rfl) ?_
   refine s_no (by kernel_rfl) ?_
   refine s_qk (.bool true) (by kernel_rfl) ?_
   refine s_qk (.bool true) (by kernel_rfl) ?_
   refine s_no (by kernel_rfl) ?_
   refine s_no (by kernel_rfl) ?_
   refine s_no (by kernel_rfl) ?_
   refine s_no (by kernel_rfl) ?_
   refine s_qk (.bool true) (by kernel_rfl) ?_
   refine s_nil ?_
   obtain rfl := Option.some.inj r23
   exact k20 _ _ ⟨⟨by kernel_rfl, by kernel_rfl, trivial⟩, rfl⟩
  ·have r24 := ite_f h22 hx16
   refine s_qk (.bool false) (by kernel_rfl) ?_
   refine s_qk (.pointer (some ⟨b7, 0, none⟩)) (by kernel_rfl) ?_
   refine s_ql (.int .i64 N_) (x := aLoad Try.prog 3 (.pointer (some ⟨b7, 0, none⟩)) H8) (by kernel_rfl) (r11.ld (by kernel_rfl)) ?_
   refine s_b (N_ > 65536) (by kernel_rfl) (fun h25 => ?_) (fun h25 => ?_)
   ·have r26 := ite_t h25 r24
    refine s_qk (.bool true) (by kernel_rfl) ?_
    refine s_qk (.bool true) (by kernel_rfl) ?_
    refine s_no (by kernel_rfl) ?_
    refine s_no (by kernel_rfl) ?_
    refine s_no (by kernel_rfl) ?_
    refine s_no (by kernel_rfl) ?_
    refine s_qk (.bool true) (by kernel_rfl) ?_
    refine s_nil ?_
    obtain rfl := Option.some.inj r26
    exact k20 _ _ ⟨⟨by kernel_rfl, by kernel_rfl, trivial⟩, rfl⟩
   ·have r27 := ite_f h25 r24
    refine s_qk (.bool false) (by kernel_rfl) ?_
    refine s_qk (.bool false) (by kernel_rfl) ?_
    refine s_qk (.pointer (some ⟨b7, 1, none⟩)) (by kernel_rfl) ?_
    refine s_ql (hd_Arcs) (x := aLoad Try.prog 57 (.pointer (some ⟨b7, 1, none⟩)) H8) (by kernel_rfl) (r11.ld (by kernel_rfl)) ?_
    have u28 := (h_Arcs.ext e9)
    refine s_ql (.int .i64 (Arcs.length : Int)) (x := aLen Try.prog 57 hd_Arcs H8) (by kernel_rfl) (u28.lenb (by kernel_rfl)) ?_
    refine s_qk (.bool (decide ((Arcs.length : Int) > 262144))) (by kernel_rfl) ?_
    refine s_qk (.bool (decide ((Arcs.length : Int) > 262144))) (by kernel_rfl) ?_
    refine s_nil ?_
    obtain rfl := Option.some.inj r27
    exact k20 _ _ ⟨⟨by kernel_rfl, by kernel_rfl, trivial⟩, rfl⟩
 ·obtain ⟨hh21, rfl⟩ := hM
  obtain ⟨β, rfl⟩ := has_ex hh21
  clear hh21
  refine k14 _ _ ?_
  refine w_cond (o15) (by kernel_rfl) rfl (fun h29 => ?_) (fun h29 => ?_)
  ·have r30 := ite_t h29 r17
   refine w_seqk fun K31 k31 => ?_
   refine w_reg (by kernel_rfl) ?_
   refine s_qk (.iface 122 (.int .i64 9)) (by kernel_rfl) ?_
   refine s_qk (.iface 122 (.int .i64 9)) (by kernel_rfl) ?_
   refine s_nil ?_
   refine k31 _ _ ?_
   refine w_ret (th_ret ?_)
   refine b_ret (fn := Try.f73) (vs := [.iface 122 (.int .i64 9)]) (aRes_tmp (by kernel_rfl) (rfl)) ?_
   obtain rfl := Option.some.inj r30
   exact ⟨(.iface 122 (.int .i64 9)), [], rfl, ((FrS.refl (W := []) wf).extR e9), Ev.no, Inn.nil⟩
  ·have r32 := ite_bf h29 r17
   refine w_skip ?_
   refine k13 _ _ ?_
   refine w_seqk fun K33 k33 => ?_
   refine w_seqk fun K34 k34 => ?_
   refine w_reg (by kernel_rfl) ?_
   refine s_qk (.pointer (some ⟨b7, 1, none⟩)) (by kernel_rfl) ?_
   refine s_ql (hd_Arcs) (x := aLoad Try.prog 57 (.pointer (some ⟨b7, 1, none⟩)) H8) (by kernel_rfl) (r11.ld (by kernel_rfl)) ?_
   have u35 := (h_Arcs.ext e9)
   refine s_ql (.int .i64 (Arcs.length : Int)) (x := aLen Try.prog 57 hd_Arcs H8) (by kernel_rfl) (u35.lenb (by kernel_rfl)) ?_
   refine s_qk (.int .i64 0) (by kernel_rfl) ?_
   refine s_nil ?_
   refine k34 _ _ ?_
   obtain ⟨z39, hx37, r38⟩ := bind_some r32
   refine w_mid (fun α H40 => ∃ o36, z39 = Sum.inr o36 ∧ Has α [] ∧ FrS [] H8 H40) (fun K42 k42 => ?_) (fun α H40 hM => ?_)
   ·refine w_block ?_
    obtain ⟨n44, hn45⟩ := loopO_iff.1 hx37
    refine w_loopn (fun n α H46 => ∃ (i0 : Int), iterO (fun zz_ => z_gtext_Check_l0 N_ Arcs zz_) n i0 = some z39 ∧ Has α [(1, .pointer (some ⟨b7, 0, none⟩)), (22, hd_Arcs), (23, .int .i64 (Arcs.length : Int)), (24, .int .i64 i0)] ∧ FrS [] H8 H46) n44 ⟨0, hn45, ⟨by kernel_rfl, by kernel_rfl, by kernel_rfl, by kernel_rfl, trivial⟩, (FrS.refl (W := []) e9.wf)⟩ ?_
    rintro n44 α H46 ⟨i0, hi49, hh48, e47⟩ K54 k54
    obtain ⟨n50, z51, rfl, hz52, hn53⟩ := iter_succ hi49
    obtain ⟨β, rfl⟩ := has_ex hh48
    clear hh48
    replace hz52 : z_gtext_Check_l0 N_ Arcs i0 = some z51 := hz52
    unfold z_gtext_Check_l0 at hz52
    refine w_seqk fun K55 k55 => ?_
    refine w_reg (by kernel_rfl) ?_
    refine s_qk (.bool (decide (i0 < (Arcs.length : Int)))) (by kernel_rfl) ?_
    refine s_nil ?_
    refine k55 _ _ ?_
    refine w_seqk fun K56 k56 => ?_
    refine w_condp (i0 < (Arcs.length : Int)) (by kernel_rfl) rfl (fun h57 => ?_) (fun h57 => ?_)
    ·have r58 := ite_t h57 hz52
     refine w_skip ?_
     refine k56 _ _ ?_
     refine w_seqk fun K59 k59 => ?_
     refine w_block ?_
     refine w_seqk fun K60 k60 => ?_
     refine w_reg (by kernel_rfl) ?_
     refine s_qk (.int .i64 i0) (by kernel_rfl) ?_
     obtain ⟨g61, r62⟩ := G_some r58
     have u63 := (u35.fr e47 Dj.nil_l)
     refine s_ql (elp hd_Arcs 3 i0.toNat 0) (x := aIndexAddr Try.prog 57 hd_Arcs (.int .i64 i0)) (by kernel_rfl) (u63.idxb (by kernel_rfl) g61 h57) ?_
     refine s_ql (.agg #[.int .i64 ((gt Arcs i0).1), .int .i64 ((gt Arcs i0).2.1), .int .i64 ((gt Arcs i0).2.2)]) (x := aLoad Try.prog 73 (elp hd_Arcs 3 i0.toNat 0) H46) (by kernel_rfl) (u63.ld g61 h57 (by kernel_rfl)) ?_
     refine s_rwk e47.wf [.int .i64 0, .int .i64 0, .int .i64 0] (by kernel_rfl) fun b64 H65 e66 hb67 r68 => ?_
     refine s_qk (.int .i64 i0) (by kernel_rfl) ?_
     obtain ⟨H70, q71, e72, r73⟩ := Row.store (P := Try.prog) (t := 73) (p := 0) e66.wf r68 (.agg #[.int .i64 ((gt Arcs i0).1), .int .i64 ((gt Arcs i0).2.1), .int .i64 ((gt Arcs i0).2.2)]) [.int .i64 ((gt Arcs i0).1), .int .i64 ((gt Arcs i0).2.1), .int .i64 ((gt Arcs i0).2.2)] (by kernel_rfl) (by kernel_rfl) (one_cons (rfl) (one_cons (rfl) (one_cons (rfl) (one_nil)))) (Nat.le_of_ble_eq_true (by kernel_rfl)) [.int .i64 ((gt Arcs i0).1), .int .i64 ((gt Arcs i0).2.1), .int .i64 ((gt Arcs i0).2.2)] (by kernel_rfl)
     refine s_ek (undef) (by kernel_rfl) (map_ok q71) ?_
     refine s_nil ?_
     refine k60 _ _ ?_
     refine w_seqk fun K74 k74 => ?_
     refine w_reg (by kernel_rfl) ?_
     refine s_ql (.agg #[.int .i64 ((gt Arcs i0).1), .int .i64 ((gt Arcs i0).2.1), .int .i64 ((gt Arcs i0).2.2)]) (x := aLoad Try.prog 73 (.pointer (some ⟨b64, 0, none⟩)) H70) (by kernel_rfl) (r73.ld (by kernel_rfl)) ?_
     refine s_qk (.pointer (some ⟨b7, 0, none⟩)) (by kernel_rfl) ?_
     have u75 := (((r11.frS e47 Dj.nil_l).ext e66).frS e72 (hb67.djn (r11.ltF.le e47.next)))
     refine s_ql (.int .i64 N_) (x := aLoad Try.prog 3 (.pointer (some ⟨b7, 0, none⟩)) H70) (by kernel_rfl) (u75.ld (by kernel_rfl)) ?_
     obtain ⟨y76, hy77, r78⟩ := bind_some r62
     refine s_ck 122 #[.agg #[.int .i64 ((gt Arcs i0).1), .int .i64 ((gt Arcs i0).2.1), .int .i64 ((gt Arcs i0).2.2)], .int .i64 N_] (by kernel_rfl) (c_gtext_arc e72.wf hy77) ?_
     rintro v79 H81 ⟨_, f80, rfl, e82, m83, i84⟩
     refine s_qk (v79) (by kernel_rfl) ?_
     refine s_nil ?_
     refine k74 _ _ ?_
     refine w_seqk fun K86 k86 => ?_
     refine w_reg (by kernel_rfl) ?_
     refine s_qk (v79) (by kernel_rfl) ?_
     rcases (m83).cases with ⟨h87, rfl⟩ | ⟨h87, t88, x89, rfl⟩
     ·have r90 := ite_t h87 r78
      refine s_qk (.bool false) (by kernel_rfl) ?_
      refine s_nil ?_
      refine k86 _ _ ?_
      refine w_cond false (by kernel_rfl) rfl (fun h => by cases h) (fun _ => ?_)
      refine w_skip ?_
      refine k59 _ _ ?_
      refine w_reg (by kernel_rfl) ?_
      obtain ⟨g91, r92⟩ := G_some r90
      refine s_w ((i0 + 1)) (k := .i64) (x := (i0 + 1)) (by kernel_rfl) (wrap64 (by have := g91; omega)) ?_
      refine s_qk (.int .i64 (i0 + 1)) (by kernel_rfl) ?_
      refine s_nil ?_
      obtain rfl := Option.some.inj r92
      exact k54 n50 _ _ (Nat.lt_succ_self _) ⟨(i0 + 1), hn53, ⟨by kernel_rfl, by kernel_rfl, by kernel_rfl, by kernel_rfl, trivial⟩, (FrS.step e9.wf (FrS.step e9.wf ((FrS.step e9.wf (FrS.refl (W := []) e9.wf) e47 Inn.nil).extR e66) e72 (hb67.fresh e47.next)) e82 Inn.nil)⟩
     ·have r93 := ite_f h87 r78
      refine s_ql (.bool true) (x := aBin Try.prog .neq 31 (.tmp 33) (.const .nilIface) (.iface t88 x89) .nilIface) (by kernel_rfl) (aBin_nnil (by kernel_rfl)) ?_
      refine s_nil ?_
      refine k86 _ _ ?_
      refine w_cond true (by kernel_rfl) rfl (fun _ => ?_) (fun h => by cases h)
      refine w_seqk fun K94 k94 => ?_
      refine w_reg (by kernel_rfl) ?_
      refine s_qk (.int .i64 i0) (by kernel_rfl) ?_
      refine s_qk (.iface t88 x89) (by kernel_rfl) ?_
      obtain ⟨y95, hy96, r97⟩ := bind_some r93
      refine s_ck 119 #[.int .i64 4, .int .i64 i0, .iface t88 x89] (by kernel_rfl) (c_fault_At e82.wf m83 hy96) ?_
      rintro v98 H100 ⟨_, f99, rfl, e101, m102, i103⟩
      refine s_qk (v98) (by kernel_rfl) ?_
      refine s_nil ?_
      refine k94 _ _ ?_
      refine w_ret (bl_ret (th_ret (th_ret (bl_ret (th_ret (th_ret ?_))))))
      obtain ⟨v105, hv106, hz107⟩ := map_some r97
      subst hz107
      obtain rfl := it_inr hn53
      have hq108 := elim_inl r38
      rw [hq108] at hv106
      refine b_ret (fn := Try.f73) (vs := [v98]) (aRes_tmp (by kernel_rfl) (rfl)) ?_
      obtain rfl := Option.some.inj hv106
      exact ⟨(v98), f99, rfl, (FrS.step wf (FrS.step wf (FrS.step wf ((FrS.step wf ((FrS.refl (W := []) wf).extR e9) e47 Inn.nil).extR e66) e72 (hb67.fresh (ntr e9.next e47.next))) e82 Inn.nil) e101 Inn.nil), m102, (Inn.trans (i84.fresh (ntr (ntr (ntr e9.next e47.next) e66.next) e72.next)) (ntr (ntr (ntr (ntr e9.next e47.next) e66.next) e72.next) e82.next) i103)⟩
    ·have r109 := ite_f h57 hz52
     refine w_exit (th_exit (th_exit (bl_eq ?_)))
     obtain rfl := Option.some.inj r109
     obtain rfl := it_inr hn53
     exact k42 _ _ ⟨_, rfl, trivial, (FrS.step e9.wf (FrS.refl (W := []) e9.wf) e47 Inn.nil)⟩
   ·obtain ⟨o36, rfl, hh43, e41⟩ := hM
    have r110 := elim_inr r38
    obtain ⟨β, rfl⟩ := has_ex hh43
    clear hh43
    refine k33 _ _ ?_
    refine w_seqk fun K111 k111 => ?_
    refine w_reg (by kernel_rfl) ?_
    refine s_qk (.nilIface) (by kernel_rfl) ?_
    refine s_nil ?_
    refine k111 _ _ ?_
    refine w_ret ?_
    refine b_ret (fn := Try.f73) (vs := [.nilIface]) (aRes_tmp (by kernel_rfl) (rfl)) ?_
    obtain rfl := Option.some.inj r110
    exact ⟨(.nilIface), [], rfl, (FrS.step wf ((FrS.refl (W := []) wf).extR e9) e41 Inn.nil), Ev.nil, Inn.nil⟩

theorem c_cmp_isNaN {H : AH} {x : Int} {r : Bool}
  (wf : WF H) (hr : z_cmp_isNaN x = some r) :
  ACalls Try.prog 158 #[.int .i64 x] H fun v H' => v = .bool r ∧ H = H' := by
 refine acalls_of_body mixed Try.func158 rfl (Nat.le_of_ble_eq_true rfl) ?_
 unfold z_cmp_isNaN at hr
 refine w_seqk fun K1 k1 => ?_
 refine w_reg (by kernel_rfl) ?_
 refine s_qk (.bool false) (by kernel_rfl) ?_
 refine s_nil ?_
 refine k1 _ _ ?_
 refine w_seqk fun K2 k2 => ?_
 refine w_reg (by kernel_rfl) ?_
 refine s_qk (.int .i64 x) (by kernel_rfl) ?_
 refine s_qk (.int .i64 x) (by kernel_rfl) ?_
 refine s_qk (.bool (!decide (x = x))) (by kernel_rfl) ?_
 refine s_qk (.bool (!decide (x = x))) (by kernel_rfl) ?_
 refine s_nil ?_
 refine k2 _ _ ?_
 refine w_ret ?_
 refine b_ret (fn := Try.f158) (vs := [.bool (!decide (x = x))]) (aRes_tmp (by kernel_rfl) (rfl)) ?_
 obtain rfl := Option.some.inj hr
 exact ⟨rfl, rfl⟩

theorem c_cmp_Compare {H : AH} {x : Int} {y : Int} {r : Int}
  (wf : WF H) (hr : z_cmp_Compare x y = some r) :
  ACalls Try.prog 126 #[.int .i64 x, .int .i64 y] H fun v H' => v = .int .i64 r ∧ H = H' := by
 refine acalls_of_body mixed Try.func126 rfl (Nat.le_of_ble_eq_true rfl) ?_
 unfold z_cmp_Compare at hr
 refine w_seqk fun K1 k1 => ?_
 refine w_reg (by kernel_rfl) ?_
 refine s_qk (.int .i64 0) (by kernel_rfl) ?_
 refine s_nil ?_
 refine k1 _ _ ?_
 refine w_seqk fun K2 k2 => ?_
 refine w_reg (by kernel_rfl) ?_
 refine s_qk (.int .i64 x) (by kernel_rfl) ?_
 obtain ⟨y3, hy4, r5⟩ := bind_some hr
 refine s_ck 158 #[.int .i64 x] (by kernel_rfl) (c_cmp_isNaN wf hy4) ?_
 rintro _ _ ⟨rfl, rfl⟩
 refine s_qk (.bool y3) (by kernel_rfl) ?_
 refine s_nil ?_
 refine k2 _ _ ?_
 refine w_seqk fun K8 k8 => ?_
 refine w_reg (by kernel_rfl) ?_
 refine s_qk (.int .i64 y) (by kernel_rfl) ?_
 obtain ⟨y9, hy10, r11⟩ := bind_some r5
 refine s_ck 158 #[.int .i64 y] (by kernel_rfl) (c_cmp_isNaN wf hy10) ?_
 rintro _ _ ⟨rfl, rfl⟩
 refine s_qk (.bool y9) (by kernel_rfl) ?_
 refine s_nil ?_
 refine k8 _ _ ?_
 refine w_seqk fun K14 k14 => ?_
 refine w_seqk fun K15 k15 => ?_
 refine w_reg (by kernel_rfl) ?_
 refine s_qk (.bool y3) (by kernel_rfl) ?_
 refine s_nil ?_
 refine k15 _ _ ?_
 refine w_cond (y3) (by kernel_rfl) rfl (fun h16 => ?_) (fun h16 => ?_)
 ·have r17 := ite_t h16 r11
  refine w_seqk fun K18 k18 => ?_
  refine w_seqk fun K19 k19 => ?_
  refine w_reg (by kernel_rfl) ?_
  refine s_qk (.bool y9) (by kernel_rfl) ?_
  refine s_nil ?_
  refine k19 _ _ ?_
  refine w_cond (y9) (by kernel_rfl) rfl (fun h20 => ?_) (fun h20 => ?_)
  ·have r21 := ite_t h20 r17
   refine w_seqk fun K22 k22 => ?_
   refine w_reg (by kernel_rfl) ?_
   refine s_qk (.int .i64 0) (by kernel_rfl) ?_
   refine s_nil ?_
   refine k22 _ _ ?_
   refine w_ret (th_ret (th_ret ?_))
   refine b_ret (fn := Try.f126) (vs := [.int .i64 0]) (aRes_tmp (by kernel_rfl) (rfl)) ?_
   obtain rfl := Option.some.inj r21
   exact ⟨rfl, rfl⟩
  ·have r23 := ite_bf h20 r17
   refine w_skip ?_
   refine k18 _ _ ?_
   refine w_seqk fun K24 k24 => ?_
   refine w_reg (by kernel_rfl) ?_
   refine s_qk (.int .i64 (-1)) (by kernel_rfl) ?_
   refine s_nil ?_
   refine k24 _ _ ?_
   refine w_ret (th_ret ?_)
   refine b_ret (fn := Try.f126) (vs := [.int .i64 (-1)]) (aRes_tmp (by kernel_rfl) (rfl)) ?_
   obtain rfl := Option.some.inj r23
   exact ⟨rfl, rfl⟩
 ·have r25 := ite_bf h16 r11
  refine w_skip ?_
  refine k14 _ _ ?_
  refine w_seqk fun K26 k26 => ?_
  refine w_seqk fun K27 k27 => ?_
  refine w_reg (by kernel_rfl) ?_
  refine s_qk (.bool y9) (by kernel_rfl) ?_
  refine s_nil ?_
  refine k27 _ _ ?_
  refine w_cond (y9) (by kernel_rfl) rfl (fun h28 => ?_) (fun h28 => ?_)
  ·have r29 := ite_t h28 r25
   refine w_seqk fun K30 k30 => ?_
   refine w_reg (by kernel_rfl) ?_
   refine s_qk (.int .i64 1) (by kernel_rfl) ?_
   refine s_nil ?_
   refine k30 _ _ ?_
   refine w_ret (th_ret ?_)
   refine b_ret (fn := Try.f126) (vs := [.int .i64 1]) (aRes_tmp (by kernel_rfl) (rfl)) ?_
   obtain rfl := Option.some.inj r29
   exact ⟨rfl, rfl⟩
  ·have r31 := ite_bf h28 r25
   refine w_skip ?_
   refine k26 _ _ ?_
   refine w_seqk fun K32 k32 => ?_
   refine w_seqk fun K33 k33 => ?_
   refine w_reg (by kernel_rfl) ?_
   refine s_qk (.int .i64 x) (by kernel_rfl) ?_
   refine s_qk (.int .i64 y) (by kernel_rfl) ?_
   refine s_qk (.bool (decide (x < y))) (by kernel_rfl) ?_
   refine s_nil ?_
   refine k33 _ _ ?_
   refine w_condp (x < y) (by kernel_rfl) rfl (fun h34 => ?_) (fun h34 => ?_)
   ·have r35 := ite_t h34 r31
    refine w_seqk fun K36 k36 => ?_
    refine w_reg (by kernel_rfl) ?_
    refine s_qk (.int .i64 (-1)) (by kernel_rfl) ?_
    refine s_nil ?_
    refine k36 _ _ ?_
    refine w_ret (th_ret ?_)
    refine b_ret (fn := Try.f126) (vs := [.int .i64 (-1)]) (aRes_tmp (by kernel_rfl) (rfl)) ?_
    obtain rfl := Option.some.inj r35
    exact ⟨rfl, rfl⟩
   ·have r37 := ite_f h34 r31
    refine w_skip ?_
    refine k32 _ _ ?_
    refine w_seqk fun K38 k38 => ?_
    refine w_seqk fun K39 k39 => ?_
    refine w_reg (by kernel_rfl) ?_
    refine s_qk (.int .i64 x) (by kernel_rfl) ?_
    refine s_qk (.int .i64 y) (by kernel_rfl) ?_
    refine s_qk (.bool (decide (x > y))) (by kernel_rfl) ?_
    refine s_nil ?_
    refine k39 _ _ ?_
    refine w_condp (x > y) (by kernel_rfl) rfl (fun h40 => ?_) (fun h40 => ?_)
    ·have r41 := ite_t h40 r37
     refine w_seqk fun K42 k42 => ?_
     refine w_reg (by kernel_rfl) ?_
     refine s_qk (.int .i64 1) (by kernel_rfl) ?_
     refine s_nil ?_
     refine k42 _ _ ?_
     refine w_ret (th_ret ?_)
     refine b_ret (fn := Try.f126) (vs := [.int .i64 1]) (aRes_tmp (by kernel_rfl) (rfl)) ?_
     obtain rfl := Option.some.inj r41
     exact ⟨rfl, rfl⟩
    ·have r43 := ite_f h40 r37
     refine w_skip ?_
     refine k38 _ _ ?_
     refine w_seqk fun K44 k44 => ?_
     refine w_reg (by kernel_rfl) ?_
     refine s_qk (.int .i64 0) (by kernel_rfl) ?_
     refine s_nil ?_
     refine k44 _ _ ?_
     refine w_ret ?_
     refine b_ret (fn := Try.f126) (vs := [.int .i64 0]) (aRes_tmp (by kernel_rfl) (rfl)) ?_
     obtain rfl := Option.some.inj r43
     exact ⟨rfl, rfl⟩

theorem c_cmp_Or {H : AH} {hd_vals : Value} {fp_vals : Fp} {vals : List (Int)} {r : Int}
  (wf : WF H) (h_vals : Sq (encI .i64) 1 H hd_vals vals fp_vals) (hr : z_cmp_Or vals = some r) :
  ACalls Try.prog 125 #[hd_vals] H fun v H' => v = .int .i64 r ∧ H = H' := by
 refine acalls_of_body mixed Try.func125 rfl (Nat.le_of_ble_eq_true rfl) ?_
 unfold z_cmp_Or at hr
 refine w_seqk fun K1 k1 => ?_
 refine w_reg (by kernel_rfl) ?_
 refine s_qk (.int .i64 0) (by kernel_rfl) ?_
 refine s_nil ?_
 refine k1 _ _ ?_
 refine w_seqk fun K2 k2 => ?_
 refine w_reg (by kernel_rfl) ?_
 refine s_qk (.int .i64 0) (by kernel_rfl) ?_
 refine s_nil ?_
 refine k2 _ _ ?_
 refine w_seqk fun K3 k3 => ?_
 refine w_seqk fun K4 k4 => ?_
 refine w_reg (by kernel_rfl) ?_
 refine s_qk (hd_vals) (by kernel_rfl) ?_
 refine s_ql (.int .i64 (vals.length : Int)) (x := aLen Try.prog 22 hd_vals H) (by kernel_rfl) (h_vals.lenb (by kernel_rfl)) ?_
 refine s_qk (.int .i64 0) (by kernel_rfl) ?_
 refine s_nil ?_
 refine k4 _ _ ?_
 obtain ⟨z8, hx6, r7⟩ := bind_some hr
 refine w_mid (fun α H9 => ∃ o5, z8 = Sum.inr o5 ∧ Has α [(3, .int .i64 0)] ∧ H = H9) (fun K11 k11 => ?_) (fun α H9 hM => ?_)
 ·refine w_block ?_
  obtain ⟨n13, hn14⟩ := loopO_iff.1 hx6
  refine w_loopn (fun n α H15 => ∃ (i0 : Int), iterO (fun zz_ => z_cmp_Or_l0 vals zz_) n i0 = some z8 ∧ Has α [(3, .int .i64 0), (6, hd_vals), (7, .int .i64 (vals.length : Int)), (8, .int .i64 i0)] ∧ H = H15) n13 ⟨0, hn14, ⟨by kernel_rfl, by kernel_rfl, by kernel_rfl, by kernel_rfl, trivial⟩, rfl⟩ ?_
  rintro n13 α H15 ⟨i0, hi18, hh17, rfl⟩ K23 k23
  obtain ⟨n19, z20, rfl, hz21, hn22⟩ := iter_succ hi18
  obtain ⟨β, rfl⟩ := has_ex hh17
  clear hh17
  replace hz21 : z_cmp_Or_l0 vals i0 = some z20 := hz21
  unfold z_cmp_Or_l0 at hz21
  refine w_seqk fun K24 k24 => ?_
  refine w_reg (by kernel_rfl) ?_
  refine s_qk (.bool (decide (i0 < (vals.length : Int)))) (by kernel_rfl) ?_
  refine s_nil ?_
  refine k24 _ _ ?_
  refine w_seqk fun K25 k25 => ?_
  refine w_condp (i0 < (vals.length : Int)) (by kernel_rfl) rfl (fun h26 => ?_) (fun h26 => ?_)
  ·have r27 := ite_t h26 hz21
   refine w_skip ?_
   refine k25 _ _ ?_
   refine w_seqk fun K28 k28 => ?_
   refine w_block ?_
   refine w_seqk fun K29 k29 => ?_
   refine w_reg (by kernel_rfl) ?_
   obtain ⟨g30, r31⟩ := G_some r27
   refine s_ql (elp hd_vals 1 i0.toNat 0) (x := aIndexAddr Try.prog 22 hd_vals (.int .i64 i0)) (by kernel_rfl) (h_vals.idxb (by kernel_rfl) g30 h26) ?_
   refine s_ql (.int .i64 (gt vals i0)) (x := aLoad Try.prog 3 (elp hd_vals 1 i0.toNat 0) H) (by kernel_rfl) (h_vals.ld g30 h26 (by kernel_rfl)) ?_
   refine s_qk (.int .i64 (gt vals i0)) (by kernel_rfl) ?_
   refine s_nil ?_
   refine k29 _ _ ?_
   refine w_seqk fun K32 k32 => ?_
   refine w_reg (by kernel_rfl) ?_
   refine s_qk (.int .i64 (gt vals i0)) (by kernel_rfl) ?_
   refine s_qk (.int .i64 0) (by kernel_rfl) ?_
   refine s_qk (.bool (!decide ((gt vals i0) = 0))) (by kernel_rfl) ?_
   refine s_nil ?_
   refine k32 _ _ ?_
   refine w_condn ((gt vals i0) = 0) (by kernel_rfl) rfl (fun h33 => ?_) (fun h33 => ?_)
   ·have r34 := ite_f h33 r31
    refine w_seqk fun K35 k35 => ?_
    refine w_reg (by kernel_rfl) ?_
    refine s_qk (.int .i64 (gt vals i0)) (by kernel_rfl) ?_
    refine s_qk (.int .i64 (gt vals i0)) (by kernel_rfl) ?_
    refine s_nil ?_
    refine k35 _ _ ?_
    refine w_ret (bl_ret (th_ret (th_ret (bl_ret (th_ret (th_ret ?_))))))
    obtain ⟨v36, hv37, hz38⟩ := map_some r34
    subst hz38
    obtain rfl := it_inr hn22
    have hq39 := elim_inl r7
    rw [hq39] at hv37
    refine b_ret (fn := Try.f125) (vs := [.int .i64 (gt vals i0)]) (aRes_tmp (by kernel_rfl) (rfl)) ?_
    obtain rfl := Option.some.inj hv37
    exact ⟨rfl, rfl⟩
   ·have r40 := ite_t h33 r31
    refine w_skip ?_
    refine k28 _ _ ?_
    refine w_reg (by kernel_rfl) ?_
    obtain ⟨g41, r42⟩ := G_some r40
    refine s_w ((i0 + 1)) (k := .i64) (x := (i0 + 1)) (by kernel_rfl) (wrap64 (by have := g41; omega)) ?_
    refine s_qk (.int .i64 (i0 + 1)) (by kernel_rfl) ?_
    refine s_nil ?_
    obtain rfl := Option.some.inj r42
    exact k23 n19 _ _ (Nat.lt_succ_self _) ⟨(i0 + 1), hn22, ⟨by kernel_rfl, by kernel_rfl, by kernel_rfl, by kernel_rfl, trivial⟩, rfl⟩
  ·have r43 := ite_f h26 hz21
   refine w_exit (th_exit (th_exit (bl_eq ?_)))
   obtain rfl := Option.some.inj r43
   obtain rfl := it_inr hn22
   exact k11 _ _ ⟨_, rfl, ⟨by kernel_rfl, trivial⟩, rfl⟩
 ·obtain ⟨o5, rfl, hh12, rfl⟩ := hM
  have r44 := elim_inr r7
  obtain ⟨β, rfl⟩ := has_ex hh12
  clear hh12
  refine k3 _ _ ?_
  refine w_seqk fun K45 k45 => ?_
  refine w_reg (by kernel_rfl) ?_
  refine s_qk (.int .i64 0) (by kernel_rfl) ?_
  refine s_qk (.int .i64 0) (by kernel_rfl) ?_
  refine s_nil ?_
  refine k45 _ _ ?_
  refine w_ret ?_
  refine b_ret (fn := Try.f125) (vs := [.int .i64 0]) (aRes_tmp (by kernel_rfl) (rfl)) ?_
  obtain rfl := Option.some.inj r44
  exact ⟨rfl, rfl⟩

theorem c_normal_order {H : AH} {From : Int} {To : Int} {Weight : Int} {From_ : Int} {To_ : Int} {Weight_ : Int} {r : Int}
  (wf : WF H) (hr : z_normal_order From To Weight From_ To_ Weight_ = some r) :
  ACalls Try.prog 75 #[.agg #[.int .i64 From, .int .i64 To, .int .i64 Weight], .agg #[.int .i64 From_, .int .i64 To_, .int .i64 Weight_]] H fun v H' => v = .int .i64 r ∧ FrS [] H H' := by
 refine acalls_of_body mixed Try.func75 rfl (Nat.le_of_ble_eq_true rfl) ?_
 unfold z_normal_order at hr
 refine w_seqk fun K1 k1 => ?_
 refine w_reg (by kernel_rfl) ?_
 refine s_rwl wf [.int .i64 From, .int .i64 To, .int .i64 Weight] (one_cons (rfl) (one_cons (rfl) (one_cons (rfl) (one_nil)))) (by kernel_rfl) fun b2 H3 e4 hb5 r6 => ?_
 refine s_rwl e4.wf [.int .i64 From_, .int .i64 To_, .int .i64 Weight_] (one_cons (rfl) (one_cons (rfl) (one_cons (rfl) (one_nil)))) (by kernel_rfl) fun b8 H9 e10 hb11 r12 => ?_
 refine s_qk (.int .i64 0) (by kernel_rfl) ?_
 refine s_nil ?_
 refine k1 _ _ ?_
 refine w_seqk fun K14 k14 => ?_
 refine w_draw [0, 1, 2, 3, 5, 6, 7, 8, 10, 11, 12, 13, 4, 9, 14, 15, 16, 17] (by kernel_rfl) ?_
 refine d_qk (.pointer (some ⟨b2, 0, none⟩)) (by kernel_rfl) ?_
 have u15 := (r6.ext e10)
 refine d_ql (.int .i64 From) (x := aLoad Try.prog 3 (.pointer (some ⟨b2, 0, none⟩)) H9) (by kernel_rfl) (u15.ld (by kernel_rfl)) ?_
 refine d_qk (.pointer (some ⟨b8, 0, none⟩)) (by kernel_rfl) ?_
 refine d_ql (.int .i64 From_) (x := aLoad Try.prog 3 (.pointer (some ⟨b8, 0, none⟩)) H9) (by kernel_rfl) (r12.ld (by kernel_rfl)) ?_
 refine d_qk (.pointer (some ⟨b2, 1, none⟩)) (by kernel_rfl) ?_
 refine d_fl (.int .i64 To) (x := aLoad Try.prog 3 (.pointer (some ⟨b2, 1, none⟩)) H9) (by kernel_rfl) (u15.ld (by kernel_rfl)) ?_
 refine d_qk (.pointer (some ⟨b8, 1, none⟩)) (by kernel_rfl) ?_
 refine d_fl (.int .i64 To_) (x := aLoad Try.prog 3 (.pointer (some ⟨b8, 1, none⟩)) H9) (by kernel_rfl) (r12.ld (by kernel_rfl)) ?_
 refine d_qk (.pointer (some ⟨b2, 2, none⟩)) (by kernel_rfl) ?_
 refine d_fl (.int .i64 Weight) (x := aLoad Try.prog 3 (.pointer (some ⟨b2, 2, none⟩)) H9) (by kernel_rfl) (u15.ld (by kernel_rfl)) ?_
 refine d_qk (.pointer (some ⟨b8, 2, none⟩)) (by kernel_rfl) ?_
 refine d_fl (.int .i64 Weight_) (x := aLoad Try.prog 3 (.pointer (some ⟨b8, 2, none⟩)) H9) (by kernel_rfl) (r12.ld (by kernel_rfl)) ?_
 obtain ⟨y16, hy17, r18⟩ := bind_some hr
 refine d_ck 126 #[.int .i64 From, .int .i64 From_] (by kernel_rfl) (c_cmp_Compare e10.wf hy17) ?_
 rintro _ _ ⟨rfl, rfl⟩
 refine ⟨st_ql (y := aLoad Try.prog 3 (.pointer (some ⟨b8, 2, none⟩)) H9) (by kernel_rfl) (r12.ld (by kernel_rfl)) (st_ql (y := aLoad Try.prog 3 (.pointer (some ⟨b2, 2, none⟩)) H9) (by kernel_rfl) (u15.ld (by kernel_rfl)) (st_ql (y := aLoad Try.prog 3 (.pointer (some ⟨b8, 1, none⟩)) H9) (by kernel_rfl) (r12.ld (by kernel_rfl)) (st_ql (y := aLoad Try.prog 3 (.pointer (some ⟨b2, 1, none⟩)) H9) (by kernel_rfl) (u15.ld (by kernel_rfl)) (st_nil)))), ?_⟩
 obtain ⟨y21, hy22, r23⟩ := bind_some r18
 refine d_ck 126 #[.int .i64 To, .int .i64 To_] (by kernel_rfl) (c_cmp_Compare e10.wf hy22) ?_
 rintro _ _ ⟨rfl, rfl⟩
 refine ⟨st_ql (y := aLoad Try.prog 3 (.pointer (some ⟨b8, 2, none⟩)) H9) (by kernel_rfl) (r12.ld (by kernel_rfl)) (st_ql (y := aLoad Try.prog 3 (.pointer (some ⟨b2, 2, none⟩)) H9) (by kernel_rfl) (u15.ld (by kernel_rfl)) (st_anc (by kernel_rfl) (st_anc (by kernel_rfl) (st_nil)))), ?_⟩
 obtain ⟨y26, hy27, r28⟩ := bind_some r23
 refine d_ck 126 #[.int .i64 Weight, .int .i64 Weight_] (by kernel_rfl) (c_cmp_Compare e10.wf hy27) ?_
 rintro _ _ ⟨rfl, rfl⟩
 refine ⟨st_anc (by kernel_rfl) (st_anc (by kernel_rfl) (st_anc (by kernel_rfl) (st_anc (by kernel_rfl) (st_nil)))), ?_⟩
 refine d_owk (enc := (encI .i64)) (sz := 1) e10.wf [y16, y21, y26] 3 (by decide) (fun _ _ => rfl) (fun _ _ => rfl) rfl (by kernel_rfl) fun s31 f32 H33 e34 hf35 hm36 => ?_
 obtain ⟨a37, n38, c39, rfl⟩ := hm36.form
 obtain ⟨y41, hy42, r43⟩ := bind_some r28
 refine d_ck 125 #[.slice a37 n38 c39] (by kernel_rfl) (c_cmp_Or e34.wf hm36.sq hy42) ?_
 rintro _ _ ⟨rfl, rfl⟩
 refine ⟨st_anc (by kernel_rfl) (st_anc (by kernel_rfl) (st_anc (by kernel_rfl) (st_anc (by kernel_rfl) (st_nil)))), ?_⟩
 refine d_qk (.int .i64 y41) (by kernel_rfl) ?_
 refine d_nil ?_
 refine k14 _ _ ?_
 refine w_ret ?_
 refine b_ret (fn := Try.f75) (vs := [.int .i64 y41]) (aRes_tmp (by kernel_rfl) (rfl)) ?_
 obtain rfl := Option.some.inj r43
 exact ⟨rfl, ((((FrS.refl (W := []) wf).extR e4).extR e10).extR e34)⟩

theorem c_normal_Of_1 {H : AH} {From : Int} {To : Int} {Weight : Int} {From_ : Int} {To_ : Int} {Weight_ : Int} {r : Bool}
  (wf : WF H) (hr : z_normal_Of_1 From To Weight From_ To_ Weight_ = some r) :
  ACalls Try.prog 77 #[.agg #[.int .i64 From, .int .i64 To, .int .i64 Weight], .agg #[.int .i64 From_, .int .i64 To_, .int .i64 Weight_]] H fun v H' => v = .bool r ∧ FrS [] H H' := by
 refine acalls_of_body mixed Try.func77 rfl (Nat.le_of_ble_eq_true rfl) ?_
 unfold z_normal_Of_1 at hr
 refine w_seqk fun K1 k1 => ?_
 refine w_reg (by kernel_rfl) ?_
 refine s_rwl wf [.int .i64 From, .int .i64 To, .int .i64 Weight] (one_cons (rfl) (one_cons (rfl) (one_cons (rfl) (one_nil)))) (by kernel_rfl) fun b2 H3 e4 hb5 r6 => ?_
 refine s_rwl e4.wf [.int .i64 From_, .int .i64 To_, .int .i64 Weight_] (one_cons (rfl) (one_cons (rfl) (one_cons (rfl) (one_nil)))) (by kernel_rfl) fun b8 H9 e10 hb11 r12 => ?_
 refine s_qk (.bool false) (by kernel_rfl) ?_
 refine s_nil ?_
 refine k1 _ _ ?_
 refine w_seqk fun K14 k14 => ?_
 refine w_reg (by kernel_rfl) ?_
 refine s_qk (.pointer (some ⟨b2, 0, none⟩)) (by kernel_rfl) ?_
 have u15 := (r6.ext e10)
 refine s_ql (.int .i64 From) (x := aLoad Try.prog 3 (.pointer (some ⟨b2, 0, none⟩)) H9) (by kernel_rfl) (u15.ld (by kernel_rfl)) ?_
 refine s_qk (.pointer (some ⟨b8, 0, none⟩)) (by kernel_rfl) ?_
 refine s_ql (.int .i64 From_) (x := aLoad Try.prog 3 (.pointer (some ⟨b8, 0, none⟩)) H9) (by kernel_rfl) (r12.ld (by kernel_rfl)) ?_
 refine s_b (From = From_) (by kernel_rfl) (fun h16 => ?_) (fun h16 => ?_)
 ·have r17 := ite_t h16 hr
  refine s_qk (.bool true) (by kernel_rfl) ?_
  refine s_qk (.pointer (some ⟨b2, 1, none⟩)) (by kernel_rfl) ?_
  refine s_ql (.int .i64 To) (x := aLoad Try.prog 3 (.pointer (some ⟨b2, 1, none⟩)) H9) (by kernel_rfl) (u15.ld (by kernel_rfl)) ?_
  refine s_qk (.pointer (some ⟨b8, 1, none⟩)) (by kernel_rfl) ?_
  refine s_ql (.int .i64 To_) (x := aLoad Try.prog 3 (.pointer (some ⟨b8, 1, none⟩)) H9) (by kernel_rfl) (r12.ld (by kernel_rfl)) ?_
  refine s_qk (.bool (decide (To = To_))) (by kernel_rfl) ?_
  refine s_qk (.bool (decide (To = To_))) (by kernel_rfl) ?_
  refine s_qk (.bool (decide (To = To_))) (by kernel_rfl) ?_
  refine s_nil ?_
  refine k14 _ _ ?_
  refine w_ret ?_
  refine b_ret (fn := Try.f77) (vs := [.bool (decide (To = To_))]) (aRes_tmp (by kernel_rfl) (rfl)) ?_
  obtain rfl := Option.some.inj r17
  exact ⟨rfl, (((FrS.refl (W := []) wf).extR e4).extR e10)⟩
 ·have r18 := ite_f h16 hr
  refine s_qk (.bool false) (by kernel_rfl) ?_
  refine s_no (by kernel_rfl) ?_
  refine s_no (by kernel_rfl) ?_
  refine s_no (by kernel_rfl) ?_
  refine s_no (by kernel_rfl) ?_
  refine s_no (by kernel_rfl) ?_
  refine s_qk (.bool false) (by kernel_rfl) ?_
  refine s_qk (.bool false) (by kernel_rfl) ?_
  refine s_nil ?_
  refine k14 _ _ ?_
  refine w_ret ?_
  refine b_ret (fn := Try.f77) (vs := [.bool false]) (aRes_tmp (by kernel_rfl) (rfl)) ?_
  obtain rfl := Option.some.inj r18
  exact ⟨rfl, (((FrS.refl (W := []) wf).extR e4).extR e10)⟩

theorem c_slices_CompactFunc {H : AH} {hd_s : Value} {fp_s : Fp} {s : List (Int × Int × Int)} {r : List (Int × Int × Int) × List (Int × Int × Int)}
  (wf : WF H) (h_s : Ow enc_i64_i64_i64 3 H hd_s s fp_s) (hr : z_slices_CompactFunc s = some r) :
  ACalls Try.prog 76 #[hd_s, .func (.func 77) #[] #[]] H fun v H' => ∃ (s3 : Value), v = s3 ∧ FrS fp_s H H' ∧ Ow enc_i64_i64_i64 3 H' s3 r.1 fp_s ∧ Ow enc_i64_i64_i64 3 H' hd_s r.2 fp_s := by
 refine acalls_of_body mixed Try.func76 rfl (Nat.le_of_ble_eq_true rfl) ?_
 unfold z_slices_CompactFunc at hr
 refine w_seqk fun K6 k6 => ?_
 refine w_reg (by kernel_rfl) ?_
 refine s_qk (.slice none 0 0) (by kernel_rfl) ?_
 refine s_nil ?_
 refine k6 _ _ ?_
 refine w_seqk fun K7 k7 => ?_
 refine w_seqk fun K8 k8 => ?_
 refine w_reg (by kernel_rfl) ?_
 refine s_qk (hd_s) (by kernel_rfl) ?_
 refine s_ql (.int .i64 (s.length : Int)) (x := aLen Try.prog 57 hd_s H) (by kernel_rfl) (h_s.sq.lenb (by kernel_rfl)) ?_
 refine s_qk (.bool (decide ((s.length : Int) < 2))) (by kernel_rfl) ?_
 refine s_nil ?_
 refine k8 _ _ ?_
 refine w_condp ((s.length : Int) < 2) (by kernel_rfl) rfl (fun h9 => ?_) (fun h9 => ?_)
 ·have r10 := ite_t h9 hr
  refine w_seqk fun K11 k11 => ?_
  refine w_reg (by kernel_rfl) ?_
  refine s_qk (hd_s) (by kernel_rfl) ?_
  refine s_qk (hd_s) (by kernel_rfl) ?_
  refine s_nil ?_
  refine k11 _ _ ?_
  refine w_ret (th_ret ?_)
  refine b_ret (fn := Try.f76) (vs := [hd_s]) (aRes_tmp (by kernel_rfl) (rfl)) ?_
  obtain rfl := Option.some.inj r10
  exact ⟨(hd_s), rfl, (FrS.refl (W := fp_s) wf), h_s, h_s⟩
 ·have r12 := ite_f h9 hr
  refine w_skip ?_
  refine k7 _ _ ?_
  refine w_seqk fun K13 k13 => ?_
  refine w_seqk fun K14 k14 => ?_
  refine w_reg (by kernel_rfl) ?_
  refine s_qk (.int .i64 1) (by kernel_rfl) ?_
  refine s_nil ?_
  refine k14 _ _ ?_
  obtain ⟨z18, hx16, r17⟩ := bind_some r12
  refine w_mid (fun α H19 => ∃ o15, z18 = Sum.inr o15 ∧ Has α [(0, hd_s)] ∧ FrS [] H H19) (fun K21 k21 => ?_) (fun α H19 hM => ?_)
  ·refine w_block ?_
   obtain ⟨n23, hn24⟩ := loopO_iff.1 hx16
   refine w_loopn (fun n α H25 => ∃ (k3 : Int), iterO (fun zz_ => z_slices_CompactFunc_l1 s zz_) n k3 = some z18 ∧ Has α [(0, hd_s), (1, .func (.func 77) #[] #[]), (5, .int .i64 k3)] ∧ FrS [] H H25) n23 ⟨1, hn24, ⟨by kernel_rfl, by kernel_rfl, by kernel_rfl, trivial⟩, (FrS.refl (W := []) wf)⟩ ?_
   rintro n23 α H25 ⟨k3, hi28, hh27, e26⟩ K33 k33
   obtain ⟨n29, z30, rfl, hz31, hn32⟩ := iter_succ hi28
   obtain ⟨β, rfl⟩ := has_ex hh27
   clear hh27
   replace hz31 : z_slices_CompactFunc_l1 s k3 = some z30 := hz31
   unfold z_slices_CompactFunc_l1 at hz31
   refine w_seqk fun K34 k34 => ?_
   refine w_seqk fun K35 k35 => ?_
   refine w_reg (by kernel_rfl) ?_
   refine s_qk (.int .i64 k3) (by kernel_rfl) ?_
   refine s_qk (hd_s) (by kernel_rfl) ?_
   have u36 := (h_s.fr e26 Dj.nil_l)
   refine s_ql (.int .i64 (s.length : Int)) (x := aLen Try.prog 57 hd_s H25) (by kernel_rfl) (u36.sq.lenb (by kernel_rfl)) ?_
   refine s_qk (.bool (decide (k3 < (s.length : Int)))) (by kernel_rfl) ?_
   refine s_nil ?_
   refine k35 _ _ ?_
   refine w_condp (k3 < (s.length : Int)) (by kernel_rfl) rfl (fun h37 => ?_) (fun h37 => ?_)
   ·have r38 := ite_t h37 hz31
    refine w_skip ?_
    refine k34 _ _ ?_
    refine w_seqk fun K39 k39 => ?_
    refine w_block ?_
    refine w_seqk fun K40 k40 => ?_
    refine w_draw [0, 1, 2, 3, 4, 5, 6, 7, 8, 9, 10] (by kernel_rfl) ?_
    refine d_qk (.func (.func 77) #[] #[]) (by kernel_rfl) ?_
    refine d_qk (hd_s) (by kernel_rfl) ?_
    refine d_qk (.int .i64 k3) (by kernel_rfl) ?_
    obtain ⟨g41, r42⟩ := G_some r38
    refine d_ql (elp hd_s 3 k3.toNat 0) (x := aIndexAddr Try.prog 57 hd_s (.int .i64 k3)) (by kernel_rfl) (u36.sq.idxb (by kernel_rfl) g41 h37) ?_
    refine d_ql (.agg #[.int .i64 ((gt s k3).1), .int .i64 ((gt s k3).2.1), .int .i64 ((gt s k3).2.2)]) (x := aLoad Try.prog 73 (elp hd_s 3 k3.toNat 0) H25) (by kernel_rfl) (u36.sq.ld g41 h37 (by kernel_rfl)) ?_
    refine d_qk (hd_s) (by kernel_rfl) ?_
    refine d_qk (.int .i64 k3) (by kernel_rfl) ?_
    obtain ⟨g43, r44⟩ := G_some r42
    refine d_w ((k3 - 1)) (k := .i64) (x := (k3 - 1)) (by kernel_rfl) (wrap64 g43) ?_
    obtain ⟨g45, r46⟩ := G_some r44
    refine d_ql (elp hd_s 3 (k3 - 1).toNat 0) (x := aIndexAddr Try.prog 57 hd_s (.int .i64 (k3 - 1))) (by kernel_rfl) (u36.sq.idxb (by kernel_rfl) g45.1 g45.2) ?_
    refine d_ql (.agg #[.int .i64 ((gt s (k3 - 1)).1), .int .i64 ((gt s (k3 - 1)).2.1), .int .i64 ((gt s (k3 - 1)).2.2)]) (x := aLoad Try.prog 73 (elp hd_s 3 (k3 - 1).toNat 0) H25) (by kernel_rfl) (u36.sq.ld g45.1 g45.2 (by kernel_rfl)) ?_
    obtain ⟨y47, hy48, r49⟩ := bind_some r46
    refine d_ck 77 #[.agg #[.int .i64 ((gt s k3).1), .int .i64 ((gt s k3).2.1), .int .i64 ((gt s k3).2.2)], .agg #[.int .i64 ((gt s (k3 - 1)).1), .int .i64 ((gt s (k3 - 1)).2.1), .int .i64 ((gt s (k3 - 1)).2.2)]] (by kernel_rfl) (c_normal_Of_1 e26.wf hy48) ?_
    rintro _ H50 ⟨rfl, e51⟩
    refine ⟨st_nil, ?_⟩
    refine d_nil ?_
    refine k40 _ _ ?_
    refine w_cond (y47) (by kernel_rfl) rfl (fun h52 => ?_) (fun h52 => ?_)
    ·have r53 := ite_t h52 r49
     refine w_seqk fun K54 k54 => ?_
     refine w_reg (by kernel_rfl) ?_
     refine s_qk (hd_s) (by kernel_rfl) ?_
     refine s_qk (.int .i64 k3) (by kernel_rfl) ?_
     obtain ⟨g55, r56⟩ := G_some r53
     have u60 := (u36.fr e51 Dj.nil_l)
     obtain ⟨s57, q58, vw59⟩ := Ow.view (P := Try.prog) u60 (t := 57) (by kernel_rfl) (lo := some (.int .i64 k3)) (l := k3.toNat) (aBound_int _ (by have := g55; omega)) (by have := g55; omega)
     obtain ⟨a61, n62, c63, rfl⟩ := vw59.form
     refine s_ql (.slice a61 n62 c63) (by kernel_rfl) q58 ?_
     refine s_qk (.slice a61 n62 c63) (by kernel_rfl) ?_
     refine s_nil ?_
     refine k54 _ _ ?_
     refine w_seqk fun K64 k64 => ?_
     refine w_seqk fun K65 k65 => ?_
     refine w_reg (by kernel_rfl) ?_
     refine s_qk (.int .i64 1) (by kernel_rfl) ?_
     refine s_nil ?_
     refine k65 _ _ ?_
     obtain ⟨o66, hx67, r68⟩ := bind_some r56
     refine w_mid (fun α H69 => Has α [(0, hd_s), (5, .int .i64 o66.2)] ∧ FrS fp_s H50 H69 ∧ Ow enc_i64_i64_i64 3 H69 hd_s o66.1 fp_s) (fun K73 k73 => ?_) (fun α H69 hM => ?_)
     ·refine w_block ?_
      obtain ⟨n75, hn76⟩ := loopO_iff.1 hx67
      refine w_loopn (fun n α H77 => ∃ (s0 : List (Int × Int × Int)), ∃ (k1 : Int), ∃ (k22 : Int), iterO (fun zz_ => z_slices_CompactFunc_l0 k3 zz_.1 zz_.2.1 zz_.2.2) n (s0, k1, k22) = some o66 ∧ Has α [(0, hd_s), (1, .func (.func 77) #[] #[]), (5, .int .i64 k1), (6, .slice a61 n62 c63), (7, .int .i64 k22)] ∧ FrS fp_s H50 H77 ∧ Ow enc_i64_i64_i64 3 H77 hd_s s0 fp_s) n75 ⟨s, k3, 1, hn76, ⟨by kernel_rfl, by kernel_rfl, by kernel_rfl, by kernel_rfl, by kernel_rfl, trivial⟩, (FrS.refl (W := fp_s) e51.wf), u60⟩ ?_
      rintro n75 α H77 ⟨s0, k1, k22, hi82, hh81, e78, m80⟩ K87 k87
      obtain ⟨n83, z84, rfl, hz85, hn86⟩ := iter_succ hi82
      obtain ⟨β, rfl⟩ := has_ex hh81
      clear hh81
      replace hz85 : z_slices_CompactFunc_l0 k3 s0 k1 k22 = some z84 := hz85
      unfold z_slices_CompactFunc_l0 at hz85
      refine w_seqk fun K88 k88 => ?_
      refine w_seqk fun K89 k89 => ?_
      refine w_reg (by kernel_rfl) ?_
      refine s_qk (.int .i64 k22) (by kernel_rfl) ?_
      refine s_qk (.slice a61 n62 c63) (by kernel_rfl) ?_
      obtain ⟨hs90, hl91⟩ := vw59.sq m80
      refine s_ql (.int .i64 ((s0.drop k3.toNat).length : Int)) (x := aLen Try.prog 57 (.slice a61 n62 c63) H77) (by kernel_rfl) (hs90.lenb (by kernel_rfl)) ?_
      refine s_qk (.bool (decide (k22 < ((s0.drop k3.toNat).length : Int)))) (by kernel_rfl) ?_
      refine s_nil ?_
      refine k89 _ _ ?_
      refine w_condp (k22 < ((s0.drop k3.toNat).length : Int)) (by kernel_rfl) rfl (fun h93 => ?_) (fun h93 => ?_)
      ·have r94 := ite_t h93 hz85
       refine w_skip ?_
       refine k88 _ _ ?_
       refine w_seqk fun K95 k95 => ?_
       refine w_block ?_
       refine w_seqk fun K96 k96 => ?_
       refine w_draw [0, 1, 2, 3, 4, 5, 6, 7, 8, 9, 10, 11] (by kernel_rfl) ?_
       refine d_qk (.func (.func 77) #[] #[]) (by kernel_rfl) ?_
       refine d_qk (.slice a61 n62 c63) (by kernel_rfl) ?_
       refine d_qk (.int .i64 k22) (by kernel_rfl) ?_
       obtain ⟨hs97, hl98⟩ := vw59.sq m80
       obtain ⟨g100, r101⟩ := G_some r94
       refine d_ql (elp (.slice a61 n62 c63) 3 k22.toNat 0) (x := aIndexAddr Try.prog 57 (.slice a61 n62 c63) (.int .i64 k22)) (by kernel_rfl) (hs97.idxb (by kernel_rfl) g100 h93) ?_
       refine d_ql (.agg #[.int .i64 ((gt (s0.drop k3.toNat) k22).1), .int .i64 ((gt (s0.drop k3.toNat) k22).2.1), .int .i64 ((gt (s0.drop k3.toNat) k22).2.2)]) (x := aLoad Try.prog 73 (elp (.slice a61 n62 c63) 3 k22.toNat 0) H77) (by kernel_rfl) (hs97.ld g100 h93 (by kernel_rfl)) ?_
       refine d_qk (.slice a61 n62 c63) (by kernel_rfl) ?_
       refine d_qk (.int .i64 k22) (by kernel_rfl) ?_
       obtain ⟨g102, r103⟩ := G_some r101
       refine d_w ((k22 - 1)) (k := .i64) (x := (k22 - 1)) (by kernel_rfl) (wrap64 g102) ?_
       obtain ⟨hs104, hl105⟩ := vw59.sq m80
       obtain ⟨g107, r108⟩ := G_some r103
       refine d_ql (elp (.slice a61 n62 c63) 3 (k22 - 1).toNat 0) (x := aIndexAddr Try.prog 57 (.slice a61 n62 c63) (.int .i64 (k22 - 1))) (by kernel_rfl) (hs104.idxb (by kernel_rfl) g107.1 g107.2) ?_
       refine d_ql (.agg #[.int .i64 ((gt (s0.drop k3.toNat) (k22 - 1)).1), .int .i64 ((gt (s0.drop k3.toNat) (k22 - 1)).2.1), .int .i64 ((gt (s0.drop k3.toNat) (k22 - 1)).2.2)]) (x := aLoad Try.prog 73 (elp (.slice a61 n62 c63) 3 (k22 - 1).toNat 0) H77) (by kernel_rfl) (hs104.ld g107.1 g107.2 (by kernel_rfl)) ?_
       obtain ⟨y109, hy110, r111⟩ := bind_some r108
       refine d_ck 77 #[.agg #[.int .i64 ((gt (s0.drop k3.toNat) k22).1), .int .i64 ((gt (s0.drop k3.toNat) k22).2.1), .int .i64 ((gt (s0.drop k3.toNat) k22).2.2)], .agg #[.int .i64 ((gt (s0.drop k3.toNat) (k22 - 1)).1), .int .i64 ((gt (s0.drop k3.toNat) (k22 - 1)).2.1), .int .i64 ((gt (s0.drop k3.toNat) (k22 - 1)).2.2)]] (by kernel_rfl) (c_normal_Of_1 e78.wf hy110) ?_
       rintro _ H112 ⟨rfl, e113⟩
       refine ⟨st_nil, ?_⟩
       refine d_qk (.bool (!y109)) (by kernel_rfl) ?_
       refine d_nil ?_
       refine k96 _ _ ?_
       refine w_cond ((!y109)) (by kernel_rfl) rfl (fun h114 => ?_) (fun h114 => ?_)
       ·have r115 := ite_t h114 r111
        refine w_seqk fun K116 k116 => ?_
        refine w_reg (by kernel_rfl) ?_
        refine s_qk (hd_s) (by kernel_rfl) ?_
        refine s_qk (.int .i64 k1) (by kernel_rfl) ?_
        refine s_qk (.slice a61 n62 c63) (by kernel_rfl) ?_
        refine s_qk (.int .i64 k22) (by kernel_rfl) ?_
        have u119 := (m80.fr e113 Dj.nil_l)
        obtain ⟨hs117, hl118⟩ := vw59.sq u119
        refine s_ql (elp (.slice a61 n62 c63) 3 k22.toNat 0) (x := aIndexAddr Try.prog 57 (.slice a61 n62 c63) (.int .i64 k22)) (by kernel_rfl) (hs117.idxb (by kernel_rfl) g100 h93) ?_
        refine s_ql (.agg #[.int .i64 ((gt (s0.drop k3.toNat) k22).1), .int .i64 ((gt (s0.drop k3.toNat) k22).2.1), .int .i64 ((gt (s0.drop k3.toNat) k22).2.2)]) (x := aLoad Try.prog 73 (elp (.slice a61 n62 c63) 3 k22.toNat 0) H112) (by kernel_rfl) (hs117.ld g100 h93 (by kernel_rfl)) ?_
        obtain ⟨g121, r122⟩ := G_some r115
        refine s_ql (elp hd_s 3 k1.toNat 0) (x := aIndexAddr Try.prog 57 hd_s (.int .i64 k1)) (by kernel_rfl) (u119.sq.idxb (by kernel_rfl) g121.1 g121.2) ?_
        obtain ⟨H123, q124, e125, hm126⟩ := Ow.store (P := Try.prog) (t := 73) (off := 0) e113.wf u119 g121.1 g121.2 (.agg #[.int .i64 ((gt (s0.drop k3.toNat) k22).1), .int .i64 ((gt (s0.drop k3.toNat) k22).2.1), .int .i64 ((gt (s0.drop k3.toNat) k22).2.2)]) [.int .i64 ((gt (s0.drop k3.toNat) k22).1), .int .i64 ((gt (s0.drop k3.toNat) k22).2.1), .int .i64 ((gt (s0.drop k3.toNat) k22).2.2)] (by kernel_rfl) (by kernel_rfl) rfl ((gt (s0.drop k3.toNat) k22).1, (gt (s0.drop k3.toNat) k22).2.1, (gt (s0.drop k3.toNat) k22).2.2) (Nat.le_of_ble_eq_true rfl) (by kernel_rfl)
        refine s_ek (undef) (by kernel_rfl) (map_ok q124) ?_
        refine s_nil ?_
        refine k116 _ _ ?_
        refine w_reg (by kernel_rfl) ?_
        refine s_qk (.int .i64 k1) (by kernel_rfl) ?_
        obtain ⟨g127, r128⟩ := G_some r122
        refine s_w ((k1 + 1)) (k := .i64) (x := (k1 + 1)) (by kernel_rfl) (wrap64 (by have := g127; omega)) ?_
        refine s_qk (.int .i64 (k1 + 1)) (by kernel_rfl) ?_
        refine s_nil ?_
        refine k95 _ _ ?_
        refine w_reg (by kernel_rfl) ?_
        refine s_qk (.int .i64 k22) (by kernel_rfl) ?_
        obtain ⟨g129, r130⟩ := G_some r128
        refine s_w ((k22 + 1)) (k := .i64) (x := (k22 + 1)) (by kernel_rfl) (wrap64 (by have := g129; omega)) ?_
        refine s_qk (.int .i64 (k22 + 1)) (by kernel_rfl) ?_
        refine s_nil ?_
        obtain rfl := Option.some.inj r130
        exact k87 n83 _ _ (Nat.lt_succ_self _) ⟨(s0.set k1.toNat ((gt (s0.drop k3.toNat) k22).1, (gt (s0.drop k3.toNat) k22).2.1, (gt (s0.drop k3.toNat) k22).2.2)), (k1 + 1), (k22 + 1), hn86, ⟨by kernel_rfl, by kernel_rfl, by kernel_rfl, by kernel_rfl, by kernel_rfl, trivial⟩, (FrS.step e51.wf (FrS.step e51.wf (FrS.step e51.wf (FrS.refl (W := fp_s) e51.wf) e78 Inn.refl') e113 Inn.nil) e125 Inn.refl'), hm126⟩
       ·have r131 := ite_bf h114 r111
        refine w_skip ?_
        refine k95 _ _ ?_
        refine w_reg (by kernel_rfl) ?_
        refine s_qk (.int .i64 k22) (by kernel_rfl) ?_
        obtain ⟨g132, r133⟩ := G_some r131
        refine s_w ((k22 + 1)) (k := .i64) (x := (k22 + 1)) (by kernel_rfl) (wrap64 (by have := g132; omega)) ?_
        refine s_qk (.int .i64 (k22 + 1)) (by kernel_rfl) ?_
        refine s_nil ?_
        have u134 := (m80.fr e113 Dj.nil_l)
        obtain rfl := Option.some.inj r133
        exact k87 n83 _ _ (Nat.lt_succ_self _) ⟨s0, k1, (k22 + 1), hn86, ⟨by kernel_rfl, by kernel_rfl, by kernel_rfl, by kernel_rfl, by kernel_rfl, trivial⟩, (FrS.step e51.wf (FrS.step e51.wf (FrS.refl (W := fp_s) e51.wf) e78 Inn.refl') e113 Inn.nil), u134⟩
      ·have r135 := ite_f h93 hz85
       refine w_exit (th_exit (th_exit (bl_eq ?_)))
       obtain rfl := Option.some.inj r135
       obtain rfl := it_inr hn86
       exact k73 _ _ ⟨⟨by kernel_rfl, by kernel_rfl, trivial⟩, (FrS.step e51.wf (FrS.refl (W := fp_s) e51.wf) e78 Inn.refl'), m80⟩
     ·obtain ⟨hh74, e70, m72⟩ := hM
      obtain ⟨β, rfl⟩ := has_ex hh74
      clear hh74
      refine k64 _ _ ?_
      refine w_seqk fun K136 k136 => ?_
      refine w_reg (by kernel_rfl) ?_
      refine s_qk (hd_s) (by kernel_rfl) ?_
      refine s_qk (.int .i64 o66.2) (by kernel_rfl) ?_
      obtain ⟨g137, r138⟩ := G_some r68
      obtain ⟨s139, q140, vw141⟩ := Ow.view (P := Try.prog) m72 (t := 57) (by kernel_rfl) (lo := some (.int .i64 o66.2)) (l := o66.2.toNat) (aBound_int _ (by have := g137; omega)) (by have := g137; omega)
      obtain ⟨a142, n143, c144, rfl⟩ := vw141.form
      refine s_ql (.slice a142 n143 c144) (by kernel_rfl) q140 ?_
      obtain ⟨g145, r146⟩ := G_some r138
      obtain ⟨H147, q148, e149, hm150⟩ := View.clear (P := Try.prog) (m := 24) (at_ := #[57]) vw141 ((0, 0, 0) : Int × Int × Int) e70.wf m72 g145 rfl (by kernel_rfl)
      refine s_ek (.tuple #[]) (by kernel_rfl) (map_ok q148) ?_
      refine s_nil ?_
      refine k136 _ _ ?_
      refine w_seqk fun K151 k151 => ?_
      refine w_reg (by kernel_rfl) ?_
      refine s_qk (hd_s) (by kernel_rfl) ?_
      refine s_qk (.int .i64 o66.2) (by kernel_rfl) ?_
      obtain ⟨g152, r153⟩ := G_some r146
      obtain ⟨s154, q155, hs156⟩ := Ow.head (P := Try.prog) hm150 (t := 57) (by kernel_rfl) (hi := (some (.int .i64 o66.2))) (r := o66.2.toNat) (aBound_int _ (by have := g152; omega)) (by have := g152; omega)
      obtain ⟨a157, n158, c159, rfl⟩ := hs156.form
      refine s_ql (.slice a157 n158 c159) (by kernel_rfl) q155 ?_
      refine s_qk (.slice a157 n158 c159) (by kernel_rfl) ?_
      refine s_nil ?_
      refine k151 _ _ ?_
      refine w_ret (bl_ret (th_ret (th_ret (bl_ret (th_ret (th_ret ?_))))))
      obtain ⟨v161, hv162, hz163⟩ := map_some r153
      subst hz163
      obtain rfl := it_inr hn32
      have hq164 := elim_inl r17
      rw [hq164] at hv162
      refine b_ret (fn := Try.f76) (vs := [.slice a157 n158 c159]) (aRes_tmp (by kernel_rfl) (rfl)) ?_
      obtain rfl := Option.some.inj hv162
      exact ⟨(.slice a157 n158 c159), rfl, (FrS.step wf (FrS.step wf (FrS.step wf (FrS.step wf (FrS.refl (W := fp_s) wf) e26 Inn.nil) e51 Inn.nil) e70 Inn.refl') e149 Inn.refl'), hs156, hm150⟩
    ·have r165 := ite_bf h52 r49
     refine w_skip ?_
     refine k39 _ _ ?_
     refine w_reg (by kernel_rfl) ?_
     refine s_qk (.int .i64 k3) (by kernel_rfl) ?_
     obtain ⟨g166, r167⟩ := G_some r165
     refine s_w ((k3 + 1)) (k := .i64) (x := (k3 + 1)) (by kernel_rfl) (wrap64 (by have := g166; omega)) ?_
     refine s_qk (.int .i64 (k3 + 1)) (by kernel_rfl) ?_
     refine s_nil ?_
     obtain rfl := Option.some.inj r167
     exact k33 n29 _ _ (Nat.lt_succ_self _) ⟨(k3 + 1), hn32, ⟨by kernel_rfl, by kernel_rfl, by kernel_rfl, trivial⟩, (FrS.step wf (FrS.step wf (FrS.refl (W := []) wf) e26 Inn.nil) e51 Inn.nil)⟩
   ·have r168 := ite_f h37 hz31
    refine w_exit (th_exit (th_exit (bl_eq ?_)))
    obtain rfl := Option.some.inj r168
    obtain rfl := it_inr hn32
    exact k21 _ _ ⟨_, rfl, ⟨by kernel_rfl, trivial⟩, (FrS.step wf (FrS.refl (W := []) wf) e26 Inn.nil)⟩
  ·obtain ⟨o15, rfl, hh22, e20⟩ := hM
   have r169 := elim_inr r17
   obtain ⟨β, rfl⟩ := has_ex hh22
   clear hh22
   refine k13 _ _ ?_
   refine w_seqk fun K170 k170 => ?_
   refine w_reg (by kernel_rfl) ?_
   refine s_qk (hd_s) (by kernel_rfl) ?_
   refine s_qk (hd_s) (by kernel_rfl) ?_
   refine s_nil ?_
   refine k170 _ _ ?_
   refine w_ret ?_
   refine b_ret (fn := Try.f76) (vs := [hd_s]) (aRes_tmp (by kernel_rfl) (rfl)) ?_
   have u171 := (h_s.fr e20 Dj.nil_l)
   obtain rfl := Option.some.inj r169
   exact ⟨(hd_s), rfl, (FrS.step wf (FrS.refl (W := fp_s) wf) e20 Inn.nil), u171, u171⟩


end Go.Vd

/-! (KCm1) -/

set_option maxRecDepth 100000
set_option maxHeartbeats 4000000
set_option linter.unusedVariables false
namespace Go.Vd
open Go.Proofs
attribute [local irreducible] wpSeq wpOrd aWp
theorem c_normal_Of {H : AH} {hd_Arcs : Value} {fp_Arcs : Fp} {N_ : Int} {Arcs : List (Int × Int × Int)} {r : Int × List (Int × Int × Int) × Er}
  (wf : WF H) (h_Arcs : Sq enc_i64_i64_i64 3 H hd_Arcs Arcs fp_Arcs) (hr : z_normal_Of N_ Arcs = some r) :
  ACalls Try.prog 24 #[.agg #[.int .i64 N_, hd_Arcs]] H fun v H' => ∃ (s3 : Value) (f4 : Fp) (v7 : Value) (f8 : Fp), v = .tuple #[.agg #[.int .i64 r.1, s3], v7] ∧ FrS [] H H' ∧ Ow enc_i64_i64_i64 3 H' s3 r.2.1 f4 ∧ Ev 122 235 H' v7 r.2.2 f8 ∧ Inn [] H f4 ∧ Inn [] H f8 ∧ Dj f4 f8 := by
 refine acalls_of_body mixed Try.func24 rfl (Nat.le_of_ble_eq_true rfl) ?_
 unfold z_normal_Of at hr
 refine w_seqk fun K12 k12 => ?_
 refine w_reg (by kernel_rfl) ?_
 refine s_rwl wf [.int .i64 N_, hd_Arcs] (one_cons (rfl) (one_cons (h_Arcs.one1) (one_nil))) (by kernel_rfl) fun b13 H14 e15 hb16 r17 => ?_
 refine s_rwk e15.wf [.int .i64 0, .slice none 0 0] (by kernel_rfl) fun b19 H20 e21 hb22 r23 => ?_
 refine s_qk (.nilIface) (by kernel_rfl) ?_
 refine s_nil ?_
 refine k12 _ _ ?_
 refine w_seqk fun K25 k25 => ?_
 refine w_seqk fun K26 k26 => ?_
 refine w_reg (by kernel_rfl) ?_
 have u27 := (r17.ext e21)
 refine s_ql (.agg #[.int .i64 N_, hd_Arcs]) (x := aLoad Try.prog 59 (.pointer (some ⟨b13, 0, none⟩)) H20) (by kernel_rfl) (u27.ld (by kernel_rfl)) ?_
 have u28 := ((h_Arcs.ext e15).ext e21)
 obtain ⟨y29, hy30, r31⟩ := bind_some hr
 refine s_ck 73 #[.agg #[.int .i64 N_, hd_Arcs]] (by kernel_rfl) (c_gtext_Check e21.wf u28 hy30) ?_
 rintro v32 H34 ⟨_, f33, rfl, e35, m36, i37⟩
 refine s_qk (v32) (by kernel_rfl) ?_
 refine s_nil ?_
 refine k26 _ _ ?_
 refine w_seqk fun K39 k39 => ?_
 refine w_reg (by kernel_rfl) ?_
 refine s_qk (v32) (by kernel_rfl) ?_
 rcases (m36).cases with ⟨h40, rfl⟩ | ⟨h40, t41, x42, rfl⟩
 ·have r43 := ite_t h40 r31
  refine s_qk (.bool false) (by kernel_rfl) ?_
  refine s_nil ?_
  refine k39 _ _ ?_
  refine w_cond false (by kernel_rfl) rfl (fun h => by cases h) (fun _ => ?_)
  refine w_skip ?_
  refine k25 _ _ ?_
  refine w_seqk fun K44 k44 => ?_
  refine w_reg (by kernel_rfl) ?_
  refine s_qk (.pointer (some ⟨b13, 0, none⟩)) (by kernel_rfl) ?_
  have u45 := (u27.frS e35 Dj.nil_l)
  refine s_ql (.int .i64 N_) (x := aLoad Try.prog 3 (.pointer (some ⟨b13, 0, none⟩)) H34) (by kernel_rfl) (u45.ld (by kernel_rfl)) ?_
  refine s_qk (.agg #[.int .i64 N_, .slice none 0 0]) (by kernel_rfl) ?_
  refine s_rwk e35.wf [.int .i64 0, .slice none 0 0] (by kernel_rfl) fun b46 H47 e48 hb49 r50 => ?_
  obtain ⟨H52, q53, e54, r55⟩ := Row.store (P := Try.prog) (t := 59) (p := 0) e48.wf r50 (.agg #[.int .i64 N_, .slice none 0 0]) [.int .i64 N_, .slice none 0 0] (by kernel_rfl) (by kernel_rfl) (one_cons (rfl) (one_cons (rfl) (one_nil))) (Nat.le_of_ble_eq_true (by kernel_rfl)) [.int .i64 N_, .slice none 0 0] (by kernel_rfl)
  refine s_ek (undef) (by kernel_rfl) (map_ok q53) ?_
  refine s_nil ?_
  refine k44 _ _ ?_
  refine w_seqk fun K56 k56 => ?_
  refine w_seqk fun K57 k57 => ?_
  refine w_reg (by kernel_rfl) ?_
  refine s_qk (.pointer (some ⟨b13, 1, none⟩)) (by kernel_rfl) ?_
  have u58 := ((u45.ext e48).frS e54 (hb49.djn (r17.ltF.le (ntr e21.next e35.next))))
  refine s_ql (hd_Arcs) (x := aLoad Try.prog 57 (.pointer (some ⟨b13, 1, none⟩)) H52) (by kernel_rfl) (u58.ld (by kernel_rfl)) ?_
  have u59 := (((u28.fr e35 Dj.nil_l).ext e48).fr e54 (hb49.djn (h_Arcs.lt.le (ntr (ntr e15.next e21.next) e35.next))))
  refine s_ql (.int .i64 (Arcs.length : Int)) (x := aLen Try.prog 57 hd_Arcs H52) (by kernel_rfl) (u59.lenb (by kernel_rfl)) ?_
  refine s_qk (.int .i64 0) (by kernel_rfl) ?_
  refine s_nil ?_
  refine k57 _ _ ?_
  obtain ⟨o60, hx61, r62⟩ := bind_some r43
  refine w_mid (fun α H63 => ∃ (s67 : Value) (f68 : Fp), Has α [(2, .pointer (some ⟨b19, 0, none⟩)), (5, .pointer (some ⟨b46, 0, none⟩))] ∧ FrS [b46] H52 H63 ∧ Ow enc_i64_i64_i64 3 H63 s67 o60 f68 ∧ Row H63 b46 [.int .i64 N_, s67] ∧ Inn [] H52 f68) (fun K72 k72 => ?_) (fun α H63 hM => ?_)
  ·refine w_block ?_
   obtain ⟨n74, hn75⟩ := loopO_iff.1 hx61
   refine w_loopn (fun n α H76 => ∃ (i0 : Int), ∃ (c1 : List (Int × Int × Int)), ∃ (s80 : Value), ∃ (f81 : Fp), iterO (fun zz_ => z_normal_Of_l0 Arcs zz_.1 zz_.2) n (i0, c1) = some o60 ∧ Has α [(2, .pointer (some ⟨b19, 0, none⟩)), (5, .pointer (some ⟨b46, 0, none⟩)), (18, hd_Arcs), (19, .int .i64 (Arcs.length : Int)), (20, .int .i64 i0)] ∧ FrS [b46] H52 H76 ∧ Ow enc_i64_i64_i64 3 H76 s80 c1 f81 ∧ Row H76 b46 [.int .i64 N_, s80] ∧ Inn [] H52 f81) n74 ⟨0, [], (.slice none 0 0), [], hn75, ⟨by kernel_rfl, by kernel_rfl, by kernel_rfl, by kernel_rfl, by kernel_rfl, trivial⟩, (FrS.refl (W := [b46]) e54.wf), (Ow.nil (by decide)), r55, Inn.nil⟩ ?_
   rintro n74 α H76 ⟨i0, c1, s80, f81, hi86, hh85, e77, m79, m83, i84⟩ K91 k91
   obtain ⟨n87, z88, rfl, hz89, hn90⟩ := iter_succ hi86
   obtain ⟨β, rfl⟩ := has_ex hh85
   clear hh85
   replace hz89 : z_normal_Of_l0 Arcs i0 c1 = some z88 := hz89
   unfold z_normal_Of_l0 at hz89
   obtain ⟨a92, n93, c94, rfl⟩ := m79.form
   refine w_seqk fun K95 k95 => ?_
   refine w_reg (by kernel_rfl) ?_
   refine s_qk (.bool (decide (i0 < (Arcs.length : Int)))) (by kernel_rfl) ?_
   refine s_nil ?_
   refine k95 _ _ ?_
   refine w_seqk fun K96 k96 => ?_
   refine w_condp (i0 < (Arcs.length : Int)) (by kernel_rfl) rfl (fun h97 => ?_) (fun h97 => ?_)
   ·have r98 := ite_t h97 hz89
    refine w_skip ?_
    refine k96 _ _ ?_
    refine w_seqk fun K99 k99 => ?_
    refine w_block ?_
    refine w_seqk fun K100 k100 => ?_
    refine w_reg (by kernel_rfl) ?_
    obtain ⟨g101, r102⟩ := G_some r98
    have u103 := (u59.fr e77 (hb49.djn (h_Arcs.lt.le (ntr (ntr e15.next e21.next) e35.next))))
    refine s_ql (elp hd_Arcs 3 i0.toNat 0) (x := aIndexAddr Try.prog 57 hd_Arcs (.int .i64 i0)) (by kernel_rfl) (u103.idxb (by kernel_rfl) g101 h97) ?_
    refine s_ql (.agg #[.int .i64 ((gt Arcs i0).1), .int .i64 ((gt Arcs i0).2.1), .int .i64 ((gt Arcs i0).2.2)]) (x := aLoad Try.prog 73 (elp hd_Arcs 3 i0.toNat 0) H76) (by kernel_rfl) (u103.ld g101 h97 (by kernel_rfl)) ?_
    refine s_rwk e77.wf [.int .i64 0, .int .i64 0, .int .i64 0] (by kernel_rfl) fun b104 H105 e106 hb107 r108 => ?_
    obtain ⟨H110, q111, e112, r113⟩ := Row.store (P := Try.prog) (t := 73) (p := 0) e106.wf r108 (.agg #[.int .i64 ((gt Arcs i0).1), .int .i64 ((gt Arcs i0).2.1), .int .i64 ((gt Arcs i0).2.2)]) [.int .i64 ((gt Arcs i0).1), .int .i64 ((gt Arcs i0).2.1), .int .i64 ((gt Arcs i0).2.2)] (by kernel_rfl) (by kernel_rfl) (one_cons (rfl) (one_cons (rfl) (one_cons (rfl) (one_nil)))) (Nat.le_of_ble_eq_true (by kernel_rfl)) [.int .i64 ((gt Arcs i0).1), .int .i64 ((gt Arcs i0).2.1), .int .i64 ((gt Arcs i0).2.2)] (by kernel_rfl)
    refine s_ek (undef) (by kernel_rfl) (map_ok q111) ?_
    refine s_nil ?_
    refine k100 _ _ ?_
    refine w_seqk fun K114 k114 => ?_
    refine w_reg (by kernel_rfl) ?_
    refine s_qk (.pointer (some ⟨b104, 0, none⟩)) (by kernel_rfl) ?_
    refine s_ql (.int .i64 ((gt Arcs i0).1)) (x := aLoad Try.prog 3 (.pointer (some ⟨b104, 0, none⟩)) H110) (by kernel_rfl) (r113.ld (by kernel_rfl)) ?_
    refine s_qk (.pointer (some ⟨b104, 1, none⟩)) (by kernel_rfl) ?_
    refine s_ql (.int .i64 ((gt Arcs i0).2.1)) (x := aLoad Try.prog 3 (.pointer (some ⟨b104, 1, none⟩)) H110) (by kernel_rfl) (r113.ld (by kernel_rfl)) ?_
    refine s_qk (.bool (!decide (((gt Arcs i0).1) = ((gt Arcs i0).2.1)))) (by kernel_rfl) ?_
    refine s_nil ?_
    refine k114 _ _ ?_
    refine w_condn (((gt Arcs i0).1) = ((gt Arcs i0).2.1)) (by kernel_rfl) rfl (fun h115 => ?_) (fun h115 => ?_)
    ·have r116 := ite_f h115 r102
     refine w_reg (by kernel_rfl) ?_
     refine s_qk (.pointer (some ⟨b46, 1, none⟩)) (by kernel_rfl) ?_
     have u117 := ((m83.ext e106).frS e112 (hb107.djn (r50.ltF.le (ntr e54.next e77.next))))
     refine s_ql (.slice a92 n93 c94) (x := aLoad Try.prog 57 (.pointer (some ⟨b46, 1, none⟩)) H110) (by kernel_rfl) (u117.ld (by kernel_rfl)) ?_
     refine s_ql (.agg #[.int .i64 ((gt Arcs i0).1), .int .i64 ((gt Arcs i0).2.1), .int .i64 ((gt Arcs i0).2.2)]) (x := aLoad Try.prog 73 (.pointer (some ⟨b104, 0, none⟩)) H110) (by kernel_rfl) (r113.ld (by kernel_rfl)) ?_
     refine s_owk (enc := enc_i64_i64_i64) (sz := 3) e112.wf [((gt Arcs i0).1, (gt Arcs i0).2.1, (gt Arcs i0).2.2)] 1 (by decide) (fun _ _ => rfl) (fun _ _ => rfl) rfl (by kernel_rfl) fun s118 f119 H120 e121 hf122 hm123 => ?_
     obtain ⟨a124, n125, c126, rfl⟩ := hm123.form
     have u128 := (((m79.ext e106).fr e112 (hb107.djn m79.lt)).ext e121)
     obtain ⟨g129, r130⟩ := G_some r116
     obtain ⟨s131, H132, f133, q137, e134, hm135, hf136⟩ := Ow.append (P := Try.prog) 24 e121.wf u128 hm123.sq (fun _ _ => rfl) (at_ := #[57, 57]) rfl rfl (by kernel_rfl) (by kernel_rfl) (by decide) (by have := g129; first | omega | (simp only [List.length_cons, List.length_nil] at this ⊢; omega) | (simp at this ⊢; omega))
     obtain ⟨a138, n139, c140, rfl⟩ := hm135.form
     refine s_ek (.slice a138 n139 c140) (by kernel_rfl) (q137) ?_
     refine s_qk (.pointer (some ⟨b46, 1, none⟩)) (by kernel_rfl) ?_
     have u146 := ((u117.ext e121).frS e134 (i84.djn (r50.ltF.le e54.next)))
     obtain ⟨H142, q143, e144, r145⟩ := Row.store (P := Try.prog) (t := 57) (p := 1) e134.wf u146 (.slice a138 n139 c140) [.slice a138 n139 c140] (by kernel_rfl) (by kernel_rfl) (one_cons (hm135.one1) (one_nil)) (Nat.le_of_ble_eq_true (by kernel_rfl)) [.int .i64 N_, .slice a138 n139 c140] (by kernel_rfl)
     refine s_ek (undef) (by kernel_rfl) (map_ok q143) ?_
     refine s_nil ?_
     refine k99 _ _ ?_
     refine w_reg (by kernel_rfl) ?_
     obtain ⟨g147, r148⟩ := G_some r130
     refine s_w ((i0 + 1)) (k := .i64) (x := (i0 + 1)) (by kernel_rfl) (wrap64 (by have := g147; omega)) ?_
     refine s_qk (.int .i64 (i0 + 1)) (by kernel_rfl) ?_
     refine s_nil ?_
     have u149 := (hm135.fr e144 (Dj.symm (hf136.dj (i84.djn (r50.ltF.le e54.next)) (r50.ltF.le (ntr (ntr (ntr (ntr e54.next e77.next) e106.next) e112.next) e121.next)))))
     obtain rfl := Option.some.inj r148
     exact k91 n87 _ _ (Nat.lt_succ_self _) ⟨(i0 + 1), (c1 ++ [((gt Arcs i0).1, (gt Arcs i0).2.1, (gt Arcs i0).2.2)]), (.slice a138 n139 c140), f133, hn90, ⟨by kernel_rfl, by kernel_rfl, by kernel_rfl, by kernel_rfl, by kernel_rfl, trivial⟩, (FrS.step e54.wf (FrS.step e54.wf ((FrS.step e54.wf ((FrS.step e54.wf (FrS.refl (W := [b46]) e54.wf) e77 Inn.refl').extR e106) e112 (hb107.fresh e77.next)).extR e121) e134 (i84.fresh (Nat.le_refl _))) e144 Inn.refl'), u149, r145, (Inn.trans (i84.fresh (Nat.le_refl _)) (ntr (ntr (ntr e77.next e106.next) e112.next) e121.next) hf136)⟩
    ·have r150 := ite_t h115 r102
     refine w_skip ?_
     refine k99 _ _ ?_
     refine w_reg (by kernel_rfl) ?_
     obtain ⟨g151, r152⟩ := G_some r150
     refine s_w ((i0 + 1)) (k := .i64) (x := (i0 + 1)) (by kernel_rfl) (wrap64 (by have := g151; omega)) ?_
     refine s_qk (.int .i64 (i0 + 1)) (by kernel_rfl) ?_
     refine s_nil ?_
     have u153 := ((m79.ext e106).fr e112 (hb107.djn m79.lt))
     have u154 := ((m83.ext e106).frS e112 (hb107.djn (r50.ltF.le (ntr e54.next e77.next))))
     obtain rfl := Option.some.inj r152
     exact k91 n87 _ _ (Nat.lt_succ_self _) ⟨(i0 + 1), c1, (.slice a92 n93 c94), f81, hn90, ⟨by kernel_rfl, by kernel_rfl, by kernel_rfl, by kernel_rfl, by kernel_rfl, trivial⟩, (FrS.step e54.wf ((FrS.step e54.wf (FrS.refl (W := [b46]) e54.wf) e77 Inn.refl').extR e106) e112 (hb107.fresh e77.next)), u153, u154, (i84.fresh (Nat.le_refl _))⟩
   ·have r155 := ite_f h97 hz89
    refine w_exit (th_exit (th_exit (bl_eq ?_)))
    obtain rfl := Option.some.inj r155
    obtain rfl := it_inr hn90
    exact k72 _ _ ⟨(.slice a92 n93 c94), f81, ⟨by kernel_rfl, by kernel_rfl, trivial⟩, (FrS.step e54.wf (FrS.refl (W := [b46]) e54.wf) e77 Inn.refl'), m79, m83, (i84.fresh (Nat.le_refl _))⟩
  ·obtain ⟨s67, f68, hh73, e64, m66, m70, i71⟩ := hM
   obtain ⟨β, rfl⟩ := has_ex hh73
   clear hh73
   obtain ⟨a156, n157, c158, rfl⟩ := m66.form
   refine k56 _ _ ?_
   refine w_seqk fun K159 k159 => ?_
   refine w_reg (by kernel_rfl) ?_
   refine s_qk (.pointer (some ⟨b46, 1, none⟩)) (by kernel_rfl) ?_
   refine s_ql (.slice a156 n157 c158) (x := aLoad Try.prog 57 (.pointer (some ⟨b46, 1, none⟩)) H63) (by kernel_rfl) (m70.ld (by kernel_rfl)) ?_
   obtain ⟨g160, r161⟩ := G_some r62
   obtain ⟨y162, hy163, r164⟩ := bind_some r161
   refine s_ck 74 #[.slice a156 n157 c158, .func (.func 75) #[] #[]] (by kernel_rfl) (a_sortO (enc := enc_i64_i64_i64) (fun _ => rfl) (by intro x v hv; simp only [enc_i64_i64_i64, List.mem_cons, List.not_mem_nil, or_false] at hv; rcases hv with rfl | rfl | rfl <;> rfl) (by intro x v hv; simp only [enc_i64_i64_i64, List.mem_cons, List.not_mem_nil, or_false] at hv; rcases hv with rfl | rfl | rfl <;> rfl) (c := (fun (a_ b_ : Int × Int × Int) => z_normal_order a_.1 a_.2.1 a_.2.2 b_.1 b_.2.1 b_.2.2)) (Go.Proofs.enters_of Try.func75 (by kernel_rfl) rfl) (fun x y r hr => (c_normal_order aNil_wf hr).mono fun v H' h => h.1) e64.wf m66 g160 hy163) ?_
   rintro _ H165 ⟨rfl, e166, hm167⟩
   refine s_nil ?_
   refine k159 _ _ ?_
   refine w_seqk fun K168 k168 => ?_
   refine w_reg (by kernel_rfl) ?_
   refine s_qk (.pointer (some ⟨b46, 1, none⟩)) (by kernel_rfl) ?_
   have u169 := (m70.frS e166 (i71.djn (r50.ltF.le e54.next)))
   refine s_ql (.slice a156 n157 c158) (x := aLoad Try.prog 57 (.pointer (some ⟨b46, 1, none⟩)) H165) (by kernel_rfl) (u169.ld (by kernel_rfl)) ?_
   obtain ⟨y170, hy171, r172⟩ := bind_some r164
   refine s_ck 76 #[.slice a156 n157 c158, .func (.func 77) #[] #[]] (by kernel_rfl) (c_slices_CompactFunc e166.wf hm167 hy171) ?_
   rintro s173 H174 ⟨_, rfl, e175, m176, m177⟩
   obtain ⟨a179, n180, c181, rfl⟩ := m176.form
   refine s_qk (.pointer (some ⟨b46, 1, none⟩)) (by kernel_rfl) ?_
   have u186 := (u169.frS e175 (i71.djn (r50.ltF.le e54.next)))
   obtain ⟨H182, q183, e184, r185⟩ := Row.store (P := Try.prog) (t := 57) (p := 1) e175.wf u186 (.slice a179 n180 c181) [.slice a179 n180 c181] (by kernel_rfl) (by kernel_rfl) (one_cons (m176.one1) (one_nil)) (Nat.le_of_ble_eq_true (by kernel_rfl)) [.int .i64 N_, .slice a179 n180 c181] (by kernel_rfl)
   refine s_ek (undef) (by kernel_rfl) (map_ok q183) ?_
   refine s_nil ?_
   refine k168 _ _ ?_
   refine w_seqk fun K187 k187 => ?_
   refine w_reg (by kernel_rfl) ?_
   refine s_ql (.agg #[.int .i64 N_, .slice a179 n180 c181]) (x := aLoad Try.prog 59 (.pointer (some ⟨b46, 0, none⟩)) H182) (by kernel_rfl) (r185.ld (by kernel_rfl)) ?_
   have u192 := (((((((r23.frS e35 Dj.nil_l).ext e48).frS e54 (hb49.djn (r23.ltF.le e35.next))).frS e64 (hb49.djn (r23.ltF.le e35.next))).frS e166 (i71.djn (r23.ltF.le (ntr (ntr e35.next e48.next) e54.next)))).frS e175 (i71.djn (r23.ltF.le (ntr (ntr e35.next e48.next) e54.next)))).frS e184 (hb49.djn (r23.ltF.le e35.next)))
   have u193 := (m176.fr e184 (Dj.symm (i71.djn (r50.ltF.le e54.next))))
   obtain ⟨H188, q189, e190, r191⟩ := Row.store (P := Try.prog) (t := 59) (p := 0) e184.wf u192 (.agg #[.int .i64 N_, .slice a179 n180 c181]) [.int .i64 N_, .slice a179 n180 c181] (by kernel_rfl) (by kernel_rfl) (one_cons (rfl) (one_cons (u193.one1) (one_nil))) (Nat.le_of_ble_eq_true (by kernel_rfl)) [.int .i64 N_, .slice a179 n180 c181] (by kernel_rfl)
   refine s_ek (undef) (by kernel_rfl) (map_ok q189) ?_
   refine s_qk (.nilIface) (by kernel_rfl) ?_
   refine s_nil ?_
   refine k187 _ _ ?_
   refine w_ret ?_
   refine b_ret (fn := Try.f24) (vs := [.agg #[.int .i64 N_, .slice a179 n180 c181], .nilIface]) (aRes_cell (Eq.trans (b := aLoad Try.prog 59 (.pointer (some ⟨b19, 0, none⟩)) H188) (by kernel_rfl) (r191.ld (by kernel_rfl))) (aRes_tmp (by kernel_rfl) (rfl))) ?_
   have u194 := (u193.fr e190 (Dj.symm (i71.djn (r23.ltF.le (ntr (ntr e35.next e48.next) e54.next)))))
   obtain rfl := Option.some.inj r172
   exact ⟨(.slice a179 n180 c181), f68, (.nilIface), [], rfl, (FrS.step wf (FrS.step wf (FrS.step wf (FrS.step wf (FrS.step wf (FrS.step wf ((FrS.step wf (((FrS.refl (W := []) wf).extR e15).extR e21) e35 Inn.nil).extR e48) e54 (hb49.fresh (ntr (ntr e15.next e21.next) e35.next))) e64 (hb49.fresh (ntr (ntr e15.next e21.next) e35.next))) e166 (i71.fresh (ntr (ntr (ntr (ntr e15.next e21.next) e35.next) e48.next) e54.next))) e175 (i71.fresh (ntr (ntr (ntr (ntr e15.next e21.next) e35.next) e48.next) e54.next))) e184 (hb49.fresh (ntr (ntr e15.next e21.next) e35.next))) e190 (hb22.fresh e15.next)), u194, Ev.nil, (i71.fresh (ntr (ntr (ntr (ntr e15.next e21.next) e35.next) e48.next) e54.next)), Inn.nil, Dj.nil_r⟩
 ·have r195 := ite_f h40 r31
  refine s_ql (.bool true) (x := aBin Try.prog .neq 31 (.tmp 10) (.const .nilIface) (.iface t41 x42) .nilIface) (by kernel_rfl) (aBin_nnil (by kernel_rfl)) ?_
  refine s_nil ?_
  refine k39 _ _ ?_
  refine w_cond true (by kernel_rfl) rfl (fun _ => ?_) (fun h => by cases h)
  refine w_seqk fun K196 k196 => ?_
  refine w_reg (by kernel_rfl) ?_
  refine s_qk (.agg #[.int .i64 0, .slice none 0 0]) (by kernel_rfl) ?_
  refine s_qk (.iface t41 x42) (by kernel_rfl) ?_
  have u201 := (r23.frS e35 Dj.nil_l)
  obtain ⟨H197, q198, e199, r200⟩ := Row.store (P := Try.prog) (t := 59) (p := 0) e35.wf u201 (.agg #[.int .i64 0, .slice none 0 0]) [.int .i64 0, .slice none 0 0] (by kernel_rfl) (by kernel_rfl) (one_cons (rfl) (one_cons (rfl) (one_nil))) (Nat.le_of_ble_eq_true (by kernel_rfl)) [.int .i64 0, .slice none 0 0] (by kernel_rfl)
  refine s_ek (undef) (by kernel_rfl) (map_ok q198) ?_
  refine s_qk (.iface t41 x42) (by kernel_rfl) ?_
  refine s_nil ?_
  refine k196 _ _ ?_
  refine w_ret (th_ret ?_)
  refine b_ret (fn := Try.f24) (vs := [.agg #[.int .i64 0, .slice none 0 0], .iface t41 x42]) (aRes_cell (Eq.trans (b := aLoad Try.prog 59 (.pointer (some ⟨b19, 0, none⟩)) H197) (by kernel_rfl) (r200.ld (by kernel_rfl))) (aRes_tmp (by kernel_rfl) (rfl))) ?_
  have u202 := (m36.fr e199 (Dj.symm (i37.djn r23.ltF)))
  obtain rfl := Option.some.inj r195
  exact ⟨(.slice none 0 0), [], (.iface t41 x42), f33, rfl, (FrS.step wf (FrS.step wf (((FrS.refl (W := []) wf).extR e15).extR e21) e35 Inn.nil) e199 (hb22.fresh e15.next)), (Ow.nil (by decide)), u202, Inn.nil, (i37.fresh (ntr e15.next e21.next)), Dj.nil_l⟩

theorem c_csr_flat {H : AH} {hd_Arcs : Value} {fp_Arcs : Fp} {N_ : Int} {Arcs : List (Int × Int × Int)} {r : List (Int) × List (Int) × List (Int)}
  (wf : WF H) (h_Arcs : Sq enc_i64_i64_i64 3 H hd_Arcs Arcs fp_Arcs) (hr : z_csr_flat N_ Arcs = some r) :
  ACalls Try.prog 106 #[.agg #[.int .i64 N_, hd_Arcs]] H fun v H' => ∃ (s3 : Value) (f4 : Fp) (s7 : Value) (f8 : Fp) (s11 : Value) (f12 : Fp), v = .agg #[s3, s7, s11] ∧ FrS [] H H' ∧ Ow (encI .i64) 1 H' s3 r.1 f4 ∧ Ow (encI .i64) 1 H' s7 r.2.1 f8 ∧ Ow (encI .i64) 1 H' s11 r.2.2 f12 ∧ Inn [] H f4 ∧ Inn [] H f8 ∧ Inn [] H f12 ∧ Dj f4 f8 ∧ Dj f4 f12 ∧ Dj f8 f12 := by
 refine acalls_of_body mixed Try.func106 rfl (Nat.le_of_ble_eq_true rfl) ?_
 unfold z_csr_flat at hr
 refine w_seqk fun K19 k19 => ?_
 refine w_reg (by kernel_rfl) ?_
 refine s_rwl wf [.int .i64 N_, hd_Arcs] (one_cons (rfl) (one_cons (h_Arcs.one1) (one_nil))) (by kernel_rfl) fun b20 H21 e22 hb23 r24 => ?_
 refine s_rwk e22.wf [.slice none 0 0, .slice none 0 0, .slice none 0 0] (by kernel_rfl) fun b26 H27 e28 hb29 r30 => ?_
 refine s_nil ?_
 refine k19 _ _ ?_
 refine w_seqk fun K32 k32 => ?_
 refine w_reg (by kernel_rfl) ?_
 refine s_qk (.pointer (some ⟨b20, 0, none⟩)) (by kernel_rfl) ?_
 have u33 := (r24.ext e28)
 refine s_ql (.int .i64 N_) (x := aLoad Try.prog 3 (.pointer (some ⟨b20, 0, none⟩)) H27) (by kernel_rfl) (u33.ld (by kernel_rfl)) ?_
 obtain ⟨g34, r35⟩ := G_some hr
 refine s_w ((N_ + 1)) (k := .i64) (x := (N_ + 1)) (by kernel_rfl) (wrap64 g34) ?_
 obtain ⟨g36, r37⟩ := G_some r35
 refine s_mks (t := 22) (m := 8) (l := (N_ + 1)) (c := (N_ + 1)) (enc := (encI .i64)) (sz := 1) e28.wf (0 : Int) (by kernel_rfl) (by decide) g36.1 (Int.le_refl _) (by omega) (by have := g36; omega) (by kernel_rfl) fun s38 f39 H40 e41 hf42 hm43 => ?_
 obtain ⟨a44, n45, c46, rfl⟩ := hm43.form
 have hm43 : Ow (encI .i64) 1 H40 (.slice a44 n45 c46) (List.replicate (N_ + 1).toNat (0 : Int)) f39 := hm43
 refine s_qk (.agg #[.slice a44 n45 c46, .slice none 0 0, .slice none 0 0]) (by kernel_rfl) ?_
 refine s_rwk e41.wf [.slice none 0 0, .slice none 0 0, .slice none 0 0] (by kernel_rfl) fun b48 H49 e50 hb51 r52 => ?_
 have u58 := (hm43.ext e50)
 obtain ⟨H54, q55, e56, r57⟩ := Row.store (P := Try.prog) (t := 27) (p := 0) e50.wf r52 (.agg #[.slice a44 n45 c46, .slice none 0 0, .slice none 0 0]) [.slice a44 n45 c46, .slice none 0 0, .slice none 0 0] (by kernel_rfl) (by kernel_rfl) (one_cons (u58.one1) (one_cons (rfl) (one_cons (rfl) (one_nil)))) (Nat.le_of_ble_eq_true (by kernel_rfl)) [.slice a44 n45 c46, .slice none 0 0, .slice none 0 0] (by kernel_rfl)
 refine s_ek (undef) (by kernel_rfl) (map_ok q55) ?_
 refine s_nil ?_
 refine k32 _ _ ?_
 refine w_seqk fun K59 k59 => ?_
 refine w_seqk fun K60 k60 => ?_
 refine w_reg (by kernel_rfl) ?_
 refine s_qk (.pointer (some ⟨b20, 1, none⟩)) (by kernel_rfl) ?_
 have u61 := (((u33.ext e41).ext e50).frS e56 (hb51.djn (r24.ltF.le (ntr e28.next e41.next))))
 refine s_ql (hd_Arcs) (x := aLoad Try.prog 57 (.pointer (some ⟨b20, 1, none⟩)) H54) (by kernel_rfl) (u61.ld (by kernel_rfl)) ?_
 have u62 := (((((h_Arcs.ext e22).ext e28).ext e41).ext e50).fr e56 (hb51.djn (h_Arcs.lt.le (ntr (ntr e22.next e28.next) e41.next))))
 refine s_ql (.int .i64 (Arcs.length : Int)) (x := aLen Try.prog 57 hd_Arcs H54) (by kernel_rfl) (u62.lenb (by kernel_rfl)) ?_
 refine s_qk (.int .i64 0) (by kernel_rfl) ?_
 refine s_nil ?_
 refine k60 _ _ ?_
 obtain ⟨o63, hx64, r65⟩ := bind_some r37
 refine w_mid (fun α H66 => ∃ (s72 : Value) (f73 : Fp) (s76 : Value) (f77 : Fp), Has α [(1, .pointer (some ⟨b20, 0, none⟩)), (2, .pointer (some ⟨b26, 0, none⟩)), (3, .pointer (some ⟨b48, 0, none⟩))] ∧ FrS ([b48] ++ f39) H54 H66 ∧ Ow (encI .i64) 1 H66 (.slice a44 n45 c46) o63.1 f39 ∧ Ow (encI .i64) 1 H66 s72 o63.2.1 f73 ∧ Ow (encI .i64) 1 H66 s76 o63.2.2 f77 ∧ Row H66 b48 [.slice a44 n45 c46, s72, s76] ∧ Inn [] H54 f73 ∧ Inn [] H54 f77 ∧ Dj f73 f77) (fun K83 k83 => ?_) (fun α H66 hM => ?_)
 ·refine w_block ?_
  obtain ⟨n85, hn86⟩ := loopO_iff.1 hx64
  have u110 := (u58.fr e56 (hb51.djn hm43.lt))
  refine w_loopn (fun n α H87 => ∃ (i0 : Int), ∃ (c1 : List (Int)), ∃ (c2 : List (Int)), ∃ (c3 : List (Int)), ∃ (s93 : Value), ∃ (f94 : Fp), ∃ (s97 : Value), ∃ (f98 : Fp), iterO (fun zz_ => z_csr_flat_l0 Arcs zz_.1 zz_.2.1 zz_.2.2.1 zz_.2.2.2) n (i0, c1, c2, c3) = some o63 ∧ Has α [(1, .pointer (some ⟨b20, 0, none⟩)), (2, .pointer (some ⟨b26, 0, none⟩)), (3, .pointer (some ⟨b48, 0, none⟩)), (13, hd_Arcs), (14, .int .i64 (Arcs.length : Int)), (15, .int .i64 i0)] ∧ FrS ([b48] ++ f39) H54 H87 ∧ Ow (encI .i64) 1 H87 (.slice a44 n45 c46) c1 f39 ∧ Ow (encI .i64) 1 H87 s93 c2 f94 ∧ Ow (encI .i64) 1 H87 s97 c3 f98 ∧ Row H87 b48 [.slice a44 n45 c46, s93, s97] ∧ Inn [] H54 f94 ∧ Inn [] H54 f98 ∧ Dj f94 f98) n85 ⟨0, (List.replicate (N_ + 1).toNat (0 : Int)), [], [], (.slice none 0 0), [], (.slice none 0 0), [], hn86, ⟨by kernel_rfl, by kernel_rfl, by kernel_rfl, by kernel_rfl, by kernel_rfl, by kernel_rfl, trivial⟩, (FrS.refl (W := ([b48] ++ f39)) e56.wf), u110, (Ow.nil (by decide)), (Ow.nil (by decide)), r57, Inn.nil, Inn.nil, Dj.nil_l⟩ ?_
  rintro n85 α H87 ⟨i0, c1, c2, c3, s93, f94, s97, f98, hi105, hh104, e88, m90, m92, m96, m100, i101, i102, d103⟩ K111 k111
  obtain ⟨n106, z107, rfl, hz108, hn109⟩ := iter_succ hi105
  obtain ⟨β, rfl⟩ := has_ex hh104
  clear hh104
  replace hz108 : z_csr_flat_l0 Arcs i0 c1 c2 c3 = some z107 := hz108
  unfold z_csr_flat_l0 at hz108
  obtain ⟨a112, n113, c114, rfl⟩ := m92.form
  obtain ⟨a115, n116, c117, rfl⟩ := m96.form
  refine w_seqk fun K118 k118 => ?_
  refine w_reg (by kernel_rfl) ?_
  refine s_qk (.bool (decide (i0 < (Arcs.length : Int)))) (by kernel_rfl) ?_
  refine s_nil ?_
  refine k118 _ _ ?_
  refine w_seqk fun K119 k119 => ?_
  refine w_condp (i0 < (Arcs.length : Int)) (by kernel_rfl) rfl (fun h120 => ?_) (fun h120 => ?_)
  ·have r121 := ite_t h120 hz108
   refine w_skip ?_
   refine k119 _ _ ?_
   refine w_seqk fun K122 k122 => ?_
   refine w_block ?_
   refine w_seqk fun K123 k123 => ?_
   refine w_reg (by kernel_rfl) ?_
   obtain ⟨g124, r125⟩ := G_some r121
   have u126 := (u62.fr e88 (Dj.app (hb51.djn (h_Arcs.lt.le (ntr (ntr e22.next e28.next) e41.next))) (hf42.djn (h_Arcs.lt.le (ntr e22.next e28.next)))))
   refine s_ql (elp hd_Arcs 3 i0.toNat 0) (x := aIndexAddr Try.prog 57 hd_Arcs (.int .i64 i0)) (by kernel_rfl) (u126.idxb (by kernel_rfl) g124 h120) ?_
   refine s_ql (.agg #[.int .i64 ((gt Arcs i0).1), .int .i64 ((gt Arcs i0).2.1), .int .i64 ((gt Arcs i0).2.2)]) (x := aLoad Try.prog 73 (elp hd_Arcs 3 i0.toNat 0) H87) (by kernel_rfl) (u126.ld g124 h120 (by kernel_rfl)) ?_
   refine s_rwk e88.wf [.int .i64 0, .int .i64 0, .int .i64 0] (by kernel_rfl) fun b127 H128 e129 hb130 r131 => ?_
   obtain ⟨H133, q134, e135, r136⟩ := Row.store (P := Try.prog) (t := 73) (p := 0) e129.wf r131 (.agg #[.int .i64 ((gt Arcs i0).1), .int .i64 ((gt Arcs i0).2.1), .int .i64 ((gt Arcs i0).2.2)]) [.int .i64 ((gt Arcs i0).1), .int .i64 ((gt Arcs i0).2.1), .int .i64 ((gt Arcs i0).2.2)] (by kernel_rfl) (by kernel_rfl) (one_cons (rfl) (one_cons (rfl) (one_cons (rfl) (one_nil)))) (Nat.le_of_ble_eq_true (by kernel_rfl)) [.int .i64 ((gt Arcs i0).1), .int .i64 ((gt Arcs i0).2.1), .int .i64 ((gt Arcs i0).2.2)] (by kernel_rfl)
   refine s_ek (undef) (by kernel_rfl) (map_ok q134) ?_
   refine s_nil ?_
   refine k123 _ _ ?_
   refine w_seqk fun K137 k137 => ?_
   refine w_reg (by kernel_rfl) ?_
   refine s_qk (.pointer (some ⟨b48, 0, none⟩)) (by kernel_rfl) ?_
   have u138 := ((m100.ext e129).frS e135 (hb130.djn (r52.ltF.le (ntr e56.next e88.next))))
   refine s_ql (.slice a44 n45 c46) (x := aLoad Try.prog 22 (.pointer (some ⟨b48, 0, none⟩)) H133) (by kernel_rfl) (u138.ld (by kernel_rfl)) ?_
   refine s_qk (.pointer (some ⟨b127, 0, none⟩)) (by kernel_rfl) ?_
   refine s_ql (.int .i64 ((gt Arcs i0).1)) (x := aLoad Try.prog 3 (.pointer (some ⟨b127, 0, none⟩)) H133) (by kernel_rfl) (r136.ld (by kernel_rfl)) ?_
   obtain ⟨g139, r140⟩ := G_some r125
   refine s_w ((((gt Arcs i0).1) + 1)) (k := .i64) (x := (((gt Arcs i0).1) + 1)) (by kernel_rfl) (wrap64 g139) ?_
   obtain ⟨g141, r142⟩ := G_some r140
   have u143 := ((m90.ext e129).fr e135 (hb130.djn (hm43.lt.le (ntr (ntr e50.next e56.next) e88.next))))
   refine s_ql (elp (.slice a44 n45 c46) 1 (((gt Arcs i0).1) + 1).toNat 0) (x := aIndexAddr Try.prog 22 (.slice a44 n45 c46) (.int .i64 (((gt Arcs i0).1) + 1))) (by kernel_rfl) (u143.sq.idxb (by kernel_rfl) g141.1 g141.2) ?_
   refine s_ql (.int .i64 (gt c1 (((gt Arcs i0).1) + 1))) (x := aLoad Try.prog 3 (elp (.slice a44 n45 c46) 1 (((gt Arcs i0).1) + 1).toNat 0) H133) (by kernel_rfl) (u143.sq.ld g141.1 g141.2 (by kernel_rfl)) ?_
   obtain ⟨g144, r145⟩ := G_some r142
   refine s_w (((gt c1 (((gt Arcs i0).1) + 1)) + 1)) (k := .i64) (x := ((gt c1 (((gt Arcs i0).1) + 1)) + 1)) (by kernel_rfl) (wrap64 g144) ?_
   refine s_ql (elp (.slice a44 n45 c46) 1 (((gt Arcs i0).1) + 1).toNat 0) (x := aIndexAddr Try.prog 22 (.slice a44 n45 c46) (.int .i64 (((gt Arcs i0).1) + 1))) (by kernel_rfl) (u143.sq.idxb (by kernel_rfl) g141.1 g141.2) ?_
   obtain ⟨H146, q147, e148, hm149⟩ := Ow.store (P := Try.prog) (t := 3) (off := 0) e135.wf u143 g141.1 g141.2 (.int .i64 ((gt c1 (((gt Arcs i0).1) + 1)) + 1)) [.int .i64 ((gt c1 (((gt Arcs i0).1) + 1)) + 1)] (by kernel_rfl) (by kernel_rfl) rfl ((gt c1 (((gt Arcs i0).1) + 1)) + 1) (Nat.le_of_ble_eq_true rfl) (by kernel_rfl)
   refine s_ek (undef) (by kernel_rfl) (map_ok q147) ?_
   refine s_nil ?_
   refine k137 _ _ ?_
   refine w_seqk fun K150 k150 => ?_
   refine w_reg (by kernel_rfl) ?_
   refine s_qk (.pointer (some ⟨b48, 1, none⟩)) (by kernel_rfl) ?_
   have u151 := (u138.frS e148 (Dj.symm (hb51.djn hm43.lt)))
   refine s_ql (.slice a112 n113 c114) (x := aLoad Try.prog 22 (.pointer (some ⟨b48, 1, none⟩)) H146) (by kernel_rfl) (u151.ld (by kernel_rfl)) ?_
   refine s_qk (.pointer (some ⟨b127, 1, none⟩)) (by kernel_rfl) ?_
   have u152 := (r136.frS e148 (Dj.symm (hb130.djn (hm43.lt.le (ntr (ntr e50.next e56.next) e88.next)))))
   refine s_ql (.int .i64 ((gt Arcs i0).2.1)) (x := aLoad Try.prog 3 (.pointer (some ⟨b127, 1, none⟩)) H146) (by kernel_rfl) (u152.ld (by kernel_rfl)) ?_
   refine s_owk (enc := (encI .i64)) (sz := 1) e148.wf [(gt Arcs i0).2.1] 1 (by decide) (fun _ _ => rfl) (fun _ _ => rfl) rfl (by kernel_rfl) fun s153 f154 H155 e156 hf157 hm158 => ?_
   obtain ⟨a159, n160, c161, rfl⟩ := hm158.form
   have u163 := ((((m92.ext e129).fr e135 (hb130.djn m92.lt)).fr e148 (Dj.symm (i101.djn (hm43.lt.le (ntr e50.next e56.next))))).ext e156)
   obtain ⟨g164, r165⟩ := G_some r145
   obtain ⟨s166, H167, f168, q172, e169, hm170, hf171⟩ := Ow.append (P := Try.prog) 8 e156.wf u163 hm158.sq (fun _ _ => rfl) (at_ := #[22, 22]) rfl rfl (by kernel_rfl) (by kernel_rfl) (by decide) (by have := g164; first | omega | (simp only [List.length_cons, List.length_nil] at this ⊢; omega) | (simp at this ⊢; omega))
   obtain ⟨a173, n174, c175, rfl⟩ := hm170.form
   refine s_ek (.slice a173 n174 c175) (by kernel_rfl) (q172) ?_
   refine s_qk (.pointer (some ⟨b48, 1, none⟩)) (by kernel_rfl) ?_
   have u181 := ((u151.ext e156).frS e169 (i101.djn (r52.ltF.le e56.next)))
   obtain ⟨H177, q178, e179, r180⟩ := Row.store (P := Try.prog) (t := 22) (p := 1) e169.wf u181 (.slice a173 n174 c175) [.slice a173 n174 c175] (by kernel_rfl) (by kernel_rfl) (one_cons (hm170.one1) (one_nil)) (Nat.le_of_ble_eq_true (by kernel_rfl)) [.slice a44 n45 c46, .slice a173 n174 c175, .slice a115 n116 c117] (by kernel_rfl)
   refine s_ek (undef) (by kernel_rfl) (map_ok q178) ?_
   refine s_nil ?_
   refine k150 _ _ ?_
   refine w_reg (by kernel_rfl) ?_
   refine s_qk (.pointer (some ⟨b48, 2, none⟩)) (by kernel_rfl) ?_
   refine s_ql (.slice a115 n116 c117) (x := aLoad Try.prog 22 (.pointer (some ⟨b48, 2, none⟩)) H177) (by kernel_rfl) (r180.ld (by kernel_rfl)) ?_
   refine s_qk (.pointer (some ⟨b127, 2, none⟩)) (by kernel_rfl) ?_
   have u182 := (((u152.ext e156).frS e169 (Dj.symm (hb130.djn m92.lt))).frS e179 (Dj.symm (hb130.djn (r52.ltF.le (ntr e56.next e88.next)))))
   refine s_ql (.int .i64 ((gt Arcs i0).2.2)) (x := aLoad Try.prog 3 (.pointer (some ⟨b127, 2, none⟩)) H177) (by kernel_rfl) (u182.ld (by kernel_rfl)) ?_
   refine s_owk (enc := (encI .i64)) (sz := 1) e179.wf [(gt Arcs i0).2.2] 1 (by decide) (fun _ _ => rfl) (fun _ _ => rfl) rfl (by kernel_rfl) fun s183 f184 H185 e186 hf187 hm188 => ?_
   obtain ⟨a189, n190, c191, rfl⟩ := hm188.form
   have u193 := (((((((m96.ext e129).fr e135 (hb130.djn m96.lt)).fr e148 (Dj.symm (i102.djn (hm43.lt.le (ntr e50.next e56.next))))).ext e156).fr e169 d103).fr e179 (Dj.symm (i102.djn (r52.ltF.le e56.next)))).ext e186)
   obtain ⟨g194, r195⟩ := G_some r165
   obtain ⟨s196, H197, f198, q202, e199, hm200, hf201⟩ := Ow.append (P := Try.prog) 8 e186.wf u193 hm188.sq (fun _ _ => rfl) (at_ := #[22, 22]) rfl rfl (by kernel_rfl) (by kernel_rfl) (by decide) (by have := g194; first | omega | (simp only [List.length_cons, List.length_nil] at this ⊢; omega) | (simp at this ⊢; omega))
   obtain ⟨a203, n204, c205, rfl⟩ := hm200.form
   refine s_ek (.slice a203 n204 c205) (by kernel_rfl) (q202) ?_
   refine s_qk (.pointer (some ⟨b48, 2, none⟩)) (by kernel_rfl) ?_
   have u211 := ((r180.ext e186).frS e199 (i102.djn (r52.ltF.le e56.next)))
   obtain ⟨H207, q208, e209, r210⟩ := Row.store (P := Try.prog) (t := 22) (p := 2) e199.wf u211 (.slice a203 n204 c205) [.slice a203 n204 c205] (by kernel_rfl) (by kernel_rfl) (one_cons (hm200.one1) (one_nil)) (Nat.le_of_ble_eq_true (by kernel_rfl)) [.slice a44 n45 c46, .slice a173 n174 c175, .slice a203 n204 c205] (by kernel_rfl)
   refine s_ek (undef) (by kernel_rfl) (map_ok q208) ?_
   refine s_nil ?_
   refine k122 _ _ ?_
   refine w_reg (by kernel_rfl) ?_
   obtain ⟨g212, r213⟩ := G_some r195
   refine s_w ((i0 + 1)) (k := .i64) (x := (i0 + 1)) (by kernel_rfl) (wrap64 (by have := g212; omega)) ?_
   refine s_qk (.int .i64 (i0 + 1)) (by kernel_rfl) ?_
   refine s_nil ?_
   have u214 := ((((((hm149.ext e156).fr e169 (i101.djn (hm43.lt.le (ntr e50.next e56.next)))).fr e179 (hb51.djn hm43.lt)).ext e186).fr e199 (i102.djn (hm43.lt.le (ntr e50.next e56.next)))).fr e209 (hb51.djn hm43.lt))
   have u215 := ((((hm170.fr e179 (Dj.symm (hf171.dj (i101.djn (r52.ltF.le e56.next)) (r52.ltF.le (ntr (ntr (ntr (ntr (ntr e56.next e88.next) e129.next) e135.next) e148.next) e156.next))))).ext e186).fr e199 (Dj.symm (hf171.dj d103 (m96.lt.le (ntr (ntr (ntr e129.next e135.next) e148.next) e156.next))))).fr e209 (Dj.symm (hf171.dj (i101.djn (r52.ltF.le e56.next)) (r52.ltF.le (ntr (ntr (ntr (ntr (ntr e56.next e88.next) e129.next) e135.next) e148.next) e156.next)))))
   have u216 := (hm200.fr e209 (Dj.symm (hf201.dj (i102.djn (r52.ltF.le e56.next)) (r52.ltF.le (ntr (ntr (ntr (ntr (ntr (ntr (ntr (ntr e56.next e88.next) e129.next) e135.next) e148.next) e156.next) e169.next) e179.next) e186.next)))))
   obtain rfl := Option.some.inj r213
   exact k111 n106 _ _ (Nat.lt_succ_self _) ⟨(i0 + 1), (c1.set (((gt Arcs i0).1) + 1).toNat ((gt c1 (((gt Arcs i0).1) + 1)) + 1)), (c2 ++ [(gt Arcs i0).2.1]), (c3 ++ [(gt Arcs i0).2.2]), (.slice a173 n174 c175), f168, (.slice a203 n204 c205), f198, hn109, ⟨by kernel_rfl, by kernel_rfl, by kernel_rfl, by kernel_rfl, by kernel_rfl, by kernel_rfl, trivial⟩, (FrS.step e56.wf (FrS.step e56.wf ((FrS.step e56.wf (FrS.step e56.wf ((FrS.step e56.wf (FrS.step e56.wf ((FrS.step e56.wf (FrS.refl (W := ([b48] ++ f39)) e56.wf) e88 (Inn.app Inn.left (Inn.right Inn.refl'))).extR e129) e135 (hb130.fresh e88.next)) e148 (Inn.right Inn.refl')).extR e156) e169 (i101.fresh (Nat.le_refl _))) e179 Inn.left).extR e186) e199 (i102.fresh (Nat.le_refl _))) e209 Inn.left), u214, u215, u216, r210, (Inn.trans (i101.fresh (Nat.le_refl _)) (ntr (ntr (ntr (ntr e88.next e129.next) e135.next) e148.next) e156.next) hf171), (Inn.trans (i102.fresh (Nat.le_refl _)) (ntr (ntr (ntr (ntr (ntr (ntr (ntr e88.next e129.next) e135.next) e148.next) e156.next) e169.next) e179.next) e186.next) hf201), (Dj.symm (hf201.dj (Dj.symm (hf171.dj d103 (m96.lt.le (ntr (ntr (ntr e129.next e135.next) e148.next) e156.next)))) (hm170.lt.le (ntr e179.next e186.next))))⟩
  ·have r217 := ite_f h120 hz108
   refine w_exit (th_exit (th_exit (bl_eq ?_)))
   obtain rfl := Option.some.inj r217
   obtain rfl := it_inr hn109
   exact k83 _ _ ⟨(.slice a112 n113 c114), f94, (.slice a115 n116 c117), f98, ⟨by kernel_rfl, by kernel_rfl, by kernel_rfl, trivial⟩, (FrS.step e56.wf (FrS.refl (W := ([b48] ++ f39)) e56.wf) e88 (Inn.app Inn.left (Inn.right Inn.refl'))), m90, m92, m96, m100, (i101.fresh (Nat.le_refl _)), (i102.fresh (Nat.le_refl _)), d103⟩
 ·obtain ⟨s72, f73, s76, f77, hh84, e67, m69, m71, m75, m79, i80, i81, d82⟩ := hM
  obtain ⟨β, rfl⟩ := has_ex hh84
  clear hh84
  obtain ⟨a218, n219, c220, rfl⟩ := m71.form
  obtain ⟨a221, n222, c223, rfl⟩ := m75.form
  refine k59 _ _ ?_
  refine w_seqk fun K224 k224 => ?_
  refine w_seqk fun K225 k225 => ?_
  refine w_reg (by kernel_rfl) ?_
  refine s_qk (.pointer (some ⟨b20, 0, none⟩)) (by kernel_rfl) ?_
  have u226 := (u61.frS e67 (Dj.app (hb51.djn (r24.ltF.le (ntr e28.next e41.next))) (hf42.djn (r24.ltF.le e28.next))))
  refine s_ql (.int .i64 N_) (x := aLoad Try.prog 3 (.pointer (some ⟨b20, 0, none⟩)) H66) (by kernel_rfl) (u226.ld (by kernel_rfl)) ?_
  refine s_qk (.int .i64 0) (by kernel_rfl) ?_
  refine s_nil ?_
  refine k225 _ _ ?_
  obtain ⟨o227, hx228, r229⟩ := bind_some r65
  refine w_mid (fun α H230 => Has α [(2, .pointer (some ⟨b26, 0, none⟩)), (3, .pointer (some ⟨b48, 0, none⟩))] ∧ FrS f39 H66 H230 ∧ Ow (encI .i64) 1 H230 (.slice a44 n45 c46) o227 f39) (fun K234 k234 => ?_) (fun α H230 hM => ?_)
  ·refine w_block ?_
   obtain ⟨n236, hn237⟩ := loopO_iff.1 hx228
   refine w_loopn (fun n α H238 => ∃ (c4 : List (Int)), ∃ (i5 : Int), iterO (fun zz_ => z_csr_flat_l1 N_ zz_.1 zz_.2) n (c4, i5) = some o227 ∧ Has α [(2, .pointer (some ⟨b26, 0, none⟩)), (3, .pointer (some ⟨b48, 0, none⟩)), (44, .int .i64 N_), (45, .int .i64 i5)] ∧ FrS f39 H66 H238 ∧ Ow (encI .i64) 1 H238 (.slice a44 n45 c46) c4 f39) n236 ⟨o63.1, 0, hn237, ⟨by kernel_rfl, by kernel_rfl, by kernel_rfl, by kernel_rfl, trivial⟩, (FrS.refl (W := f39) e67.wf), m69⟩ ?_
   rintro n236 α H238 ⟨c4, i5, hi243, hh242, e239, m241⟩ K248 k248
   obtain ⟨n244, z245, rfl, hz246, hn247⟩ := iter_succ hi243
   obtain ⟨β, rfl⟩ := has_ex hh242
   clear hh242
   replace hz246 : z_csr_flat_l1 N_ c4 i5 = some z245 := hz246
   unfold z_csr_flat_l1 at hz246
   refine w_seqk fun K249 k249 => ?_
   refine w_reg (by kernel_rfl) ?_
   refine s_qk (.bool (decide (i5 < N_))) (by kernel_rfl) ?_
   refine s_nil ?_
   refine k249 _ _ ?_
   refine w_seqk fun K250 k250 => ?_
   refine w_condp (i5 < N_) (by kernel_rfl) rfl (fun h251 => ?_) (fun h251 => ?_)
   ·have r252 := ite_t h251 hz246
    refine w_skip ?_
    refine k250 _ _ ?_
    refine w_seqk fun K253 k253 => ?_
    refine w_block ?_
    refine w_seqk fun K254 k254 => ?_
    refine w_reg (by kernel_rfl) ?_
    refine s_qk (.int .i64 i5) (by kernel_rfl) ?_
    refine s_qk (.int .i64 i5) (by kernel_rfl) ?_
    refine s_nil ?_
    refine k254 _ _ ?_
    refine w_draw [0, 1, 2, 3, 4, 5, 6, 7, 8, 9, 10, 11, 12, 13] (by kernel_rfl) ?_
    refine d_qk (.pointer (some ⟨b48, 0, none⟩)) (by kernel_rfl) ?_
    have u255 := (m79.frS e239 (Dj.symm (hb51.djn hm43.lt)))
    refine d_ql (.slice a44 n45 c46) (x := aLoad Try.prog 22 (.pointer (some ⟨b48, 0, none⟩)) H238) (by kernel_rfl) (u255.ld (by kernel_rfl)) ?_
    refine d_qk (.int .i64 i5) (by kernel_rfl) ?_
    obtain ⟨g256, r257⟩ := G_some r252
    refine d_w ((i5 + 1)) (k := .i64) (x := (i5 + 1)) (by kernel_rfl) (wrap64 g256) ?_
    obtain ⟨g258, r259⟩ := G_some r257
    refine d_ql (elp (.slice a44 n45 c46) 1 (i5 + 1).toNat 0) (x := aIndexAddr Try.prog 22 (.slice a44 n45 c46) (.int .i64 (i5 + 1))) (by kernel_rfl) (m241.sq.idxb (by kernel_rfl) g258.1 g258.2) ?_
    refine d_ql (.int .i64 (gt c4 (i5 + 1))) (x := aLoad Try.prog 3 (elp (.slice a44 n45 c46) 1 (i5 + 1).toNat 0) H238) (by kernel_rfl) (m241.sq.ld g258.1 g258.2 (by kernel_rfl)) ?_
    refine d_qk (.pointer (some ⟨b48, 0, none⟩)) (by kernel_rfl) ?_
    refine d_ql (.slice a44 n45 c46) (x := aLoad Try.prog 22 (.pointer (some ⟨b48, 0, none⟩)) H238) (by kernel_rfl) (u255.ld (by kernel_rfl)) ?_
    refine d_qk (.int .i64 i5) (by kernel_rfl) ?_
    obtain ⟨g260, r261⟩ := G_some r259
    refine d_ql (elp (.slice a44 n45 c46) 1 i5.toNat 0) (x := aIndexAddr Try.prog 22 (.slice a44 n45 c46) (.int .i64 i5)) (by kernel_rfl) (m241.sq.idxb (by kernel_rfl) g260.1 g260.2) ?_
    refine d_ql (.int .i64 (gt c4 i5)) (x := aLoad Try.prog 3 (elp (.slice a44 n45 c46) 1 i5.toNat 0) H238) (by kernel_rfl) (m241.sq.ld g260.1 g260.2 (by kernel_rfl)) ?_
    obtain ⟨g262, r263⟩ := G_some r261
    refine d_w (((gt c4 (i5 + 1)) + (gt c4 i5))) (k := .i64) (x := ((gt c4 (i5 + 1)) + (gt c4 i5))) (by kernel_rfl) (wrap64 g262) ?_
    refine d_ql (elp (.slice a44 n45 c46) 1 (i5 + 1).toNat 0) (x := aIndexAddr Try.prog 22 (.slice a44 n45 c46) (.int .i64 (i5 + 1))) (by kernel_rfl) (m241.sq.idxb (by kernel_rfl) g258.1 g258.2) ?_
    obtain ⟨H264, q265, e266, hm267⟩ := Ow.store (P := Try.prog) (t := 3) (off := 0) e239.wf m241 g258.1 g258.2 (.int .i64 ((gt c4 (i5 + 1)) + (gt c4 i5))) [.int .i64 ((gt c4 (i5 + 1)) + (gt c4 i5))] (by kernel_rfl) (by kernel_rfl) rfl ((gt c4 (i5 + 1)) + (gt c4 i5)) (Nat.le_of_ble_eq_true rfl) (by kernel_rfl)
    refine d_ek (undef) (by kernel_rfl) (map_ok q265) (st_nil) ?_
    refine d_nil ?_
    refine k253 _ _ ?_
    refine w_reg (by kernel_rfl) ?_
    obtain ⟨g268, r269⟩ := G_some r263
    refine s_w ((i5 + 1)) (k := .i64) (x := (i5 + 1)) (by kernel_rfl) (wrap64 (by have := g268; omega)) ?_
    refine s_qk (.int .i64 (i5 + 1)) (by kernel_rfl) ?_
    refine s_nil ?_
    obtain rfl := Option.some.inj r269
    exact k248 n244 _ _ (Nat.lt_succ_self _) ⟨(c4.set (i5 + 1).toNat ((gt c4 (i5 + 1)) + (gt c4 i5))), (i5 + 1), hn247, ⟨by kernel_rfl, by kernel_rfl, by kernel_rfl, by kernel_rfl, trivial⟩, (FrS.step e67.wf (FrS.step e67.wf (FrS.refl (W := f39) e67.wf) e239 Inn.refl') e266 Inn.refl'), hm267⟩
   ·have r270 := ite_f h251 hz246
    refine w_exit (th_exit (th_exit (bl_eq ?_)))
    obtain rfl := Option.some.inj r270
    obtain rfl := it_inr hn247
    exact k234 _ _ ⟨⟨by kernel_rfl, by kernel_rfl, trivial⟩, (FrS.step e67.wf (FrS.refl (W := f39) e67.wf) e239 Inn.refl'), m241⟩
  ·obtain ⟨hh235, e231, m233⟩ := hM
   obtain ⟨β, rfl⟩ := has_ex hh235
   clear hh235
   refine k224 _ _ ?_
   refine w_seqk fun K271 k271 => ?_
   refine w_reg (by kernel_rfl) ?_
   have u272 := (m79.frS e231 (Dj.symm (hb51.djn hm43.lt)))
   refine s_ql (.agg #[.slice a44 n45 c46, .slice a218 n219 c220, .slice a221 n222 c223]) (x := aLoad Try.prog 27 (.pointer (some ⟨b48, 0, none⟩)) H230) (by kernel_rfl) (u272.ld (by kernel_rfl)) ?_
   have u277 := (((((r30.ext e41).ext e50).frS e56 (hb51.djn (r30.ltF.le e41.next))).frS e67 (Dj.app (hb51.djn (r30.ltF.le e41.next)) (hf42.djn r30.ltF))).frS e231 (hf42.djn r30.ltF))
   have u278 := (m75.fr e231 (Dj.symm (i81.djn (hm43.lt.le (ntr e50.next e56.next)))))
   have u279 := (m71.fr e231 (Dj.symm (i80.djn (hm43.lt.le (ntr e50.next e56.next)))))
   obtain ⟨H273, q274, e275, r276⟩ := Row.store (P := Try.prog) (t := 27) (p := 0) e231.wf u277 (.agg #[.slice a44 n45 c46, .slice a218 n219 c220, .slice a221 n222 c223]) [.slice a44 n45 c46, .slice a218 n219 c220, .slice a221 n222 c223] (by kernel_rfl) (by kernel_rfl) (one_cons (m233.one1) (one_cons (u279.one1) (one_cons (u278.one1) (one_nil)))) (Nat.le_of_ble_eq_true (by kernel_rfl)) [.slice a44 n45 c46, .slice a218 n219 c220, .slice a221 n222 c223] (by kernel_rfl)
   refine s_ek (undef) (by kernel_rfl) (map_ok q274) ?_
   refine s_nil ?_
   refine k271 _ _ ?_
   refine w_ret ?_
   refine b_ret (fn := Try.f106) (vs := [.agg #[.slice a44 n45 c46, .slice a218 n219 c220, .slice a221 n222 c223]]) (aRes_cell (Eq.trans (b := aLoad Try.prog 27 (.pointer (some ⟨b26, 0, none⟩)) H273) (by kernel_rfl) (r276.ld (by kernel_rfl))) (rfl)) ?_
   have u280 := (m233.fr e275 (Dj.symm (hf42.djn r30.ltF)))
   have u281 := (u279.fr e275 (Dj.symm (i80.djn (r30.ltF.le (ntr (ntr e41.next e50.next) e56.next)))))
   have u282 := (u278.fr e275 (Dj.symm (i81.djn (r30.ltF.le (ntr (ntr e41.next e50.next) e56.next)))))
   obtain rfl := Option.some.inj r229
   exact ⟨(.slice a44 n45 c46), f39, (.slice a218 n219 c220), f73, (.slice a221 n222 c223), f77, rfl, (FrS.step wf (FrS.step wf (FrS.step wf (FrS.step wf (((((FrS.refl (W := []) wf).extR e22).extR e28).extR e41).extR e50) e56 (hb51.fresh (ntr (ntr e22.next e28.next) e41.next))) e67 (Inn.app (hb51.fresh (ntr (ntr e22.next e28.next) e41.next)) (hf42.fresh (ntr e22.next e28.next)))) e231 (hf42.fresh (ntr e22.next e28.next))) e275 (hb29.fresh e22.next)), u280, u281, u282, (hf42.fresh (ntr e22.next e28.next)), (i80.fresh (ntr (ntr (ntr (ntr e22.next e28.next) e41.next) e50.next) e56.next)), (i81.fresh (ntr (ntr (ntr (ntr e22.next e28.next) e41.next) e50.next) e56.next)), (Dj.symm (i80.djn (hm43.lt.le (ntr e50.next e56.next)))), (Dj.symm (i81.djn (hm43.lt.le (ntr e50.next e56.next)))), d82⟩

theorem c_csr_Build {H : AH} {hd_Arcs : Value} {fp_Arcs : Fp} {N_ : Int} {Arcs : List (Int × Int × Int)} {r : List (Int) × List (Int) × List (Int) × Er}
  (wf : WF H) (h_Arcs : Sq enc_i64_i64_i64 3 H hd_Arcs Arcs fp_Arcs) (hr : z_csr_Build N_ Arcs = some r) :
  ACalls Try.prog 48 #[.agg #[.int .i64 N_, hd_Arcs]] H fun v H' => ∃ (s3 : Value) (f4 : Fp) (s7 : Value) (f8 : Fp) (s11 : Value) (f12 : Fp) (v15 : Value) (f16 : Fp), v = .tuple #[.agg #[s3, s7, s11], v15] ∧ FrS [] H H' ∧ Ow (encI .i64) 1 H' s3 r.1 f4 ∧ Ow (encI .i64) 1 H' s7 r.2.1 f8 ∧ Ow (encI .i64) 1 H' s11 r.2.2.1 f12 ∧ Ev 122 235 H' v15 r.2.2.2 f16 ∧ Inn [] H f4 ∧ Inn [] H f8 ∧ Inn [] H f12 ∧ Inn [] H f16 ∧ Dj f4 f8 ∧ Dj f4 f12 ∧ Dj f8 f12 ∧ Dj f4 f16 ∧ Dj f8 f16 ∧ Dj f12 f16 := by
 refine acalls_of_body mixed Try.func48 rfl (Nat.le_of_ble_eq_true rfl) ?_
 unfold z_csr_Build at hr
 refine w_seqk fun K27 k27 => ?_
 refine w_reg (by kernel_rfl) ?_
 refine s_rwl wf [.int .i64 N_, hd_Arcs] (one_cons (rfl) (one_cons (h_Arcs.one1) (one_nil))) (by kernel_rfl) fun b28 H29 e30 hb31 r32 => ?_
 refine s_rwk e30.wf [.slice none 0 0, .slice none 0 0, .slice none 0 0] (by kernel_rfl) fun b34 H35 e36 hb37 r38 => ?_
 refine s_qk (.nilIface) (by kernel_rfl) ?_
 refine s_nil ?_
 refine k27 _ _ ?_
 refine w_seqk fun K40 k40 => ?_
 refine w_reg (by kernel_rfl) ?_
 have u41 := (r32.ext e36)
 refine s_ql (.agg #[.int .i64 N_, hd_Arcs]) (x := aLoad Try.prog 59 (.pointer (some ⟨b28, 0, none⟩)) H35) (by kernel_rfl) (u41.ld (by kernel_rfl)) ?_
 have u42 := ((h_Arcs.ext e30).ext e36)
 obtain ⟨y43, hy44, r45⟩ := bind_some hr
 refine s_ck 24 #[.agg #[.int .i64 N_, hd_Arcs]] (by kernel_rfl) (c_normal_Of e36.wf u42 hy44) ?_
 rintro _ H50 ⟨s46, f47, v48, f49, rfl, e51, m52, m53, i54, i55, d56⟩
 obtain ⟨a59, n60, c61, rfl⟩ := m52.form
 refine s_qk (.tuple #[.agg #[.int .i64 y43.1, .slice a59 n60 c61], v48]) (by kernel_rfl) ?_
 refine s_qk (.agg #[.int .i64 y43.1, .slice a59 n60 c61]) (by kernel_rfl) ?_
 refine s_qk (v48) (by kernel_rfl) ?_
 refine s_rwk e51.wf [.int .i64 0, .slice none 0 0] (by kernel_rfl) fun b62 H63 e64 hb65 r66 => ?_
 have u72 := (m52.ext e64)
 obtain ⟨H68, q69, e70, r71⟩ := Row.store (P := Try.prog) (t := 59) (p := 0) e64.wf r66 (.agg #[.int .i64 y43.1, .slice a59 n60 c61]) [.int .i64 y43.1, .slice a59 n60 c61] (by kernel_rfl) (by kernel_rfl) (one_cons (rfl) (one_cons (u72.one1) (one_nil))) (Nat.le_of_ble_eq_true (by kernel_rfl)) [.int .i64 y43.1, .slice a59 n60 c61] (by kernel_rfl)
 refine s_ek (undef) (by kernel_rfl) (map_ok q69) ?_
 refine s_qk (v48) (by kernel_rfl) ?_
 refine s_nil ?_
 refine k40 _ _ ?_
 refine w_seqk fun K73 k73 => ?_
 refine w_seqk fun K74 k74 => ?_
 refine w_reg (by kernel_rfl) ?_
 refine s_qk (v48) (by kernel_rfl) ?_
 have u78 := ((m53.ext e64).fr e70 (hb65.djn m53.lt))
 rcases (u78).cases with ⟨h75, rfl⟩ | ⟨h75, t76, x77, rfl⟩
 ·have r79 := ite_t h75 r45
  refine s_qk (.bool false) (by kernel_rfl) ?_
  refine s_nil ?_
  refine k74 _ _ ?_
  refine w_cond false (by kernel_rfl) rfl (fun h => by cases h) (fun _ => ?_)
  refine w_skip ?_
  refine k73 _ _ ?_
  refine w_seqk fun K80 k80 => ?_
  refine w_reg (by kernel_rfl) ?_
  refine s_ql (.agg #[.int .i64 y43.1, .slice a59 n60 c61]) (x := aLoad Try.prog 59 (.pointer (some ⟨b62, 0, none⟩)) H68) (by kernel_rfl) (r71.ld (by kernel_rfl)) ?_
  have u81 := (u72.fr e70 (hb65.djn m52.lt))
  obtain ⟨y82, hy83, r84⟩ := bind_some r79
  refine s_ck 106 #[.agg #[.int .i64 y43.1, .slice a59 n60 c61]] (by kernel_rfl) (c_csr_flat e70.wf u81.sq hy83) ?_
  rintro _ H91 ⟨s85, f86, s87, f88, s89, f90, rfl, e92, m93, m94, m95, i96, i97, i98, d99, d100, d101⟩
  obtain ⟨a105, n106, c107, rfl⟩ := m93.form
  obtain ⟨a108, n109, c110, rfl⟩ := m94.form
  obtain ⟨a111, n112, c113, rfl⟩ := m95.form
  have u118 := ((((r38.frS e51 Dj.nil_l).ext e64).frS e70 (hb65.djn (r38.ltF.le e51.next))).frS e92 Dj.nil_l)
  obtain ⟨H114, q115, e116, r117⟩ := Row.store (P := Try.prog) (t := 27) (p := 0) e92.wf u118 (.agg #[.slice a105 n106 c107, .slice a108 n109 c110, .slice a111 n112 c113]) [.slice a105 n106 c107, .slice a108 n109 c110, .slice a111 n112 c113] (by kernel_rfl) (by kernel_rfl) (one_cons (m93.one1) (one_cons (m94.one1) (one_cons (m95.one1) (one_nil)))) (Nat.le_of_ble_eq_true (by kernel_rfl)) [.slice a105 n106 c107, .slice a108 n109 c110, .slice a111 n112 c113] (by kernel_rfl)
  refine s_ek (undef) (by kernel_rfl) (map_ok q115) ?_
  refine s_qk (.nilIface) (by kernel_rfl) ?_
  refine s_nil ?_
  refine k80 _ _ ?_
  refine w_ret ?_
  refine b_ret (fn := Try.f48) (vs := [.agg #[.slice a105 n106 c107, .slice a108 n109 c110, .slice a111 n112 c113], .nilIface]) (aRes_cell (Eq.trans (b := aLoad Try.prog 27 (.pointer (some ⟨b34, 0, none⟩)) H114) (by kernel_rfl) (r117.ld (by kernel_rfl))) (aRes_tmp (by kernel_rfl) (rfl))) ?_
  have u119 := (m93.fr e116 (Dj.symm (i96.djn (r38.ltF.le (ntr (ntr e51.next e64.next) e70.next)))))
  have u120 := (m94.fr e116 (Dj.symm (i97.djn (r38.ltF.le (ntr (ntr e51.next e64.next) e70.next)))))
  have u121 := (m95.fr e116 (Dj.symm (i98.djn (r38.ltF.le (ntr (ntr e51.next e64.next) e70.next)))))
  obtain rfl := Option.some.inj r84
  exact ⟨(.slice a105 n106 c107), f86, (.slice a108 n109 c110), f88, (.slice a111 n112 c113), f90, (.nilIface), [], rfl, (FrS.step wf (FrS.step wf (FrS.step wf ((FrS.step wf (((FrS.refl (W := []) wf).extR e30).extR e36) e51 Inn.nil).extR e64) e70 (hb65.fresh (ntr (ntr e30.next e36.next) e51.next))) e92 Inn.nil) e116 (hb37.fresh e30.next)), u119, u120, u121, Ev.nil, (i96.fresh (ntr (ntr (ntr (ntr e30.next e36.next) e51.next) e64.next) e70.next)), (i97.fresh (ntr (ntr (ntr (ntr e30.next e36.next) e51.next) e64.next) e70.next)), (i98.fresh (ntr (ntr (ntr (ntr e30.next e36.next) e51.next) e64.next) e70.next)), Inn.nil, d99, d100, d101, Dj.nil_r, Dj.nil_r, Dj.nil_r⟩
 ·have r122 := ite_f h75 r45
  refine s_ql (.bool true) (x := aBin Try.prog .neq 31 (.tmp 11) (.const .nilIface) (.iface t76 x77) .nilIface) (by kernel_rfl) (aBin_nnil (by kernel_rfl)) ?_
  refine s_nil ?_
  refine k74 _ _ ?_
  refine w_cond true (by kernel_rfl) rfl (fun _ => ?_) (fun h => by cases h)
  refine w_seqk fun K123 k123 => ?_
  refine w_reg (by kernel_rfl) ?_
  refine s_qk (.agg #[.slice none 0 0, .slice none 0 0, .slice none 0 0]) (by kernel_rfl) ?_
  refine s_qk (.iface t76 x77) (by kernel_rfl) ?_
  have u128 := (((r38.frS e51 Dj.nil_l).ext e64).frS e70 (hb65.djn (r38.ltF.le e51.next)))
  obtain ⟨H124, q125, e126, r127⟩ := Row.store (P := Try.prog) (t := 27) (p := 0) e70.wf u128 (.agg #[.slice none 0 0, .slice none 0 0, .slice none 0 0]) [.slice none 0 0, .slice none 0 0, .slice none 0 0] (by kernel_rfl) (by kernel_rfl) (one_cons (rfl) (one_cons (rfl) (one_cons (rfl) (one_nil)))) (Nat.le_of_ble_eq_true (by kernel_rfl)) [.slice none 0 0, .slice none 0 0, .slice none 0 0] (by kernel_rfl)
  refine s_ek (undef) (by kernel_rfl) (map_ok q125) ?_
  refine s_qk (.iface t76 x77) (by kernel_rfl) ?_
  refine s_nil ?_
  refine k123 _ _ ?_
  refine w_ret (th_ret ?_)
  refine b_ret (fn := Try.f48) (vs := [.agg #[.slice none 0 0, .slice none 0 0, .slice none 0 0], .iface t76 x77]) (aRes_cell (Eq.trans (b := aLoad Try.prog 27 (.pointer (some ⟨b34, 0, none⟩)) H124) (by kernel_rfl) (r127.ld (by kernel_rfl))) (aRes_tmp (by kernel_rfl) (rfl))) ?_
  have u129 := (u78.fr e126 (Dj.symm (i55.djn r38.ltF)))
  obtain rfl := Option.some.inj r122
  exact ⟨(.slice none 0 0), [], (.slice none 0 0), [], (.slice none 0 0), [], (.iface t76 x77), f49, rfl, (FrS.step wf (FrS.step wf ((FrS.step wf (((FrS.refl (W := []) wf).extR e30).extR e36) e51 Inn.nil).extR e64) e70 (hb65.fresh (ntr (ntr e30.next e36.next) e51.next))) e126 (hb37.fresh e30.next)), (Ow.nil (by decide)), (Ow.nil (by decide)), (Ow.nil (by decide)), u129, Inn.nil, Inn.nil, Inn.nil, (i55.fresh (ntr e30.next e36.next)), Dj.nil_l, Dj.nil_l, Dj.nil_l, Dj.nil_l, Dj.nil_l, Dj.nil_l⟩

theorem c_csr_Csr_nodes {H : AH} {hd_First : Value} {fp_First : Fp} {hd_To : Value} {fp_To : Fp} {hd_Weight : Value} {fp_Weight : Fp} {First : List (Int)} {To : List (Int)} {Weight : List (Int)} {r : Int}
  (wf : WF H) (h_First : Sq (encI .i64) 1 H hd_First First fp_First) (h_To : Sq (encI .i64) 1 H hd_To To fp_To) (h_Weight : Sq (encI .i64) 1 H hd_Weight Weight fp_Weight) (hr : z_csr_Csr_nodes First To Weight = some r) :
  ACalls Try.prog 107 #[.agg #[hd_First, hd_To, hd_Weight]] H fun v H' => v = .int .i64 r ∧ FrS [] H H' := by
 refine acalls_of_body mixed Try.func107 rfl (Nat.le_of_ble_eq_true rfl) ?_
 unfold z_csr_Csr_nodes at hr
 refine w_seqk fun K1 k1 => ?_
 refine w_reg (by kernel_rfl) ?_
 refine s_rwl wf [hd_First, hd_To, hd_Weight] (one_cons (h_First.one1) (one_cons (h_To.one1) (one_cons (h_Weight.one1) (one_nil)))) (by kernel_rfl) fun b2 H3 e4 hb5 r6 => ?_
 refine s_qk (.int .i64 0) (by kernel_rfl) ?_
 refine s_nil ?_
 refine k1 _ _ ?_
 refine w_seqk fun K8 k8 => ?_
 refine w_reg (by kernel_rfl) ?_
 refine s_qk (.pointer (some ⟨b2, 0, none⟩)) (by kernel_rfl) ?_
 refine s_ql (hd_First) (x := aLoad Try.prog 22 (.pointer (some ⟨b2, 0, none⟩)) H3) (by kernel_rfl) (r6.ld (by kernel_rfl)) ?_
 have u9 := (h_First.ext e4)
 refine s_ql (.int .i64 (First.length : Int)) (x := aLen Try.prog 22 hd_First H3) (by kernel_rfl) (u9.lenb (by kernel_rfl)) ?_
 obtain ⟨g10, r11⟩ := G_some hr
 refine s_w (((First.length : Int) - 1)) (k := .i64) (x := ((First.length : Int) - 1)) (by kernel_rfl) (wrap64 g10) ?_
 refine s_qk (.int .i64 ((First.length : Int) - 1)) (by kernel_rfl) ?_
 refine s_nil ?_
 refine k8 _ _ ?_
 refine w_ret ?_
 refine b_ret (fn := Try.f107) (vs := [.int .i64 ((First.length : Int) - 1)]) (aRes_tmp (by kernel_rfl) (rfl)) ?_
 obtain rfl := Option.some.inj r11
 exact ⟨rfl, ((FrS.refl (W := []) wf).extR e4)⟩

theorem c_csr_Csr_arc {H : AH} {hd_First : Value} {fp_First : Fp} {hd_To : Value} {fp_To : Fp} {hd_Weight : Value} {fp_Weight : Fp} {First : List (Int)} {To : List (Int)} {Weight : List (Int)} {v_ : Int} {i : Int} {r : Er}
  (wf : WF H) (h_First : Sq (encI .i64) 1 H hd_First First fp_First) (h_To : Sq (encI .i64) 1 H hd_To To fp_To) (h_Weight : Sq (encI .i64) 1 H hd_Weight Weight fp_Weight) (hr : z_csr_Csr_arc First To Weight v_ i = some r) :
  ACalls Try.prog 120 #[.agg #[hd_First, hd_To, hd_Weight], .int .i64 v_, .int .i64 i] H fun v H' => ∃ (v3 : Value) (f4 : Fp), v = v3 ∧ FrS [] H H' ∧ Ev 122 235 H' v3 r f4 ∧ Inn [] H f4 := by
 refine acalls_of_body mixed Try.func120 rfl (Nat.le_of_ble_eq_true rfl) ?_
 unfold z_csr_Csr_arc at hr
 refine w_seqk fun K6 k6 => ?_
 refine w_reg (by kernel_rfl) ?_
 refine s_rwl wf [hd_First, hd_To, hd_Weight] (one_cons (h_First.one1) (one_cons (h_To.one1) (one_cons (h_Weight.one1) (one_nil)))) (by kernel_rfl) fun b7 H8 e9 hb10 r11 => ?_
 refine s_qk (.nilIface) (by kernel_rfl) ?_
 refine s_nil ?_
 refine k6 _ _ ?_
 refine w_seqk fun K13 k13 => ?_
 refine w_reg (by kernel_rfl) ?_
 refine s_qk (.pointer (some ⟨b7, 1, none⟩)) (by kernel_rfl) ?_
 refine s_ql (hd_To) (x := aLoad Try.prog 22 (.pointer (some ⟨b7, 1, none⟩)) H8) (by kernel_rfl) (r11.ld (by kernel_rfl)) ?_
 refine s_qk (.int .i64 i) (by kernel_rfl) ?_
 obtain ⟨g14, r15⟩ := G_some hr
 have u16 := (h_To.ext e9)
 refine s_ql (elp hd_To 1 i.toNat 0) (x := aIndexAddr Try.prog 22 hd_To (.int .i64 i)) (by kernel_rfl) (u16.idxb (by kernel_rfl) g14.1 g14.2) ?_
 refine s_ql (.int .i64 (gt To i)) (x := aLoad Try.prog 3 (elp hd_To 1 i.toNat 0) H8) (by kernel_rfl) (u16.ld g14.1 g14.2 (by kernel_rfl)) ?_
 refine s_qk (.int .i64 (gt To i)) (by kernel_rfl) ?_
 refine s_nil ?_
 refine k13 _ _ ?_
 refine w_seqk fun K17 k17 => ?_
 refine w_block ?_
 refine w_seqk fun K18 k18 => ?_
 obtain ⟨o19, hx20, r21⟩ := bind_some r15
 refine w_mid (fun α H22 => Has α [(1, .int .i64 v_), (2, .int .i64 i), (3, .pointer (some ⟨b7, 0, none⟩)), (7, .int .i64 (gt To i)), (13, .bool o19)] ∧ FrS [] H8 H22) (fun K24 k24 => ?_) (fun α H22 hM => ?_)
 ·refine w_reg (by kernel_rfl) ?_
  refine s_qk (.int .i64 (gt To i)) (by kernel_rfl) ?_
  refine s_b ((gt To i) < 0) (by kernel_rfl) (fun h26 => ?_) (fun h26 => ?_)
  ·have r27 := ite_t h26 hx20
   refine s_qk (.bool true) (by kernel_rfl) ?_
   refine s_no (by kernel_rfl) ?_
   refine s_no (by kernel_rfl) ?_
   refine s_no (by kernel_rfl) ?_
   refine s_no (by kernel_rfl) ?_
   refine s_qk (.bool true) (by kernel_rfl) ?_
   refine s_qk (.bool true) (by kernel_rfl) ?_
   refine s_nil ?_
   obtain rfl := Option.some.inj r27
   exact k24 _ _ ⟨⟨by kernel_rfl, by kernel_rfl, by kernel_rfl, by kernel_rfl, by kernel_rfl, trivial⟩, (FrS.refl (W := []) e9.wf)⟩
  ·have r28 := ite_f h26 hx20
   refine s_qk (.bool false) (by kernel_rfl) ?_
   refine s_qk (.int .i64 (gt To i)) (by kernel_rfl) ?_
   refine s_ql (.agg #[hd_First, hd_To, hd_Weight]) (x := aLoad Try.prog 27 (.pointer (some ⟨b7, 0, none⟩)) H8) (by kernel_rfl) (r11.ld (by kernel_rfl)) ?_
   have u29 := (h_First.ext e9)
   have u30 := (h_Weight.ext e9)
   obtain ⟨y31, hy32, r33⟩ := bind_some r28
   refine s_ck 107 #[.agg #[hd_First, hd_To, hd_Weight]] (by kernel_rfl) (c_csr_Csr_nodes e9.wf u29 u16 u30 hy32) ?_
   rintro _ H34 ⟨rfl, e35⟩
   refine s_qk (.bool (decide ((gt To i) ≥ y31))) (by kernel_rfl) ?_
   refine s_qk (.bool (decide ((gt To i) ≥ y31))) (by kernel_rfl) ?_
   refine s_qk (.bool (decide ((gt To i) ≥ y31))) (by kernel_rfl) ?_
   refine s_nil ?_
   obtain rfl := Option.some.inj r33
   exact k24 _ _ ⟨⟨by kernel_rfl, by kernel_rfl, by kernel_rfl, by kernel_rfl, by kernel_rfl, trivial⟩, (FrS.step e9.wf (FrS.refl (W := []) e9.wf) e35 Inn.nil)⟩
 ·obtain ⟨hh25, e23⟩ := hM
  obtain ⟨β, rfl⟩ := has_ex hh25
  clear hh25
  refine k18 _ _ ?_
  refine w_cond (o19) (by kernel_rfl) rfl (fun h36 => ?_) (fun h36 => ?_)
  ·have r37 := ite_t h36 r21
   refine w_seqk fun K38 k38 => ?_
   refine w_reg (by kernel_rfl) ?_
   refine s_qk (.iface 122 (.int .i64 7)) (by kernel_rfl) ?_
   refine s_qk (.iface 122 (.int .i64 7)) (by kernel_rfl) ?_
   refine s_nil ?_
   refine k38 _ _ ?_
   refine w_ret (bl_ret (th_ret ?_))
   refine b_ret (fn := Try.f120) (vs := [.iface 122 (.int .i64 7)]) (aRes_tmp (by kernel_rfl) (rfl)) ?_
   obtain rfl := Option.some.inj r37
   exact ⟨(.iface 122 (.int .i64 7)), [], rfl, (FrS.step wf ((FrS.refl (W := []) wf).extR e9) e23 Inn.nil), Ev.no, Inn.nil⟩
  ·have r39 := ite_bf h36 r21
   refine w_seqk fun K40 k40 => ?_
   obtain ⟨o41, hx42, r43⟩ := bind_some r39
   refine w_mid (fun α H44 => Has α [(2, .int .i64 i), (3, .pointer (some ⟨b7, 0, none⟩)), (23, .bool o41)] ∧ H22 = H44) (fun K46 k46 => ?_) (fun α H44 hM => ?_)
   ·refine w_reg (by kernel_rfl) ?_
    refine s_qk (.int .i64 (gt To i)) (by kernel_rfl) ?_
    refine s_qk (.int .i64 v_) (by kernel_rfl) ?_
    refine s_b ((gt To i) = v_) (by kernel_rfl) (fun h48 => ?_) (fun h48 => ?_)
    ·have r49 := ite_t h48 hx42
     refine s_qk (.bool true) (by kernel_rfl) ?_
     refine s_no (by kernel_rfl) ?_
     refine s_no (by kernel_rfl) ?_
     refine s_no (by kernel_rfl) ?_
     refine s_no (by kernel_rfl) ?_
     refine s_no (by kernel_rfl) ?_
     refine s_no (by kernel_rfl) ?_
     refine s_no (by kernel_rfl) ?_
     refine s_no (by kernel_rfl) ?_
     refine s_no (by kernel_rfl) ?_
     refine s_no (by kernel_rfl) ?_
     refine s_no (by kernel_rfl) ?_
     refine s_no (by kernel_rfl) ?_
     refine s_no (by kernel_rfl) ?_
     refine s_no (by kernel_rfl) ?_
     refine s_no (by kernel_rfl) ?_
     refine s_no (by kernel_rfl) ?_
     refine s_no (by kernel_rfl) ?_
     refine s_qk (.bool true) (by kernel_rfl) ?_
     refine s_qk (.bool true) (by kernel_rfl) ?_
     refine s_nil ?_
     obtain rfl := Option.some.inj r49
     exact k46 _ _ ⟨⟨by kernel_rfl, by kernel_rfl, by kernel_rfl, trivial⟩, rfl⟩
    ·have r50 := ite_f h48 hx42
     refine s_qk (.bool false) (by kernel_rfl) ?_
     refine s_qk (.int .i64 i) (by kernel_rfl) ?_
     refine s_qk (.pointer (some ⟨b7, 0, none⟩)) (by kernel_rfl) ?_
     have u51 := (r11.frS e23 Dj.nil_l)
     refine s_ql (hd_First) (x := aLoad Try.prog 22 (.pointer (some ⟨b7, 0, none⟩)) H22) (by kernel_rfl) (u51.ld (by kernel_rfl)) ?_
     refine s_qk (.int .i64 v_) (by kernel_rfl) ?_
     obtain ⟨g52, r53⟩ := G_some r50
     have u54 := ((h_First.ext e9).fr e23 Dj.nil_l)
     refine s_ql (elp hd_First 1 v_.toNat 0) (x := aIndexAddr Try.prog 22 hd_First (.int .i64 v_)) (by kernel_rfl) (u54.idxb (by kernel_rfl) g52.1 g52.2) ?_
     refine s_ql (.int .i64 (gt First v_)) (x := aLoad Try.prog 3 (elp hd_First 1 v_.toNat 0) H22) (by kernel_rfl) (u54.ld g52.1 g52.2 (by kernel_rfl)) ?_
     refine s_b (i > (gt First v_)) (by kernel_rfl) (fun h55 => ?_) (fun h55 => ?_)
     ·have r56 := ite_t h55 r53
      refine s_qk (.bool true) (by kernel_rfl) ?_
      refine s_qk (.int .i64 (gt To i)) (by kernel_rfl) ?_
      refine s_qk (.pointer (some ⟨b7, 1, none⟩)) (by kernel_rfl) ?_
      refine s_ql (hd_To) (x := aLoad Try.prog 22 (.pointer (some ⟨b7, 1, none⟩)) H22) (by kernel_rfl) (u51.ld (by kernel_rfl)) ?_
      refine s_qk (.int .i64 i) (by kernel_rfl) ?_
      obtain ⟨g57, r58⟩ := G_some r56
      refine s_w ((i - 1)) (k := .i64) (x := (i - 1)) (by kernel_rfl) (wrap64 g57) ?_
      obtain ⟨g59, r60⟩ := G_some r58
      have u61 := (u16.fr e23 Dj.nil_l)
      refine s_ql (elp hd_To 1 (i - 1).toNat 0) (x := aIndexAddr Try.prog 22 hd_To (.int .i64 (i - 1))) (by kernel_rfl) (u61.idxb (by kernel_rfl) g59.1 g59.2) ?_
      refine s_ql (.int .i64 (gt To (i - 1))) (x := aLoad Try.prog 3 (elp hd_To 1 (i - 1).toNat 0) H22) (by kernel_rfl) (u61.ld g59.1 g59.2 (by kernel_rfl)) ?_
      refine s_qk (.bool (decide ((gt To i) ≤ (gt To (i - 1))))) (by kernel_rfl) ?_
      refine s_qk (.bool (decide ((gt To i) ≤ (gt To (i - 1))))) (by kernel_rfl) ?_
      refine s_qk (.bool (decide ((gt To i) ≤ (gt To (i - 1))))) (by kernel_rfl) ?_
      refine s_qk (.bool (decide ((gt To i) ≤ (gt To (i - 1))))) (by kernel_rfl) ?_
      refine s_nil ?_
      obtain rfl := Option.some.inj r60
      exact k46 _ _ ⟨⟨by kernel_rfl, by kernel_rfl, by kernel_rfl, trivial⟩, rfl⟩
     ·have r62 := ite_f h55 r53
      refine s_qk (.bool false) (by kernel_rfl) ?_
      refine s_no (by kernel_rfl) ?_
      refine s_no (by kernel_rfl) ?_
      refine s_no (by kernel_rfl) ?_
      refine s_no (by kernel_rfl) ?_
      refine s_no (by kernel_rfl) ?_
      refine s_no (by kernel_rfl) ?_
      refine s_no (by kernel_rfl) ?_
      refine s_no (by kernel_rfl) ?_
      refine s_qk (.bool false) (by kernel_rfl) ?_
      refine s_qk (.bool false) (by kernel_rfl) ?_
      refine s_qk (.bool false) (by kernel_rfl) ?_
      refine s_nil ?_
      obtain rfl := Option.some.inj r62
      exact k46 _ _ ⟨⟨by kernel_rfl, by kernel_rfl, by kernel_rfl, trivial⟩, rfl⟩
   ·obtain ⟨hh47, rfl⟩ := hM
    obtain ⟨β, rfl⟩ := has_ex hh47
    clear hh47
    refine k40 _ _ ?_
    refine w_cond (o41) (by kernel_rfl) rfl (fun h63 => ?_) (fun h63 => ?_)
    ·have r64 := ite_t h63 r43
     refine w_seqk fun K65 k65 => ?_
     refine w_reg (by kernel_rfl) ?_
     refine s_qk (.iface 122 (.int .i64 14)) (by kernel_rfl) ?_
     refine s_qk (.iface 122 (.int .i64 14)) (by kernel_rfl) ?_
     refine s_nil ?_
     refine k65 _ _ ?_
     refine w_ret (bl_ret (th_ret ?_))
     refine b_ret (fn := Try.f120) (vs := [.iface 122 (.int .i64 14)]) (aRes_tmp (by kernel_rfl) (rfl)) ?_
     obtain rfl := Option.some.inj r64
     exact ⟨(.iface 122 (.int .i64 14)), [], rfl, (FrS.step wf ((FrS.refl (W := []) wf).extR e9) e23 Inn.nil), Ev.no, Inn.nil⟩
    ·have r66 := ite_bf h63 r43
     refine w_seqk fun K67 k67 => ?_
     refine w_reg (by kernel_rfl) ?_
     refine s_qk (.pointer (some ⟨b7, 2, none⟩)) (by kernel_rfl) ?_
     have u68 := (r11.frS e23 Dj.nil_l)
     refine s_ql (hd_Weight) (x := aLoad Try.prog 22 (.pointer (some ⟨b7, 2, none⟩)) H22) (by kernel_rfl) (u68.ld (by kernel_rfl)) ?_
     refine s_qk (.int .i64 i) (by kernel_rfl) ?_
     obtain ⟨g69, r70⟩ := G_some r66
     have u71 := ((h_Weight.ext e9).fr e23 Dj.nil_l)
     refine s_ql (elp hd_Weight 1 i.toNat 0) (x := aIndexAddr Try.prog 22 hd_Weight (.int .i64 i)) (by kernel_rfl) (u71.idxb (by kernel_rfl) g14.1 g69) ?_
     refine s_ql (.int .i64 (gt Weight i)) (x := aLoad Try.prog 3 (elp hd_Weight 1 i.toNat 0) H22) (by kernel_rfl) (u71.ld g14.1 g69 (by kernel_rfl)) ?_
     refine s_b ((gt Weight i) < 0) (by kernel_rfl) (fun h72 => ?_) (fun h72 => ?_)
     ·have r73 := ite_t h72 r70
      refine s_qk (.bool true) (by kernel_rfl) ?_
      refine s_no (by kernel_rfl) ?_
      refine s_no (by kernel_rfl) ?_
      refine s_no (by kernel_rfl) ?_
      refine s_no (by kernel_rfl) ?_
      refine s_no (by kernel_rfl) ?_
      refine s_no (by kernel_rfl) ?_
      refine s_qk (.bool true) (by kernel_rfl) ?_
      refine s_qk (.bool true) (by kernel_rfl) ?_
      refine s_nil ?_
      refine k67 _ _ ?_
      refine w_cond true (by kernel_rfl) rfl (fun _ => ?_) (fun h => by cases h)
      refine w_seqk fun K74 k74 => ?_
      refine w_reg (by kernel_rfl) ?_
      refine s_qk (.iface 122 (.int .i64 8)) (by kernel_rfl) ?_
      refine s_qk (.iface 122 (.int .i64 8)) (by kernel_rfl) ?_
      refine s_nil ?_
      refine k74 _ _ ?_
      refine w_ret (bl_ret (th_ret ?_))
      refine b_ret (fn := Try.f120) (vs := [.iface 122 (.int .i64 8)]) (aRes_tmp (by kernel_rfl) (rfl)) ?_
      obtain rfl := Option.some.inj r73
      exact ⟨(.iface 122 (.int .i64 8)), [], rfl, (FrS.step wf ((FrS.refl (W := []) wf).extR e9) e23 Inn.nil), Ev.no, Inn.nil⟩
     ·have r75 := ite_f h72 r70
      refine s_qk (.bool false) (by kernel_rfl) ?_
      refine s_qk (.pointer (some ⟨b7, 2, none⟩)) (by kernel_rfl) ?_
      refine s_ql (hd_Weight) (x := aLoad Try.prog 22 (.pointer (some ⟨b7, 2, none⟩)) H22) (by kernel_rfl) (u68.ld (by kernel_rfl)) ?_
      refine s_qk (.int .i64 i) (by kernel_rfl) ?_
      refine s_ql (elp hd_Weight 1 i.toNat 0) (x := aIndexAddr Try.prog 22 hd_Weight (.int .i64 i)) (by kernel_rfl) (u71.idxb (by kernel_rfl) g14.1 g69) ?_
      refine s_ql (.int .i64 (gt Weight i)) (x := aLoad Try.prog 3 (elp hd_Weight 1 i.toNat 0) H22) (by kernel_rfl) (u71.ld g14.1 g69 (by kernel_rfl)) ?_
      refine s_qk (.bool (decide ((gt Weight i) > 2147483647))) (by kernel_rfl) ?_
      refine s_qk (.bool (decide ((gt Weight i) > 2147483647))) (by kernel_rfl) ?_
      refine s_qk (.bool (decide ((gt Weight i) > 2147483647))) (by kernel_rfl) ?_
      refine s_nil ?_
      refine k67 _ _ ?_
      refine w_condp ((gt Weight i) > 2147483647) (by kernel_rfl) rfl (fun h76 => ?_) (fun h76 => ?_)
      ·have r77 := ite_t h76 r75
       refine w_seqk fun K78 k78 => ?_
       refine w_reg (by kernel_rfl) ?_
       refine s_qk (.iface 122 (.int .i64 8)) (by kernel_rfl) ?_
       refine s_qk (.iface 122 (.int .i64 8)) (by kernel_rfl) ?_
       refine s_nil ?_
       refine k78 _ _ ?_
       refine w_ret (bl_ret (th_ret ?_))
       refine b_ret (fn := Try.f120) (vs := [.iface 122 (.int .i64 8)]) (aRes_tmp (by kernel_rfl) (rfl)) ?_
       obtain rfl := Option.some.inj r77
       exact ⟨(.iface 122 (.int .i64 8)), [], rfl, (FrS.step wf ((FrS.refl (W := []) wf).extR e9) e23 Inn.nil), Ev.no, Inn.nil⟩
      ·have r79 := ite_f h76 r75
       refine w_skip ?_
       refine k17 _ _ ?_
       refine w_seqk fun K80 k80 => ?_
       refine w_reg (by kernel_rfl) ?_
       refine s_qk (.nilIface) (by kernel_rfl) ?_
       refine s_nil ?_
       refine k80 _ _ ?_
       refine w_ret ?_
       refine b_ret (fn := Try.f120) (vs := [.nilIface]) (aRes_tmp (by kernel_rfl) (rfl)) ?_
       obtain rfl := Option.some.inj r79
       exact ⟨(.nilIface), [], rfl, (FrS.step wf ((FrS.refl (W := []) wf).extR e9) e23 Inn.nil), Ev.nil, Inn.nil⟩


end Go.Vd

/-! (KCm2) -/

set_option maxRecDepth 100000
set_option maxHeartbeats 4000000
set_option linter.unusedVariables false
namespace Go.Vd
open Go.Proofs
attribute [local irreducible] wpSeq wpOrd aWp
theorem c_csr_Check {H : AH} {hd_First : Value} {fp_First : Fp} {hd_To : Value} {fp_To : Fp} {hd_Weight : Value} {fp_Weight : Fp} {First : List (Int)} {To : List (Int)} {Weight : List (Int)} {r : Er}
  (wf : WF H) (h_First : Sq (encI .i64) 1 H hd_First First fp_First) (h_To : Sq (encI .i64) 1 H hd_To To fp_To) (h_Weight : Sq (encI .i64) 1 H hd_Weight Weight fp_Weight) (hr : z_csr_Check First To Weight = some r) :
  ACalls Try.prog 62 #[.agg #[hd_First, hd_To, hd_Weight]] H fun v H' => ∃ (v3 : Value) (f4 : Fp), v = v3 ∧ FrS [] H H' ∧ Ev 122 235 H' v3 r f4 ∧ Inn [] H f4 := by
 refine acalls_of_body mixed Try.func62 rfl (Nat.le_of_ble_eq_true rfl) ?_
 unfold z_csr_Check at hr
 refine w_seqk fun K6 k6 => ?_
 refine w_reg (by kernel_rfl) ?_
 refine s_rwl wf [hd_First, hd_To, hd_Weight] (one_cons (h_First.one1) (one_cons (h_To.one1) (one_cons (h_Weight.one1) (one_nil)))) (by kernel_rfl) fun b7 H8 e9 hb10 r11 => ?_
 refine s_qk (.nilIface) (by kernel_rfl) ?_
 refine s_nil ?_
 refine k6 _ _ ?_
 refine w_seqk fun K13 k13 => ?_
 refine w_reg (by kernel_rfl) ?_
 refine s_ql (.agg #[hd_First, hd_To, hd_Weight]) (x := aLoad Try.prog 27 (.pointer (some ⟨b7, 0, none⟩)) H8) (by kernel_rfl) (r11.ld (by kernel_rfl)) ?_
 have u14 := (h_First.ext e9)
 have u15 := (h_To.ext e9)
 have u16 := (h_Weight.ext e9)
 obtain ⟨y17, hy18, r19⟩ := bind_some hr
 refine s_ck 107 #[.agg #[hd_First, hd_To, hd_Weight]] (by kernel_rfl) (c_csr_Csr_nodes e9.wf u14 u15 u16 hy18) ?_
 rintro _ H20 ⟨rfl, e21⟩
 refine s_qk (.int .i64 y17) (by kernel_rfl) ?_
 refine s_nil ?_
 refine k13 _ _ ?_
 refine w_seqk fun K22 k22 => ?_
 refine w_block ?_
 refine w_seqk fun K23 k23 => ?_
 obtain ⟨o24, hx25, r26⟩ := bind_some r19
 refine w_mid (fun α H27 => Has α [(1, .pointer (some ⟨b7, 0, none⟩)), (3, .int .i64 y17), (10, .bool o24)] ∧ H20 = H27) (fun K29 k29 => ?_) (fun α H27 hM => ?_)
 ·refine w_draw [0, 1, 2, 3, 4, 5, 6, 7, 8, 9, 10, 11, 12, 13, 14, 15, 16, 17, 18, 19, 20, 21, 22, 23, 24, 25, 26, 27, 28, 29] (by kernel_rfl) ?_
  refine d_qk (.int .i64 y17) (by kernel_rfl) ?_
  refine d_b (y17 < 0) (by kernel_rfl) (fun h31 => ?_) (fun h31 => ?_)
  ·have r32 := ite_t h31 hx25
   refine d_qk (.bool true) (by kernel_rfl) ?_
   refine d_idle (by kernel_rfl) ?_
   refine d_idle (by kernel_rfl) ?_
   refine d_idle (by kernel_rfl) ?_
   refine d_idle (by kernel_rfl) ?_
   refine d_idle (by kernel_rfl) ?_
   refine d_qk (.bool true) (by kernel_rfl) ?_
   refine d_qk (.bool true) (by kernel_rfl) ?_
   refine d_idle (by kernel_rfl) ?_
   refine d_idle (by kernel_rfl) ?_
   refine d_idle (by kernel_rfl) ?_
   refine d_idle (by kernel_rfl) ?_
   refine d_idle (by kernel_rfl) ?_
   refine d_idle (by kernel_rfl) ?_
   refine d_idle (by kernel_rfl) ?_
   refine d_idle (by kernel_rfl) ?_
   refine d_idle (by kernel_rfl) ?_
   refine d_qk (.bool true) (by kernel_rfl) ?_
   refine d_qk (.bool true) (by kernel_rfl) ?_
   refine d_idle (by kernel_rfl) ?_
   refine d_idle (by kernel_rfl) ?_
   refine d_idle (by kernel_rfl) ?_
   refine d_idle (by kernel_rfl) ?_
   refine d_idle (by kernel_rfl) ?_
   refine d_idle (by kernel_rfl) ?_
   refine d_idle (by kernel_rfl) ?_
   refine d_qk (.bool true) (by kernel_rfl) ?_
   refine d_qk (.bool true) (by kernel_rfl) ?_
   refine d_nil ?_
   obtain rfl := Option.some.inj r32
   exact k29 _ _ ⟨⟨by kernel_rfl, by kernel_rfl, by kernel_rfl, trivial⟩, rfl⟩
  ·have r33 := ite_f h31 hx25
   refine d_qk (.bool false) (by kernel_rfl) ?_
   refine d_qk (.pointer (some ⟨b7, 0, none⟩)) (by kernel_rfl) ?_
   have u34 := (r11.frS e21 Dj.nil_l)
   refine d_ql (hd_First) (x := aLoad Try.prog 22 (.pointer (some ⟨b7, 0, none⟩)) H20) (by kernel_rfl) (u34.ld (by kernel_rfl)) ?_
   obtain ⟨g35, r36⟩ := G_some r33
   have u37 := (u14.fr e21 Dj.nil_l)
   refine d_ql (elp hd_First 1 (0 : Int).toNat 0) (x := aIndexAddr Try.prog 22 hd_First (.int .i64 0)) (by kernel_rfl) (u37.idxb (by kernel_rfl) (by decide) g35) ?_
   refine d_ql (.int .i64 (gt First 0)) (x := aLoad Try.prog 3 (elp hd_First 1 (0 : Int).toNat 0) H20) (by kernel_rfl) (u37.ld (by decide) g35 (by kernel_rfl)) ?_
   refine d_bn ((gt First 0) = 0) (by kernel_rfl) (fun h38 => ?_) (fun h38 => ?_)
   ·have r39 := ite_t h38 r36
    refine d_qk (.bool false) (by kernel_rfl) ?_
    refine d_qk (.bool false) (by kernel_rfl) ?_
    refine d_qk (.pointer (some ⟨b7, 0, none⟩)) (by kernel_rfl) ?_
    refine d_ql (hd_First) (x := aLoad Try.prog 22 (.pointer (some ⟨b7, 0, none⟩)) H20) (by kernel_rfl) (u34.ld (by kernel_rfl)) ?_
    refine d_qk (.int .i64 y17) (by kernel_rfl) ?_
    obtain ⟨g40, r41⟩ := G_some r39
    refine d_ql (elp hd_First 1 y17.toNat 0) (x := aIndexAddr Try.prog 22 hd_First (.int .i64 y17)) (by kernel_rfl) (u37.idxb (by kernel_rfl) g40.1 g40.2) ?_
    refine d_ql (.int .i64 (gt First y17)) (x := aLoad Try.prog 3 (elp hd_First 1 y17.toNat 0) H20) (by kernel_rfl) (u37.ld g40.1 g40.2 (by kernel_rfl)) ?_
    refine d_qk (.pointer (some ⟨b7, 1, none⟩)) (by kernel_rfl) ?_
    refine d_ql (hd_To) (x := aLoad Try.prog 22 (.pointer (some ⟨b7, 1, none⟩)) H20) (by kernel_rfl) (u34.ld (by kernel_rfl)) ?_
    have u42 := (u15.fr e21 Dj.nil_l)
    refine d_ql (.int .i64 (To.length : Int)) (x := aLen Try.prog 22 hd_To H20) (by kernel_rfl) (u42.lenb (by kernel_rfl)) ?_
    refine d_bn ((gt First y17) = (To.length : Int)) (by kernel_rfl) (fun h43 => ?_) (fun h43 => ?_)
    ·have r44 := ite_t h43 r41
     refine d_qk (.bool false) (by kernel_rfl) ?_
     refine d_qk (.bool false) (by kernel_rfl) ?_
     refine d_qk (.pointer (some ⟨b7, 1, none⟩)) (by kernel_rfl) ?_
     refine d_ql (hd_To) (x := aLoad Try.prog 22 (.pointer (some ⟨b7, 1, none⟩)) H20) (by kernel_rfl) (u34.ld (by kernel_rfl)) ?_
     refine d_ql (.int .i64 (To.length : Int)) (x := aLen Try.prog 22 hd_To H20) (by kernel_rfl) (u42.lenb (by kernel_rfl)) ?_
     refine d_qk (.pointer (some ⟨b7, 2, none⟩)) (by kernel_rfl) ?_
     refine d_ql (hd_Weight) (x := aLoad Try.prog 22 (.pointer (some ⟨b7, 2, none⟩)) H20) (by kernel_rfl) (u34.ld (by kernel_rfl)) ?_
     have u45 := (u16.fr e21 Dj.nil_l)
     refine d_ql (.int .i64 (Weight.length : Int)) (x := aLen Try.prog 22 hd_Weight H20) (by kernel_rfl) (u45.lenb (by kernel_rfl)) ?_
     refine d_qk (.bool (!decide ((To.length : Int) = (Weight.length : Int)))) (by kernel_rfl) ?_
     refine d_qk (.bool (!decide ((To.length : Int) = (Weight.length : Int)))) (by kernel_rfl) ?_
     refine d_qk (.bool (!decide ((To.length : Int) = (Weight.length : Int)))) (by kernel_rfl) ?_
     refine d_nil ?_
     obtain rfl := Option.some.inj r44
     exact k29 _ _ ⟨⟨by kernel_rfl, by kernel_rfl, by kernel_rfl, trivial⟩, rfl⟩
    ·have r46 := ite_f h43 r41
     refine d_qk (.bool true) (by kernel_rfl) ?_
     refine d_qk (.bool true) (by kernel_rfl) ?_
     refine d_idle (by kernel_rfl) ?_
     refine d_idle (by kernel_rfl) ?_
     refine d_idle (by kernel_rfl) ?_
     refine d_idle (by kernel_rfl) ?_
     refine d_idle (by kernel_rfl) ?_
     refine d_idle (by kernel_rfl) ?_
     refine d_idle (by kernel_rfl) ?_
     refine d_qk (.bool true) (by kernel_rfl) ?_
     refine d_qk (.bool true) (by kernel_rfl) ?_
     refine d_nil ?_
     obtain rfl := Option.some.inj r46
     exact k29 _ _ ⟨⟨by kernel_rfl, by kernel_rfl, by kernel_rfl, trivial⟩, rfl⟩
   ·have r47 := ite_f h38 r36
    refine d_qk (.bool true) (by kernel_rfl) ?_
    refine d_qk (.bool true) (by kernel_rfl) ?_
    refine d_idle (by kernel_rfl) ?_
    refine d_idle (by kernel_rfl) ?_
    refine d_idle (by kernel_rfl) ?_
    refine d_idle (by kernel_rfl) ?_
    refine d_idle (by kernel_rfl) ?_
    refine d_idle (by kernel_rfl) ?_
    refine d_idle (by kernel_rfl) ?_
    refine d_idle (by kernel_rfl) ?_
    refine d_idle (by kernel_rfl) ?_
    refine d_qk (.bool true) (by kernel_rfl) ?_
    refine d_qk (.bool true) (by kernel_rfl) ?_
    refine d_idle (by kernel_rfl) ?_
    refine d_idle (by kernel_rfl) ?_
    refine d_idle (by kernel_rfl) ?_
    refine d_idle (by kernel_rfl) ?_
    refine d_idle (by kernel_rfl) ?_
    refine d_idle (by kernel_rfl) ?_
    refine d_idle (by kernel_rfl) ?_
    refine d_qk (.bool true) (by kernel_rfl) ?_
    refine d_qk (.bool true) (by kernel_rfl) ?_
    refine d_nil ?_
    obtain rfl := Option.some.inj r47
    exact k29 _ _ ⟨⟨by kernel_rfl, by kernel_rfl, by kernel_rfl, trivial⟩, rfl⟩
 ·obtain ⟨hh30, rfl⟩ := hM
  obtain ⟨β, rfl⟩ := has_ex hh30
  clear hh30
  refine k23 _ _ ?_
  refine w_cond (o24) (by kernel_rfl) rfl (fun h48 => ?_) (fun h48 => ?_)
  ·have r49 := ite_t h48 r26
   refine w_seqk fun K50 k50 => ?_
   refine w_reg (by kernel_rfl) ?_
   refine s_qk (.iface 122 (.int .i64 14)) (by kernel_rfl) ?_
   refine s_qk (.iface 122 (.int .i64 14)) (by kernel_rfl) ?_
   refine s_nil ?_
   refine k50 _ _ ?_
   refine w_ret (bl_ret (th_ret ?_))
   refine b_ret (fn := Try.f62) (vs := [.iface 122 (.int .i64 14)]) (aRes_tmp (by kernel_rfl) (rfl)) ?_
   obtain rfl := Option.some.inj r49
   exact ⟨(.iface 122 (.int .i64 14)), [], rfl, (FrS.step wf ((FrS.refl (W := []) wf).extR e9) e21 Inn.nil), Ev.no, Inn.nil⟩
  ·have r51 := ite_bf h48 r26
   refine w_seqk fun K52 k52 => ?_
   obtain ⟨o53, hx54, r55⟩ := bind_some r51
   refine w_mid (fun α H56 => Has α [(1, .pointer (some ⟨b7, 0, none⟩)), (3, .int .i64 y17), (41, .bool o53)] ∧ H20 = H56) (fun K58 k58 => ?_) (fun α H56 hM => ?_)
   ·refine w_reg (by kernel_rfl) ?_
    refine s_qk (.int .i64 y17) (by kernel_rfl) ?_
    refine s_b (y17 > 65536) (by kernel_rfl) (fun h60 => ?_) (fun h60 => ?_)
    ·have r61 := ite_t h60 hx54
     refine s_qk (.bool true) (by kernel_rfl) ?_
     refine s_no (by kernel_rfl) ?_
     refine s_no (by kernel_rfl) ?_
     refine s_no (by kernel_rfl) ?_
     refine s_no (by kernel_rfl) ?_
     refine s_qk (.bool true) (by kernel_rfl) ?_
     refine s_qk (.bool true) (by kernel_rfl) ?_
     refine s_nil ?_
     obtain rfl := Option.some.inj r61
     exact k58 _ _ ⟨⟨by kernel_rfl, by kernel_rfl, by kernel_rfl, trivial⟩, rfl⟩
    ·have r62 := ite_f h60 hx54
     refine s_qk (.bool false) (by kernel_rfl) ?_
     refine s_qk (.pointer (some ⟨b7, 1, none⟩)) (by kernel_rfl) ?_
     have u63 := (r11.frS e21 Dj.nil_l)
     refine s_ql (hd_To) (x := aLoad Try.prog 22 (.pointer (some ⟨b7, 1, none⟩)) H20) (by kernel_rfl) (u63.ld (by kernel_rfl)) ?_
     have u64 := (u15.fr e21 Dj.nil_l)
     refine s_ql (.int .i64 (To.length : Int)) (x := aLen Try.prog 22 hd_To H20) (by kernel_rfl) (u64.lenb (by kernel_rfl)) ?_
     refine s_qk (.bool (decide ((To.length : Int) > 262144))) (by kernel_rfl) ?_
     refine s_qk (.bool (decide ((To.length : Int) > 262144))) (by kernel_rfl) ?_
     refine s_qk (.bool (decide ((To.length : Int) > 262144))) (by kernel_rfl) ?_
     refine s_nil ?_
     obtain rfl := Option.some.inj r62
     exact k58 _ _ ⟨⟨by kernel_rfl, by kernel_rfl, by kernel_rfl, trivial⟩, rfl⟩
   ·obtain ⟨hh59, rfl⟩ := hM
    obtain ⟨β, rfl⟩ := has_ex hh59
    clear hh59
    refine k52 _ _ ?_
    refine w_cond (o53) (by kernel_rfl) rfl (fun h65 => ?_) (fun h65 => ?_)
    ·have r66 := ite_t h65 r55
     refine w_seqk fun K67 k67 => ?_
     refine w_reg (by kernel_rfl) ?_
     refine s_qk (.iface 122 (.int .i64 9)) (by kernel_rfl) ?_
     refine s_qk (.iface 122 (.int .i64 9)) (by kernel_rfl) ?_
     refine s_nil ?_
     refine k67 _ _ ?_
     refine w_ret (bl_ret (th_ret ?_))
     refine b_ret (fn := Try.f62) (vs := [.iface 122 (.int .i64 9)]) (aRes_tmp (by kernel_rfl) (rfl)) ?_
     obtain rfl := Option.some.inj r66
     exact ⟨(.iface 122 (.int .i64 9)), [], rfl, (FrS.step wf ((FrS.refl (W := []) wf).extR e9) e21 Inn.nil), Ev.no, Inn.nil⟩
    ·have r68 := ite_bf h65 r55
     refine w_skip ?_
     refine k22 _ _ ?_
     refine w_seqk fun K69 k69 => ?_
     refine w_seqk fun K70 k70 => ?_
     refine w_reg (by kernel_rfl) ?_
     refine s_qk (.int .i64 y17) (by kernel_rfl) ?_
     refine s_qk (.int .i64 0) (by kernel_rfl) ?_
     refine s_nil ?_
     refine k70 _ _ ?_
     obtain ⟨z74, hx72, r73⟩ := bind_some r68
     refine w_mid (fun α H75 => ∃ o71, z74 = Sum.inr o71 ∧ Has α [(1, .pointer (some ⟨b7, 0, none⟩)), (3, .int .i64 y17)] ∧ H20 = H75) (fun K77 k77 => ?_) (fun α H75 hM => ?_)
     ·refine w_block ?_
      obtain ⟨n79, hn80⟩ := loopO_iff.1 hx72
      refine w_loopn (fun n α H81 => ∃ (i0 : Int), iterO (fun zz_ => z_csr_Check_l0 First y17 zz_) n i0 = some z74 ∧ Has α [(1, .pointer (some ⟨b7, 0, none⟩)), (3, .int .i64 y17), (51, .int .i64 y17), (52, .int .i64 i0)] ∧ H20 = H81) n79 ⟨0, hn80, ⟨by kernel_rfl, by kernel_rfl, by kernel_rfl, by kernel_rfl, trivial⟩, rfl⟩ ?_
      rintro n79 α H81 ⟨i0, hi84, hh83, rfl⟩ K89 k89
      obtain ⟨n85, z86, rfl, hz87, hn88⟩ := iter_succ hi84
      obtain ⟨β, rfl⟩ := has_ex hh83
      clear hh83
      replace hz87 : z_csr_Check_l0 First y17 i0 = some z86 := hz87
      unfold z_csr_Check_l0 at hz87
      refine w_seqk fun K90 k90 => ?_
      refine w_reg (by kernel_rfl) ?_
      refine s_qk (.bool (decide (i0 < y17))) (by kernel_rfl) ?_
      refine s_nil ?_
      refine k90 _ _ ?_
      refine w_seqk fun K91 k91 => ?_
      refine w_condp (i0 < y17) (by kernel_rfl) rfl (fun h92 => ?_) (fun h92 => ?_)
      ·have r93 := ite_t h92 hz87
       refine w_skip ?_
       refine k91 _ _ ?_
       refine w_seqk fun K94 k94 => ?_
       refine w_block ?_
       refine w_seqk fun K95 k95 => ?_
       refine w_reg (by kernel_rfl) ?_
       refine s_qk (.int .i64 i0) (by kernel_rfl) ?_
       refine s_qk (.int .i64 i0) (by kernel_rfl) ?_
       refine s_nil ?_
       refine k95 _ _ ?_
       refine w_seqk fun K96 k96 => ?_
       refine w_draw [0, 1, 2, 3, 4, 5, 6, 7, 8, 9, 10, 11] (by kernel_rfl) ?_
       refine d_qk (.pointer (some ⟨b7, 0, none⟩)) (by kernel_rfl) ?_
       have u97 := (r11.frS e21 Dj.nil_l)
       refine d_ql (hd_First) (x := aLoad Try.prog 22 (.pointer (some ⟨b7, 0, none⟩)) H20) (by kernel_rfl) (u97.ld (by kernel_rfl)) ?_
       refine d_qk (.int .i64 i0) (by kernel_rfl) ?_
       obtain ⟨g98, r99⟩ := G_some r93
       refine d_w ((i0 + 1)) (k := .i64) (x := (i0 + 1)) (by kernel_rfl) (wrap64 g98) ?_
       obtain ⟨g100, r101⟩ := G_some r99
       have u102 := (u14.fr e21 Dj.nil_l)
       refine d_ql (elp hd_First 1 (i0 + 1).toNat 0) (x := aIndexAddr Try.prog 22 hd_First (.int .i64 (i0 + 1))) (by kernel_rfl) (u102.idxb (by kernel_rfl) g100.1 g100.2) ?_
       refine d_ql (.int .i64 (gt First (i0 + 1))) (x := aLoad Try.prog 3 (elp hd_First 1 (i0 + 1).toNat 0) H20) (by kernel_rfl) (u102.ld g100.1 g100.2 (by kernel_rfl)) ?_
       refine d_qk (.pointer (some ⟨b7, 0, none⟩)) (by kernel_rfl) ?_
       refine d_ql (hd_First) (x := aLoad Try.prog 22 (.pointer (some ⟨b7, 0, none⟩)) H20) (by kernel_rfl) (u97.ld (by kernel_rfl)) ?_
       refine d_qk (.int .i64 i0) (by kernel_rfl) ?_
       obtain ⟨g103, r104⟩ := G_some r101
       refine d_ql (elp hd_First 1 i0.toNat 0) (x := aIndexAddr Try.prog 22 hd_First (.int .i64 i0)) (by kernel_rfl) (u102.idxb (by kernel_rfl) g103.1 g103.2) ?_
       refine d_ql (.int .i64 (gt First i0)) (x := aLoad Try.prog 3 (elp hd_First 1 i0.toNat 0) H20) (by kernel_rfl) (u102.ld g103.1 g103.2 (by kernel_rfl)) ?_
       refine d_qk (.bool (decide ((gt First (i0 + 1)) < (gt First i0)))) (by kernel_rfl) ?_
       refine d_nil ?_
       refine k96 _ _ ?_
       refine w_condp ((gt First (i0 + 1)) < (gt First i0)) (by kernel_rfl) rfl (fun h105 => ?_) (fun h105 => ?_)
       ·have r106 := ite_t h105 r104
        refine w_seqk fun K107 k107 => ?_
        refine w_reg (by kernel_rfl) ?_
        refine s_qk (.int .i64 i0) (by kernel_rfl) ?_
        refine s_qk (.iface 122 (.int .i64 14)) (by kernel_rfl) ?_
        obtain ⟨y108, hy109, r110⟩ := bind_some r106
        refine s_ck 119 #[.int .i64 3, .int .i64 i0, .iface 122 (.int .i64 14)] (by kernel_rfl) (c_fault_At e21.wf (Ev.no (tf := 235)) hy109) ?_
        rintro v111 H113 ⟨_, f112, rfl, e114, m115, i116⟩
        refine s_qk (v111) (by kernel_rfl) ?_
        refine s_nil ?_
        refine k107 _ _ ?_
        refine w_ret (bl_ret (th_ret (th_ret (bl_ret (th_ret (th_ret ?_))))))
        obtain ⟨v118, hv119, hz120⟩ := map_some r110
        subst hz120
        obtain rfl := it_inr hn88
        have hq121 := elim_inl r73
        rw [hq121] at hv119
        refine b_ret (fn := Try.f62) (vs := [v111]) (aRes_tmp (by kernel_rfl) (rfl)) ?_
        obtain rfl := Option.some.inj hv119
        exact ⟨(v111), f112, rfl, (FrS.step wf (FrS.step wf ((FrS.refl (W := []) wf).extR e9) e21 Inn.nil) e114 Inn.nil), m115, (i116.fresh (ntr e9.next e21.next))⟩
       ·have r122 := ite_f h105 r104
        refine w_skip ?_
        refine k94 _ _ ?_
        refine w_reg (by kernel_rfl) ?_
        obtain ⟨g123, r124⟩ := G_some r122
        refine s_w ((i0 + 1)) (k := .i64) (x := (i0 + 1)) (by kernel_rfl) (wrap64 (by have := g123; omega)) ?_
        refine s_qk (.int .i64 (i0 + 1)) (by kernel_rfl) ?_
        refine s_nil ?_
        obtain rfl := Option.some.inj r124
        exact k89 n85 _ _ (Nat.lt_succ_self _) ⟨(i0 + 1), hn88, ⟨by kernel_rfl, by kernel_rfl, by kernel_rfl, by kernel_rfl, trivial⟩, rfl⟩
      ·have r125 := ite_f h92 hz87
       refine w_exit (th_exit (th_exit (bl_eq ?_)))
       obtain rfl := Option.some.inj r125
       obtain rfl := it_inr hn88
       exact k77 _ _ ⟨_, rfl, ⟨by kernel_rfl, by kernel_rfl, trivial⟩, rfl⟩
     ·obtain ⟨o71, rfl, hh78, rfl⟩ := hM
      have r126 := elim_inr r73
      obtain ⟨β, rfl⟩ := has_ex hh78
      clear hh78
      refine k69 _ _ ?_
      refine w_seqk fun K127 k127 => ?_
      refine w_seqk fun K128 k128 => ?_
      refine w_reg (by kernel_rfl) ?_
      refine s_qk (.int .i64 y17) (by kernel_rfl) ?_
      refine s_qk (.int .i64 0) (by kernel_rfl) ?_
      refine s_nil ?_
      refine k128 _ _ ?_
      obtain ⟨z132, hx130, r131⟩ := bind_some r126
      refine w_mid (fun α H133 => ∃ o129, z132 = Sum.inr o129 ∧ Has α [] ∧ FrS [] H20 H133) (fun K135 k135 => ?_) (fun α H133 hM => ?_)
      ·refine w_block ?_
       obtain ⟨n137, hn138⟩ := loopO_iff.1 hx130
       refine w_loopn (fun n α H139 => ∃ (i2 : Int), iterO (fun zz_ => z_csr_Check_l2 First To Weight y17 zz_) n i2 = some z132 ∧ Has α [(1, .pointer (some ⟨b7, 0, none⟩)), (71, .int .i64 y17), (72, .int .i64 i2)] ∧ FrS [] H20 H139) n137 ⟨0, hn138, ⟨by kernel_rfl, by kernel_rfl, by kernel_rfl, trivial⟩, (FrS.refl (W := []) e21.wf)⟩ ?_
       rintro n137 α H139 ⟨i2, hi142, hh141, e140⟩ K147 k147
       obtain ⟨n143, z144, rfl, hz145, hn146⟩ := iter_succ hi142
       obtain ⟨β, rfl⟩ := has_ex hh141
       clear hh141
       replace hz145 : z_csr_Check_l2 First To Weight y17 i2 = some z144 := hz145
       unfold z_csr_Check_l2 at hz145
       refine w_seqk fun K148 k148 => ?_
       refine w_reg (by kernel_rfl) ?_
       refine s_qk (.bool (decide (i2 < y17))) (by kernel_rfl) ?_
       refine s_nil ?_
       refine k148 _ _ ?_
       refine w_seqk fun K149 k149 => ?_
       refine w_condp (i2 < y17) (by kernel_rfl) rfl (fun h150 => ?_) (fun h150 => ?_)
       ·have r151 := ite_t h150 hz145
        refine w_skip ?_
        refine k149 _ _ ?_
        refine w_seqk fun K152 k152 => ?_
        refine w_block ?_
        refine w_seqk fun K153 k153 => ?_
        refine w_reg (by kernel_rfl) ?_
        refine s_qk (.int .i64 i2) (by kernel_rfl) ?_
        refine s_qk (.int .i64 i2) (by kernel_rfl) ?_
        refine s_nil ?_
        refine k153 _ _ ?_
        refine w_seqk fun K154 k154 => ?_
        refine w_reg (by kernel_rfl) ?_
        refine s_qk (.pointer (some ⟨b7, 0, none⟩)) (by kernel_rfl) ?_
        have u155 := ((r11.frS e21 Dj.nil_l).frS e140 Dj.nil_l)
        refine s_ql (hd_First) (x := aLoad Try.prog 22 (.pointer (some ⟨b7, 0, none⟩)) H139) (by kernel_rfl) (u155.ld (by kernel_rfl)) ?_
        refine s_qk (.int .i64 i2) (by kernel_rfl) ?_
        obtain ⟨g156, r157⟩ := G_some r151
        have u158 := ((u14.fr e21 Dj.nil_l).fr e140 Dj.nil_l)
        refine s_ql (elp hd_First 1 i2.toNat 0) (x := aIndexAddr Try.prog 22 hd_First (.int .i64 i2)) (by kernel_rfl) (u158.idxb (by kernel_rfl) g156.1 g156.2) ?_
        refine s_ql (.int .i64 (gt First i2)) (x := aLoad Try.prog 3 (elp hd_First 1 i2.toNat 0) H139) (by kernel_rfl) (u158.ld g156.1 g156.2 (by kernel_rfl)) ?_
        refine s_qk (.int .i64 (gt First i2)) (by kernel_rfl) ?_
        refine s_nil ?_
        refine k154 _ _ ?_
        obtain ⟨z162, hx160, r161⟩ := bind_some r157
        refine w_mid (fun α H163 => ∃ o159, z162 = Sum.inr o159 ∧ Has α [(1, .pointer (some ⟨b7, 0, none⟩)), (71, .int .i64 y17), (72, .int .i64 i2)] ∧ FrS [] H139 H163) (fun K165 k165 => ?_) (fun α H163 hM => ?_)
        ·refine w_block ?_
         obtain ⟨n167, hn168⟩ := loopO_iff.1 hx160
         refine w_loopn (fun n α H169 => ∃ (i1 : Int), iterO (fun zz_ => z_csr_Check_l1 First To Weight i2 zz_) n i1 = some z162 ∧ Has α [(1, .pointer (some ⟨b7, 0, none⟩)), (5, .int .i64 i2), (6, .int .i64 i1), (71, .int .i64 y17), (72, .int .i64 i2)] ∧ FrS [] H139 H169) n167 ⟨(gt First i2), hn168, ⟨by kernel_rfl, by kernel_rfl, by kernel_rfl, by kernel_rfl, by kernel_rfl, trivial⟩, (FrS.refl (W := []) e140.wf)⟩ ?_
         rintro n167 α H169 ⟨i1, hi172, hh171, e170⟩ K177 k177
         obtain ⟨n173, z174, rfl, hz175, hn176⟩ := iter_succ hi172
         obtain ⟨β, rfl⟩ := has_ex hh171
         clear hh171
         replace hz175 : z_csr_Check_l1 First To Weight i2 i1 = some z174 := hz175
         unfold z_csr_Check_l1 at hz175
         refine w_seqk fun K178 k178 => ?_
         refine w_seqk fun K179 k179 => ?_
         refine w_reg (by kernel_rfl) ?_
         refine s_qk (.int .i64 i1) (by kernel_rfl) ?_
         refine s_qk (.pointer (some ⟨b7, 0, none⟩)) (by kernel_rfl) ?_
         have u180 := (u155.frS e170 Dj.nil_l)
         refine s_ql (hd_First) (x := aLoad Try.prog 22 (.pointer (some ⟨b7, 0, none⟩)) H169) (by kernel_rfl) (u180.ld (by kernel_rfl)) ?_
         refine s_qk (.int .i64 i2) (by kernel_rfl) ?_
         obtain ⟨g181, r182⟩ := G_some hz175
         refine s_w ((i2 + 1)) (k := .i64) (x := (i2 + 1)) (by kernel_rfl) (wrap64 (by have := g181; omega)) ?_
         obtain ⟨g183, r184⟩ := G_some r182
         have u185 := (u158.fr e170 Dj.nil_l)
         refine s_ql (elp hd_First 1 (i2 + 1).toNat 0) (x := aIndexAddr Try.prog 22 hd_First (.int .i64 (i2 + 1))) (by kernel_rfl) (u185.idxb (by kernel_rfl) g183.1 g183.2) ?_
         refine s_ql (.int .i64 (gt First (i2 + 1))) (x := aLoad Try.prog 3 (elp hd_First 1 (i2 + 1).toNat 0) H169) (by kernel_rfl) (u185.ld g183.1 g183.2 (by kernel_rfl)) ?_
         refine s_qk (.bool (decide (i1 < (gt First (i2 + 1))))) (by kernel_rfl) ?_
         refine s_nil ?_
         refine k179 _ _ ?_
         refine w_condp (i1 < (gt First (i2 + 1))) (by kernel_rfl) rfl (fun h186 => ?_) (fun h186 => ?_)
         ·have r187 := ite_t h186 r184
          refine w_skip ?_
          refine k178 _ _ ?_
          refine w_seqk fun K188 k188 => ?_
          refine w_block ?_
          refine w_seqk fun K189 k189 => ?_
          refine w_reg (by kernel_rfl) ?_
          refine s_ql (.agg #[hd_First, hd_To, hd_Weight]) (x := aLoad Try.prog 27 (.pointer (some ⟨b7, 0, none⟩)) H169) (by kernel_rfl) (u180.ld (by kernel_rfl)) ?_
          refine s_qk (.int .i64 i2) (by kernel_rfl) ?_
          refine s_qk (.int .i64 i1) (by kernel_rfl) ?_
          have u190 := (((u15.fr e21 Dj.nil_l).fr e140 Dj.nil_l).fr e170 Dj.nil_l)
          have u191 := (((u16.fr e21 Dj.nil_l).fr e140 Dj.nil_l).fr e170 Dj.nil_l)
          obtain ⟨y192, hy193, r194⟩ := bind_some r187
          refine s_ck 120 #[.agg #[hd_First, hd_To, hd_Weight], .int .i64 i2, .int .i64 i1] (by kernel_rfl) (c_csr_Csr_arc e170.wf u185 u190 u191 hy193) ?_
          rintro v195 H197 ⟨_, f196, rfl, e198, m199, i200⟩
          refine s_qk (v195) (by kernel_rfl) ?_
          refine s_nil ?_
          refine k189 _ _ ?_
          refine w_seqk fun K202 k202 => ?_
          refine w_reg (by kernel_rfl) ?_
          refine s_qk (v195) (by kernel_rfl) ?_
          rcases (m199).cases with ⟨h203, rfl⟩ | ⟨h203, t204, x205, rfl⟩
          ·have r206 := ite_t h203 r194
           refine s_qk (.bool false) (by kernel_rfl) ?_
           refine s_nil ?_
           refine k202 _ _ ?_
           refine w_cond false (by kernel_rfl) rfl (fun h => by cases h) (fun _ => ?_)
           refine w_skip ?_
           refine k188 _ _ ?_
           refine w_reg (by kernel_rfl) ?_
           refine s_qk (.int .i64 i1) (by kernel_rfl) ?_
           obtain ⟨g207, r208⟩ := G_some r206
           refine s_w ((i1 + 1)) (k := .i64) (x := (i1 + 1)) (by kernel_rfl) (wrap64 g207) ?_
           refine s_qk (.int .i64 (i1 + 1)) (by kernel_rfl) ?_
           refine s_nil ?_
           obtain rfl := Option.some.inj r208
           exact k177 n173 _ _ (Nat.lt_succ_self _) ⟨(i1 + 1), hn176, ⟨by kernel_rfl, by kernel_rfl, by kernel_rfl, by kernel_rfl, by kernel_rfl, trivial⟩, (FrS.step e140.wf (FrS.step e140.wf (FrS.refl (W := []) e140.wf) e170 Inn.nil) e198 Inn.nil)⟩
          ·have r209 := ite_f h203 r194
           refine s_ql (.bool true) (x := aBin Try.prog .neq 31 (.tmp 94) (.const .nilIface) (.iface t204 x205) .nilIface) (by kernel_rfl) (aBin_nnil (by kernel_rfl)) ?_
           refine s_nil ?_
           refine k202 _ _ ?_
           refine w_cond true (by kernel_rfl) rfl (fun _ => ?_) (fun h => by cases h)
           refine w_seqk fun K210 k210 => ?_
           refine w_reg (by kernel_rfl) ?_
           refine s_qk (.int .i64 i1) (by kernel_rfl) ?_
           refine s_qk (.iface t204 x205) (by kernel_rfl) ?_
           obtain ⟨y211, hy212, r213⟩ := bind_some r209
           refine s_ck 119 #[.int .i64 4, .int .i64 i1, .iface t204 x205] (by kernel_rfl) (c_fault_At e198.wf m199 hy212) ?_
           rintro v214 H216 ⟨_, f215, rfl, e217, m218, i219⟩
           refine s_qk (v214) (by kernel_rfl) ?_
           refine s_nil ?_
           refine k210 _ _ ?_
           refine w_ret (bl_ret (th_ret (th_ret (bl_ret (th_ret (bl_ret (th_ret (th_ret (bl_ret (th_ret (th_ret ?_)))))))))))
           obtain ⟨v221, hv222, hz223⟩ := map_some r213
           subst hz223
           obtain rfl := it_inr hn176
           have hq224 := elim_inl r161
           rw [hq224] at hv222
           obtain ⟨v225, hv226, hz227⟩ := map_some hv222
           subst hz227
           obtain rfl := it_inr hn146
           have hq228 := elim_inl r131
           rw [hq228] at hv226
           refine b_ret (fn := Try.f62) (vs := [v214]) (aRes_tmp (by kernel_rfl) (rfl)) ?_
           obtain rfl := Option.some.inj hv226
           exact ⟨(v214), f215, rfl, (FrS.step wf (FrS.step wf (FrS.step wf (FrS.step wf (FrS.step wf ((FrS.refl (W := []) wf).extR e9) e21 Inn.nil) e140 Inn.nil) e170 Inn.nil) e198 Inn.nil) e217 Inn.nil), m218, (Inn.trans (i200.fresh (ntr (ntr (ntr e9.next e21.next) e140.next) e170.next)) (ntr (ntr (ntr (ntr e9.next e21.next) e140.next) e170.next) e198.next) i219)⟩
         ·have r229 := ite_f h186 r184
          refine w_exit (th_exit (th_exit (bl_eq ?_)))
          obtain rfl := Option.some.inj r229
          obtain rfl := it_inr hn176
          exact k165 _ _ ⟨_, rfl, ⟨by kernel_rfl, by kernel_rfl, by kernel_rfl, trivial⟩, (FrS.step e140.wf (FrS.refl (W := []) e140.wf) e170 Inn.nil)⟩
        ·obtain ⟨o159, rfl, hh166, e164⟩ := hM
         have r230 := elim_inr r161
         obtain ⟨β, rfl⟩ := has_ex hh166
         clear hh166
         refine k152 _ _ ?_
         refine w_reg (by kernel_rfl) ?_
         obtain ⟨g231, r232⟩ := G_some r230
         refine s_w ((i2 + 1)) (k := .i64) (x := (i2 + 1)) (by kernel_rfl) (wrap64 (by have := g231; omega)) ?_
         refine s_qk (.int .i64 (i2 + 1)) (by kernel_rfl) ?_
         refine s_nil ?_
         obtain rfl := Option.some.inj r232
         exact k147 n143 _ _ (Nat.lt_succ_self _) ⟨(i2 + 1), hn146, ⟨by kernel_rfl, by kernel_rfl, by kernel_rfl, trivial⟩, (FrS.step e21.wf (FrS.step e21.wf (FrS.refl (W := []) e21.wf) e140 Inn.nil) e164 Inn.nil)⟩
       ·have r233 := ite_f h150 hz145
        refine w_exit (th_exit (th_exit (bl_eq ?_)))
        obtain rfl := Option.some.inj r233
        obtain rfl := it_inr hn146
        exact k135 _ _ ⟨_, rfl, trivial, (FrS.step e21.wf (FrS.refl (W := []) e21.wf) e140 Inn.nil)⟩
      ·obtain ⟨o129, rfl, hh136, e134⟩ := hM
       have r234 := elim_inr r131
       obtain ⟨β, rfl⟩ := has_ex hh136
       clear hh136
       refine k127 _ _ ?_
       refine w_seqk fun K235 k235 => ?_
       refine w_reg (by kernel_rfl) ?_
       refine s_qk (.nilIface) (by kernel_rfl) ?_
       refine s_nil ?_
       refine k235 _ _ ?_
       refine w_ret ?_
       refine b_ret (fn := Try.f62) (vs := [.nilIface]) (aRes_tmp (by kernel_rfl) (rfl)) ?_
       obtain rfl := Option.some.inj r234
       exact ⟨(.nilIface), [], rfl, (FrS.step wf (FrS.step wf ((FrS.refl (W := []) wf).extR e9) e21 Inn.nil) e134 Inn.nil), Ev.nil, Inn.nil⟩

theorem c_csr_Csr_row {H : AH} {hd_First : Value} {fp_First : Fp} {hd_To : Value} {fp_To : Fp} {hd_Weight : Value} {fp_Weight : Fp} {First : List (Int)} {To : List (Int)} {Weight : List (Int)} {v_ : Int} {r : List (Int × Int × Int)}
  (wf : WF H) (h_First : Sq (encI .i64) 1 H hd_First First fp_First) (h_To : Sq (encI .i64) 1 H hd_To To fp_To) (h_Weight : Sq (encI .i64) 1 H hd_Weight Weight fp_Weight) (hr : z_csr_Csr_row First To Weight v_ = some r) :
  ACalls Try.prog 108 #[.agg #[hd_First, hd_To, hd_Weight], .int .i64 v_] H fun v H' => ∃ (s3 : Value) (f4 : Fp), v = s3 ∧ FrS [] H H' ∧ Ow enc_i64_i64_i64 3 H' s3 r f4 ∧ Inn [] H f4 := by
 refine acalls_of_body mixed Try.func108 rfl (Nat.le_of_ble_eq_true rfl) ?_
 unfold z_csr_Csr_row at hr
 refine w_seqk fun K6 k6 => ?_
 refine w_reg (by kernel_rfl) ?_
 refine s_rwl wf [hd_First, hd_To, hd_Weight] (one_cons (h_First.one1) (one_cons (h_To.one1) (one_cons (h_Weight.one1) (one_nil)))) (by kernel_rfl) fun b7 H8 e9 hb10 r11 => ?_
 refine s_qk (.slice none 0 0) (by kernel_rfl) ?_
 refine s_nil ?_
 refine k6 _ _ ?_
 refine w_seqk fun K13 k13 => ?_
 refine w_reg (by kernel_rfl) ?_
 refine s_qk (.slice none 0 0) (by kernel_rfl) ?_
 refine s_nil ?_
 refine k13 _ _ ?_
 refine w_seqk fun K14 k14 => ?_
 refine w_seqk fun K15 k15 => ?_
 refine w_reg (by kernel_rfl) ?_
 refine s_qk (.pointer (some ⟨b7, 0, none⟩)) (by kernel_rfl) ?_
 refine s_ql (hd_First) (x := aLoad Try.prog 22 (.pointer (some ⟨b7, 0, none⟩)) H8) (by kernel_rfl) (r11.ld (by kernel_rfl)) ?_
 refine s_qk (.int .i64 v_) (by kernel_rfl) ?_
 obtain ⟨g16, r17⟩ := G_some hr
 have u18 := (h_First.ext e9)
 refine s_ql (elp hd_First 1 v_.toNat 0) (x := aIndexAddr Try.prog 22 hd_First (.int .i64 v_)) (by kernel_rfl) (u18.idxb (by kernel_rfl) g16.1 g16.2) ?_
 refine s_ql (.int .i64 (gt First v_)) (x := aLoad Try.prog 3 (elp hd_First 1 v_.toNat 0) H8) (by kernel_rfl) (u18.ld g16.1 g16.2 (by kernel_rfl)) ?_
 refine s_qk (.int .i64 (gt First v_)) (by kernel_rfl) ?_
 refine s_nil ?_
 refine k15 _ _ ?_
 obtain ⟨o19, hx20, r21⟩ := bind_some r17
 refine w_mid (fun α H22 => ∃ (s26 : Value) (f27 : Fp), Has α [(5, s26)] ∧ FrS [] H8 H22 ∧ Ow enc_i64_i64_i64 3 H22 s26 o19 f27 ∧ Inn [] H8 f27) (fun K29 k29 => ?_) (fun α H22 hM => ?_)
 ·refine w_block ?_
  obtain ⟨n31, hn32⟩ := loopO_iff.1 hx20
  refine w_loopn (fun n α H33 => ∃ (l0 : List (Int × Int × Int)), ∃ (i1 : Int), ∃ (s37 : Value), ∃ (f38 : Fp), iterO (fun zz_ => z_csr_Csr_row_l0 First To Weight v_ zz_.1 zz_.2) n (l0, i1) = some o19 ∧ Has α [(1, .int .i64 v_), (2, .pointer (some ⟨b7, 0, none⟩)), (5, s37), (6, .int .i64 i1)] ∧ FrS [] H8 H33 ∧ Ow enc_i64_i64_i64 3 H33 s37 l0 f38 ∧ Inn [] H8 f38) n31 ⟨[], (gt First v_), (.slice none 0 0), [], hn32, ⟨by kernel_rfl, by kernel_rfl, by kernel_rfl, by kernel_rfl, trivial⟩, (FrS.refl (W := []) e9.wf), (Ow.nil (by decide)), Inn.nil⟩ ?_
  rintro n31 α H33 ⟨l0, i1, s37, f38, hi41, hh40, e34, m36, i39⟩ K46 k46
  obtain ⟨n42, z43, rfl, hz44, hn45⟩ := iter_succ hi41
  obtain ⟨β, rfl⟩ := has_ex hh40
  clear hh40
  replace hz44 : z_csr_Csr_row_l0 First To Weight v_ l0 i1 = some z43 := hz44
  unfold z_csr_Csr_row_l0 at hz44
  obtain ⟨a47, n48, c49, rfl⟩ := m36.form
  refine w_seqk fun K50 k50 => ?_
  refine w_seqk fun K51 k51 => ?_
  refine w_reg (by kernel_rfl) ?_
  refine s_qk (.int .i64 i1) (by kernel_rfl) ?_
  refine s_qk (.pointer (some ⟨b7, 0, none⟩)) (by kernel_rfl) ?_
  have u52 := (r11.frS e34 Dj.nil_l)
  refine s_ql (hd_First) (x := aLoad Try.prog 22 (.pointer (some ⟨b7, 0, none⟩)) H33) (by kernel_rfl) (u52.ld (by kernel_rfl)) ?_
  refine s_qk (.int .i64 v_) (by kernel_rfl) ?_
  obtain ⟨g53, r54⟩ := G_some hz44
  refine s_w ((v_ + 1)) (k := .i64) (x := (v_ + 1)) (by kernel_rfl) (wrap64 (by have := g53; omega)) ?_
  obtain ⟨g55, r56⟩ := G_some r54
  have u57 := (u18.fr e34 Dj.nil_l)
  refine s_ql (elp hd_First 1 (v_ + 1).toNat 0) (x := aIndexAddr Try.prog 22 hd_First (.int .i64 (v_ + 1))) (by kernel_rfl) (u57.idxb (by kernel_rfl) g55.1 g55.2) ?_
  refine s_ql (.int .i64 (gt First (v_ + 1))) (x := aLoad Try.prog 3 (elp hd_First 1 (v_ + 1).toNat 0) H33) (by kernel_rfl) (u57.ld g55.1 g55.2 (by kernel_rfl)) ?_
  refine s_qk (.bool (decide (i1 < (gt First (v_ + 1))))) (by kernel_rfl) ?_
  refine s_nil ?_
  refine k51 _ _ ?_
  refine w_condp (i1 < (gt First (v_ + 1))) (by kernel_rfl) rfl (fun h58 => ?_) (fun h58 => ?_)
  ·have r59 := ite_t h58 r56
   refine w_skip ?_
   refine k50 _ _ ?_
   refine w_seqk fun K60 k60 => ?_
   refine w_block ?_
   refine w_draw [0, 1, 2, 3, 4, 5, 6, 7, 8, 9, 10, 11, 12, 13, 14, 15] (by kernel_rfl) ?_
   refine d_qk (.slice a47 n48 c49) (by kernel_rfl) ?_
   refine d_qk (.int .i64 v_) (by kernel_rfl) ?_
   refine d_qk (.pointer (some ⟨b7, 1, none⟩)) (by kernel_rfl) ?_
   refine d_ql (hd_To) (x := aLoad Try.prog 22 (.pointer (some ⟨b7, 1, none⟩)) H33) (by kernel_rfl) (u52.ld (by kernel_rfl)) ?_
   refine d_qk (.int .i64 i1) (by kernel_rfl) ?_
   obtain ⟨g61, r62⟩ := G_some r59
   have u63 := ((h_To.ext e9).fr e34 Dj.nil_l)
   refine d_ql (elp hd_To 1 i1.toNat 0) (x := aIndexAddr Try.prog 22 hd_To (.int .i64 i1)) (by kernel_rfl) (u63.idxb (by kernel_rfl) g61.1 g61.2) ?_
   refine d_ql (.int .i64 (gt To i1)) (x := aLoad Try.prog 3 (elp hd_To 1 i1.toNat 0) H33) (by kernel_rfl) (u63.ld g61.1 g61.2 (by kernel_rfl)) ?_
   refine d_qk (.pointer (some ⟨b7, 2, none⟩)) (by kernel_rfl) ?_
   refine d_ql (hd_Weight) (x := aLoad Try.prog 22 (.pointer (some ⟨b7, 2, none⟩)) H33) (by kernel_rfl) (u52.ld (by kernel_rfl)) ?_
   refine d_qk (.int .i64 i1) (by kernel_rfl) ?_
   obtain ⟨g64, r65⟩ := G_some r62
   have u66 := ((h_Weight.ext e9).fr e34 Dj.nil_l)
   refine d_ql (elp hd_Weight 1 i1.toNat 0) (x := aIndexAddr Try.prog 22 hd_Weight (.int .i64 i1)) (by kernel_rfl) (u66.idxb (by kernel_rfl) g61.1 g64) ?_
   refine d_ql (.int .i64 (gt Weight i1)) (x := aLoad Try.prog 3 (elp hd_Weight 1 i1.toNat 0) H33) (by kernel_rfl) (u66.ld g61.1 g64 (by kernel_rfl)) ?_
   refine d_qk (.agg #[.int .i64 v_, .int .i64 (gt To i1), .int .i64 (gt Weight i1)]) (by kernel_rfl) ?_
   refine d_owk (enc := enc_i64_i64_i64) (sz := 3) e34.wf [(v_, (gt To i1), (gt Weight i1))] 1 (by decide) (fun _ _ => rfl) (fun _ _ => rfl) rfl (by kernel_rfl) fun s67 f68 H69 e70 hf71 hm72 => ?_
   obtain ⟨a73, n74, c75, rfl⟩ := hm72.form
   have u77 := (m36.ext e70)
   obtain ⟨g78, r79⟩ := G_some r65
   obtain ⟨s80, H81, f82, q86, e83, hm84, hf85⟩ := Ow.append (P := Try.prog) 24 e70.wf u77 hm72.sq (fun _ _ => rfl) (at_ := #[57, 57]) rfl rfl (by kernel_rfl) (by kernel_rfl) (by decide) (by have := g78; first | omega | (simp only [List.length_cons, List.length_nil] at this ⊢; omega) | (simp at this ⊢; omega))
   obtain ⟨a87, n88, c89, rfl⟩ := hm84.form
   refine d_ek (.slice a87 n88 c89) (by kernel_rfl) (q86) (st_nil) ?_
   refine d_qk (.slice a87 n88 c89) (by kernel_rfl) ?_
   refine d_nil ?_
   refine k60 _ _ ?_
   refine w_reg (by kernel_rfl) ?_
   refine s_qk (.int .i64 i1) (by kernel_rfl) ?_
   obtain ⟨g91, r92⟩ := G_some r79
   refine s_w ((i1 + 1)) (k := .i64) (x := (i1 + 1)) (by kernel_rfl) (wrap64 (by have := g91; omega)) ?_
   refine s_qk (.int .i64 (i1 + 1)) (by kernel_rfl) ?_
   refine s_nil ?_
   obtain rfl := Option.some.inj r92
   exact k46 n42 _ _ (Nat.lt_succ_self _) ⟨(l0 ++ [(v_, (gt To i1), (gt Weight i1))]), (i1 + 1), (.slice a87 n88 c89), f82, hn45, ⟨by kernel_rfl, by kernel_rfl, by kernel_rfl, by kernel_rfl, trivial⟩, (FrS.step e9.wf ((FrS.step e9.wf (FrS.refl (W := []) e9.wf) e34 Inn.nil).extR e70) e83 (i39.fresh (Nat.le_refl _))), hm84, (Inn.trans (i39.fresh (Nat.le_refl _)) (ntr e34.next e70.next) hf85)⟩
  ·have r93 := ite_f h58 r56
   refine w_exit (th_exit (th_exit (bl_eq ?_)))
   obtain rfl := Option.some.inj r93
   obtain rfl := it_inr hn45
   exact k29 _ _ ⟨(.slice a47 n48 c49), f38, ⟨by kernel_rfl, trivial⟩, (FrS.step e9.wf (FrS.refl (W := []) e9.wf) e34 Inn.nil), m36, (i39.fresh (Nat.le_refl _))⟩
 ·obtain ⟨s26, f27, hh30, e23, m25, i28⟩ := hM
  obtain ⟨β, rfl⟩ := has_ex hh30
  clear hh30
  obtain ⟨a94, n95, c96, rfl⟩ := m25.form
  refine k14 _ _ ?_
  refine w_seqk fun K97 k97 => ?_
  refine w_reg (by kernel_rfl) ?_
  refine s_qk (.slice a94 n95 c96) (by kernel_rfl) ?_
  refine s_qk (.slice a94 n95 c96) (by kernel_rfl) ?_
  refine s_nil ?_
  refine k97 _ _ ?_
  refine w_ret ?_
  refine b_ret (fn := Try.f108) (vs := [.slice a94 n95 c96]) (aRes_tmp (by kernel_rfl) (rfl)) ?_
  obtain rfl := Option.some.inj r21
  exact ⟨(.slice a94 n95 c96), f27, rfl, (FrS.step wf ((FrS.refl (W := []) wf).extR e9) e23 Inn.nil), m25, (i28.fresh e9.next)⟩

theorem c_csr_Graph {H : AH} {hd_First : Value} {fp_First : Fp} {hd_To : Value} {fp_To : Fp} {hd_Weight : Value} {fp_Weight : Fp} {First : List (Int)} {To : List (Int)} {Weight : List (Int)} {r : Int × List (Int × Int × Int) × Er}
  (wf : WF H) (h_First : Sq (encI .i64) 1 H hd_First First fp_First) (h_To : Sq (encI .i64) 1 H hd_To To fp_To) (h_Weight : Sq (encI .i64) 1 H hd_Weight Weight fp_Weight) (hr : z_csr_Graph First To Weight = some r) :
  ACalls Try.prog 49 #[.agg #[hd_First, hd_To, hd_Weight]] H fun v H' => ∃ (s3 : Value) (f4 : Fp) (v7 : Value) (f8 : Fp), v = .tuple #[.agg #[.int .i64 r.1, s3], v7] ∧ FrS [] H H' ∧ Ow enc_i64_i64_i64 3 H' s3 r.2.1 f4 ∧ Ev 122 235 H' v7 r.2.2 f8 ∧ Inn [] H f4 ∧ Inn [] H f8 ∧ Dj f4 f8 := by
 refine acalls_of_body mixed Try.func49 rfl (Nat.le_of_ble_eq_true rfl) ?_
 unfold z_csr_Graph at hr
 refine w_seqk fun K12 k12 => ?_
 refine w_reg (by kernel_rfl) ?_
 refine s_rwl wf [hd_First, hd_To, hd_Weight] (one_cons (h_First.one1) (one_cons (h_To.one1) (one_cons (h_Weight.one1) (one_nil)))) (by kernel_rfl) fun b13 H14 e15 hb16 r17 => ?_
 refine s_rwk e15.wf [.int .i64 0, .slice none 0 0] (by kernel_rfl) fun b19 H20 e21 hb22 r23 => ?_
 refine s_qk (.nilIface) (by kernel_rfl) ?_
 refine s_nil ?_
 refine k12 _ _ ?_
 refine w_seqk fun K25 k25 => ?_
 refine w_seqk fun K26 k26 => ?_
 refine w_reg (by kernel_rfl) ?_
 have u27 := (r17.ext e21)
 refine s_ql (.agg #[hd_First, hd_To, hd_Weight]) (x := aLoad Try.prog 27 (.pointer (some ⟨b13, 0, none⟩)) H20) (by kernel_rfl) (u27.ld (by kernel_rfl)) ?_
 have u28 := ((h_First.ext e15).ext e21)
 have u29 := ((h_To.ext e15).ext e21)
 have u30 := ((h_Weight.ext e15).ext e21)
 obtain ⟨y31, hy32, r33⟩ := bind_some hr
 refine s_ck 62 #[.agg #[hd_First, hd_To, hd_Weight]] (by kernel_rfl) (c_csr_Check e21.wf u28 u29 u30 hy32) ?_
 rintro v34 H36 ⟨_, f35, rfl, e37, m38, i39⟩
 refine s_qk (v34) (by kernel_rfl) ?_
 refine s_nil ?_
 refine k26 _ _ ?_
 refine w_seqk fun K41 k41 => ?_
 refine w_reg (by kernel_rfl) ?_
 refine s_qk (v34) (by kernel_rfl) ?_
 rcases (m38).cases with ⟨h42, rfl⟩ | ⟨h42, t43, x44, rfl⟩
 ·have r45 := ite_t h42 r33
  refine s_qk (.bool false) (by kernel_rfl) ?_
  refine s_nil ?_
  refine k41 _ _ ?_
  refine w_cond false (by kernel_rfl) rfl (fun h => by cases h) (fun _ => ?_)
  refine w_skip ?_
  refine k25 _ _ ?_
  refine w_seqk fun K46 k46 => ?_
  refine w_reg (by kernel_rfl) ?_
  have u47 := (u27.frS e37 Dj.nil_l)
  refine s_ql (.agg #[hd_First, hd_To, hd_Weight]) (x := aLoad Try.prog 27 (.pointer (some ⟨b13, 0, none⟩)) H36) (by kernel_rfl) (u47.ld (by kernel_rfl)) ?_
  have u48 := (u28.fr e37 Dj.nil_l)
  have u49 := (u29.fr e37 Dj.nil_l)
  have u50 := (u30.fr e37 Dj.nil_l)
  obtain ⟨y51, hy52, r53⟩ := bind_some r45
  refine s_ck 107 #[.agg #[hd_First, hd_To, hd_Weight]] (by kernel_rfl) (c_csr_Csr_nodes e37.wf u48 u49 u50 hy52) ?_
  rintro _ H54 ⟨rfl, e55⟩
  refine s_qk (.agg #[.int .i64 y51, .slice none 0 0]) (by kernel_rfl) ?_
  refine s_rwk e55.wf [.int .i64 0, .slice none 0 0] (by kernel_rfl) fun b56 H57 e58 hb59 r60 => ?_
  obtain ⟨H62, q63, e64, r65⟩ := Row.store (P := Try.prog) (t := 59) (p := 0) e58.wf r60 (.agg #[.int .i64 y51, .slice none 0 0]) [.int .i64 y51, .slice none 0 0] (by kernel_rfl) (by kernel_rfl) (one_cons (rfl) (one_cons (rfl) (one_nil))) (Nat.le_of_ble_eq_true (by kernel_rfl)) [.int .i64 y51, .slice none 0 0] (by kernel_rfl)
  refine s_ek (undef) (by kernel_rfl) (map_ok q63) ?_
  refine s_nil ?_
  refine k46 _ _ ?_
  refine w_seqk fun K66 k66 => ?_
  refine w_seqk fun K67 k67 => ?_
  refine w_reg (by kernel_rfl) ?_
  refine s_qk (.pointer (some ⟨b56, 0, none⟩)) (by kernel_rfl) ?_
  refine s_ql (.int .i64 y51) (x := aLoad Try.prog 3 (.pointer (some ⟨b56, 0, none⟩)) H62) (by kernel_rfl) (r65.ld (by kernel_rfl)) ?_
  refine s_qk (.int .i64 0) (by kernel_rfl) ?_
  refine s_nil ?_
  refine k67 _ _ ?_
  obtain ⟨o68, hx69, r70⟩ := bind_some r53
  refine w_mid (fun α H71 => ∃ (s75 : Value) (f76 : Fp), Has α [(2, .pointer (some ⟨b19, 0, none⟩)), (5, .pointer (some ⟨b56, 0, none⟩))] ∧ FrS [b56] H62 H71 ∧ Ow enc_i64_i64_i64 3 H71 s75 o68 f76 ∧ Row H71 b56 [.int .i64 y51, s75] ∧ Inn [] H62 f76) (fun K80 k80 => ?_) (fun α H71 hM => ?_)
  ·refine w_block ?_
   obtain ⟨n82, hn83⟩ := loopO_iff.1 hx69
   refine w_loopn (fun n α H84 => ∃ (i0 : Int), ∃ (g1 : List (Int × Int × Int)), ∃ (s88 : Value), ∃ (f89 : Fp), iterO (fun zz_ => z_csr_Graph_l0 First To Weight y51 zz_.1 zz_.2) n (i0, g1) = some o68 ∧ Has α [(1, .pointer (some ⟨b13, 0, none⟩)), (2, .pointer (some ⟨b19, 0, none⟩)), (5, .pointer (some ⟨b56, 0, none⟩)), (17, .int .i64 y51), (18, .int .i64 i0)] ∧ FrS [b56] H62 H84 ∧ Ow enc_i64_i64_i64 3 H84 s88 g1 f89 ∧ Row H84 b56 [.int .i64 y51, s88] ∧ Inn [] H62 f89) n82 ⟨0, [], (.slice none 0 0), [], hn83, ⟨by kernel_rfl, by kernel_rfl, by kernel_rfl, by kernel_rfl, by kernel_rfl, trivial⟩, (FrS.refl (W := [b56]) e64.wf), (Ow.nil (by decide)), r65, Inn.nil⟩ ?_
   rintro n82 α H84 ⟨i0, g1, s88, f89, hi94, hh93, e85, m87, m91, i92⟩ K99 k99
   obtain ⟨n95, z96, rfl, hz97, hn98⟩ := iter_succ hi94
   obtain ⟨β, rfl⟩ := has_ex hh93
   clear hh93
   replace hz97 : z_csr_Graph_l0 First To Weight y51 i0 g1 = some z96 := hz97
   unfold z_csr_Graph_l0 at hz97
   obtain ⟨a100, n101, c102, rfl⟩ := m87.form
   refine w_seqk fun K103 k103 => ?_
   refine w_reg (by kernel_rfl) ?_
   refine s_qk (.bool (decide (i0 < y51))) (by kernel_rfl) ?_
   refine s_nil ?_
   refine k103 _ _ ?_
   refine w_seqk fun K104 k104 => ?_
   refine w_condp (i0 < y51) (by kernel_rfl) rfl (fun h105 => ?_) (fun h105 => ?_)
   ·have r106 := ite_t h105 hz97
    refine w_skip ?_
    refine k104 _ _ ?_
    refine w_seqk fun K107 k107 => ?_
    refine w_block ?_
    refine w_seqk fun K108 k108 => ?_
    refine w_reg (by kernel_rfl) ?_
    refine s_qk (.int .i64 i0) (by kernel_rfl) ?_
    refine s_qk (.int .i64 i0) (by kernel_rfl) ?_
    refine s_nil ?_
    refine k108 _ _ ?_
    refine w_draw [0, 1, 2, 3, 4, 5, 6, 7] (by kernel_rfl) ?_
    refine d_qk (.pointer (some ⟨b56, 1, none⟩)) (by kernel_rfl) ?_
    refine d_fl (.slice a100 n101 c102) (x := aLoad Try.prog 57 (.pointer (some ⟨b56, 1, none⟩)) H84) (by kernel_rfl) (m91.ld (by kernel_rfl)) ?_
    have u109 := ((((u47.frS e55 Dj.nil_l).ext e58).frS e64 (hb59.djn (r17.ltF.le (ntr (ntr e21.next e37.next) e55.next)))).frS e85 (hb59.djn (r17.ltF.le (ntr (ntr e21.next e37.next) e55.next))))
    refine d_ql (.agg #[hd_First, hd_To, hd_Weight]) (x := aLoad Try.prog 27 (.pointer (some ⟨b13, 0, none⟩)) H84) (by kernel_rfl) (u109.ld (by kernel_rfl)) ?_
    refine d_qk (.int .i64 i0) (by kernel_rfl) ?_
    have u110 := ((((u48.fr e55 Dj.nil_l).ext e58).fr e64 (hb59.djn (h_First.lt.le (ntr (ntr (ntr e15.next e21.next) e37.next) e55.next)))).fr e85 (hb59.djn (h_First.lt.le (ntr (ntr (ntr e15.next e21.next) e37.next) e55.next))))
    have u111 := ((((u49.fr e55 Dj.nil_l).ext e58).fr e64 (hb59.djn (h_To.lt.le (ntr (ntr (ntr e15.next e21.next) e37.next) e55.next)))).fr e85 (hb59.djn (h_To.lt.le (ntr (ntr (ntr e15.next e21.next) e37.next) e55.next))))
    have u112 := ((((u50.fr e55 Dj.nil_l).ext e58).fr e64 (hb59.djn (h_Weight.lt.le (ntr (ntr (ntr e15.next e21.next) e37.next) e55.next)))).fr e85 (hb59.djn (h_Weight.lt.le (ntr (ntr (ntr e15.next e21.next) e37.next) e55.next))))
    obtain ⟨y113, hy114, r115⟩ := bind_some r106
    refine d_ck 108 #[.agg #[hd_First, hd_To, hd_Weight], .int .i64 i0] (by kernel_rfl) (c_csr_Csr_row e85.wf u110 u111 u112 hy114) ?_
    rintro s116 H118 ⟨_, f117, rfl, e119, m120, i121⟩
    obtain ⟨a123, n124, c125, rfl⟩ := m120.form
    have u126 := (m91.frS e119 Dj.nil_l)
    refine ⟨st_ql (y := aLoad Try.prog 57 (.pointer (some ⟨b56, 1, none⟩)) H118) (by kernel_rfl) (u126.ld (by kernel_rfl)) (st_nil), ?_⟩
    have u127 := (m87.fr e119 Dj.nil_l)
    obtain ⟨g128, r129⟩ := G_some r115
    obtain ⟨s130, H131, f132, q136, e133, hm134, hf135⟩ := Ow.append (P := Try.prog) 24 e119.wf u127 m120.sq (fun _ _ => rfl) (at_ := #[57, 57]) rfl rfl (by kernel_rfl) (by kernel_rfl) (by decide) (by have := g128; first | omega | (simp only [List.length_cons, List.length_nil] at this ⊢; omega) | (simp at this ⊢; omega))
    obtain ⟨a137, n138, c139, rfl⟩ := hm134.form
    refine d_ek (.slice a137 n138 c139) (by kernel_rfl) (q136) (st_anc (by kernel_rfl) (st_nil)) ?_
    refine d_qk (.pointer (some ⟨b56, 1, none⟩)) (by kernel_rfl) ?_
    have u145 := (u126.frS e133 (i92.djn (r60.ltF.le e64.next)))
    obtain ⟨H141, q142, e143, r144⟩ := Row.store (P := Try.prog) (t := 57) (p := 1) e133.wf u145 (.slice a137 n138 c139) [.slice a137 n138 c139] (by kernel_rfl) (by kernel_rfl) (one_cons (hm134.one1) (one_nil)) (Nat.le_of_ble_eq_true (by kernel_rfl)) [.int .i64 y51, .slice a137 n138 c139] (by kernel_rfl)
    refine d_ek (undef) (by kernel_rfl) (map_ok q142) (st_anc (by kernel_rfl) (st_nil)) ?_
    refine d_nil ?_
    refine k107 _ _ ?_
    refine w_reg (by kernel_rfl) ?_
    obtain ⟨g146, r147⟩ := G_some r129
    refine s_w ((i0 + 1)) (k := .i64) (x := (i0 + 1)) (by kernel_rfl) (wrap64 g146) ?_
    refine s_qk (.int .i64 (i0 + 1)) (by kernel_rfl) ?_
    refine s_nil ?_
    have u148 := (hm134.fr e143 (Dj.symm (hf135.dj (i92.djn (r60.ltF.le e64.next)) (r60.ltF.le (ntr (ntr e64.next e85.next) e119.next)))))
    obtain rfl := Option.some.inj r147
    exact k99 n95 _ _ (Nat.lt_succ_self _) ⟨(i0 + 1), (g1 ++ y113), (.slice a137 n138 c139), f132, hn98, ⟨by kernel_rfl, by kernel_rfl, by kernel_rfl, by kernel_rfl, by kernel_rfl, trivial⟩, (FrS.step e64.wf (FrS.step e64.wf (FrS.step e64.wf (FrS.step e64.wf (FrS.refl (W := [b56]) e64.wf) e85 Inn.refl') e119 Inn.nil) e133 (i92.fresh (Nat.le_refl _))) e143 Inn.refl'), u148, r144, (Inn.trans (i92.fresh (Nat.le_refl _)) (ntr e85.next e119.next) hf135)⟩
   ·have r149 := ite_f h105 hz97
    refine w_exit (th_exit (th_exit (bl_eq ?_)))
    obtain rfl := Option.some.inj r149
    obtain rfl := it_inr hn98
    exact k80 _ _ ⟨(.slice a100 n101 c102), f89, ⟨by kernel_rfl, by kernel_rfl, trivial⟩, (FrS.step e64.wf (FrS.refl (W := [b56]) e64.wf) e85 Inn.refl'), m87, m91, (i92.fresh (Nat.le_refl _))⟩
  ·obtain ⟨s75, f76, hh81, e72, m74, m78, i79⟩ := hM
   obtain ⟨β, rfl⟩ := has_ex hh81
   clear hh81
   obtain ⟨a150, n151, c152, rfl⟩ := m74.form
   refine k66 _ _ ?_
   refine w_seqk fun K153 k153 => ?_
   refine w_reg (by kernel_rfl) ?_
   refine s_ql (.agg #[.int .i64 y51, .slice a150 n151 c152]) (x := aLoad Try.prog 59 (.pointer (some ⟨b56, 0, none⟩)) H71) (by kernel_rfl) (m78.ld (by kernel_rfl)) ?_
   have u158 := (((((r23.frS e37 Dj.nil_l).frS e55 Dj.nil_l).ext e58).frS e64 (hb59.djn (r23.ltF.le (ntr e37.next e55.next)))).frS e72 (hb59.djn (r23.ltF.le (ntr e37.next e55.next))))
   obtain ⟨H154, q155, e156, r157⟩ := Row.store (P := Try.prog) (t := 59) (p := 0) e72.wf u158 (.agg #[.int .i64 y51, .slice a150 n151 c152]) [.int .i64 y51, .slice a150 n151 c152] (by kernel_rfl) (by kernel_rfl) (one_cons (rfl) (one_cons (m74.one1) (one_nil))) (Nat.le_of_ble_eq_true (by kernel_rfl)) [.int .i64 y51, .slice a150 n151 c152] (by kernel_rfl)
   refine s_ek (undef) (by kernel_rfl) (map_ok q155) ?_
   refine s_qk (.nilIface) (by kernel_rfl) ?_
   refine s_nil ?_
   refine k153 _ _ ?_
   refine w_ret ?_
   refine b_ret (fn := Try.f49) (vs := [.agg #[.int .i64 y51, .slice a150 n151 c152], .nilIface]) (aRes_cell (Eq.trans (b := aLoad Try.prog 59 (.pointer (some ⟨b19, 0, none⟩)) H154) (by kernel_rfl) (r157.ld (by kernel_rfl))) (aRes_tmp (by kernel_rfl) (rfl))) ?_
   have u159 := (m74.fr e156 (Dj.symm (i79.djn (r23.ltF.le (ntr (ntr (ntr e37.next e55.next) e58.next) e64.next)))))
   obtain rfl := Option.some.inj r70
   exact ⟨(.slice a150 n151 c152), f76, (.nilIface), [], rfl, (FrS.step wf (FrS.step wf (FrS.step wf ((FrS.step wf (FrS.step wf (((FrS.refl (W := []) wf).extR e15).extR e21) e37 Inn.nil) e55 Inn.nil).extR e58) e64 (hb59.fresh (ntr (ntr (ntr e15.next e21.next) e37.next) e55.next))) e72 (hb59.fresh (ntr (ntr (ntr e15.next e21.next) e37.next) e55.next))) e156 (hb22.fresh e15.next)), u159, Ev.nil, (i79.fresh (ntr (ntr (ntr (ntr (ntr e15.next e21.next) e37.next) e55.next) e58.next) e64.next)), Inn.nil, Dj.nil_r⟩
 ·have r160 := ite_f h42 r33
  refine s_ql (.bool true) (x := aBin Try.prog .neq 31 (.tmp 9) (.const .nilIface) (.iface t43 x44) .nilIface) (by kernel_rfl) (aBin_nnil (by kernel_rfl)) ?_
  refine s_nil ?_
  refine k41 _ _ ?_
  refine w_cond true (by kernel_rfl) rfl (fun _ => ?_) (fun h => by cases h)
  refine w_seqk fun K161 k161 => ?_
  refine w_reg (by kernel_rfl) ?_
  refine s_qk (.agg #[.int .i64 0, .slice none 0 0]) (by kernel_rfl) ?_
  refine s_qk (.iface t43 x44) (by kernel_rfl) ?_
  have u166 := (r23.frS e37 Dj.nil_l)
  obtain ⟨H162, q163, e164, r165⟩ := Row.store (P := Try.prog) (t := 59) (p := 0) e37.wf u166 (.agg #[.int .i64 0, .slice none 0 0]) [.int .i64 0, .slice none 0 0] (by kernel_rfl) (by kernel_rfl) (one_cons (rfl) (one_cons (rfl) (one_nil))) (Nat.le_of_ble_eq_true (by kernel_rfl)) [.int .i64 0, .slice none 0 0] (by kernel_rfl)
  refine s_ek (undef) (by kernel_rfl) (map_ok q163) ?_
  refine s_qk (.iface t43 x44) (by kernel_rfl) ?_
  refine s_nil ?_
  refine k161 _ _ ?_
  refine w_ret (th_ret ?_)
  refine b_ret (fn := Try.f49) (vs := [.agg #[.int .i64 0, .slice none 0 0], .iface t43 x44]) (aRes_cell (Eq.trans (b := aLoad Try.prog 59 (.pointer (some ⟨b19, 0, none⟩)) H162) (by kernel_rfl) (r165.ld (by kernel_rfl))) (aRes_tmp (by kernel_rfl) (rfl))) ?_
  have u167 := (m38.fr e164 (Dj.symm (i39.djn r23.ltF)))
  obtain rfl := Option.some.inj r160
  exact ⟨(.slice none 0 0), [], (.iface t43 x44), f35, rfl, (FrS.step wf (FrS.step wf (((FrS.refl (W := []) wf).extR e15).extR e21) e37 Inn.nil) e164 (hb22.fresh e15.next)), (Ow.nil (by decide)), u167, Inn.nil, (i39.fresh (ntr e15.next e21.next)), Dj.nil_l⟩

theorem c_csr_Row {H : AH} {hd_First : Value} {fp_First : Fp} {hd_To : Value} {fp_To : Fp} {hd_Weight : Value} {fp_Weight : Fp} {First : List (Int)} {To : List (Int)} {Weight : List (Int)} {v_ : Int} {r : List (Int × Int × Int) × Er}
  (wf : WF H) (h_First : Sq (encI .i64) 1 H hd_First First fp_First) (h_To : Sq (encI .i64) 1 H hd_To To fp_To) (h_Weight : Sq (encI .i64) 1 H hd_Weight Weight fp_Weight) (hr : z_csr_Row First To Weight v_ = some r) :
  ACalls Try.prog 50 #[.agg #[hd_First, hd_To, hd_Weight], .int .i64 v_] H fun v H' => ∃ (s3 : Value) (f4 : Fp) (v7 : Value) (f8 : Fp), v = .tuple #[s3, v7] ∧ FrS [] H H' ∧ Ow enc_i64_i64_i64 3 H' s3 r.1 f4 ∧ Ev 122 235 H' v7 r.2 f8 ∧ Inn [] H f4 ∧ Inn [] H f8 ∧ Dj f4 f8 := by
 refine acalls_of_body mixed Try.func50 rfl (Nat.le_of_ble_eq_true rfl) ?_
 unfold z_csr_Row at hr
 refine w_seqk fun K12 k12 => ?_
 refine w_reg (by kernel_rfl) ?_
 refine s_rwl wf [hd_First, hd_To, hd_Weight] (one_cons (h_First.one1) (one_cons (h_To.one1) (one_cons (h_Weight.one1) (one_nil)))) (by kernel_rfl) fun b13 H14 e15 hb16 r17 => ?_
 refine s_qk (.slice none 0 0) (by kernel_rfl) ?_
 refine s_qk (.nilIface) (by kernel_rfl) ?_
 refine s_nil ?_
 refine k12 _ _ ?_
 refine w_seqk fun K19 k19 => ?_
 refine w_seqk fun K20 k20 => ?_
 refine w_reg (by kernel_rfl) ?_
 refine s_ql (.agg #[hd_First, hd_To, hd_Weight]) (x := aLoad Try.prog 27 (.pointer (some ⟨b13, 0, none⟩)) H14) (by kernel_rfl) (r17.ld (by kernel_rfl)) ?_
 have u21 := (h_First.ext e15)
 have u22 := (h_To.ext e15)
 have u23 := (h_Weight.ext e15)
 obtain ⟨y24, hy25, r26⟩ := bind_some hr
 refine s_ck 62 #[.agg #[hd_First, hd_To, hd_Weight]] (by kernel_rfl) (c_csr_Check e15.wf u21 u22 u23 hy25) ?_
 rintro v27 H29 ⟨_, f28, rfl, e30, m31, i32⟩
 refine s_qk (v27) (by kernel_rfl) ?_
 refine s_nil ?_
 refine k20 _ _ ?_
 refine w_seqk fun K34 k34 => ?_
 refine w_reg (by kernel_rfl) ?_
 refine s_qk (v27) (by kernel_rfl) ?_
 rcases (m31).cases with ⟨h35, rfl⟩ | ⟨h35, t36, x37, rfl⟩
 ·have r38 := ite_t h35 r26
  refine s_qk (.bool false) (by kernel_rfl) ?_
  refine s_nil ?_
  refine k34 _ _ ?_
  refine w_cond false (by kernel_rfl) rfl (fun h => by cases h) (fun _ => ?_)
  refine w_skip ?_
  refine k19 _ _ ?_
  refine w_seqk fun K39 k39 => ?_
  refine w_seqk fun K40 k40 => ?_
  obtain ⟨o41, hx42, r43⟩ := bind_some r38
  refine w_mid (fun α H44 => Has α [(1, .int .i64 v_), (2, .pointer (some ⟨b13, 0, none⟩)), (19, .bool o41)] ∧ FrS [] H29 H44) (fun K46 k46 => ?_) (fun α H44 hM => ?_)
  ·refine w_reg (by kernel_rfl) ?_
   refine s_qk (.int .i64 v_) (by kernel_rfl) ?_
   refine s_b (v_ < 0) (by kernel_rfl) (fun h48 => ?_) (fun h48 => ?_)
   ·have r49 := ite_t h48 hx42
    refine s_qk (.bool true) (by kernel_rfl) ?_
    refine s_no (by kernel_rfl) ?_
    refine s_no (by kernel_rfl) ?_
    refine s_no (by kernel_rfl) ?_
    refine s_no (by kernel_rfl) ?_
    refine s_qk (.bool true) (by kernel_rfl) ?_
    refine s_nil ?_
    obtain rfl := Option.some.inj r49
    exact k46 _ _ ⟨⟨by kernel_rfl, by kernel_rfl, by kernel_rfl, trivial⟩, (FrS.refl (W := []) e30.wf)⟩
   ·have r50 := ite_f h48 hx42
    refine s_qk (.bool false) (by kernel_rfl) ?_
    refine s_qk (.int .i64 v_) (by kernel_rfl) ?_
    have u51 := (r17.frS e30 Dj.nil_l)
    refine s_ql (.agg #[hd_First, hd_To, hd_Weight]) (x := aLoad Try.prog 27 (.pointer (some ⟨b13, 0, none⟩)) H29) (by kernel_rfl) (u51.ld (by kernel_rfl)) ?_
    have u52 := (u21.fr e30 Dj.nil_l)
    have u53 := (u22.fr e30 Dj.nil_l)
    have u54 := (u23.fr e30 Dj.nil_l)
    obtain ⟨y55, hy56, r57⟩ := bind_some r50
    refine s_ck 107 #[.agg #[hd_First, hd_To, hd_Weight]] (by kernel_rfl) (c_csr_Csr_nodes e30.wf u52 u53 u54 hy56) ?_
    rintro _ H58 ⟨rfl, e59⟩
    refine s_qk (.bool (decide (v_ ≥ y55))) (by kernel_rfl) ?_
    refine s_qk (.bool (decide (v_ ≥ y55))) (by kernel_rfl) ?_
    refine s_nil ?_
    obtain rfl := Option.some.inj r57
    exact k46 _ _ ⟨⟨by kernel_rfl, by kernel_rfl, by kernel_rfl, trivial⟩, (FrS.step e30.wf (FrS.refl (W := []) e30.wf) e59 Inn.nil)⟩
  ·obtain ⟨hh47, e45⟩ := hM
   obtain ⟨β, rfl⟩ := has_ex hh47
   clear hh47
   refine k40 _ _ ?_
   refine w_cond (o41) (by kernel_rfl) rfl (fun h60 => ?_) (fun h60 => ?_)
   ·have r61 := ite_t h60 r43
    refine w_seqk fun K62 k62 => ?_
    refine w_reg (by kernel_rfl) ?_
    refine s_qk (.iface 122 (.int .i64 7)) (by kernel_rfl) ?_
    refine s_qk (.slice none 0 0) (by kernel_rfl) ?_
    refine s_qk (.iface 122 (.int .i64 7)) (by kernel_rfl) ?_
    refine s_nil ?_
    refine k62 _ _ ?_
    refine w_ret (th_ret ?_)
    refine b_ret (fn := Try.f50) (vs := [.slice none 0 0, .iface 122 (.int .i64 7)]) (aRes_tmp (by kernel_rfl) (aRes_tmp (by kernel_rfl) (rfl))) ?_
    obtain rfl := Option.some.inj r61
    exact ⟨(.slice none 0 0), [], (.iface 122 (.int .i64 7)), [], rfl, (FrS.step wf (FrS.step wf ((FrS.refl (W := []) wf).extR e15) e30 Inn.nil) e45 Inn.nil), (Ow.nil (by decide)), Ev.no, Inn.nil, Inn.nil, Dj.nil_l⟩
   ·have r63 := ite_bf h60 r43
    refine w_skip ?_
    refine k39 _ _ ?_
    refine w_seqk fun K64 k64 => ?_
    refine w_reg (by kernel_rfl) ?_
    have u65 := ((r17.frS e30 Dj.nil_l).frS e45 Dj.nil_l)
    refine s_ql (.agg #[hd_First, hd_To, hd_Weight]) (x := aLoad Try.prog 27 (.pointer (some ⟨b13, 0, none⟩)) H44) (by kernel_rfl) (u65.ld (by kernel_rfl)) ?_
    refine s_qk (.int .i64 v_) (by kernel_rfl) ?_
    have u66 := ((u21.fr e30 Dj.nil_l).fr e45 Dj.nil_l)
    have u67 := ((u22.fr e30 Dj.nil_l).fr e45 Dj.nil_l)
    have u68 := ((u23.fr e30 Dj.nil_l).fr e45 Dj.nil_l)
    obtain ⟨y69, hy70, r71⟩ := bind_some r63
    refine s_ck 108 #[.agg #[hd_First, hd_To, hd_Weight], .int .i64 v_] (by kernel_rfl) (c_csr_Csr_row e45.wf u66 u67 u68 hy70) ?_
    rintro s72 H74 ⟨_, f73, rfl, e75, m76, i77⟩
    obtain ⟨a79, n80, c81, rfl⟩ := m76.form
    refine s_qk (.slice a79 n80 c81) (by kernel_rfl) ?_
    refine s_qk (.nilIface) (by kernel_rfl) ?_
    refine s_nil ?_
    refine k64 _ _ ?_
    refine w_ret ?_
    refine b_ret (fn := Try.f50) (vs := [.slice a79 n80 c81, .nilIface]) (aRes_tmp (by kernel_rfl) (aRes_tmp (by kernel_rfl) (rfl))) ?_
    obtain rfl := Option.some.inj r71
    exact ⟨(.slice a79 n80 c81), f73, (.nilIface), [], rfl, (FrS.step wf (FrS.step wf (FrS.step wf ((FrS.refl (W := []) wf).extR e15) e30 Inn.nil) e45 Inn.nil) e75 Inn.nil), m76, Ev.nil, (i77.fresh (ntr (ntr e15.next e30.next) e45.next)), Inn.nil, Dj.nil_r⟩
 ·have r82 := ite_f h35 r26
  refine s_ql (.bool true) (x := aBin Try.prog .neq 31 (.tmp 9) (.const .nilIface) (.iface t36 x37) .nilIface) (by kernel_rfl) (aBin_nnil (by kernel_rfl)) ?_
  refine s_nil ?_
  refine k34 _ _ ?_
  refine w_cond true (by kernel_rfl) rfl (fun _ => ?_) (fun h => by cases h)
  refine w_seqk fun K83 k83 => ?_
  refine w_reg (by kernel_rfl) ?_
  refine s_qk (.iface t36 x37) (by kernel_rfl) ?_
  refine s_qk (.slice none 0 0) (by kernel_rfl) ?_
  refine s_qk (.iface t36 x37) (by kernel_rfl) ?_
  refine s_nil ?_
  refine k83 _ _ ?_
  refine w_ret (th_ret ?_)
  refine b_ret (fn := Try.f50) (vs := [.slice none 0 0, .iface t36 x37]) (aRes_tmp (by kernel_rfl) (aRes_tmp (by kernel_rfl) (rfl))) ?_
  obtain rfl := Option.some.inj r82
  exact ⟨(.slice none 0 0), [], (.iface t36 x37), f28, rfl, (FrS.step wf ((FrS.refl (W := []) wf).extR e15) e30 Inn.nil), (Ow.nil (by decide)), m31, Inn.nil, (i32.fresh e15.next), Dj.nil_l⟩

theorem c_viaductref03_SameArcs {H : AH} {hd_a : Value} {fp_a : Fp} {hd_b : Value} {fp_b : Fp} {a : List (Int × Int × Int)} {b : List (Int × Int × Int)} {r : Bool}
  (wf : WF H) (h_a : Sq enc_i64_i64_i64 3 H hd_a a fp_a) (h_b : Sq enc_i64_i64_i64 3 H hd_b b fp_b) (hr : z_viaductref03_SameArcs a b = some r) :
  ACalls Try.prog 80 #[hd_a, hd_b] H fun v H' => v = .bool r ∧ H = H' := by
 refine acalls_of_body mixed Try.func80 rfl (Nat.le_of_ble_eq_true rfl) ?_
 unfold z_viaductref03_SameArcs at hr
 refine w_seqk fun K1 k1 => ?_
 refine w_reg (by kernel_rfl) ?_
 refine s_qk (.bool false) (by kernel_rfl) ?_
 refine s_nil ?_
 refine k1 _ _ ?_
 refine w_seqk fun K2 k2 => ?_
 refine w_seqk fun K3 k3 => ?_
 refine w_reg (by kernel_rfl) ?_
 refine s_qk (hd_a) (by kernel_rfl) ?_
 refine s_ql (.int .i64 (a.length : Int)) (x := aLen Try.prog 57 hd_a H) (by kernel_rfl) (h_a.lenb (by kernel_rfl)) ?_
 refine s_qk (hd_b) (by kernel_rfl) ?_
 refine s_ql (.int .i64 (b.length : Int)) (x := aLen Try.prog 57 hd_b H) (by kernel_rfl) (h_b.lenb (by kernel_rfl)) ?_
 refine s_qk (.bool (!decide ((a.length : Int) = (b.length : Int)))) (by kernel_rfl) ?_
 refine s_nil ?_
 refine k3 _ _ ?_
 refine w_condn ((a.length : Int) = (b.length : Int)) (by kernel_rfl) rfl (fun h4 => ?_) (fun h4 => ?_)
 ·have r5 := ite_f h4 hr
  refine w_seqk fun K6 k6 => ?_
  refine w_reg (by kernel_rfl) ?_
  refine s_qk (.bool false) (by kernel_rfl) ?_
  refine s_nil ?_
  refine k6 _ _ ?_
  refine w_ret (th_ret ?_)
  refine b_ret (fn := Try.f80) (vs := [.bool false]) (aRes_tmp (by kernel_rfl) (rfl)) ?_
  obtain rfl := Option.some.inj r5
  exact ⟨rfl, rfl⟩
 ·have r7 := ite_t h4 hr
  refine w_skip ?_
  refine k2 _ _ ?_
  refine w_seqk fun K8 k8 => ?_
  refine w_seqk fun K9 k9 => ?_
  refine w_reg (by kernel_rfl) ?_
  refine s_qk (hd_a) (by kernel_rfl) ?_
  refine s_ql (.int .i64 (a.length : Int)) (x := aLen Try.prog 57 hd_a H) (by kernel_rfl) (h_a.lenb (by kernel_rfl)) ?_
  refine s_qk (.int .i64 0) (by kernel_rfl) ?_
  refine s_nil ?_
  refine k9 _ _ ?_
  obtain ⟨z13, hx11, r12⟩ := bind_some r7
  refine w_mid (fun α H14 => ∃ o10, z13 = Sum.inr o10 ∧ Has α [] ∧ H = H14) (fun K16 k16 => ?_) (fun α H14 hM => ?_)
  ·refine w_block ?_
   obtain ⟨n18, hn19⟩ := loopO_iff.1 hx11
   refine w_loopn (fun n α H20 => ∃ (i0 : Int), iterO (fun zz_ => z_viaductref03_SameArcs_l0 a b zz_) n i0 = some z13 ∧ Has α [(0, hd_a), (1, hd_b), (12, .int .i64 (a.length : Int)), (13, .int .i64 i0)] ∧ H = H20) n18 ⟨0, hn19, ⟨by kernel_rfl, by kernel_rfl, by kernel_rfl, by kernel_rfl, trivial⟩, rfl⟩ ?_
   rintro n18 α H20 ⟨i0, hi23, hh22, rfl⟩ K28 k28
   obtain ⟨n24, z25, rfl, hz26, hn27⟩ := iter_succ hi23
   obtain ⟨β, rfl⟩ := has_ex hh22
   clear hh22
   replace hz26 : z_viaductref03_SameArcs_l0 a b i0 = some z25 := hz26
   unfold z_viaductref03_SameArcs_l0 at hz26
   refine w_seqk fun K29 k29 => ?_
   refine w_reg (by kernel_rfl) ?_
   refine s_qk (.bool (decide (i0 < (a.length : Int)))) (by kernel_rfl) ?_
   refine s_nil ?_
   refine k29 _ _ ?_
   refine w_seqk fun K30 k30 => ?_
   refine w_condp (i0 < (a.length : Int)) (by kernel_rfl) rfl (fun h31 => ?_) (fun h31 => ?_)
   ·have r32 := ite_t h31 hz26
    refine w_skip ?_
    refine k30 _ _ ?_
    refine w_seqk fun K33 k33 => ?_
    refine w_block ?_
    refine w_seqk fun K34 k34 => ?_
    refine w_reg (by kernel_rfl) ?_
    refine s_qk (.int .i64 i0) (by kernel_rfl) ?_
    refine s_qk (.int .i64 i0) (by kernel_rfl) ?_
    refine s_nil ?_
    refine k34 _ _ ?_
    refine w_seqk fun K35 k35 => ?_
    refine w_draw [0, 1, 2, 3, 4, 5, 6, 7, 8] (by kernel_rfl) ?_
    refine d_qk (hd_a) (by kernel_rfl) ?_
    refine d_qk (.int .i64 i0) (by kernel_rfl) ?_
    obtain ⟨g36, r37⟩ := G_some r32
    refine d_ql (elp hd_a 3 i0.toNat 0) (x := aIndexAddr Try.prog 57 hd_a (.int .i64 i0)) (by kernel_rfl) (h_a.idxb (by kernel_rfl) g36 h31) ?_
    refine d_ql (.agg #[.int .i64 ((gt a i0).1), .int .i64 ((gt a i0).2.1), .int .i64 ((gt a i0).2.2)]) (x := aLoad Try.prog 73 (elp hd_a 3 i0.toNat 0) H) (by kernel_rfl) (h_a.ld g36 h31 (by kernel_rfl)) ?_
    refine d_qk (hd_b) (by kernel_rfl) ?_
    refine d_qk (.int .i64 i0) (by kernel_rfl) ?_
    obtain ⟨g38, r39⟩ := G_some r37
    refine d_ql (elp hd_b 3 i0.toNat 0) (x := aIndexAddr Try.prog 57 hd_b (.int .i64 i0)) (by kernel_rfl) (h_b.idxb (by kernel_rfl) g36 g38) ?_
    refine d_ql (.agg #[.int .i64 ((gt b i0).1), .int .i64 ((gt b i0).2.1), .int .i64 ((gt b i0).2.2)]) (x := aLoad Try.prog 73 (elp hd_b 3 i0.toNat 0) H) (by kernel_rfl) (h_b.ld g36 g38 (by kernel_rfl)) ?_
    refine d_ql (.bool (!decide (((gt a i0).1) = ((gt b i0).1) ∧ ((gt a i0).2.1) = ((gt b i0).2.1) ∧ ((gt a i0).2.2) = ((gt b i0).2.2)))) (x := aBin Try.prog .neq 73 (.tmp 19) (.tmp 23) (.agg #[.int .i64 ((gt a i0).1), .int .i64 ((gt a i0).2.1), .int .i64 ((gt a i0).2.2)]) (.agg #[.int .i64 ((gt b i0).1), .int .i64 ((gt b i0).2.1), .int .i64 ((gt b i0).2.2)])) (by kernel_rfl) (aBin_neq73 _ _ ((gt a i0).1) ((gt a i0).2.1) ((gt a i0).2.2) ((gt b i0).1) ((gt b i0).2.1) ((gt b i0).2.2)) ?_
    refine d_nil ?_
    refine k35 _ _ ?_
    refine w_condn (((gt a i0).1) = ((gt b i0).1) ∧ ((gt a i0).2.1) = ((gt b i0).2.1) ∧ ((gt a i0).2.2) = ((gt b i0).2.2)) (by kernel_rfl) rfl (fun h40 => ?_) (fun h40 => ?_)
    ·have r41 := ite_f h40 r39
     refine w_seqk fun K42 k42 => ?_
     refine w_reg (by kernel_rfl) ?_
     refine s_qk (.bool false) (by kernel_rfl) ?_
     refine s_nil ?_
     refine k42 _ _ ?_
     refine w_ret (bl_ret (th_ret (th_ret (bl_ret (th_ret (th_ret ?_))))))
     obtain ⟨v43, hv44, hz45⟩ := map_some r41
     subst hz45
     obtain rfl := it_inr hn27
     have hq46 := elim_inl r12
     rw [hq46] at hv44
     refine b_ret (fn := Try.f80) (vs := [.bool false]) (aRes_tmp (by kernel_rfl) (rfl)) ?_
     obtain rfl := Option.some.inj hv44
     exact ⟨rfl, rfl⟩
    ·have r47 := ite_t h40 r39
     refine w_skip ?_
     refine k33 _ _ ?_
     refine w_reg (by kernel_rfl) ?_
     obtain ⟨g48, r49⟩ := G_some r47
     refine s_w ((i0 + 1)) (k := .i64) (x := (i0 + 1)) (by kernel_rfl) (wrap64 (by have := g48; omega)) ?_
     refine s_qk (.int .i64 (i0 + 1)) (by kernel_rfl) ?_
     refine s_nil ?_
     obtain rfl := Option.some.inj r49
     exact k28 n24 _ _ (Nat.lt_succ_self _) ⟨(i0 + 1), hn27, ⟨by kernel_rfl, by kernel_rfl, by kernel_rfl, by kernel_rfl, trivial⟩, rfl⟩
   ·have r50 := ite_f h31 hz26
    refine w_exit (th_exit (th_exit (bl_eq ?_)))
    obtain rfl := Option.some.inj r50
    obtain rfl := it_inr hn27
    exact k16 _ _ ⟨_, rfl, trivial, rfl⟩
  ·obtain ⟨o10, rfl, hh17, rfl⟩ := hM
   have r51 := elim_inr r12
   obtain ⟨β, rfl⟩ := has_ex hh17
   clear hh17
   refine k8 _ _ ?_
   refine w_seqk fun K52 k52 => ?_
   refine w_reg (by kernel_rfl) ?_
   refine s_qk (.bool true) (by kernel_rfl) ?_
   refine s_nil ?_
   refine k52 _ _ ?_
   refine w_ret ?_
   refine b_ret (fn := Try.f80) (vs := [.bool true]) (aRes_tmp (by kernel_rfl) (rfl)) ?_
   obtain rfl := Option.some.inj r51
   exact ⟨rfl, rfl⟩

theorem c_viaductref03_Kept {H : AH} {hd_Arcs : Value} {fp_Arcs : Fp} {hd_full : Value} {fp_full : Fp} {N_ : Int} {Arcs : List (Int × Int × Int)} {full : List (Int × Int × Int)} {r : Bool}
  (wf : WF H) (h_Arcs : Sq enc_i64_i64_i64 3 H hd_Arcs Arcs fp_Arcs) (h_full : Sq enc_i64_i64_i64 3 H hd_full full fp_full) (hr : z_viaductref03_Kept N_ Arcs full = some r) :
  ACalls Try.prog 29 #[.agg #[.int .i64 N_, hd_Arcs], hd_full] H fun v H' => v = .bool r ∧ FrS [] H H' := by
 refine acalls_of_body mixed Try.func29 rfl (Nat.le_of_ble_eq_true rfl) ?_
 unfold z_viaductref03_Kept at hr
 refine w_seqk fun K1 k1 => ?_
 refine w_reg (by kernel_rfl) ?_
 refine s_rwl wf [.int .i64 N_, hd_Arcs] (one_cons (rfl) (one_cons (h_Arcs.one1) (one_nil))) (by kernel_rfl) fun b2 H3 e4 hb5 r6 => ?_
 refine s_qk (.bool false) (by kernel_rfl) ?_
 refine s_nil ?_
 refine k1 _ _ ?_
 refine w_seqk fun K8 k8 => ?_
 refine w_reg (by kernel_rfl) ?_
 refine s_qk (.pointer (some ⟨b2, 1, none⟩)) (by kernel_rfl) ?_
 refine s_ql (hd_Arcs) (x := aLoad Try.prog 57 (.pointer (some ⟨b2, 1, none⟩)) H3) (by kernel_rfl) (r6.ld (by kernel_rfl)) ?_
 have u9 := (h_Arcs.ext e4)
 refine s_ql (.int .i64 (Arcs.length : Int)) (x := aLen Try.prog 57 hd_Arcs H3) (by kernel_rfl) (u9.lenb (by kernel_rfl)) ?_
 refine s_qk (.int .i64 (Arcs.length : Int)) (by kernel_rfl) ?_
 refine s_nil ?_
 refine k8 _ _ ?_
 refine w_seqk fun K10 k10 => ?_
 refine w_draw [0, 1, 2, 3, 4, 5, 6, 7, 8, 9, 10, 11, 12, 13, 14, 15, 16, 17, 18, 19, 20, 21, 22, 23, 24, 25, 26, 27, 28, 29, 30] (by kernel_rfl) ?_
 refine d_qk (hd_full) (by kernel_rfl) ?_
 have u11 := (h_full.ext e4)
 refine d_ql (.int .i64 (full.length : Int)) (x := aLen Try.prog 57 hd_full H3) (by kernel_rfl) (u11.lenb (by kernel_rfl)) ?_
 refine d_qk (.int .i64 (Arcs.length : Int)) (by kernel_rfl) ?_
 obtain ⟨g12, r13⟩ := G_some hr
 refine d_w (((Arcs.length : Int) + 2)) (k := .i64) (x := ((Arcs.length : Int) + 2)) (by kernel_rfl) (wrap64 (by have := g12; omega)) ?_
 refine d_b ((full.length : Int) = ((Arcs.length : Int) + 2)) (by kernel_rfl) (fun h14 => ?_) (fun h14 => ?_)
 ·have r15 := ite_t h14 r13
  refine d_qk (.bool true) (by kernel_rfl) ?_
  refine d_qk (hd_full) (by kernel_rfl) ?_
  refine d_qk (.int .i64 (Arcs.length : Int)) (by kernel_rfl) ?_
  obtain ⟨g16, r17⟩ := G_some r15
  obtain ⟨s18, q19, hs20⟩ := Sq.cut (P := Try.prog) u11 (t := 57) (by kernel_rfl) (lo := none) (hi := (some (.int .i64 (Arcs.length : Int)))) (l := 0) (r := Arcs.length) (rfl) (aBound_int _ (by have := g16; omega)) (by have := g16; omega) (by have := g16; omega)
  obtain ⟨a21, n22, c23, rfl⟩ := hs20.form
  refine d_ql (.slice a21 n22 c23) (by kernel_rfl) q19 ?_
  refine d_qk (.pointer (some ⟨b2, 1, none⟩)) (by kernel_rfl) ?_
  refine d_ql (hd_Arcs) (x := aLoad Try.prog 57 (.pointer (some ⟨b2, 1, none⟩)) H3) (by kernel_rfl) (r6.ld (by kernel_rfl)) ?_
  obtain ⟨y25, hy26, r27⟩ := bind_some r17
  refine d_ck 80 #[.slice a21 n22 c23, hd_Arcs] (by kernel_rfl) (c_viaductref03_SameArcs e4.wf hs20 u9 hy26) ?_
  rintro _ _ ⟨rfl, rfl⟩
  refine ⟨st_nil, ?_⟩
  by_cases h30 : y25 = true
  ·have r31 := ite_t h30 r27
   rw [h30]
   refine d_qk (.bool true) (by kernel_rfl) ?_
   refine d_qk (.bool true) (by kernel_rfl) ?_
   refine d_qk (hd_full) (by kernel_rfl) ?_
   refine d_qk (.int .i64 (Arcs.length : Int)) (by kernel_rfl) ?_
   obtain ⟨g33, r34⟩ := G_some r31
   refine d_ql (elp hd_full 3 (Arcs.length : Int).toNat 0) (x := aIndexAddr Try.prog 57 hd_full (.int .i64 (Arcs.length : Int))) (by kernel_rfl) (u11.idxb (by kernel_rfl) g33.1 g33.2) ?_
   refine d_ql (.agg #[.int .i64 ((gt full (Arcs.length : Int)).1), .int .i64 ((gt full (Arcs.length : Int)).2.1), .int .i64 ((gt full (Arcs.length : Int)).2.2)]) (x := aLoad Try.prog 73 (elp hd_full 3 (Arcs.length : Int).toNat 0) H3) (by kernel_rfl) (u11.ld g33.1 g33.2 (by kernel_rfl)) ?_
   refine d_qk (.agg #[.int .i64 41, .int .i64 0, .int .i64 0]) (by kernel_rfl) ?_
   refine d_ql (.bool (decide (((gt full (Arcs.length : Int)).1) = 41 ∧ ((gt full (Arcs.length : Int)).2.1) = 0 ∧ ((gt full (Arcs.length : Int)).2.2) = 0))) (x := aBin Try.prog .eql 73 (.tmp 26) (.tmp 27) (.agg #[.int .i64 ((gt full (Arcs.length : Int)).1), .int .i64 ((gt full (Arcs.length : Int)).2.1), .int .i64 ((gt full (Arcs.length : Int)).2.2)]) (.agg #[.int .i64 41, .int .i64 0, .int .i64 0])) (by kernel_rfl) (aBin_eql73 _ _ ((gt full (Arcs.length : Int)).1) ((gt full (Arcs.length : Int)).2.1) ((gt full (Arcs.length : Int)).2.2) 41 0 0) ?_
   refine d_qk (.bool (decide (((gt full (Arcs.length : Int)).1) = 41 ∧ ((gt full (Arcs.length : Int)).2.1) = 0 ∧ ((gt full (Arcs.length : Int)).2.2) = 0))) (by kernel_rfl) ?_
   refine d_qk (.bool (decide (((gt full (Arcs.length : Int)).1) = 41 ∧ ((gt full (Arcs.length : Int)).2.1) = 0 ∧ ((gt full (Arcs.length : Int)).2.2) = 0))) (by kernel_rfl) ?_
   by_cases h35 : ((gt full (Arcs.length : Int)).1) = 41 ∧ ((gt full (Arcs.length : Int)).2.1) = 0 ∧ ((gt full (Arcs.length : Int)).2.2) = 0
   ·have r36 := ite_t h35 r34
    rw [decide_eq_true h35]
    refine d_qk (hd_full) (by kernel_rfl) ?_
    refine d_qk (.int .i64 (Arcs.length : Int)) (by kernel_rfl) ?_
    obtain ⟨g37, r38⟩ := G_some r36
    refine d_w (((Arcs.length : Int) + 1)) (k := .i64) (x := ((Arcs.length : Int) + 1)) (by kernel_rfl) (wrap64 (by have := g37; omega)) ?_
    obtain ⟨g39, r40⟩ := G_some r38
    refine d_ql (elp hd_full 3 ((Arcs.length : Int) + 1).toNat 0) (x := aIndexAddr Try.prog 57 hd_full (.int .i64 ((Arcs.length : Int) + 1))) (by kernel_rfl) (u11.idxb (by kernel_rfl) g39.1 g39.2) ?_
    refine d_ql (.agg #[.int .i64 ((gt full ((Arcs.length : Int) + 1)).1), .int .i64 ((gt full ((Arcs.length : Int) + 1)).2.1), .int .i64 ((gt full ((Arcs.length : Int) + 1)).2.2)]) (x := aLoad Try.prog 73 (elp hd_full 3 ((Arcs.length : Int) + 1).toNat 0) H3) (by kernel_rfl) (u11.ld g39.1 g39.2 (by kernel_rfl)) ?_
    refine d_qk (.agg #[.int .i64 42, .int .i64 0, .int .i64 0]) (by kernel_rfl) ?_
    refine d_ql (.bool (decide (((gt full ((Arcs.length : Int) + 1)).1) = 42 ∧ ((gt full ((Arcs.length : Int) + 1)).2.1) = 0 ∧ ((gt full ((Arcs.length : Int) + 1)).2.2) = 0))) (x := aBin Try.prog .eql 73 (.tmp 35) (.tmp 36) (.agg #[.int .i64 ((gt full ((Arcs.length : Int) + 1)).1), .int .i64 ((gt full ((Arcs.length : Int) + 1)).2.1), .int .i64 ((gt full ((Arcs.length : Int) + 1)).2.2)]) (.agg #[.int .i64 42, .int .i64 0, .int .i64 0])) (by kernel_rfl) (aBin_eql73 _ _ ((gt full ((Arcs.length : Int) + 1)).1) ((gt full ((Arcs.length : Int) + 1)).2.1) ((gt full ((Arcs.length : Int) + 1)).2.2) 42 0 0) ?_
    refine d_qk (.bool (decide (((gt full ((Arcs.length : Int) + 1)).1) = 42 ∧ ((gt full ((Arcs.length : Int) + 1)).2.1) = 0 ∧ ((gt full ((Arcs.length : Int) + 1)).2.2) = 0))) (by kernel_rfl) ?_
    refine d_qk (.bool (decide (((gt full ((Arcs.length : Int) + 1)).1) = 42 ∧ ((gt full ((Arcs.length : Int) + 1)).2.1) = 0 ∧ ((gt full ((Arcs.length : Int) + 1)).2.2) = 0))) (by kernel_rfl) ?_
    refine d_nil ?_
    refine k10 _ _ ?_
    refine w_ret ?_
    refine b_ret (fn := Try.f29) (vs := [.bool (decide (((gt full ((Arcs.length : Int) + 1)).1) = 42 ∧ ((gt full ((Arcs.length : Int) + 1)).2.1) = 0 ∧ ((gt full ((Arcs.length : Int) + 1)).2.2) = 0))]) (aRes_tmp (by kernel_rfl) (rfl)) ?_
    obtain rfl := Option.some.inj r40
    exact ⟨rfl, ((FrS.refl (W := []) wf).extR e4)⟩
   ·have r41 := ite_f h35 r34
    rw [decide_eq_false h35]
    refine d_idle (by kernel_rfl) ?_
    refine d_idle (by kernel_rfl) ?_
    refine d_idle (by kernel_rfl) ?_
    refine d_idle (by kernel_rfl) ?_
    refine d_idle (by kernel_rfl) ?_
    refine d_idle (by kernel_rfl) ?_
    refine d_idle (by kernel_rfl) ?_
    refine d_qk (.bool false) (by kernel_rfl) ?_
    refine d_qk (.bool false) (by kernel_rfl) ?_
    refine d_nil ?_
    refine k10 _ _ ?_
    refine w_ret ?_
    refine b_ret (fn := Try.f29) (vs := [.bool false]) (aRes_tmp (by kernel_rfl) (rfl)) ?_
    obtain rfl := Option.some.inj r41
    exact ⟨rfl, ((FrS.refl (W := []) wf).extR e4)⟩
  ·have r42 := ite_f h30 r27
   rw [nb h30]
   refine d_qk (.bool false) (by kernel_rfl) ?_
   refine d_qk (.bool false) (by kernel_rfl) ?_
   refine d_idle (by kernel_rfl) ?_
   refine d_idle (by kernel_rfl) ?_
   refine d_idle (by kernel_rfl) ?_
   refine d_idle (by kernel_rfl) ?_
   refine d_idle (by kernel_rfl) ?_
   refine d_idle (by kernel_rfl) ?_
   refine d_qk (.bool false) (by kernel_rfl) ?_
   refine d_qk (.bool false) (by kernel_rfl) ?_
   refine d_idle (by kernel_rfl) ?_
   refine d_idle (by kernel_rfl) ?_
   refine d_idle (by kernel_rfl) ?_
   refine d_idle (by kernel_rfl) ?_
   refine d_idle (by kernel_rfl) ?_
   refine d_idle (by kernel_rfl) ?_
   refine d_idle (by kernel_rfl) ?_
   refine d_qk (.bool false) (by kernel_rfl) ?_
   refine d_qk (.bool false) (by kernel_rfl) ?_
   refine d_nil ?_
   refine k10 _ _ ?_
   refine w_ret ?_
   refine b_ret (fn := Try.f29) (vs := [.bool false]) (aRes_tmp (by kernel_rfl) (rfl)) ?_
   obtain rfl := Option.some.inj r42
   exact ⟨rfl, ((FrS.refl (W := []) wf).extR e4)⟩
 ·have r44 := ite_f h14 r13
  refine d_qk (.bool false) (by kernel_rfl) ?_
  refine d_idle (by kernel_rfl) ?_
  refine d_idle (by kernel_rfl) ?_
  refine d_idle (by kernel_rfl) ?_
  refine d_idle (by kernel_rfl) ?_
  refine d_idle (by kernel_rfl) ?_
  refine d_idle (by kernel_rfl) ?_
  refine d_qk (.bool false) (by kernel_rfl) ?_
  refine d_qk (.bool false) (by kernel_rfl) ?_
  refine d_idle (by kernel_rfl) ?_
  refine d_idle (by kernel_rfl) ?_
  refine d_idle (by kernel_rfl) ?_
  refine d_idle (by kernel_rfl) ?_
  refine d_idle (by kernel_rfl) ?_
  refine d_idle (by kernel_rfl) ?_
  refine d_qk (.bool false) (by kernel_rfl) ?_
  refine d_qk (.bool false) (by kernel_rfl) ?_
  refine d_idle (by kernel_rfl) ?_
  refine d_idle (by kernel_rfl) ?_
  refine d_idle (by kernel_rfl) ?_
  refine d_idle (by kernel_rfl) ?_
  refine d_idle (by kernel_rfl) ?_
  refine d_idle (by kernel_rfl) ?_
  refine d_idle (by kernel_rfl) ?_
  refine d_qk (.bool false) (by kernel_rfl) ?_
  refine d_qk (.bool false) (by kernel_rfl) ?_
  refine d_nil ?_
  refine k10 _ _ ?_
  refine w_ret ?_
  refine b_ret (fn := Try.f29) (vs := [.bool false]) (aRes_tmp (by kernel_rfl) (rfl)) ?_
  obtain rfl := Option.some.inj r44
  exact ⟨rfl, ((FrS.refl (W := []) wf).extR e4)⟩

theorem c_viaductref01_E {H : AH} {n_ : Int} {r : Int}
  (wf : WF H) (hr : z_viaductref01_E n_ = some r) :
  ACalls Try.prog 70 #[.int .i64 n_] H fun v H' => v = .agg #[.int .i64 r, .slice none 0 0] ∧ FrS [] H H' := by
 refine acalls_of_body mixed Try.func70 rfl (Nat.le_of_ble_eq_true rfl) ?_
 unfold z_viaductref01_E at hr
 refine w_seqk fun K1 k1 => ?_
 refine w_reg (by kernel_rfl) ?_
 refine s_rwk wf [.int .i64 0, .slice none 0 0] (by kernel_rfl) fun b2 H3 e4 hb5 r6 => ?_
 refine s_nil ?_
 refine k1 _ _ ?_
 refine w_seqk fun K8 k8 => ?_
 refine w_reg (by kernel_rfl) ?_
 refine s_qk (.int .i64 n_) (by kernel_rfl) ?_
 refine s_qk (.agg #[.int .i64 n_, .slice none 0 0]) (by kernel_rfl) ?_
 obtain ⟨H9, q10, e11, r12⟩ := Row.store (P := Try.prog) (t := 46) (p := 0) e4.wf r6 (.agg #[.int .i64 n_, .slice none 0 0]) [.int .i64 n_, .slice none 0 0] (by kernel_rfl) (by kernel_rfl) (one_cons (rfl) (one_cons (rfl) (one_nil))) (Nat.le_of_ble_eq_true (by kernel_rfl)) [.int .i64 n_, .slice none 0 0] (by kernel_rfl)
 refine s_ek (undef) (by kernel_rfl) (map_ok q10) ?_
 refine s_nil ?_
 refine k8 _ _ ?_
 refine w_ret ?_
 refine b_ret (fn := Try.f70) (vs := [.agg #[.int .i64 n_, .slice none 0 0]]) (aRes_cell (Eq.trans (b := aLoad Try.prog 46 (.pointer (some ⟨b2, 0, none⟩)) H9) (by kernel_rfl) (r12.ld (by kernel_rfl))) (rfl)) ?_
 obtain rfl := Option.some.inj hr
 exact ⟨rfl, (FrS.step wf ((FrS.refl (W := []) wf).extR e4) e11 (hb5.fresh (Nat.le_refl _)))⟩

theorem c_viaductref01_At {H : AH} {hd_Places : Value} {fp_Places : Fp} {kind : Int} {at_ : Int} {Code : Int} {Places : List (Int × Int)} {r : Int × List (Int × Int)}
  (wf : WF H) (h_Places : Sq enc_i64_i64 2 H hd_Places Places fp_Places) (hr : z_viaductref01_At kind at_ Code Places = some r) :
  ACalls Try.prog 111 #[.int .i64 kind, .int .i64 at_, .agg #[.int .i64 Code, hd_Places]] H fun v H' => ∃ (s3 : Value) (f4 : Fp), v = .agg #[.int .i64 r.1, s3] ∧ FrS [] H H' ∧ Ow enc_i64_i64 2 H' s3 r.2 f4 ∧ Inn [] H f4 := by
 refine acalls_of_body mixed Try.func111 rfl (Nat.le_of_ble_eq_true rfl) ?_
 unfold z_viaductref01_At at hr
 refine w_seqk fun K6 k6 => ?_
 refine w_reg (by kernel_rfl) ?_
 refine s_rwl wf [.int .i64 Code, hd_Places] (one_cons (rfl) (one_cons (h_Places.one1) (one_nil))) (by kernel_rfl) fun b7 H8 e9 hb10 r11 => ?_
 refine s_rwk e9.wf [.int .i64 0, .slice none 0 0] (by kernel_rfl) fun b13 H14 e15 hb16 r17 => ?_
 refine s_nil ?_
 refine k6 _ _ ?_
 refine w_seqk fun K19 k19 => ?_
 refine w_reg (by kernel_rfl) ?_
 refine s_qk (.int .i64 kind) (by kernel_rfl) ?_
 refine s_qk (.int .i64 at_) (by kernel_rfl) ?_
 refine s_qk (.agg #[.int .i64 kind, .int .i64 at_]) (by kernel_rfl) ?_
 refine s_owk (enc := enc_i64_i64) (sz := 2) e15.wf [(kind, at_)] 1 (by decide) (fun _ _ => rfl) (fun _ _ => rfl) rfl (by kernel_rfl) fun s20 f21 H22 e23 hf24 hm25 => ?_
 obtain ⟨a26, n27, c28, rfl⟩ := hm25.form
 refine s_qk (.slice a26 n27 c28) (by kernel_rfl) ?_
 refine s_nil ?_
 refine k19 _ _ ?_
 refine w_seqk fun K30 k30 => ?_
 refine w_reg (by kernel_rfl) ?_
 refine s_qk (.slice a26 n27 c28) (by kernel_rfl) ?_
 refine s_qk (.pointer (some ⟨b7, 1, none⟩)) (by kernel_rfl) ?_
 have u31 := ((r11.ext e15).ext e23)
 refine s_ql (hd_Places) (x := aLoad Try.prog 44 (.pointer (some ⟨b7, 1, none⟩)) H22) (by kernel_rfl) (u31.ld (by kernel_rfl)) ?_
 obtain ⟨g32, r33⟩ := G_some hr
 have u41 := (((h_Places.ext e9).ext e15).ext e23)
 obtain ⟨s34, H35, f36, q40, e37, hm38, hf39⟩ := Ow.append (P := Try.prog) 16 e23.wf hm25 u41 (fun _ _ => rfl) (at_ := #[44, 44]) rfl rfl (by kernel_rfl) (by kernel_rfl) (by decide) (by have := g32; first | omega | (simp only [List.length_cons, List.length_nil] at this ⊢; omega) | (simp at this ⊢; omega))
 obtain ⟨a42, n43, c44, rfl⟩ := hm38.form
 refine s_ek (.slice a42 n43 c44) (by kernel_rfl) (q40) ?_
 refine s_qk (.slice a42 n43 c44) (by kernel_rfl) ?_
 refine s_nil ?_
 refine k30 _ _ ?_
 refine w_seqk fun K46 k46 => ?_
 refine w_reg (by kernel_rfl) ?_
 refine s_qk (.pointer (some ⟨b7, 0, none⟩)) (by kernel_rfl) ?_
 have u47 := (u31.frS e37 (hf24.djn (r11.ltF.le e15.next)))
 refine s_ql (.int .i64 Code) (x := aLoad Try.prog 3 (.pointer (some ⟨b7, 0, none⟩)) H35) (by kernel_rfl) (u47.ld (by kernel_rfl)) ?_
 refine s_qk (.slice a42 n43 c44) (by kernel_rfl) ?_
 refine s_qk (.agg #[.int .i64 Code, .slice a42 n43 c44]) (by kernel_rfl) ?_
 have u52 := ((r17.ext e23).frS e37 (hf24.djn r17.ltF))
 obtain ⟨H48, q49, e50, r51⟩ := Row.store (P := Try.prog) (t := 46) (p := 0) e37.wf u52 (.agg #[.int .i64 Code, .slice a42 n43 c44]) [.int .i64 Code, .slice a42 n43 c44] (by kernel_rfl) (by kernel_rfl) (one_cons (rfl) (one_cons (hm38.one1) (one_nil))) (Nat.le_of_ble_eq_true (by kernel_rfl)) [.int .i64 Code, .slice a42 n43 c44] (by kernel_rfl)
 refine s_ek (undef) (by kernel_rfl) (map_ok q49) ?_
 refine s_nil ?_
 refine k46 _ _ ?_
 refine w_ret ?_
 refine b_ret (fn := Try.f111) (vs := [.agg #[.int .i64 Code, .slice a42 n43 c44]]) (aRes_cell (Eq.trans (b := aLoad Try.prog 46 (.pointer (some ⟨b13, 0, none⟩)) H48) (by kernel_rfl) (r51.ld (by kernel_rfl))) (rfl)) ?_
 have u53 := (hm38.fr e50 (Dj.symm (hf39.dj (hf24.djn r17.ltF) (r17.ltF.le e23.next))))
 obtain rfl := Option.some.inj r33
 exact ⟨(.slice a42 n43 c44), f36, rfl, (FrS.step wf (FrS.step wf ((((FrS.refl (W := []) wf).extR e9).extR e15).extR e23) e37 (hf24.fresh (ntr e9.next e15.next))) e50 (hb16.fresh e9.next)), u53, (Inn.trans (hf24.fresh (ntr e9.next e15.next)) (ntr (ntr e9.next e15.next) e23.next) hf39)⟩


end Go.Vd
