/- The walks of the functions (printed by a program of ours). -/
import Derived.Test.YtccnpeeakadnoaaPny0
import Derived.Test.YtccnpeeakadnoaaVeC
import Derived.Test.YtccnpeeakadnoaaINy
import Derived.Test.YtccnpeeakadnoaaVeN
import Derived.Test.YtccnpeeakadnoaaVeM
import Derived.Test.YtccnpeeakadnoaaSoA
import Derived.Test.YtccnpeeakadnoaaVeV
set_option linter.unusedVariables false
set_option linter.unusedSimpArgs false
set_option linter.unusedSectionVars false
/-! (KNy0) -/

set_option maxRecDepth 100000
set_option maxHeartbeats 4000000
set_option linter.unusedVariables false
namespace Go.Vd
open Go.Proofs
attribute [local irreducible] wpSeq wpOrd aWp
set_option linter.unusedSimpArgs false
theorem e_pure {α : Type} (P : Program) (a : α) : pr P (pure a : Sem α) = some a := rfl
theorem e_prog {P : Program} : pr P (program : Sem Program) = some P := rfl
theorem e_und {P : Program} {t : TypeId} {d : TypeDesc} (h : P.underlying t = some d) : pr P (underlying t) = some d := by
 simp only [underlying, pr_bind]
 show ((pr P (program : Sem Program)).bind _) = _
 simp [show pr P (program : Sem Program) = some P from rfl, h]
 rfl
theorem e_int {P : Program} (d : Nat) (t : TypeId) (k : IntKind) (h : P.underlying t = some (.int k)) (a c : Int) : pr P (Op.equalIn (d+1) t (.int k a) (.int k c)) = some (a == c) := by
 simp only [Op.equalIn, pr_bind, e_und h]
 simp [e_pure]
theorem e_bool {P : Program} (d : Nat) (t : TypeId) (h : P.underlying t = some .bool) (a c : Bool) : pr P (Op.equalIn (d+1) t (.bool a) (.bool c)) = some (a == c) := by
 simp only [Op.equalIn, pr_bind, e_und h]
 simp [e_pure]

theorem e73_p0 (a0 : Int) (a1 : Int) (a2 : Int) : pr Try.prog (part 3 #[.int .i64 a0, .int .i64 a1, .int .i64 a2] 0) = some (.int .i64 a0) := by kernel_rfl
theorem e73_q0 (a c : Int) : pr Try.prog (Op.equalIn 9999 3 (.int .i64 a) (.int .i64 c)) = some (a == c) := e_int 9998 3 .i64 Go.Proofs.Try.underlying3 a c
theorem e73_p1 (a0 : Int) (a1 : Int) (a2 : Int) : pr Try.prog (part 3 #[.int .i64 a0, .int .i64 a1, .int .i64 a2] 1) = some (.int .i64 a1) := by kernel_rfl
theorem e73_q1 (a c : Int) : pr Try.prog (Op.equalIn 9999 3 (.int .i64 a) (.int .i64 c)) = some (a == c) := e_int 9998 3 .i64 Go.Proofs.Try.underlying3 a c
theorem e73_p2 (a0 : Int) (a1 : Int) (a2 : Int) : pr Try.prog (part 3 #[.int .i64 a0, .int .i64 a1, .int .i64 a2] 2) = some (.int .i64 a2) := by kernel_rfl
theorem e73_q2 (a c : Int) : pr Try.prog (Op.equalIn 9999 3 (.int .i64 a) (.int .i64 c)) = some (a == c) := e_int 9998 3 .i64 Go.Proofs.Try.underlying3 a c
theorem e73_stood : Try.prog.stoodInHeld 73 = false := by kernel_rfl
theorem e73_eq (a0 : Int) (a1 : Int) (a2 : Int) (c0 : Int) (c1 : Int) (c2 : Int) : pr Try.prog (Op.equalIn Op.maxDepth 73 (.agg #[.int .i64 a0, .int .i64 a1, .int .i64 a2]) (.agg #[.int .i64 c0, .int .i64 c1, .int .i64 c2])) = some (a0 == c0 && a1 == c1 && a2 == c2) := by
 rw [show Op.maxDepth = 9998 + 1 + 1 from rfl, Op.equalIn]
 rw [pr_bind, e_und Go.Proofs.Try.underlying73]
 simp only [Option.bind_some, pr_bind, e_prog, e73_stood, Bool.false_eq_true, if_false]
 simp [pr_bind, e73_p0, e73_p1, e73_p2, e73_q0, e73_q1, e73_q2]
 by_cases h0 : a0 = c0
 ·subst h0
  by_cases h1 : a1 = c1
  ·subst h1
   by_cases h2 : a2 = c2
   ·subst h2
    simp [e_pure, pr_bind, e73_p0, e73_p1, e73_p2, e73_q0, e73_q1, e73_q2]
   ·simp [e_pure, pr_bind, e73_p0, e73_p1, e73_p2, e73_q0, e73_q1, e73_q2, h2]
  ·simp [e_pure, pr_bind, e73_p0, e73_p1, e73_p2, e73_q0, e73_q1, e73_q2, h1]
 ·simp [e_pure, pr_bind, e73_p0, e73_p1, e73_p2, e73_q0, e73_q1, e73_q2, h0]
theorem e73_gneq (x y : Operand) (a0 : Int) (a1 : Int) (a2 : Int) (c0 : Int) (c1 : Int) (c2 : Int) : pr Try.prog (eqGuard .neq 73 x y (.agg #[.int .i64 a0, .int .i64 a1, .int .i64 a2]) (.agg #[.int .i64 c0, .int .i64 c1, .int .i64 c2])) = some () := by kernel_rfl
theorem aBin_neq73 (x y : Operand) (a0 : Int) (a1 : Int) (a2 : Int) (c0 : Int) (c1 : Int) (c2 : Int) : aBin Try.prog .neq 73 x y (.agg #[.int .i64 a0, .int .i64 a1, .int .i64 a2]) (.agg #[.int .i64 c0, .int .i64 c1, .int .i64 c2]) = some (.bool (!decide (a0 = c0 ∧ a1 = c1 ∧ a2 = c2))) := by
 unfold aBin
 rw [if_pos (show (plain (.agg #[.int .i64 a0, .int .i64 a1, .int .i64 a2]) && plain (.agg #[.int .i64 c0, .int .i64 c1, .int .i64 c2])) = true from rfl), pr_bind, e73_gneq]
 have : pr Try.prog (binOp .neq 73 (.agg #[.int .i64 a0, .int .i64 a1, .int .i64 a2]) (.agg #[.int .i64 c0, .int .i64 c1, .int .i64 c2])) = some (.bool (!decide (a0 = c0 ∧ a1 = c1 ∧ a2 = c2))) := by
  simp only [binOp, Op.equal, pr_bind, e73_eq]
  by_cases g0 : a0 = c0 <;> by_cases g1 : a1 = c1 <;> by_cases g2 : a2 = c2 <;> simp [e_pure, g0, g1, g2]
 simp only [Option.bind_some, this]
 rfl
theorem e73_geql (x y : Operand) (a0 : Int) (a1 : Int) (a2 : Int) (c0 : Int) (c1 : Int) (c2 : Int) : pr Try.prog (eqGuard .eql 73 x y (.agg #[.int .i64 a0, .int .i64 a1, .int .i64 a2]) (.agg #[.int .i64 c0, .int .i64 c1, .int .i64 c2])) = some () := by kernel_rfl
theorem aBin_eql73 (x y : Operand) (a0 : Int) (a1 : Int) (a2 : Int) (c0 : Int) (c1 : Int) (c2 : Int) : aBin Try.prog .eql 73 x y (.agg #[.int .i64 a0, .int .i64 a1, .int .i64 a2]) (.agg #[.int .i64 c0, .int .i64 c1, .int .i64 c2]) = some (.bool (decide (a0 = c0 ∧ a1 = c1 ∧ a2 = c2))) := by
 unfold aBin
 rw [if_pos (show (plain (.agg #[.int .i64 a0, .int .i64 a1, .int .i64 a2]) && plain (.agg #[.int .i64 c0, .int .i64 c1, .int .i64 c2])) = true from rfl), pr_bind, e73_geql]
 have : pr Try.prog (binOp .eql 73 (.agg #[.int .i64 a0, .int .i64 a1, .int .i64 a2]) (.agg #[.int .i64 c0, .int .i64 c1, .int .i64 c2])) = some (.bool (decide (a0 = c0 ∧ a1 = c1 ∧ a2 = c2))) := by
  simp only [binOp, Op.equal, pr_bind, e73_eq]
  by_cases g0 : a0 = c0 <;> by_cases g1 : a1 = c1 <;> by_cases g2 : a2 = c2 <;> simp [e_pure, g0, g1, g2]
 simp only [Option.bind_some, this]
 rfl
theorem c_viaductlaw04_awake_ev : evB Try.prog 100000 21 #[] = some true := by kernel_rfl
theorem c_viaductlaw04_awake {H : AH} : ACalls Try.prog 21 #[] H fun v H' => H = H' ∧ v = .bool true :=
 (acalls_evB mixed c_viaductlaw04_awake_ev rfl H).mono fun _ _ ⟨a, b⟩ => ⟨b.symm, a⟩

theorem c_viaductlaw04_great {H : AH} {hd_Arcs : Value} {fp_Arcs : Fp} {N_ : Int} {Arcs : List (Int × Int × Int)} {r : Bool}
  (wf : WF H) (h_Arcs : Sq enc_i64_i64_i64 3 H hd_Arcs Arcs fp_Arcs) (hr : z_viaductlaw04_great N_ Arcs = some r) :
  ACalls Try.prog 22 #[.agg #[.int .i64 N_, hd_Arcs]] H fun v H' => v = .bool r ∧ FrS [] H H' := by
 refine acalls_of_body mixed Try.func22 rfl (Nat.le_of_ble_eq_true rfl) ?_
 unfold z_viaductlaw04_great at hr
 refine w_seqk fun K1 k1 => ?_
 refine w_reg (by kernel_rfl) ?_
 refine s_rwl wf [.int .i64 N_, hd_Arcs] (one_cons (rfl) (one_cons (h_Arcs.one1) (one_nil))) (by kernel_rfl) fun b2 H3 e4 hb5 r6 => ?_
 refine s_qk (.bool false) (by kernel_rfl) ?_
 refine s_nil ?_
 refine k1 _ _ ?_
 refine w_seqk fun K8 k8 => ?_
 refine w_reg (by kernel_rfl) ?_
 refine s_qk (.pointer (some ⟨b2, 1, none⟩)) (by kernel_rfl) ?_
 refine s_ql (hd_Arcs) (x := aLoad Try.prog 57 (.pointer (some ⟨b2, 1, none⟩)) H3) (by kernel_rfl) (r6.ld (by kernel_rfl)) ?_
 have u9 := (h_Arcs.ext e4)
 refine s_ql (.int .i64 (Arcs.length : Int)) (x := aLen Try.prog 57 hd_Arcs H3) (by kernel_rfl) (u9.lenb (by kernel_rfl)) ?_
 refine s_b ((Arcs.length : Int) > 3000) (by kernel_rfl) (fun h10 => ?_) (fun h10 => ?_)
 ·have r11 := ite_t h10 hr
  refine s_qk (.bool true) (by kernel_rfl) ?_
  refine s_qk (.pointer (some ⟨b2, 1, none⟩)) (by kernel_rfl) ?_
  refine s_ql (hd_Arcs) (x := aLoad Try.prog 57 (.pointer (some ⟨b2, 1, none⟩)) H3) (by kernel_rfl) (r6.ld (by kernel_rfl)) ?_
  refine s_ql (.int .i64 (Arcs.length : Int)) (x := aLen Try.prog 57 hd_Arcs H3) (by kernel_rfl) (u9.lenb (by kernel_rfl)) ?_
  refine s_qk (.bool (decide ((Arcs.length : Int) ≤ 262144))) (by kernel_rfl) ?_
  refine s_qk (.bool (decide ((Arcs.length : Int) ≤ 262144))) (by kernel_rfl) ?_
  refine s_qk (.bool (decide ((Arcs.length : Int) ≤ 262144))) (by kernel_rfl) ?_
  refine s_nil ?_
  refine k8 _ _ ?_
  refine w_ret ?_
  refine b_ret (fn := Try.f22) (vs := [.bool (decide ((Arcs.length : Int) ≤ 262144))]) (aRes_tmp (by kernel_rfl) (rfl)) ?_
  obtain rfl := Option.some.inj r11
  exact ⟨rfl, ((FrS.refl (W := []) wf).extR e4)⟩
 ·have r12 := ite_f h10 hr
  refine s_qk (.bool false) (by kernel_rfl) ?_
  refine s_no (by kernel_rfl) ?_
  refine s_no (by kernel_rfl) ?_
  refine s_no (by kernel_rfl) ?_
  refine s_no (by kernel_rfl) ?_
  refine s_qk (.bool false) (by kernel_rfl) ?_
  refine s_qk (.bool false) (by kernel_rfl) ?_
  refine s_nil ?_
  refine k8 _ _ ?_
  refine w_ret ?_
  refine b_ret (fn := Try.f22) (vs := [.bool false]) (aRes_tmp (by kernel_rfl) (rfl)) ?_
  obtain rfl := Option.some.inj r12
  exact ⟨rfl, ((FrS.refl (W := []) wf).extR e4)⟩

theorem c_viaductref03_Spare {H : AH} {hd_Arcs : Value} {fp_Arcs : Fp} {N_ : Int} {Arcs : List (Int × Int × Int)} {r : Int × List (Int × Int × Int) × List (Int × Int × Int)}
  (wf : WF H) (h_Arcs : Sq enc_i64_i64_i64 3 H hd_Arcs Arcs fp_Arcs) (hr : z_viaductref03_Spare N_ Arcs = some r) :
  ACalls Try.prog 23 #[.agg #[.int .i64 N_, hd_Arcs]] H fun v H' => ∃ (s3 : Value) (f4 : Fp) (s7 : Value), v = .tuple #[.agg #[.int .i64 r.1, s3], s7] ∧ FrS [] H H' ∧ Ow enc_i64_i64_i64 3 H' s3 r.2.1 f4 ∧ Ow enc_i64_i64_i64 3 H' s7 r.2.2 f4 ∧ Inn [] H f4 := by
 refine acalls_of_body mixed Try.func23 rfl (Nat.le_of_ble_eq_true rfl) ?_
 unfold z_viaductref03_Spare at hr
 refine w_seqk fun K9 k9 => ?_
 refine w_reg (by kernel_rfl) ?_
 refine s_rwl wf [.int .i64 N_, hd_Arcs] (one_cons (rfl) (one_cons (h_Arcs.one1) (one_nil))) (by kernel_rfl) fun b10 H11 e12 hb13 r14 => ?_
 refine s_rwk e12.wf [.int .i64 0, .slice none 0 0] (by kernel_rfl) fun b16 H17 e18 hb19 r20 => ?_
 refine s_qk (.slice none 0 0) (by kernel_rfl) ?_
 refine s_nil ?_
 refine k9 _ _ ?_
 refine w_seqk fun K22 k22 => ?_
 refine w_reg (by kernel_rfl) ?_
 refine s_qk (.pointer (some ⟨b10, 1, none⟩)) (by kernel_rfl) ?_
 have u23 := (r14.ext e18)
 refine s_ql (hd_Arcs) (x := aLoad Try.prog 57 (.pointer (some ⟨b10, 1, none⟩)) H17) (by kernel_rfl) (u23.ld (by kernel_rfl)) ?_
 have u24 := ((h_Arcs.ext e12).ext e18)
 refine s_ql (.int .i64 (Arcs.length : Int)) (x := aLen Try.prog 57 hd_Arcs H17) (by kernel_rfl) (u24.lenb (by kernel_rfl)) ?_
 obtain ⟨g25, r26⟩ := G_some hr
 refine s_w (((Arcs.length : Int) + 2)) (k := .i64) (x := ((Arcs.length : Int) + 2)) (by kernel_rfl) (wrap64 (by have := g25; omega)) ?_
 obtain ⟨g27, r28⟩ := G_some r26
 refine s_mkx (t := 57) (m := 24) (l := 0) (c := ((Arcs.length : Int) + 2)) (enc := enc_i64_i64_i64) (sz := 3) e18.wf ((0, 0, 0) : Int × Int × Int) (by kernel_rfl) (by decide) g27.1 g27.2.1 (by omega) (by have := g27; omega) (newQ_mk (k := .i64) (k' := .i64) rfl (by kernel_rfl) (by kernel_rfl) (by kernel_rfl)) fun b29 H30 e31 hf32 hm33 => ?_
 have hm33 : Ow enc_i64_i64_i64 3 H30 (.slice (some ⟨b29, 0, none⟩) (0 : Int).toNat ((Arcs.length : Int) + 2).toNat) (List.replicate (0 : Int).toNat ((0, 0, 0) : Int × Int × Int)) [b29] := hm33
 refine s_qk (.slice (some ⟨b29, 0, none⟩) (0 : Int).toNat ((Arcs.length : Int) + 2).toNat) (by kernel_rfl) ?_
 refine s_nil ?_
 refine k22 _ _ ?_
 refine w_seqk fun K35 k35 => ?_
 refine w_reg (by kernel_rfl) ?_
 refine s_qk (.slice (some ⟨b29, 0, none⟩) (0 : Int).toNat ((Arcs.length : Int) + 2).toNat) (by kernel_rfl) ?_
 refine s_qk (.pointer (some ⟨b10, 1, none⟩)) (by kernel_rfl) ?_
 have u36 := (u23.ext e31)
 refine s_ql (hd_Arcs) (x := aLoad Try.prog 57 (.pointer (some ⟨b10, 1, none⟩)) H30) (by kernel_rfl) (u36.ld (by kernel_rfl)) ?_
 obtain ⟨g37, r38⟩ := G_some r28
 have u44 := (u24.ext e31)
 obtain ⟨H39, q40, e41, hm42, hs43⟩ := Ow.appendIn (P := Try.prog) 24 e31.wf hm33 u44 (fun _ _ => rfl) (at_ := #[57, 57]) rfl rfl (by kernel_rfl) (by kernel_rfl) g37
 refine s_ek (.slice (some ⟨b29, 0, none⟩) ((List.replicate (0 : Int).toNat ((0, 0, 0) : Int × Int × Int)).length + Arcs.length) ((Arcs.length : Int) + 2).toNat) (by kernel_rfl) (q40) ?_
 refine s_qk (.slice (some ⟨b29, 0, none⟩) ((List.replicate (0 : Int).toNat ((0, 0, 0) : Int × Int × Int)).length + Arcs.length) ((Arcs.length : Int) + 2).toNat) (by kernel_rfl) ?_
 refine s_nil ?_
 refine k35 _ _ ?_
 refine w_seqk fun K46 k46 => ?_
 refine w_reg (by kernel_rfl) ?_
 refine s_qk (.slice (some ⟨b29, 0, none⟩) ((List.replicate (0 : Int).toNat ((0, 0, 0) : Int × Int × Int)).length + Arcs.length) ((Arcs.length : Int) + 2).toNat) (by kernel_rfl) ?_
 refine s_qk (.agg #[.int .i64 41, .int .i64 0, .int .i64 0]) (by kernel_rfl) ?_
 refine s_qk (.agg #[.int .i64 42, .int .i64 0, .int .i64 0]) (by kernel_rfl) ?_
 refine s_owk (enc := enc_i64_i64_i64) (sz := 3) e41.wf [(41, 0, 0), (42, 0, 0)] 2 (by decide) (fun _ _ => rfl) (fun _ _ => rfl) rfl (by kernel_rfl) fun s47 f48 H49 e50 hf51 hm52 => ?_
 obtain ⟨a53, n54, c55, rfl⟩ := hm52.form
 have u57 := (hm42.ext e50)
 obtain ⟨g58, r59⟩ := G_some r38
 obtain ⟨H60, q61, e62, hm63, hs64⟩ := Ow.appendIn (P := Try.prog) 24 e50.wf u57 hm52.sq (fun _ _ => rfl) (at_ := #[57, 57]) rfl rfl (by kernel_rfl) (by kernel_rfl) g58
 refine s_ek (.slice (some ⟨b29, 0, none⟩) (((List.replicate (0 : Int).toNat ((0, 0, 0) : Int × Int × Int)) ++ Arcs).length + [(41, 0, 0), (42, 0, 0)].length) ((Arcs.length : Int) + 2).toNat) (by kernel_rfl) (q61) ?_
 refine s_qk (.slice (some ⟨b29, 0, none⟩) (((List.replicate (0 : Int).toNat ((0, 0, 0) : Int × Int × Int)) ++ Arcs).length + [(41, 0, 0), (42, 0, 0)].length) ((Arcs.length : Int) + 2).toNat) (by kernel_rfl) ?_
 refine s_nil ?_
 refine k46 _ _ ?_
 refine w_seqk fun K66 k66 => ?_
 refine w_draw [0, 1, 2, 3, 4, 5, 6, 7, 8, 9, 10] (by kernel_rfl) ?_
 refine d_qk (.pointer (some ⟨b10, 0, none⟩)) (by kernel_rfl) ?_
 have u67 := (((u36.frS e41 (hf32.djn (r14.ltF.le e18.next))).ext e50).frS e62 (hf32.djn (r14.ltF.le e18.next)))
 refine d_ql (.int .i64 N_) (x := aLoad Try.prog 3 (.pointer (some ⟨b10, 0, none⟩)) H60) (by kernel_rfl) (u67.ld (by kernel_rfl)) ?_
 refine d_qk (.slice (some ⟨b29, 0, none⟩) (((List.replicate (0 : Int).toNat ((0, 0, 0) : Int × Int × Int)) ++ Arcs).length + [(41, 0, 0), (42, 0, 0)].length) ((Arcs.length : Int) + 2).toNat) (by kernel_rfl) ?_
 refine d_qk (.pointer (some ⟨b10, 1, none⟩)) (by kernel_rfl) ?_
 refine d_ql (hd_Arcs) (x := aLoad Try.prog 57 (.pointer (some ⟨b10, 1, none⟩)) H60) (by kernel_rfl) (u67.ld (by kernel_rfl)) ?_
 have u68 := (((u44.fr e41 (hf32.djn (h_Arcs.lt.le (ntr e12.next e18.next)))).ext e50).fr e62 (hf32.djn (h_Arcs.lt.le (ntr e12.next e18.next))))
 refine d_ql (.int .i64 (Arcs.length : Int)) (x := aLen Try.prog 57 hd_Arcs H60) (by kernel_rfl) (u68.lenb (by kernel_rfl)) ?_
 obtain ⟨g69, r70⟩ := G_some r59
 obtain ⟨s71, q72, hs73⟩ := Ow.head (P := Try.prog) hm63 (t := 57) (by kernel_rfl) (hi := (some (.int .i64 (Arcs.length : Int)))) (r := Arcs.length) (aBound_int _ (by have := g69; omega)) (by have := g69; omega)
 obtain ⟨a74, n75, c76, rfl⟩ := hs73.form
 refine d_ql (.slice a74 n75 c76) (by kernel_rfl) q72 ?_
 refine d_qk (.agg #[.int .i64 N_, .slice a74 n75 c76]) (by kernel_rfl) ?_
 refine d_qk (.slice (some ⟨b29, 0, none⟩) (((List.replicate (0 : Int).toNat ((0, 0, 0) : Int × Int × Int)) ++ Arcs).length + [(41, 0, 0), (42, 0, 0)].length) ((Arcs.length : Int) + 2).toNat) (by kernel_rfl) ?_
 have u82 := ((((r20.ext e31).frS e41 (hf32.djn r20.ltF)).ext e50).frS e62 (hf32.djn r20.ltF))
 obtain ⟨H78, q79, e80, r81⟩ := Row.store (P := Try.prog) (t := 59) (p := 0) e62.wf u82 (.agg #[.int .i64 N_, .slice a74 n75 c76]) [.int .i64 N_, .slice a74 n75 c76] (by kernel_rfl) (by kernel_rfl) (one_cons (rfl) (one_cons (hs73.one1) (one_nil))) (Nat.le_of_ble_eq_true (by kernel_rfl)) [.int .i64 N_, .slice a74 n75 c76] (by kernel_rfl)
 refine d_ek (undef) (by kernel_rfl) (map_ok q79) (st_nil) ?_
 refine d_qk (.slice (some ⟨b29, 0, none⟩) (((List.replicate (0 : Int).toNat ((0, 0, 0) : Int × Int × Int)) ++ Arcs).length + [(41, 0, 0), (42, 0, 0)].length) ((Arcs.length : Int) + 2).toNat) (by kernel_rfl) ?_
 refine d_nil ?_
 refine k66 _ _ ?_
 refine w_ret ?_
 refine b_ret (fn := Try.f23) (vs := [.agg #[.int .i64 N_, .slice a74 n75 c76], .slice (some ⟨b29, 0, none⟩) (((List.replicate (0 : Int).toNat ((0, 0, 0) : Int × Int × Int)) ++ Arcs).length + [(41, 0, 0), (42, 0, 0)].length) ((Arcs.length : Int) + 2).toNat]) (aRes_cell (Eq.trans (b := aLoad Try.prog 59 (.pointer (some ⟨b16, 0, none⟩)) H78) (by kernel_rfl) (r81.ld (by kernel_rfl))) (aRes_tmp (by kernel_rfl) (rfl))) ?_
 have u83 := (hs73.fr e80 (Dj.symm (hf32.djn r20.ltF)))
 have u84 := (hm63.fr e80 (Dj.symm (hf32.djn r20.ltF)))
 obtain rfl := Option.some.inj r70
 exact ⟨(.slice a74 n75 c76), [b29], (.slice (some ⟨b29, 0, none⟩) (((List.replicate (0 : Int).toNat ((0, 0, 0) : Int × Int × Int)) ++ Arcs).length + [(41, 0, 0), (42, 0, 0)].length) ((Arcs.length : Int) + 2).toNat), rfl, (FrS.step wf (FrS.step wf ((FrS.step wf ((((FrS.refl (W := []) wf).extR e12).extR e18).extR e31) e41 (hf32.fresh (ntr e12.next e18.next))).extR e50) e62 (hf32.fresh (ntr e12.next e18.next))) e80 (hb19.fresh e12.next)), u83, u84, (hf32.fresh (ntr e12.next e18.next))⟩

theorem c_gtext_within {H : AH} {x : Int} {n_ : Int} {r : Bool}
  (wf : WF H) (hr : z_gtext_within x n_ = some r) :
  ACalls Try.prog 147 #[.int .i64 x, .int .i64 n_] H fun v H' => v = .bool r ∧ H = H' := by
 refine acalls_of_body mixed Try.func147 rfl (Nat.le_of_ble_eq_true rfl) ?_
 unfold z_gtext_within at hr
 refine w_seqk fun K1 k1 => ?_
 refine w_reg (by kernel_rfl) ?_
 refine s_qk (.bool false) (by kernel_rfl) ?_
 refine s_nil ?_
 refine k1 _ _ ?_
 refine w_seqk fun K2 k2 => ?_
 refine w_reg (by kernel_rfl) ?_
 refine s_qk (.int .i64 x) (by kernel_rfl) ?_
 refine s_b (x ≥ 0) (by kernel_rfl) (fun h3 => ?_) (fun h3 => ?_)
 ·have r4 := ite_t h3 hr
  refine s_qk (.bool true) (by kernel_rfl) ?_
  refine s_qk (.int .i64 x) (by kernel_rfl) ?_
  refine s_qk (.int .i64 n_) (by kernel_rfl) ?_
  refine s_qk (.bool (decide (x < n_))) (by kernel_rfl) ?_
  refine s_qk (.bool (decide (x < n_))) (by kernel_rfl) ?_
  refine s_qk (.bool (decide (x < n_))) (by kernel_rfl) ?_
  refine s_nil ?_
  refine k2 _ _ ?_
  refine w_ret ?_
  refine b_ret (fn := Try.f147) (vs := [.bool (decide (x < n_))]) (aRes_tmp (by kernel_rfl) (rfl)) ?_
  obtain rfl := Option.some.inj r4
  exact ⟨rfl, rfl⟩
 ·have r5 := ite_f h3 hr
  refine s_qk (.bool false) (by kernel_rfl) ?_
  refine s_no (by kernel_rfl) ?_
  refine s_no (by kernel_rfl) ?_
  refine s_no (by kernel_rfl) ?_
  refine s_qk (.bool false) (by kernel_rfl) ?_
  refine s_qk (.bool false) (by kernel_rfl) ?_
  refine s_nil ?_
  refine k2 _ _ ?_
  refine w_ret ?_
  refine b_ret (fn := Try.f147) (vs := [.bool false]) (aRes_tmp (by kernel_rfl) (rfl)) ?_
  obtain rfl := Option.some.inj r5
  exact ⟨rfl, rfl⟩

theorem c_gtext_arc {H : AH} {From : Int} {To : Int} {Weight : Int} {n_ : Int} {r : Er}
  (wf : WF H) (hr : z_gtext_arc From To Weight n_ = some r) :
  ACalls Try.prog 122 #[.agg #[.int .i64 From, .int .i64 To, .int .i64 Weight], .int .i64 n_] H fun v H' => ∃ (v3 : Value) (f4 : Fp), v = v3 ∧ FrS [] H H' ∧ Ev 122 235 H' v3 r f4 ∧ Inn [] H f4 := by
 refine acalls_of_body mixed Try.func122 rfl (Nat.le_of_ble_eq_true rfl) ?_
 unfold z_gtext_arc at hr
 refine w_seqk fun K6 k6 => ?_
 refine w_reg (by kernel_rfl) ?_
 refine s_rwl wf [.int .i64 From, .int .i64 To, .int .i64 Weight] (one_cons (rfl) (one_cons (rfl) (one_cons (rfl) (one_nil)))) (by kernel_rfl) fun b7 H8 e9 hb10 r11 => ?_
 refine s_qk (.nilIface) (by kernel_rfl) ?_
 refine s_nil ?_
 refine k6 _ _ ?_
 refine w_seqk fun K13 k13 => ?_
 refine w_block ?_
 refine w_seqk fun K14 k14 => ?_
 obtain ⟨o15, hx16, r17⟩ := bind_some hr
 refine w_mid (fun α H18 => Has α [(2, .pointer (some ⟨b7, 0, none⟩)), (5, .bool o15)] ∧ H8 = H18) (fun K20 k20 => ?_) (fun α H18 hM => ?_)
 ·refine w_reg (by kernel_rfl) ?_
  refine s_qk (.pointer (some ⟨b7, 0, none⟩)) (by kernel_rfl) ?_
  refine s_ql (.int .i64 From) (x := aLoad Try.prog 3 (.pointer (some ⟨b7, 0, none⟩)) H8) (by kernel_rfl) (r11.ld (by kernel_rfl)) ?_
  refine s_qk (.int .i64 n_) (by kernel_rfl) ?_
  obtain ⟨y22, hy23, r24⟩ := bind_some hx16
  refine s_ck 147 #[.int .i64 From, .int .i64 n_] (by kernel_rfl) (c_gtext_within e9.wf hy23) ?_
  rintro _ _ ⟨rfl, rfl⟩
  by_cases h27 : y22 = true
  ·have r28 := ite_t h27 r24
   rw [h27]
   refine s_qk (.bool false) (by kernel_rfl) ?_
   refine s_qk (.bool false) (by kernel_rfl) ?_
   refine s_qk (.pointer (some ⟨b7, 1, none⟩)) (by kernel_rfl) ?_
   refine s_ql (.int .i64 To) (x := aLoad Try.prog 3 (.pointer (some ⟨b7, 1, none⟩)) H8) (by kernel_rfl) (r11.ld (by kernel_rfl)) ?_
   refine s_qk (.int .i64 n_) (by kernel_rfl) ?_
   obtain ⟨y30, hy31, r32⟩ := bind_some r28
   refine s_ck 147 #[.int .i64 To, .int .i64 n_] (by kernel_rfl) (c_gtext_within e9.wf hy31) ?_
   rintro _ _ ⟨rfl, rfl⟩
   refine s_qk (.bool (!y30)) (by kernel_rfl) ?_
   refine s_qk (.bool (!y30)) (by kernel_rfl) ?_
   refine s_qk (.bool (!y30)) (by kernel_rfl) ?_
   refine s_nil ?_
   obtain rfl := Option.some.inj r32
   exact k20 _ _ ⟨⟨by kernel_rfl, by kernel_rfl, trivial⟩, rfl⟩
  ·have r35 := ite_f h27 r24
   rw [nb h27]
   refine s_qk (.bool true) (by kernel_rfl) ?_
   refine s_qk (.bool true) (by kernel_rfl) ?_
   refine s_no (by kernel_rfl) ?_
   refine s_no (by kernel_rfl) ?_
   refine s_no (by kernel_rfl) ?_
   refine s_no (by kernel_rfl) ?_
   refine s_no (by kernel_rfl) ?_
   refine s_qk (.bool true) (by kernel_rfl) ?_
   refine s_qk (.bool true) (by kernel_rfl) ?_
   refine s_nil ?_
   obtain rfl := Option.some.inj r35
   exact k20 _ _ ⟨⟨by kernel_rfl, by kernel_rfl, trivial⟩, rfl⟩
 ·obtain ⟨hh21, rfl⟩ := hM
  obtain ⟨β, rfl⟩ := has_ex hh21
  clear hh21
  refine k14 _ _ ?_
  refine w_cond (o15) (by kernel_rfl) rfl (fun h37 => ?_) (fun h37 => ?_)
  ·have r38 := ite_t h37 r17
   refine w_seqk fun K39 k39 => ?_
   refine w_reg (by kernel_rfl) ?_
   refine s_qk (.iface 122 (.int .i64 7)) (by kernel_rfl) ?_
   refine s_qk (.iface 122 (.int .i64 7)) (by kernel_rfl) ?_
   refine s_nil ?_
   refine k39 _ _ ?_
   refine w_ret (bl_ret (th_ret ?_))
   refine b_ret (fn := Try.f122) (vs := [.iface 122 (.int .i64 7)]) (aRes_tmp (by kernel_rfl) (rfl)) ?_
   obtain rfl := Option.some.inj r38
   exact ⟨(.iface 122 (.int .i64 7)), [], rfl, ((FrS.refl (W := []) wf).extR e9), Ev.no, Inn.nil⟩
  ·have r40 := ite_bf h37 r17
   refine w_seqk fun K41 k41 => ?_
   refine w_reg (by kernel_rfl) ?_
   refine s_qk (.pointer (some ⟨b7, 2, none⟩)) (by kernel_rfl) ?_
   refine s_ql (.int .i64 Weight) (x := aLoad Try.prog 3 (.pointer (some ⟨b7, 2, none⟩)) H8) (by kernel_rfl) (r11.ld (by kernel_rfl)) ?_
   refine s_b (Weight < 0) (by kernel_rfl) (fun h42 => ?_) (fun h42 => ?_)
   ·have r43 := ite_t h42 r40
    refine s_qk (.bool true) (by kernel_rfl) ?_
    refine s_no (by kernel_rfl) ?_
    refine s_no (by kernel_rfl) ?_
    refine s_no (by kernel_rfl) ?_
    refine s_qk (.bool true) (by kernel_rfl) ?_
    refine s_qk (.bool true) (by kernel_rfl) ?_
    refine s_nil ?_
    refine k41 _ _ ?_
    refine w_cond true (by kernel_rfl) rfl (fun _ => ?_) (fun h => by cases h)
    refine w_seqk fun K44 k44 => ?_
    refine w_reg (by kernel_rfl) ?_
    refine s_qk (.iface 122 (.int .i64 8)) (by kernel_rfl) ?_
    refine s_qk (.iface 122 (.int .i64 8)) (by kernel_rfl) ?_
    refine s_nil ?_
    refine k44 _ _ ?_
    refine w_ret (bl_ret (th_ret ?_))
    refine b_ret (fn := Try.f122) (vs := [.iface 122 (.int .i64 8)]) (aRes_tmp (by kernel_rfl) (rfl)) ?_
    obtain rfl := Option.some.inj r43
    exact ⟨(.iface 122 (.int .i64 8)), [], rfl, ((FrS.refl (W := []) wf).extR e9), Ev.no, Inn.nil⟩
   ·have r45 := ite_f h42 r40
    refine s_qk (.bool false) (by kernel_rfl) ?_
    refine s_qk (.pointer (some ⟨b7, 2, none⟩)) (by kernel_rfl) ?_
    refine s_ql (.int .i64 Weight) (x := aLoad Try.prog 3 (.pointer (some ⟨b7, 2, none⟩)) H8) (by kernel_rfl) (r11.ld (by kernel_rfl)) ?_
    refine s_qk (.bool (decide (Weight > 2147483647))) (by kernel_rfl) ?_
    refine s_qk (.bool (decide (Weight > 2147483647))) (by kernel_rfl) ?_
    refine s_qk (.bool (decide (Weight > 2147483647))) (by kernel_rfl) ?_
    refine s_nil ?_
    refine k41 _ _ ?_
    refine w_condp (Weight > 2147483647) (by kernel_rfl) rfl (fun h46 => ?_) (fun h46 => ?_)
    ·have r47 := ite_t h46 r45
     refine w_seqk fun K48 k48 => ?_
     refine w_reg (by kernel_rfl) ?_
     refine s_qk (.iface 122 (.int .i64 8)) (by kernel_rfl) ?_
     refine s_qk (.iface 122 (.int .i64 8)) (by kernel_rfl) ?_
     refine s_nil ?_
     refine k48 _ _ ?_
     refine w_ret (bl_ret (th_ret ?_))
     refine b_ret (fn := Try.f122) (vs := [.iface 122 (.int .i64 8)]) (aRes_tmp (by kernel_rfl) (rfl)) ?_
     obtain rfl := Option.some.inj r47
     exact ⟨(.iface 122 (.int .i64 8)), [], rfl, ((FrS.refl (W := []) wf).extR e9), Ev.no, Inn.nil⟩
    ·have r49 := ite_f h46 r45
     refine w_skip ?_
     refine k13 _ _ ?_
     refine w_seqk fun K50 k50 => ?_
     refine w_reg (by kernel_rfl) ?_
     refine s_qk (.nilIface) (by kernel_rfl) ?_
     refine s_nil ?_
     refine k50 _ _ ?_
     refine w_ret ?_
     refine b_ret (fn := Try.f122) (vs := [.nilIface]) (aRes_tmp (by kernel_rfl) (rfl)) ?_
     obtain rfl := Option.some.inj r49
     exact ⟨(.nilIface), [], rfl, ((FrS.refl (W := []) wf).extR e9), Ev.nil, Inn.nil⟩

theorem c_fault_At {H : AH} {ev_err : Value} {fp_err : Fp} {kind : Int} {at_ : Int} {err : Er} {r : Er}
  (wf : WF H) (h_err : Ev 122 235 H ev_err err fp_err) (hr : z_fault_At kind at_ err = some r) :
  ACalls Try.prog 119 #[.int .i64 kind, .int .i64 at_, ev_err] H fun v H' => ∃ (v3 : Value) (f4 : Fp), v = v3 ∧ FrS [] H H' ∧ Ev 122 235 H' v3 r f4 ∧ Inn fp_err H f4 := by
 refine acalls_of_body mixed Try.func119 rfl (Nat.le_of_ble_eq_true rfl) ?_
 unfold z_fault_At at hr
 refine w_seqk fun K6 k6 => ?_
 refine w_reg (by kernel_rfl) ?_
 refine s_qk (.nilIface) (by kernel_rfl) ?_
 refine s_nil ?_
 refine k6 _ _ ?_
 refine w_seqk fun K7 k7 => ?_
 refine w_seqk fun K8 k8 => ?_
 refine w_reg (by kernel_rfl) ?_
 refine s_qk (ev_err) (by kernel_rfl) ?_
 rcases (h_err).cases with ⟨h9, rfl⟩ | ⟨h9, t10, x11, rfl⟩
 ·have r12 := ite_t h9 hr
  refine s_qk (.bool true) (by kernel_rfl) ?_
  refine s_nil ?_
  refine k8 _ _ ?_
  refine w_cond true (by kernel_rfl) rfl (fun _ => ?_) (fun h => by cases h)
  refine w_seqk fun K13 k13 => ?_
  refine w_reg (by kernel_rfl) ?_
  refine s_qk (.nilIface) (by kernel_rfl) ?_
  refine s_nil ?_
  refine k13 _ _ ?_
  refine w_ret (th_ret ?_)
  refine b_ret (fn := Try.f119) (vs := [.nilIface]) (aRes_tmp (by kernel_rfl) (rfl)) ?_
  obtain rfl := Option.some.inj r12
  exact ⟨(.nilIface), [], rfl, (FrS.refl (W := []) wf), Ev.nil, Inn.nil⟩
 ·have r14 := ite_f h9 hr
  refine s_ql (.bool false) (x := aBin Try.prog .eql 31 (.tmp 7) (.const .nilIface) (.iface t10 x11) .nilIface) (by kernel_rfl) (aBin_nil (by kernel_rfl)) ?_
  refine s_nil ?_
  refine k8 _ _ ?_
  refine w_cond false (by kernel_rfl) rfl (fun h => by cases h) (fun _ => ?_)
  refine w_skip ?_
  refine k7 _ _ ?_
  refine w_seqk fun K15 k15 => ?_
  refine w_reg (by kernel_rfl) ?_
  refine s_qk (.int .i64 kind) (by kernel_rfl) ?_
  refine s_qk (.int .i64 at_) (by kernel_rfl) ?_
  refine s_qk (.agg #[.int .i64 kind, .int .i64 at_]) (by kernel_rfl) ?_
  refine s_qk (.iface t10 x11) (by kernel_rfl) ?_
  refine s_qk (.agg #[.int .i64 kind, .int .i64 at_, .iface t10 x11]) (by kernel_rfl) ?_
  refine s_rwl wf [.int .i64 kind, .int .i64 at_, .iface t10 x11] (one_cons (rfl) (one_cons (rfl) (one_cons (h_err.one1) (one_nil)))) (by kernel_rfl) fun b16 H17 e18 hb19 r20 => ?_
  have u22 := (h_err.ext e18)
  obtain ⟨fq23, he24, hi25⟩ := Ev.at r20 u22 hb19
  refine s_qk (.iface 235 (.pointer (some ⟨b16, 0, none⟩))) (by kernel_rfl) ?_
  refine s_qk (.iface 235 (.pointer (some ⟨b16, 0, none⟩))) (by kernel_rfl) ?_
  refine s_nil ?_
  refine k15 _ _ ?_
  refine w_ret ?_
  refine b_ret (fn := Try.f119) (vs := [.iface 235 (.pointer (some ⟨b16, 0, none⟩))]) (aRes_tmp (by kernel_rfl) (rfl)) ?_
  obtain rfl := Option.some.inj r14
  exact ⟨(.iface 235 (.pointer (some ⟨b16, 0, none⟩))), fq23, rfl, ((FrS.refl (W := []) wf).extR e18), he24, (Inn.trans Inn.refl' (Nat.le_refl _) hi25)⟩

theorem c_gtext_Check {H : AH} {hd_Arcs : Value} {fp_Arcs : Fp} {N_ : Int} {Arcs : List (Int × Int × Int)} {r : Er}
  (wf : WF H) (h_Arcs : Sq enc_i64_i64_i64 3 H hd_Arcs Arcs fp_Arcs) (hr : z_gtext_Check N_ Arcs = some r) :
  ACalls Try.prog 73 #[.agg #[.int .i64 N_, hd_Arcs]] H fun v H' => ∃ (v3 : Value) (f4 : Fp), v = v3 ∧ FrS [] H H' ∧ Ev 122 235 H' v3 r f4 ∧ Inn [] H f4 := by
 refine acalls_of_body mixed Try.func73 rfl (Nat.le_of_ble_eq_true rfl) ?_
 unfold z_gtext_Check at hr
 refine w_seqk fun K6 k6 => ?_
 refine w_reg (by kernel_rfl) ?_
 refine s_rwl wf [.int .i64 N_, hd_Arcs] (one_cons (rfl) (one_cons (h_Arcs.one1) (one_nil))) (by kernel_rfl) fun b7 H8 e9 hb10 r11 => ?_
 refine s_qk (.nilIface) (by kernel_rfl) ?_
 refine s_nil ?_
 refine k6 _ _ ?_
 refine w_seqk fun K13 k13 => ?_
 refine w_seqk fun K14 k14 => ?_
 obtain ⟨o15, hx16, r17⟩ := bind_some hr
 refine w_mid (fun α H18 => Has α [(1, .pointer (some ⟨b7, 0, none⟩)), (19, .bool o15)] ∧ H8 = H18) (fun K20 k20 => ?_) (fun α H18 hM => ?_)
 ·refine w_reg (by kernel_rfl) ?_
  refine s_qk (.pointer (some ⟨b7, 0, none⟩)) (by kernel_rfl) ?_
  refine s_ql (.int .i64 N_) (x := aLoad Try.prog 3 (.pointer (some ⟨b7, 0, none⟩)) H8) (by kernel_rfl) (r11.ld (by kernel_rfl)) ?_
  refine s_b (N_ < 0) (by kernel_rfl) (fun h22 => ?_) (fun h22 => ?_)
  ·have r23 := ite_t h22 hx16
   refine s_qk (.bool true) (by kernel_rfl) ?_
   refine s_no (by kernel_rfl) ?_
   refine s_no (by kernel_rfl) ?_
   refine s_no (by kernel_rfl) ?_
   refine s_qk (.bool true) (by kernel_rfl) ?_
   refine s_qk (.bool true) (by kernel_rfl) ?_
   refine s_no (by kernel_rfl) ?_
   refine s_no (by kernel_rfl) ?_
   refine s_no (by kernel_rfl) ?_
   refine s_no (by kernel_rfl) ?_
   refine s_qk (.bool true) (by kernel_rfl) ?_
   refine s_nil ?_
   obtain rfl := Option.some.inj r23
   exact k20 _ _ ⟨⟨by kernel_rfl, by kernel_rfl, trivial⟩, rfl⟩
  ·have r24 := ite_f h22 hx16
   refine s_qk (.bool false) (by kernel_rfl) ?_
   refine s_qk (.pointer (some ⟨b7, 0, none⟩)) (by kernel_rfl) ?_
   refine s_ql (.int .i64 N_) (x := aLoad Try.prog 3 (.pointer (some ⟨b7, 0, none⟩)) H8) (by kernel_rfl) (r11.ld (by kernel_rfl)) ?_
   refine s_b (N_ > 65536) (by kernel_rfl) (fun h25 => ?_) (fun h25 => ?_)
   ·have r26 := ite_t h25 r24
    refine s_qk (.bool true) (by kernel_rfl) ?_
    refine s_qk (.bool true) (by kernel_rfl) ?_
    refine s_no (by kernel_rfl) ?_
    refine s_no (by kernel_rfl) ?_
    refine s_no (by kernel_rfl) ?_
    refine s_no (by kernel_rfl) ?_
    refine s_qk (.bool true) (by kernel_rfl) ?_
    refine s_nil ?_
    obtain rfl := Option.some.inj r26
    exact k20 _ _ ⟨⟨by kernel_rfl, by kernel_rfl, trivial⟩, rfl⟩
   ·have r27 := ite_f h25 r24
    refine s_qk (.bool false) (by kernel_rfl) ?_
    refine s_qk (.bool false) (by kernel_rfl) ?_
    refine s_qk (.pointer (some ⟨b7, 1, none⟩)) (by kernel_rfl) ?_
    refine s_ql (hd_Arcs) (x := aLoad Try.prog 57 (.pointer (some ⟨b7, 1, none⟩)) H8) (by kernel_rfl) (r11.ld (by kernel_rfl)) ?_
    have u28 := (h_Arcs.ext e9)
    refine s_ql (.int .i64 (Arcs.length : Int)) (x := aLen Try.prog 57 hd_Arcs H8) (by kernel_rfl) (u28.lenb (by kernel_rfl)) ?_
    refine s_qk (.bool (decide ((Arcs.length : Int) > 262144))) (by kernel_rfl) ?_
    refine s_qk (.bool (decide ((Arcs.length : Int) > 262144))) (by kernel_rfl) ?_
    refine s_nil ?_
    obtain rfl := Option.some.inj r27
    exact k20 _ _ ⟨⟨by kernel_rfl, by kernel_rfl, trivial⟩, rfl⟩
 ·obtain ⟨hh21, rfl⟩ := hM
  obtain ⟨β, rfl⟩ := has_ex hh21
  clear hh21
  refine k14 _ _ ?_
  refine w_cond (o15) (by kernel_rfl) rfl (fun h29 => ?_) (fun h29 => ?_)
  ·have r30 := ite_t h29 r17
   refine w_seqk fun K31 k31 => ?_
   refine w_reg (by kernel_rfl) ?_
   refine s_qk (.iface 122 (.int .i64 9)) (by kernel_rfl) ?_
   refine s_qk (.iface 122 (.int .i64 9)) (by kernel_rfl) ?_
   refine s_nil ?_
   refine k31 _ _ ?_
   refine w_ret (th_ret ?_)
   refine b_ret (fn := Try.f73) (vs := [.iface 122 (.int .i64 9)]) (aRes_tmp (by kernel_rfl) (rfl)) ?_
   obtain rfl := Option.some.inj r30
   exact ⟨(.iface 122 (.int .i64 9)), [], rfl, ((FrS.refl (W := []) wf).extR e9), Ev.no, Inn.nil⟩
  ·have r32 := ite_bf h29 r17
   refine w_skip ?_
   refine k13 _ _ ?_
   refine w_seqk fun K33 k33 => ?_
   refine w_seqk fun K34 k34 => ?_
   refine w_reg (by kernel_rfl) ?_
   refine s_qk (.pointer (some ⟨b7, 1, none⟩)) (by kernel_rfl) ?_
   refine s_ql (hd_Arcs) (x := aLoad Try.prog 57 (.pointer (some ⟨b7, 1, none⟩)) H8) (by kernel_rfl) (r11.ld (by kernel_rfl)) ?_
   have u35 := (h_Arcs.ext e9)
   refine s_ql (.int .i64 (Arcs.length : Int)) (x := aLen Try.prog 57 hd_Arcs H8) (by kernel_rfl) (u35.lenb (by kernel_rfl)) ?_
   refine s_qk (.int .i64 0) (by kernel_rfl) ?_
   refine s_nil ?_
   refine k34 _ _ ?_
   obtain ⟨z39, hx37, r38⟩ := bind_some r32
   refine w_mid (fun α H40 => ∃ o36, z39 = Sum.inr o36 ∧ Has α [] ∧ FrS [] H8 H40) (fun K42 k42 => ?_) (fun α H40 hM => ?_)
   ·refine w_block ?_
    obtain ⟨n44, hn45⟩ := loopO_iff.1 hx37
    refine w_loopn (fun n α H46 => ∃ (i0 : Int), iterO (fun zz_ => z_gtext_Check_l0 N_ Arcs zz_) n i0 = some z39 ∧ Has α [(1, .pointer (some ⟨b7, 0, none⟩)), (22, hd_Arcs), (23, .int .i64 (Arcs.length : Int)), (24, .int .i64 i0)] ∧ FrS [] H8 H46) n44 ⟨0, hn45, ⟨by kernel_rfl, by kernel_rfl, by kernel_rfl, by kernel_rfl, trivial⟩, (FrS.refl (W := []) e9.wf)⟩ ?_
    rintro n44 α H46 ⟨i0, hi49, hh48, e47⟩ K54 k54
    obtain ⟨n50, z51, rfl, hz52, hn53⟩ := iter_succ hi49
    obtain ⟨β, rfl⟩ := has_ex hh48
    clear hh48
    replace hz52 : z_gtext_Check_l0 N_ Arcs i0 = some z51 := hz52
    unfold z_gtext_Check_l0 at hz52
    refine w_seqk fun K55 k55 => ?_
    refine w_reg (by kernel_rfl) ?_
    refine s_qk (.bool (decide (i0 < (Arcs.length : Int)))) (by kernel_rfl) ?_
    refine s_nil ?_
    refine k55 _ _ ?_
    refine w_seqk fun K56 k56 => ?_
    refine w_condp (i0 < (Arcs.length : Int)) (by kernel_rfl) rfl (fun h57 => ?_) (fun h57 => ?_)
    ·have r58 := ite_t h57 hz52
     refine w_skip ?_
     refine k56 _ _ ?_
     refine w_seqk fun K59 k59 => ?_
     refine w_block ?_
     refine w_seqk fun K60 k60 => ?_
     refine w_reg (by kernel_rfl) ?_
     refine s_qk (.int .i64 i0) (by kernel_rfl) ?_
     obtain ⟨g61, r62⟩ := G_some r58
     have u63 := (u35.fr e47 Dj.nil_l)
     refine s_ql (elp hd_Arcs 3 i0.toNat 0) (x := aIndexAddr Try.prog 57 hd_Arcs (.int .i64 i0)) (by kernel_rfl) (u63.idxb (by kernel_rfl) g61 h57) ?_
     refine s_ql (.agg #[.int .i64 ((gt Arcs i0).1), .int .i64 ((gt Arcs i0).2.1), .int .i64 ((gt Arcs i0).2.2)]) (x := aLoad Try.prog 73 (elp hd_Arcs 3 i0.toNat 0) H46) (by kernel_rfl) (u63.ld g61 h57 (by kernel_rfl)) ?_
     refine s_rwk e47.wf [.int .i64 0, .int .i64 0, .int .i64 0] (by kernel_rfl) fun b64 H65 e66 hb67 r68 => ?_
     refine s_qk (.int .i64 i0) (by kernel_rfl) ?_
     obtain ⟨H70, q71, e72, r73⟩ := Row.store (P := Try.prog) (t := 73) (p := 0) e66.wf r68 (.agg #[.int .i64 ((gt Arcs i0).1), .int .i64 ((gt Arcs i0).2.1), .int .i64 ((gt Arcs i0).2.2)]) [.int .i64 ((gt Arcs i0).1), .int .i64 ((gt Arcs i0).2.1), .int .i64 ((gt Arcs i0).2.2)] (by kernel_rfl) (by kernel_rfl) (one_cons (rfl) (one_cons (rfl) (one_cons (rfl) (one_nil)))) (Nat.le_of_ble_eq_true (by kernel_rfl)) [.int .i64 ((gt Arcs i0).1), .int .i64 ((gt Arcs i0).2.1), .int .i64 ((gt Arcs i0).2.2)] (by kernel_rfl)
     refine s_ek (undef) (by kernel_rfl) (map_ok q71) ?_
     refine s_nil ?_
     refine k60 _ _ ?_
     refine w_seqk fun K74 k74 => ?_
     refine w_reg (by kernel_rfl) ?_
     refine s_ql (.agg #[.int .i64 ((gt Arcs i0).1), .int .i64 ((gt Arcs i0).2.1), .int .i64 ((gt Arcs i0).2.2)]) (x := aLoad Try.prog 73 (.pointer (some ⟨b64, 0, none⟩)) H70) (by kernel_rfl) (r73.ld (by kernel_rfl)) ?_
     refine s_qk (.pointer (some ⟨b7, 0, none⟩)) (by kernel_rfl) ?_
     have u75 := (((r11.frS e47 Dj.nil_l).ext e66).frS e72 (hb67.djn (r11.ltF.le e47.next)))
     refine s_ql (.int .i64 N_) (x := aLoad Try.prog 3 (.pointer (some ⟨b7, 0, none⟩)) H70) (by kernel_rfl) (u75.ld (by kernel_rfl)) ?_
     obtain ⟨y76, hy77, r78⟩ := bind_some r62
     refine s_ck 122 #[.agg #[.int .i64 ((gt Arcs i0).1), .int .i64 ((gt Arcs i0).2.1), .int .i64 ((gt Arcs i0).2.2)], .int .i64 N_] (by kernel_rfl) (c_gtext_arc e72.wf hy77) ?_
     rintro v79 H81 ⟨_, f80, rfl, e82, m83, i84⟩
     refine s_qk (v79) (by kernel_rfl) ?_
     refine s_nil ?_
     refine k74 _ _ ?_
     refine w_seqk fun K86 k86 => ?_
     refine w_reg (by kernel_rfl) ?_
     refine s_qk (v79) (by kernel_rfl) ?_
     rcases (m83).cases with ⟨h87, rfl⟩ | ⟨h87, t88, x89, rfl⟩
     ·have r90 := ite_t h87 r78
      refine s_qk (.bool false) (by kernel_rfl) ?_
      refine s_nil ?_
      refine k86 _ _ ?_
      refine w_cond false (by kernel_rfl) rfl (fun h => by cases h) (fun _ => ?_)
      refine w_skip ?_
      refine k59 _ _ ?_
      refine w_reg (by kernel_rfl) ?_
      obtain ⟨g91, r92⟩ := G_some r90
      refine s_w ((i0 + 1)) (k := .i64) (x := (i0 + 1)) (by kernel_rfl) (wrap64 (by have := g91; omega)) ?_
      refine s_qk (.int .i64 (i0 + 1)) (by kernel_rfl) ?_
      refine s_nil ?_
      obtain rfl := Option.some.inj r92
      exact k54 n50 _ _ (Nat.lt_succ_self _) ⟨(i0 + 1), hn53, ⟨by kernel_rfl, by kernel_rfl, by kernel_rfl, by kernel_rfl, trivial⟩, (FrS.step e9.wf (FrS.step e9.wf ((FrS.step e9.wf (FrS.refl (W := []) e9.wf) e47 Inn.nil).extR e66) e72 (hb67.fresh e47.next)) e82 Inn.nil)⟩
     ·have r93 := ite_f h87 r78
      refine s_ql (.bool true) (x := aBin Try.prog .neq 31 (.tmp 33) (.const .nilIface) (.iface t88 x89) .nilIface) (by kernel_rfl) (aBin_nnil (by kernel_rfl)) ?_
      refine s_nil ?_
      refine k86 _ _ ?_
      refine w_cond true (by kernel_rfl) rfl (fun _ => ?_) (fun h => by cases h)
      refine w_seqk fun K94 k94 => ?_
      refine w_reg (by kernel_rfl) ?_
      refine s_qk (.int .i64 i0) (by kernel_rfl) ?_
      refine s_qk (.iface t88 x89) (by kernel_rfl) ?_
      obtain ⟨y95, hy96, r97⟩ := bind_some r93
      refine s_ck 119 #[.int .i64 4, .int .i64 i0, .iface t88 x89] (by kernel_rfl) (c_fault_At e82.wf m83 hy96) ?_
      rintro v98 H100 ⟨_, f99, rfl, e101, m102, i103⟩
      refine s_qk (v98) (by kernel_rfl) ?_
      refine s_nil ?_
      refine k94 _ _ ?_
      refine w_ret (bl_ret (th_ret (th_ret (bl_ret (th_ret (th_ret ?_))))))
      obtain ⟨v105, hv106, hz107⟩ := map_some r97
      subst hz107
      obtain rfl := it_inr hn53
      have hq108 := elim_inl r38
      rw [hq108] at hv106
      refine b_ret (fn := Try.f73) (vs := [v98]) (aRes_tmp (by kernel_rfl) (rfl)) ?_
      obtain rfl := Option.some.inj hv106
      exact ⟨(v98), f99, rfl, (FrS.step wf (FrS.step wf (FrS.step wf ((FrS.step wf ((FrS.refl (W := []) wf).extR e9) e47 Inn.nil).extR e66) e72 (hb67.fresh (ntr e9.next e47.next))) e82 Inn.nil) e101 Inn.nil), m102, (Inn.trans (i84.fresh (ntr (ntr (ntr e9.next e47.next) e66.next) e72.next)) (ntr (ntr (ntr (ntr e9.next e47.next) e66.next) e72.next) e82.next) i103)⟩
    ·have r109 := ite_f h57 hz52
     refine w_exit (th_exit (th_exit (bl_eq ?_)))
     obtain rfl := Option.some.inj r109
     obtain rfl := it_inr hn53
     exact k42 _ _ ⟨_, rfl, trivial, (FrS.step e9.wf (FrS.refl (W := []) e9.wf) e47 Inn.nil)⟩
   ·obtain ⟨o36, rfl, hh43, e41⟩ := hM
    have r110 := elim_inr r38
    obtain ⟨β, rfl⟩ := has_ex hh43
    clear hh43
    refine k33 _ _ ?_
    refine w_seqk fun K111 k111 => ?_
    refine w_reg (by kernel_rfl) ?_
    refine s_qk (.nilIface) (by kernel_rfl) ?_
    refine s_nil ?_
    refine k111 _ _ ?_
    refine w_ret ?_
    refine b_ret (fn := Try.f73) (vs := [.nilIface]) (aRes_tmp (by kernel_rfl) (rfl)) ?_
    obtain rfl := Option.some.inj r110
    exact ⟨(.nilIface), [], rfl, (FrS.step wf ((FrS.refl (W := []) wf).extR e9) e41 Inn.nil), Ev.nil, Inn.nil⟩

theorem c_cmp_isNaN {H : AH} {x : Int} {r : Bool}
  (wf : WF H) (hr : z_cmp_isNaN x = some r) :
  ACalls Try.prog 158 #[.int .i64 x] H fun v H' => v = .bool r ∧ H = H' := by
 refine acalls_of_body mixed Try.func158 rfl (Nat.le_of_ble_eq_true rfl) ?_
 unfold z_cmp_isNaN at hr
 refine w_seqk fun K1 k1 => ?_
 refine w_reg (by kernel_rfl) ?_
 refine s_qk (.bool false) (by kernel_rfl) ?_
 refine s_nil ?_
 refine k1 _ _ ?_
 refine w_seqk fun K2 k2 => ?_
 refine w_reg (by kernel_rfl) ?_
 refine s_qk (.int .i64 x) (by kernel_rfl) ?_
 refine s_qk (.int .i64 x) (by kernel_rfl) ?_
 refine s_qk (.bool (!decide (x = x))) (by kernel_rfl) ?_
 refine s_qk (.bool (!decide (x = x))) (by kernel_rfl) ?_
 refine s_nil ?_
 refine k2 _ _ ?_
 refine w_ret ?_
 refine b_ret (fn := Try.f158) (vs := [.bool (!decide (x = x))]) (aRes_tmp (by kernel_rfl) (rfl)) ?_
 obtain rfl := Option.some.inj hr
 exact ⟨rfl, rfl⟩

theorem c_cmp_Compare {H : AH} {x : Int} {y : Int} {r : Int}
  (wf : WF H) (hr : z_cmp_Compare x y = some r) :
  ACalls Try.prog 126 #[.int .i64 x, .int .i64 y] H fun v H' => v = .int .i64 r ∧ H = H' := by
 refine acalls_of_body mixed Try.func126 rfl (Nat.le_of_ble_eq_true rfl) ?_
 unfold z_cmp_Compare at hr
 refine w_seqk fun K1 k1 => ?_
 refine w_reg (by kernel_rfl) ?_
 refine s_qk (.int .i64 0) (by kernel_rfl) ?_
 refine s_nil ?_
 refine k1 _ _ ?_
 refine w_seqk fun K2 k2 => ?_
 refine w_reg (by kernel_rfl) ?_
 refine s_qk (.int .i64 x) (by kernel_rfl) ?_
 obtain ⟨y3, hy4, r5⟩ := bind_some hr
 refine s_ck 158 #[.int .i64 x] (by kernel_rfl) (c_cmp_isNaN wf hy4) ?_
 rintro _ _ ⟨rfl, rfl⟩
 refine s_qk (.bool y3) (by kernel_rfl) ?_
 refine s_nil ?_
 refine k2 _ _ ?_
 refine w_seqk fun K8 k8 => ?_
 refine w_reg (by kernel_rfl) ?_
 refine s_qk (.int .i64 y) (by kernel_rfl) ?_
 obtain ⟨y9, hy10, r11⟩ := bind_some r5
 refine s_ck 158 #[.int .i64 y] (by kernel_rfl) (c_cmp_isNaN wf hy10) ?_
 rintro _ _ ⟨rfl, rfl⟩
 refine s_qk (.bool y9) (by kernel_rfl) ?_
 refine s_nil ?_
 refine k8 _ _ ?_
 refine w_seqk fun K14 k14 => ?_
 refine w_seqk fun K15 k15 => ?_
 refine w_reg (by kernel_rfl) ?_
 refine s_qk (.bool y3) (by kernel_rfl) ?_
 refine s_nil ?_
 refine k15 _ _ ?_
 refine w_cond (y3) (by kernel_rfl) rfl (fun h16 => ?_) (fun h16 => ?_)
 ·have r17 := ite_t h16 r11
  refine w_seqk fun K18 k18 => ?_
  refine w_seqk fun K19 k19 => ?_
  refine w_reg (by kernel_rfl) ?_
  refine s_qk (.bool y9) (by kernel_rfl) ?_
  refine s_nil ?_
  refine k19 _ _ ?_
  refine w_cond (y9) (by kernel_rfl) rfl (fun h20 => ?_) (fun h20 => ?_)
  ·have r21 := ite_t h20 r17
   refine w_seqk fun K22 k22 => ?_
   refine w_reg (by kernel_rfl) ?_
   refine s_qk (.int .i64 0) (by kernel_rfl) ?_
   refine s_nil ?_
   refine k22 _ _ ?_
   refine w_ret (th_ret (th_ret ?_))
   refine b_ret (fn := Try.f126) (vs := [.int .i64 0]) (aRes_tmp (by kernel_rfl) (rfl)) ?_
   obtain rfl := Option.some.inj r21
   exact ⟨rfl, rfl⟩
  ·have r23 := ite_bf h20 r17
   refine w_skip ?_
   refine k18 _ _ ?_
   refine w_seqk fun K24 k24 => ?_
   refine w_reg (by kernel_rfl) ?_
   refine s_qk (.int .i64 (-1)) (by kernel_rfl) ?_
   refine s_nil ?_
   refine k24 _ _ ?_
   refine w_ret (th_ret ?_)
   refine b_ret (fn := Try.f126) (vs := [.int .i64 (-1)]) (aRes_tmp (by kernel_rfl) (rfl)) ?_
   obtain rfl := Option.some.inj r23
   exact ⟨rfl, rfl⟩
 ·have r25 := ite_bf h16 r11
  refine w_skip ?_
  refine k14 _ _ ?_
  refine w_seqk fun K26 k26 => ?_
  refine w_seqk fun K27 k27 => ?_
  refine w_reg (by kernel_rfl) ?_
  refine s_qk (.bool y9) (by kernel_rfl) ?_
  refine s_nil ?_
  refine k27 _ _ ?_
  refine w_cond (y9) (by kernel_rfl) rfl (fun h28 => ?_) (fun h28 => ?_)
  ·have r29 := ite_t h28 r25
   refine w_seqk fun K30 k30 => ?_
   refine w_reg (by kernel_rfl) ?_
   refine s_qk (.int .i64 1) (by kernel_rfl) ?_
   refine s_nil ?_
   refine k30 _ _ ?_
   refine w_ret (th_ret ?_)
   refine b_ret (fn := Try.f126) (vs := [.int .i64 1]) (aRes_tmp (by kernel_rfl) (rfl)) ?_
   obtain rfl := Option.some.inj r29
   exact ⟨rfl, rfl⟩
  ·have r31 := ite_bf h28 r25
   refine w_skip ?_
   refine k26 _ _ ?_
   refine w_seqk fun K32 k32 => ?_
   refine w_seqk fun K33 k33 => ?_
   refine w_reg (by kernel_rfl) ?_
   refine s_qk (.int .i64 x) (by kernel_rfl) ?_
   refine s_qk (.int .i64 y) (by kernel_rfl) ?_
   refine s_qk (.bool (decide (x < y))) (by kernel_rfl) ?_
   refine s_nil ?_
   refine k33 _ _ ?_
   refine w_condp (x < y) (by kernel_rfl) rfl (fun h34 => ?_) (fun h34 => ?_)
   ·have r35 := ite_t h34 r31
    refine w_seqk fun K36 k36 => ?_
    refine w_reg (by kernel_rfl) ?_
    refine s_qk (.int .i64 (-1)) (by kernel_rfl) ?_
    refine s_nil ?_
    refine k36 _ _ ?_
    refine w_ret (th_ret ?_)
    refine b_ret (fn := Try.f126) (vs := [.int .i64 (-1)]) (aRes_tmp (by kernel_rfl) (rfl)) ?_
    obtain rfl := Option.some.inj r35
    exact ⟨rfl, rfl⟩
   ·have r37 := ite_f h34 r31
    refine w_skip ?_
    refine k32 _ _ ?_
    refine w_seqk fun K38 k38 => ?_
    refine w_seqk fun K39 k39 => ?_
    refine w_reg (by kernel_rfl) ?_
    refine s_qk (.int .i64 x) (by kernel_rfl) ?_
    refine s_qk (.int .i64 y) (by kernel_rfl) ?_
    refine s_qk (.bool (decide (x > y))) (by kernel_rfl) ?_
    refine s_nil ?_
    refine k39 _ _ ?_
    refine w_condp (x > y) (by kernel_rfl) rfl (fun h40 => ?_) (fun h40 => ?_)
    ·have r41 := ite_t h40 r37
     refine w_seqk fun K42 k42 => ?_
     refine w_reg (by kernel_rfl) ?_
     refine s_qk (.int .i64 1) (by kernel_rfl) ?_
     refine s_nil ?_
     refine k42 _ _ ?_
     refine w_ret (th_ret ?_)
     refine b_ret (fn := Try.f126) (vs := [.int .i64 1]) (aRes_tmp (by kernel_rfl) (rfl)) ?_
     obtain rfl := Option.some.inj r41
     exact ⟨rfl, rfl⟩
    ·have r43 := ite_f h40 r37
     refine w_skip ?_
     refine k38 _ _ ?_
     refine w_seqk fun K44 k44 => ?_
     refine w_reg (by kernel_rfl) ?_
     refine s_qk (.int .i64 0) (by kernel_rfl) ?_
     refine s_nil ?_
     refine k44 _ _ ?_
     refine w_ret ?_
     refine b_ret (fn := Try.f126) (vs := [.int .i64 0]) (aRes_tmp (by kernel_rfl) (rfl)) ?_
     obtain rfl := Option.some.inj r43
     exact ⟨rfl, rfl⟩

theorem c_cmp_Or {H : AH} {hd_vals : Value} {fp_vals : Fp} {vals : List (Int)} {r : Int}
  (wf : WF H) (h_vals : Sq (encI .i64) 1 H hd_vals vals fp_vals) (hr : z_cmp_Or vals = some r) :
  ACalls Try.prog 125 #[hd_vals] H fun v H' => v = .int .i64 r ∧ H = H' := by
 refine acalls_of_body mixed Try.func125 rfl (Nat.le_of_ble_eq_true rfl) ?_
 unfold z_cmp_Or at hr
 refine w_seqk fun K1 k1 => ?_
 refine w_reg (by kernel_rfl) ?_
 refine s_qk (.int .i64 0) (by kernel_rfl) ?_
 refine s_nil ?_
 refine k1 _ _ ?_
 refine w_seqk fun K2 k2 => ?_
 refine w_reg (by kernel_rfl) ?_
 refine s_qk (.int .i64 0) (by kernel_rfl) ?_
 refine s_nil ?_
 refine k2 _ _ ?_
 refine w_seqk fun K3 k3 => ?_
 refine w_seqk fun K4 k4 => ?_
 refine w_reg (by kernel_rfl) ?_
 refine s_qk (hd_vals) (by kernel_rfl) ?_
 refine s_ql (.int .i64 (vals.length : Int)) (x := aLen Try.prog 22 hd_vals H) (by kernel_rfl) (h_vals.lenb (by kernel_rfl)) ?_
 refine s_qk (.int .i64 0) (by kernel_rfl) ?_
 refine s_nil ?_
 refine k4 _ _ ?_
 obtain ⟨z8, hx6, r7⟩ := bind_some hr
 refine w_mid (fun α H9 => ∃ o5, z8 = Sum.inr o5 ∧ Has α [(3, .int .i64 0)] ∧ H = H9) (fun K11 k11 => ?_) (fun α H9 hM => ?_)
 ·refine w_block ?_
  obtain ⟨n13, hn14⟩ := loopO_iff.1 hx6
  refine w_loopn (fun n α H15 => ∃ (i0 : Int), iterO (fun zz_ => z_cmp_Or_l0 vals zz_) n i0 = some z8 ∧ Has α [(3, .int .i64 0), (6, hd_vals), (7, .int .i64 (vals.length : Int)), (8, .int .i64 i0)] ∧ H = H15) n13 ⟨0, hn14, ⟨by kernel_rfl, by kernel_rfl, by kernel_rfl, by kernel_rfl, trivial⟩, rfl⟩ ?_
  rintro n13 α H15 ⟨i0, hi18, hh17, rfl⟩ K23 k23
  obtain ⟨n19, z20, rfl, hz21, hn22⟩ := iter_succ hi18
  obtain ⟨β, rfl⟩ := has_ex hh17
  clear hh17
  replace hz21 : z_cmp_Or_l0 vals i0 = some z20 := hz21
  unfold z_cmp_Or_l0 at hz21
  refine w_seqk fun K24 k24 => ?_
  refine w_reg (by kernel_rfl) ?_
  refine s_qk (.bool (decide (i0 < (vals.length : Int)))) (by kernel_rfl) ?_
  refine s_nil ?_
  refine k24 _ _ ?_
  refine w_seqk fun K25 k25 => ?_
  refine w_condp (i0 < (vals.length : Int)) (by kernel_rfl) rfl (fun h26 => ?_) (fun h26 => ?_)
  ·have r27 := ite_t h26 hz21
   refine w_skip ?_
   refine k25 _ _ ?_
   refine w_seqk fun K28 k28 => ?_
   refine w_block ?_
   refine w_seqk fun K29 k29 => ?_
   refine w_reg (by kernel_rfl) ?_
   obtain ⟨g30, r31⟩ := G_some r27
   refine s_ql (elp hd_vals 1 i0.toNat 0) (x := aIndexAddr Try.prog 22 hd_vals (.int .i64 i0)) (by kernel_rfl) (h_vals.idxb (by kernel_rfl) g30 h26) ?_
   refine s_ql (.int .i64 (gt vals i0)) (x := aLoad Try.prog 3 (elp hd_vals 1 i0.toNat 0) H) (by kernel_rfl) (h_vals.ld g30 h26 (by kernel_rfl)) ?_
   refine s_qk (.int .i64 (gt vals i0)) (by kernel_rfl) ?_
   refine s_nil ?_
   refine k29 _ _ ?_
   refine w_seqk fun K32 k32 => ?_
   refine w_reg (by kernel_rfl) ?_
   refine s_qk (.int .i64 (gt vals i0)) (by kernel_rfl) ?_
   refine s_qk (.int .i64 0) (by kernel_rfl) ?_
   refine s_qk (.bool (!decide ((gt vals i0) = 0))) (by kernel_rfl) ?_
   refine s_nil ?_
   refine k32 _ _ ?_
   refine w_condn ((gt vals i0) = 0) (by kernel_rfl) rfl (fun h33 => ?_) (fun h33 => ?_)
   ·have r34 := ite_f h33 r31
    refine w_seqk fun K35 k35 => ?_
    refine w_reg (by kernel_rfl) ?_
    refine s_qk (.int .i64 (gt vals i0)) (by kernel_rfl) ?_
    refine s_qk (.int .i64 (gt vals i0)) (by kernel_rfl) ?_
    refine s_nil ?_
    refine k35 _ _ ?_
    refine w_ret (bl_ret (th_ret (th_ret (bl_ret (th_ret (th_ret ?_))))))
    obtain ⟨v36, hv37, hz38⟩ := map_some r34
    subst hz38
    obtain rfl := it_inr hn22
    have hq39 := elim_inl r7
    rw [hq39] at hv37
    refine b_ret (fn := Try.f125) (vs := [.int .i64 (gt vals i0)]) (aRes_tmp (by kernel_rfl) (rfl)) ?_
    obtain rfl := Option.some.inj hv37
    exact ⟨rfl, rfl⟩
   ·have r40 := ite_t h33 r31
    refine w_skip ?_
    refine k28 _ _ ?_
    refine w_reg (by kernel_rfl) ?_
    obtain ⟨g41, r42⟩ := G_some r40
    refine s_w ((i0 + 1)) (k := .i64) (x := (i0 + 1)) (by kernel_rfl) (wrap64 (by have := g41; omega)) ?_
    refine s_qk (.int .i64 (i0 + 1)) (by kernel_rfl) ?_
    refine s_nil ?_
    obtain rfl := Option.some.inj r42
    exact k23 n19 _ _ (Nat.lt_succ_self _) ⟨(i0 + 1), hn22, ⟨by kernel_rfl, by kernel_rfl, by kernel_rfl, by kernel_rfl, trivial⟩, rfl⟩
  ·have r43 := ite_f h26 hz21
   refine w_exit (th_exit (th_exit (bl_eq ?_)))
   obtain rfl := Option.some.inj r43
   obtain rfl := it_inr hn22
   exact k11 _ _ ⟨_, rfl, ⟨by kernel_rfl, trivial⟩, rfl⟩
 ·obtain ⟨o5, rfl, hh12, rfl⟩ := hM
  have r44 := elim_inr r7
  obtain ⟨β, rfl⟩ := has_ex hh12
  clear hh12
  refine k3 _ _ ?_
  refine w_seqk fun K45 k45 => ?_
  refine w_reg (by kernel_rfl) ?_
  refine s_qk (.int .i64 0) (by kernel_rfl) ?_
  refine s_qk (.int .i64 0) (by kernel_rfl) ?_
  refine s_nil ?_
  refine k45 _ _ ?_
  refine w_ret ?_
  refine b_ret (fn := Try.f125) (vs := [.int .i64 0]) (aRes_tmp (by kernel_rfl) (rfl)) ?_
  obtain rfl := Option.some.inj r44
  exact ⟨rfl, rfl⟩

theorem c_normal_order {H : AH} {From : Int} {To : Int} {Weight : Int} {From_ : Int} {To_ : Int} {Weight_ : Int} {r : Int}
  (wf : WF H) (hr : z_normal_order From To Weight From_ To_ Weight_ = some r) :
  ACalls Try.prog 75 #[.agg #[.int .i64 From, .int .i64 To, .int .i64 Weight], .agg #[.int .i64 From_, .int .i64 To_, .int .i64 Weight_]] H fun v H' => v = .int .i64 r ∧ FrS [] H H' := by
 refine acalls_of_body mixed Try.func75 rfl (Nat.le_of_ble_eq_true rfl) ?_
 unfold z_normal_order at hr
 refine w_seqk fun K1 k1 => ?_
 refine w_reg (by kernel_rfl) ?_
 refine s_rwl wf [.int .i64 From, .int .i64 To, .int .i64 Weight] (one_cons (rfl) (one_cons (rfl) (one_cons (rfl) (one_nil)))) (by kernel_rfl) fun b2 H3 e4 hb5 r6 => ?_
 refine s_rwl e4.wf [.int .i64 From_, .int .i64 To_, .int .i64 Weight_] (one_cons (rfl) (one_cons (rfl) (one_cons (rfl) (one_nil)))) (by kernel_rfl) fun b8 H9 e10 hb11 r12 => ?_
 refine s_qk (.int .i64 0) (by kernel_rfl) ?_
 refine s_nil ?_
 refine k1 _ _ ?_
 refine w_seqk fun K14 k14 => ?_
 refine w_draw [0, 1, 2, 3, 5, 6, 7, 8, 10, 11, 12, 13, 4, 9, 14, 15, 16, 17] (by kernel_rfl) ?_
 refine d_qk (.pointer (some ⟨b2, 0, none⟩)) (by kernel_rfl) ?_
 have u15 := (r6.ext e10)
 refine d_ql (.int .i64 From) (x := aLoad Try.prog 3 (.pointer (some ⟨b2, 0, none⟩)) H9) (by kernel_rfl) (u15.ld (by kernel_rfl)) ?_
 refine d_qk (.pointer (some ⟨b8, 0, none⟩)) (by kernel_rfl) ?_
 refine d_ql (.int .i64 From_) (x := aLoad Try.prog 3 (.pointer (some ⟨b8, 0, none⟩)) H9) (by kernel_rfl) (r12.ld (by kernel_rfl)) ?_
 refine d_qk (.pointer (some ⟨b2, 1, none⟩)) (by kernel_rfl) ?_
 refine d_fl (.int .i64 To) (x := aLoad Try.prog 3 (.pointer (some ⟨b2, 1, none⟩)) H9) (by kernel_rfl) (u15.ld (by kernel_rfl)) ?_
 refine d_qk (.pointer (some ⟨b8, 1, none⟩)) (by kernel_rfl) ?_
 refine d_fl (.int .i64 To_) (x := aLoad Try.prog 3 (.pointer (some ⟨b8, 1, none⟩)) H9) (by kernel_rfl) (r12.ld (by kernel_rfl)) ?_
 refine d_qk (.pointer (some ⟨b2, 2, none⟩)) (by kernel_rfl) ?_
 refine d_fl (.int .i64 Weight) (x := aLoad Try.prog 3 (.pointer (some ⟨b2, 2, none⟩)) H9) (by kernel_rfl) (u15.ld (by kernel_rfl)) ?_
 refine d_qk (.pointer (some ⟨b8, 2, none⟩)) (by kernel_rfl) ?_
 refine d_fl (.int .i64 Weight_) (x := aLoad Try.prog 3 (.pointer (some ⟨b8, 2, none⟩)) H9) (by kernel_rfl) (r12.ld (by kernel_rfl)) ?_
 obtain ⟨y16, hy17, r18⟩ := bind_some hr
 refine d_ck 126 #[.int .i64 From, .int .i64 From_] (by kernel_rfl) (c_cmp_Compare e10.wf hy17) ?_
 rintro _ _ ⟨rfl, rfl⟩
 refine ⟨st_ql (y := aLoad Try.prog 3 (.pointer (some ⟨b8, 2, none⟩)) H9) (by kernel_rfl) (r12.ld (by kernel_rfl)) (st_ql (y := aLoad Try.prog 3 (.pointer (some ⟨b2, 2, none⟩)) H9) (by kernel_rfl) (u15.ld (by kernel_rfl)) (st_ql (y := aLoad Try.prog 3 (.pointer (some ⟨b8, 1, none⟩)) H9) (by kernel_rfl) (r12.ld (by kernel_rfl)) (st_ql (y := aLoad Try.prog 3 (.pointer (some ⟨b2, 1, none⟩)) H9) (by kernel_rfl) (u15.ld (by kernel_rfl)) (st_nil)))), ?_⟩
 obtain ⟨y21, hy22, r23⟩ := bind_some r18
 refine d_ck 126 #[.int .i64 To, .int .i64 To_] (by kernel_rfl) (c_cmp_Compare e10.wf hy22) ?_
 rintro _ _ ⟨rfl, rfl⟩
 refine ⟨st_ql (y := aLoad Try.prog 3 (.pointer (some ⟨b8, 2, none⟩)) H9) (by kernel_rfl) (r12.ld (by kernel_rfl)) (st_ql (y := aLoad Try.prog 3 (.pointer (some ⟨b2, 2, none⟩)) H9) (by kernel_rfl) (u15.ld (by kernel_rfl)) (st_anc (by kernel_rfl) (st_anc (by kernel_rfl) (st_nil)))), ?_⟩
 obtain ⟨y26, hy27, r28⟩ := bind_some r23
 refine d_ck 126 #[.int .i64 Weight, .int .i64 Weight_] (by kernel_rfl) (c_cmp_Compare e10.wf hy27) ?_
 rintro _ _ ⟨rfl, rfl⟩
 refine ⟨st_anc (by kernel_rfl) (st_anc (by kernel_rfl) (st_anc (by kernel_rfl) (st_anc (by kernel_rfl) (st_nil)))), ?_⟩
 refine d_owk (enc := (encI .i64)) (sz := 1) e10.wf [y16, y21, y26] 3 (by decide) (fun _ _ => rfl) (fun _ _ => rfl) rfl (by kernel_rfl) fun s31 f32 H33 e34 hf35 hm36 => ?_
 obtain ⟨a37, n38, c39, rfl⟩ := hm36.form
 obtain ⟨y41, hy42, r43⟩ := bind_some r28
 refine d_ck 125 #[.slice a37 n38 c39] (by kernel_rfl) (c_cmp_Or e34.wf hm36.sq hy42) ?_
 rintro _ _ ⟨rfl, rfl⟩
 refine ⟨st_anc (by kernel_rfl) (st_anc (by kernel_rfl) (st_anc (by kernel_rfl) (st_anc (by kernel_rfl) (st_nil)))), ?_⟩
 refine d_qk (.int .i64 y41) (by kernel_rfl) ?_
 refine d_nil ?_
 refine k14 _ _ ?_
 refine w_ret ?_
 refine b_ret (fn := Try.f75) (vs := [.int .i64 y41]) (aRes_tmp (by kernel_rfl) (rfl)) ?_
 obtain rfl := Option.some.inj r43
 exact ⟨rfl, ((((FrS.refl (W := []) wf).extR e4).extR e10).extR e34)⟩

theorem c_normal_Of_1 {H : AH} {From : Int} {To : Int} {Weight : Int} {From_ : Int} {To_ : Int} {Weight_ : Int} {r : Bool}
  (wf : WF H) (hr : z_normal_Of_1 From To Weight From_ To_ Weight_ = some r) :
  ACalls Try.prog 77 #[.agg #[.int .i64 From, .int .i64 To, .int .i64 Weight], .agg #[.int .i64 From_, .int .i64 To_, .int .i64 Weight_]] H fun v H' => v = .bool r ∧ FrS [] H H' := by
 refine acalls_of_body mixed Try.func77 rfl (Nat.le_of_ble_eq_true rfl) ?_
 unfold z_normal_Of_1 at hr
 refine w_seqk fun K1 k1 => ?_
 refine w_reg (by kernel_rfl) ?_
 refine s_rwl wf [.int .i64 From, .int .i64 To, .int .i64 Weight] (one_cons (rfl) (one_cons (rfl) (one_cons (rfl) (one_nil)))) (by kernel_rfl) fun b2 H3 e4 hb5 r6 => ?_
 refine s_rwl e4.wf [.int .i64 From_, .int .i64 To_, .int .i64 Weight_] (one_cons (rfl) (one_cons (rfl) (one_cons (rfl) (one_nil)))) (by kernel_rfl) fun b8 H9 e10 hb11 r12 => ?_
 refine s_qk (.bool false) (by kernel_rfl) ?_
 refine s_nil ?_
 refine k1 _ _ ?_
 refine w_seqk fun K14 k14 => ?_
 refine w_reg (by kernel_rfl) ?_
 refine s_qk (.pointer (some ⟨b2, 0, none⟩)) (by kernel_rfl) ?_
 have u15 := (r6.ext e10)
 refine s_ql (.int .i64 From) (x := aLoad Try.prog 3 (.pointer (some ⟨b2, 0, none⟩)) H9) (by kernel_rfl) (u15.ld (by kernel_rfl)) ?_
 refine s_qk (.pointer (some ⟨b8, 0, none⟩)) (by kernel_rfl) ?_
 refine s_ql (.int .i64 From_) (x := aLoad Try.prog 3 (.pointer (some ⟨b8, 0, none⟩)) H9) (by kernel_rfl) (r12.ld (by kernel_rfl)) ?_
 refine s_b (From = From_) (by kernel_rfl) (fun h16 => ?_) (fun h16 => ?_)
 ·have r17 := ite_t h16 hr
  refine s_qk (.bool true) (by kernel_rfl) ?_
  refine s_qk (.pointer (some ⟨b2, 1, none⟩)) (by kernel_rfl) ?_
  refine s_ql (.int .i64 To) (x := aLoad Try.prog 3 (.pointer (some ⟨b2, 1, none⟩)) H9) (by kernel_rfl) (u15.ld (by kernel_rfl)) ?_
  refine s_qk (.pointer (some ⟨b8, 1, none⟩)) (by kernel_rfl) ?_
  refine s_ql (.int .i64 To_) (x := aLoad Try.prog 3 (.pointer (some ⟨b8, 1, none⟩)) H9) (by kernel_rfl) (r12.ld (by kernel_rfl)) ?_
  refine s_qk (.bool (decide (To = To_))) (by kernel_rfl) ?_
  refine s_qk (.bool (decide (To = To_))) (by kernel_rfl) ?_
  refine s_qk (.bool (decide (To = To_))) (by kernel_rfl) ?_
  refine s_nil ?_
  refine k14 _ _ ?_
  refine w_ret ?_
  refine b_ret (fn := Try.f77) (vs := [.bool (decide (To = To_))]) (aRes_tmp (by kernel_rfl) (rfl)) ?_
  obtain rfl := Option.some.inj r17
  exact ⟨rfl, (((FrS.refl (W := []) wf).extR e4).extR e10)⟩
 ·have r18 := ite_f h16 hr
  refine s_qk (.bool false) (by kernel_rfl) ?_
  refine s_no (by kernel_rfl) ?_
  refine s_no (by kernel_rfl) ?_
  refine s_no (by kernel_rfl) ?_
  refine s_no (by kernel_rfl) ?_
  refine s_no (by kernel_rfl) ?_
  refine s_qk (.bool false) (by kernel_rfl) ?_
  refine s_qk (.bool false) (by kernel_rfl) ?_
  refine s_nil ?_
  refine k14 _ _ ?_
  refine w_ret ?_
  refine b_ret (fn := Try.f77) (vs := [.bool false]) (aRes_tmp (by kernel_rfl) (rfl)) ?_
  obtain rfl := Option.some.inj r18
  exact ⟨rfl, (((FrS.refl (W := []) wf).extR e4).extR e10)⟩

theorem c_slices_CompactFunc {H : AH} {hd_s : Value} {fp_s : Fp} {s : List (Int × Int × Int)} {r : List (Int × Int × Int) × List (Int × Int × Int)}
  (wf : WF H) (h_s : Ow enc_i64_i64_i64 3 H hd_s s fp_s) (hr : z_slices_CompactFunc s = some r) :
  ACalls Try.prog 76 #[hd_s, .func (.func 77) #[] #[]] H fun v H' => ∃ (s3 : Value), v = s3 ∧ FrS fp_s H H' ∧ Ow enc_i64_i64_i64 3 H' s3 r.1 fp_s ∧ Ow enc_i64_i64_i64 3 H' hd_s r.2 fp_s := by
 refine acalls_of_body mixed Try.func76 rfl (Nat.le_of_ble_eq_true rfl) ?_
 unfold z_slices_CompactFunc at hr
 refine w_seqk fun K6 k6 => ?_
 refine w_reg (by kernel_rfl) ?_
 refine s_qk (.slice none 0 0) (by kernel_rfl) ?_
 refine s_nil ?_
 refine k6 _ _ ?_
 refine w_seqk fun K7 k7 => ?_
 refine w_seqk fun K8 k8 => ?_
 refine w_reg (by kernel_rfl) ?_
 refine s_qk (hd_s) (by kernel_rfl) ?_
 refine s_ql (.int .i64 (s.length : Int)) (x := aLen Try.prog 57 hd_s H) (by kernel_rfl) (h_s.sq.lenb (by kernel_rfl)) ?_
 refine s_qk (.bool (decide ((s.length : Int) < 2))) (by kernel_rfl) ?_
 refine s_nil ?_
 refine k8 _ _ ?_
 refine w_condp ((s.length : Int) < 2) (by kernel_rfl) rfl (fun h9 => ?_) (fun h9 => ?_)
 ·have r10 := ite_t h9 hr
  refine w_seqk fun K11 k11 => ?_
  refine w_reg (by kernel_rfl) ?_
  refine s_qk (hd_s) (by kernel_rfl) ?_
  refine s_qk (hd_s) (by kernel_rfl) ?_
  refine s_nil ?_
  refine k11 _ _ ?_
  refine w_ret (th_ret ?_)
  refine b_ret (fn := Try.f76) (vs := [hd_s]) (aRes_tmp (by kernel_rfl) (rfl)) ?_
  obtain rfl := Option.some.inj r10
  exact ⟨(hd_s), rfl, (FrS.refl (W := fp_s) wf), h_s, h_s⟩
 ·have r12 := ite_f h9 hr
  refine w_skip ?_
  refine k7 _ _ ?_
  refine w_seqk fun K13 k13 => ?_
  refine w_seqk fun K14 k14 => ?_
  refine w_reg (by kernel_rfl) ?_
  refine s_qk (.int .i64 1) (by kernel_rfl) ?_
  refine s_nil ?_
  refine k14 _ _ ?_
  obtain ⟨z18, hx16, r17⟩ := bind_some r12
  refine w_mid (fun α H19 => ∃ o15, z18 = Sum.inr o15 ∧ Has α [(0, hd_s)] ∧ FrS [] H H19) (fun K21 k21 => ?_) (fun α H19 hM => ?_)
  ·refine w_block ?_
   obtain ⟨n23, hn24⟩ := loopO_iff.1 hx16
   refine w_loopn (fun n α H25 => ∃ (k3 : Int), iterO (fun zz_ => z_slices_CompactFunc_l1 s zz_) n k3 = some z18 ∧ Has α [(0, hd_s), (1, .func (.func 77) #[] #[]), (5, .int .i64 k3)] ∧ FrS [] H H25) n23 ⟨1, hn24, ⟨by kernel_rfl, by kernel_rfl, by kernel_rfl, trivial⟩, (FrS.refl (W := []) wf)⟩ ?_
   rintro n23 α H25 ⟨k3, hi28, hh27, e26⟩ K33 k33
   obtain ⟨n29, z30, rfl, hz31, hn32⟩ := iter_succ hi28
   obtain ⟨β, rfl⟩ := has_ex hh27
   clear hh27
   replace hz31 : z_slices_CompactFunc_l1 s k3 = some z30 := hz31
   unfold z_slices_CompactFunc_l1 at hz31
   refine w_seqk fun K34 k34 => ?_
   refine w_seqk fun K35 k35 => ?_
   refine w_reg (by kernel_rfl) ?_
   refine s_qk (.int .i64 k3) (by kernel_rfl) ?_
   refine s_qk (hd_s) (by kernel_rfl) ?_
   have u36 := (h_s.fr e26 Dj.nil_l)
   refine s_ql (.int .i64 (s.length : Int)) (x := aLen Try.prog 57 hd_s H25) (by kernel_rfl) (u36.sq.lenb (by kernel_rfl)) ?_
   refine s_qk (.bool (decide (k3 < (s.length : Int)))) (by kernel_rfl) ?_
   refine s_nil ?_
   refine k35 _ _ ?_
   refine w_condp (k3 < (s.length : Int)) (by kernel_rfl) rfl (fun h37 => ?_) (fun h37 => ?_)
   ·have r38 := ite_t h37 hz31
    refine w_skip ?_
    refine k34 _ _ ?_
    refine w_seqk fun K39 k39 => ?_
    refine w_block ?_
    refine w_seqk fun K40 k40 => ?_
    refine w_draw [0, 1, 2, 3, 4, 5, 6, 7, 8, 9, 10] (by kernel_rfl) ?_
    refine d_qk (.func (.func 77) #[] #[]) (by kernel_rfl) ?_
    refine d_qk (hd_s) (by kernel_rfl) ?_
    refine d_qk (.int .i64 k3) (by kernel_rfl) ?_
    obtain ⟨g41, r42⟩ := G_some r38
    refine d_ql (elp hd_s 3 k3.toNat 0) (x := aIndexAddr Try.prog 57 hd_s (.int .i64 k3)) (by kernel_rfl) (u36.sq.idxb (by kernel_rfl) g41 h37) ?_
    refine d_ql (.agg #[.int .i64 ((gt s k3).1), .int .i64 ((gt s k3).2.1), .int .i64 ((gt s k3).2.2)]) (x := aLoad Try.prog 73 (elp hd_s 3 k3.toNat 0) H25) (by kernel_rfl) (u36.sq.ld g41 h37 (by kernel_rfl)) ?_
    refine d_qk (hd_s) (by kernel_rfl) ?_
    refine d_qk (.int .i64 k3) (by kernel_rfl) ?_
    obtain ⟨g43, r44⟩ := G_some r42
    refine d_w ((k3 - 1)) (k := .i64) (x := (k3 - 1)) (by kernel_rfl) (wrap64 g43) ?_
    obtain ⟨g45, r46⟩ := G_some r44
    refine d_ql (elp hd_s 3 (k3 - 1).toNat 0) (x := aIndexAddr Try.prog 57 hd_s (.int .i64 (k3 - 1))) (by kernel_rfl) (u36.sq.idxb (by kernel_rfl) g45.1 g45.2) ?_
    refine d_ql (.agg #[.int .i64 ((gt s (k3 - 1)).1), .int .i64 ((gt s (k3 - 1)).2.1), .int .i64 ((gt s (k3 - 1)).2.2)]) (x := aLoad Try.prog 73 (elp hd_s 3 (k3 - 1).toNat 0) H25) (by kernel_rfl) (u36.sq.ld g45.1 g45.2 (by kernel_rfl)) ?_
    obtain ⟨y47, hy48, r49⟩ := bind_some r46
    refine d_ck 77 #[.agg #[.int .i64 ((gt s k3).1), .int .i64 ((gt s k3).2.1), .int .i64 ((gt s k3).2.2)], .agg #[.int .i64 ((gt s (k3 - 1)).1), .int .i64 ((gt s (k3 - 1)).2.1), .int .i64 ((gt s (k3 - 1)).2.2)]] (by kernel_rfl) (c_normal_Of_1 e26.wf hy48) ?_
    rintro _ H50 ⟨rfl, e51⟩
    refine ⟨st_nil, ?_⟩
    refine d_nil ?_
    refine k40 _ _ ?_
    refine w_cond (y47) (by kernel_rfl) rfl (fun h52 => ?_) (fun h52 => ?_)
    ·have r53 := ite_t h52 r49
     refine w_seqk fun K54 k54 => ?_
     refine w_reg (by kernel_rfl) ?_
     refine s_qk (hd_s) (by kernel_rfl) ?_
     refine s_qk (.int .i64 k3) (by kernel_rfl) ?_
     obtain ⟨g55, r56⟩ := G_some r53
     have u60 := (u36.fr e51 Dj.nil_l)
     obtain ⟨s57, q58, vw59⟩ := Ow.view (P := Try.prog) u60 (t := 57) (by kernel_rfl) (lo := some (.int .i64 k3)) (l := k3.toNat) (aBound_int _ (by have := g55; omega)) (by have := g55; omega)
     obtain ⟨a61, n62, c63, rfl⟩ := vw59.form
     refine s_ql (.slice a61 n62 c63) (by kernel_rfl) q58 ?_
     refine s_qk (.slice a61 n62 c63) (by kernel_rfl) ?_
     refine s_nil ?_
     refine k54 _ _ ?_
     refine w_seqk fun K64 k64 => ?_
     refine w_seqk fun K65 k65 => ?_
     refine w_reg (by kernel_rfl) ?_
     refine s_qk (.int .i64 1) (by kernel_rfl) ?_
     refine s_nil ?_
     refine k65 _ _ ?_
     obtain ⟨o66, hx67, r68⟩ := bind_some r56
     refine w_mid (fun α H69 => Has α [(0, hd_s), (5, .int .i64 o66.2)] ∧ FrS fp_s H50 H69 ∧ Ow enc_i64_i64_i64 3 H69 hd_s o66.1 fp_s) (fun K73 k73 => ?_) (fun α H69 hM => ?_)
     ·refine w_block ?_
      obtain ⟨n75, hn76⟩ := loopO_iff.1 hx67
      refine w_loopn (fun n α H77 => ∃ (s0 : List (Int × Int × Int)), ∃ (k1 : Int), ∃ (k22 : Int), iterO (fun zz_ => z_slices_CompactFunc_l0 k3 zz_.1 zz_.2.1 zz_.2.2) n (s0, k1, k22) = some o66 ∧ Has α [(0, hd_s), (1, .func (.func 77) #[] #[]), (5, .int .i64 k1), (6, .slice a61 n62 c63), (7, .int .i64 k22)] ∧ FrS fp_s H50 H77 ∧ Ow enc_i64_i64_i64 3 H77 hd_s s0 fp_s) n75 ⟨s, k3, 1, hn76, ⟨by kernel_rfl, by kernel_rfl, by kernel_rfl, by kernel_rfl, by kernel_rfl, trivial⟩, (FrS.refl (W := fp_s) e51.wf), u60⟩ ?_
      rintro n75 α H77 ⟨s0, k1, k22, hi82, hh81, e78, m80⟩ K87 k87
      obtain ⟨n83, z84, rfl, hz85, hn86⟩ := iter_succ hi82
      obtain ⟨β, rfl⟩ := has_ex hh81
      clear hh81
      replace hz85 : z_slices_CompactFunc_l0 k3 s0 k1 k22 = some z84 := hz85
      unfold z_slices_CompactFunc_l0 at hz85
      refine w_seqk fun K88 k88 => ?_
      refine w_seqk fun K89 k89 => ?_
      refine w_reg (by kernel_rfl) ?_
      refine s_qk (.int .i64 k22) (by kernel_rfl) ?_
      refine s_qk (.slice a61 n62 c63) (by kernel_rfl) ?_
      obtain ⟨hs90, hl91⟩ := vw59.sq m80
      refine s_ql (.int .i64 ((s0.drop k3.toNat).length : Int)) (x := aLen Try.prog 57 (.slice a61 n62 c63) H77) (by kernel_rfl) (hs90.lenb (by kernel_rfl)) ?_
      refine s_qk (.bool (decide (k22 < ((s0.drop k3.toNat).length : Int)))) (by kernel_rfl) ?_
      refine s_nil ?_
      refine k89 _ _ ?_
      refine w_condp (k22 < ((s0.drop k3.toNat).length : Int)) (by kernel_rfl) rfl (fun h93 => ?_) (fun h93 => ?_)
      ·have r94 := ite_t h93 hz85
       refine w_skip ?_
       refine k88 _ _ ?_
       refine w_seqk fun K95 k95 => ?_
       refine w_block ?_
       refine w_seqk fun K96 k96 => ?_
       refine w_draw [0, 1, 2, 3, 4, 5, 6, 7, 8, 9, 10, 11] (by kernel_rfl) ?_
       refine d_qk (.func (.func 77) #[] #[]) (by kernel_rfl) ?_
       refine d_qk (.slice a61 n62 c63) (by kernel_rfl) ?_
       refine d_qk (.int .i64 k22) (by kernel_rfl) ?_
       obtain ⟨hs97, hl98⟩ := vw59.sq m80
       obtain ⟨g100, r101⟩ := G_some r94
       refine d_ql (elp (.slice a61 n62 c63) 3 k22.toNat 0) (x := aIndexAddr Try.prog 57 (.slice a61 n62 c63) (.int .i64 k22)) (by kernel_rfl) (hs97.idxb (by kernel_rfl) g100 h93) ?_
       refine d_ql (.agg #[.int .i64 ((gt (s0.drop k3.toNat) k22).1), .int .i64 ((gt (s0.drop k3.toNat) k22).2.1), .int .i64 ((gt (s0.drop k3.toNat) k22).2.2)]) (x := aLoad Try.prog 73 (elp (.slice a61 n62 c63) 3 k22.toNat 0) H77) (by kernel_rfl) (hs97.ld g100 h93 (by kernel_rfl)) ?_
       refine d_qk (.slice a61 n62 c63) (by kernel_rfl) ?_
       refine d_qk (.int .i64 k22) (by kernel_rfl) ?_
       obtain ⟨g102, r103⟩ := G_some r101
       refine d_w ((k22 - 1)) (k := .i64) (x := (k22 - 1)) (by kernel_rfl) (wrap64 g102) ?_
       obtain ⟨hs104, hl105⟩ := vw59.sq m80
       obtain ⟨g107, r108⟩ := G_some r103
       refine d_ql (elp (.slice a61 n62 c63) 3 (k22 - 1).toNat 0) (x := aIndexAddr Try.prog 57 (.slice a61 n62 c63) (.int .i64 (k22 - 1))) (by kernel_rfl) (hs104.idxb (by kernel_rfl) g107.1 g107.2) ?_
       refine d_ql (.agg #[.int .i64 ((gt (s0.drop k3.toNat) (k22 - 1)).1), .int .i64 ((gt (s0.drop k3.toNat) (k22 - 1)).2.1), .int .i64 ((gt (s0.drop k3.toNat) (k22 - 1)).2.2)]) (x := aLoad Try.prog 73 (elp (.slice a61 n62 c63) 3 (k22 - 1).toNat 0) H77) (by kernel_rfl) (hs104.ld g107.1 g107.2 (by kernel_rfl)) ?_
       obtain ⟨y109, hy110, r111⟩ := bind_some r108
       refine d_ck 77 #[.agg #[.int .i64 ((gt (s0.drop k3.toNat) k22).1), .int .i64 ((gt (s0.drop k3.toNat) k22).2.1), .int .i64 ((gt (s0.drop k3.toNat) k22).2.2)], .agg #[.int .i64 ((gt (s0.drop k3.toNat) (k22 - 1)).1), .int .i64 ((gt (s0.drop k3.toNat) (k22 - 1)).2.1), .int .i64 ((gt (s0.drop k3.toNat) (k22 - 1)).2.2)]] (by kernel_rfl) (c_normal_Of_1 e78.wf hy110) ?_
       rintro _ H112 ⟨rfl, e113⟩
       refine ⟨st_nil, ?_⟩
       refine d_qk (.bool (!y109)) (by kernel_rfl) ?_
       refine d_nil ?_
       refine k96 _ _ ?_
       refine w_cond ((!y109)) (by kernel_rfl) rfl (fun h114 => ?_) (fun h114 => ?_)
       ·have r115 := ite_t h114 r111
        refine w_seqk fun K116 k116 => ?_
        refine w_reg (by kernel_rfl) ?_
        refine s_qk (hd_s) (by kernel_rfl) ?_
        refine s_qk (.int .i64 k1) (by kernel_rfl) ?_
        refine s_qk (.slice a61 n62 c63) (by kernel_rfl) ?_
        refine s_qk (.int .i64 k22) (by kernel_rfl) ?_
        have u119 := (m80.fr e113 Dj.nil_l)
        obtain ⟨hs117, hl118⟩ := vw59.sq u119
        refine s_ql (elp (.slice a61 n62 c63) 3 k22.toNat 0) (x := aIndexAddr Try.prog 57 (.slice a61 n62 c63) (.int .i64 k22)) (by kernel_rfl) (hs117.idxb (by kernel_rfl) g100 h93) ?_
        refine s_ql (.agg #[.int .i64 ((gt (s0.drop k3.toNat) k22).1), .int .i64 ((gt (s0.drop k3.toNat) k22).2.1), .int .i64 ((gt (s0.drop k3.toNat) k22).2.2)]) (x := aLoad Try.prog 73 (elp (.slice a61 n62 c63) 3 k22.toNat 0) H112) (by kernel_rfl) (hs117.ld g100 h93 (by kernel_rfl)) ?_
        obtain ⟨g121, r122⟩ := G_some r115
        refine s_ql (elp hd_s 3 k1.toNat 0) (x := aIndexAddr Try.prog 57 hd_s (.int .i64 k1)) (by kernel_rfl) (u119.sq.idxb (by kernel_rfl) g121.1 g121.2) ?_
        obtain ⟨H123, q124, e125, hm126⟩ := Ow.store (P := Try.prog) (t := 73) (off := 0) e113.wf u119 g121.1 g121.2 (.agg #[.int .i64 ((gt (s0.drop k3.toNat) k22).1), .int .i64 ((gt (s0.drop k3.toNat) k22).2.1), .int .i64 ((gt (s0.drop k3.toNat) k22).2.2)]) [.int .i64 ((gt (s0.drop k3.toNat) k22).1), .int .i64 ((gt (s0.drop k3.toNat) k22).2.1), .int .i64 ((gt (s0.drop k3.toNat) k22).2.2)] (by kernel_rfl) (by kernel_rfl) rfl ((gt (s0.drop k3.toNat) k22).1, (gt (s0.drop k3.toNat) k22).2.1, (gt (s0.drop k3.toNat) k22).2.2) (Nat.le_of_ble_eq_true rfl) (by kernel_rfl)
        refine s_ek (undef) (by kernel_rfl) (map_ok q124) ?_
        refine s_nil ?_
        refine k116 _ _ ?_
        refine w_reg (by kernel_rfl) ?_
        refine s_qk (.int .i64 k1) (by kernel_rfl) ?_
        obtain ⟨g127, r128⟩ := G_some r122
        refine s_w ((k1 + 1)) (k := .i64) (x := (k1 + 1)) (by kernel_rfl) (wrap64 (by have := g127; omega)) ?_
        refine s_qk (.int .i64 (k1 + 1)) (by kernel_rfl) ?_
        refine s_nil ?_
        refine k95 _ _ ?_
        refine w_reg (by kernel_rfl) ?_
        refine s_qk (.int .i64 k22) (by kernel_rfl) ?_
        obtain ⟨g129, r130⟩ := G_some r128
        refine s_w ((k22 + 1)) (k := .i64) (x := (k22 + 1)) (by kernel_rfl) (wrap64 (by have := g129; omega)) ?_
        refine s_qk (.int .i64 (k22 + 1)) (by kernel_rfl) ?_
        refine s_nil ?_
        obtain rfl := Option.some.inj r130
        exact k87 n83 _ _ (Nat.lt_succ_self _) ⟨(s0.set k1.toNat ((gt (s0.drop k3.toNat) k22).1, (gt (s0.drop k3.toNat) k22).2.1, (gt (s0.drop k3.toNat) k22).2.2)), (k1 + 1), (k22 + 1), hn86, ⟨by kernel_rfl, by kernel_rfl, by kernel_rfl, by kernel_rfl, by kernel_rfl, trivial⟩, (FrS.step e51.wf (FrS.step e51.wf (FrS.step e51.wf (FrS.refl (W := fp_s) e51.wf) e78 Inn.refl') e113 Inn.nil) e125 Inn.refl'), hm126⟩
       ·have r131 := ite_bf h114 r111
        refine w_skip ?_
        refine k95 _ _ ?_
        refine w_reg (by kernel_rfl) ?_
        refine s_qk (.int .i64 k22) (by kernel_rfl) ?_
        obtain ⟨g132, r133⟩ := G_some r131
        refine s_w ((k22 + 1)) (k := .i64) (x := (k22 + 1)) (by kernel_rfl) (wrap64 (by have := g132; omega)) ?_
        refine s_qk (.int .i64 (k22 + 1)) (by kernel_rfl) ?_
        refine s_nil ?_
        have u134 := (m80.fr e113 Dj.nil_l)
        obtain rfl := Option.some.inj r133
        exact k87 n83 _ _ (Nat.lt_succ_self _) ⟨s0, k1, (k22 + 1), hn86, ⟨by kernel_rfl, by kernel_rfl, by kernel_rfl, by kernel_rfl, by kernel_rfl, trivial⟩, (FrS.step e51.wf (FrS.step e51.wf (FrS.refl (W := fp_s) e51.wf) e78 Inn.refl') e113 Inn.nil), u134⟩
      ·have r135 := ite_f h93 hz85
       refine w_exit (th_exit (th_exit (bl_eq ?_)))
       obtain rfl := Option.some.inj r135
       obtain rfl := it_inr hn86
       exact k73 _ _ ⟨⟨by kernel_rfl, by kernel_rfl, trivial⟩, (FrS.step e51.wf (FrS.refl (W := fp_s) e51.wf) e78 Inn.refl'), m80⟩
     ·obtain ⟨hh74, e70, m72⟩ := hM
      obtain ⟨β, rfl⟩ := has_ex hh74
      clear hh74
      refine k64 _ _ ?_
      refine w_seqk fun K136 k136 => ?_
      refine w_reg (by kernel_rfl) ?_
      refine s_qk (hd_s) (by kernel_rfl) ?_
      refine s_qk (.int .i64 o66.2) (by kernel_rfl) ?_
      obtain ⟨g137, r138⟩ := G_some r68
      obtain ⟨s139, q140, vw141⟩ := Ow.view (P := Try.prog) m72 (t := 57) (by kernel_rfl) (lo := some (.int .i64 o66.2)) (l := o66.2.toNat) (aBound_int _ (by have := g137; omega)) (by have := g137; omega)
      obtain ⟨a142, n143, c144, rfl⟩ := vw141.form
      refine s_ql (.slice a142 n143 c144) (by kernel_rfl) q140 ?_
      obtain ⟨g145, r146⟩ := G_some r138
      obtain ⟨H147, q148, e149, hm150⟩ := View.clear (P := Try.prog) (m := 24) (at_ := #[57]) vw141 ((0, 0, 0) : Int × Int × Int) e70.wf m72 g145 rfl (by kernel_rfl)
      refine s_ek (.tuple #[]) (by kernel_rfl) (map_ok q148) ?_
      refine s_nil ?_
      refine k136 _ _ ?_
      refine w_seqk fun K151 k151 => ?_
      refine w_reg (by kernel_rfl) ?_
      refine s_qk (hd_s) (by kernel_rfl) ?_
      refine s_qk (.int .i64 o66.2) (by kernel_rfl) ?_
      obtain ⟨g152, r153⟩ := G_some r146
      obtain ⟨s154, q155, hs156⟩ := Ow.head (P := Try.prog) hm150 (t := 57) (by kernel_rfl) (hi := (some (.int .i64 o66.2))) (r := o66.2.toNat) (aBound_int _ (by have := g152; omega)) (by have := g152; omega)
      obtain ⟨a157, n158, c159, rfl⟩ := hs156.form
      refine s_ql (.slice a157 n158 c159) (by kernel_rfl) q155 ?_
      refine s_qk (.slice a157 n158 c159) (by kernel_rfl) ?_
      refine s_nil ?_
      refine k151 _ _ ?_
      refine w_ret (bl_ret (th_ret (th_ret (bl_ret (th_ret (th_ret ?_))))))
      obtain ⟨v161, hv162, hz163⟩ := map_some r153
      subst hz163
      obtain rfl := it_inr hn32
      have hq164 := elim_inl r17
      rw [hq164] at hv162
      refine b_ret (fn := Try.f76) (vs := [.slice a157 n158 c159]) (aRes_tmp (by kernel_rfl) (rfl)) ?_
      obtain rfl := Option.some.inj hv162
      exact ⟨(.slice a157 n158 c159), rfl, (FrS.step wf (FrS.step wf (FrS.step wf (FrS.step wf (FrS.refl (W := fp_s) wf) e26 Inn.nil) e51 Inn.nil) e70 Inn.refl') e149 Inn.refl'), hs156, hm150⟩
    ·have r165 := ite_bf h52 r49
     refine w_skip ?_
     refine k39 _ _ ?_
     refine w_reg (by kernel_rfl) ?_
     refine s_qk (.int .i64 k3) (by kernel_rfl) ?_
     obtain ⟨g166, r167⟩ := G_some r165
     refine s_w ((k3 + 1)) (k := .i64) (x := (k3 + 1)) (by kernel_rfl) (wrap64 (by have := g166; omega)) ?_
     refine s_qk (.int .i64 (k3 + 1)) (by kernel_rfl) ?_
     refine s_nil ?_
     obtain rfl := Option.some.inj r167
     exact k33 n29 _ _ (Nat.lt_succ_self _) ⟨(k3 + 1), hn32, ⟨by kernel_rfl, by kernel_rfl, by kernel_rfl, trivial⟩, (FrS.step wf (FrS.step wf (FrS.refl (W := []) wf) e26 Inn.nil) e51 Inn.nil)⟩
   ·have r168 := ite_f h37 hz31
    refine w_exit (th_exit (th_exit (bl_eq ?_)))
    obtain rfl := Option.some.inj r168
    obtain rfl := it_inr hn32
    exact k21 _ _ ⟨_, rfl, ⟨by kernel_rfl, trivial⟩, (FrS.step wf (FrS.refl (W := []) wf) e26 Inn.nil)⟩
  ·obtain ⟨o15, rfl, hh22, e20⟩ := hM
   have r169 := elim_inr r17
   obtain ⟨β, rfl⟩ := has_ex hh22
   clear hh22
   refine k13 _ _ ?_
   refine w_seqk fun K170 k170 => ?_
   refine w_reg (by kernel_rfl) ?_
   refine s_qk (hd_s) (by kernel_rfl) ?_
   refine s_qk (hd_s) (by kernel_rfl) ?_
   refine s_nil ?_
   refine k170 _ _ ?_
   refine w_ret ?_
   refine b_ret (fn := Try.f76) (vs := [hd_s]) (aRes_tmp (by kernel_rfl) (rfl)) ?_
   have u171 := (h_s.fr e20 Dj.nil_l)
   obtain rfl := Option.some.inj r169
   exact ⟨(hd_s), rfl, (FrS.step wf (FrS.refl (W := fp_s) wf) e20 Inn.nil), u171, u171⟩


end Go.Vd

/-! (KNy1) -/

set_option maxRecDepth 100000
set_option maxHeartbeats 4000000
set_option linter.unusedVariables false
namespace Go.Vd
open Go.Proofs
attribute [local irreducible] wpSeq wpOrd aWp
theorem c_normal_Of {H : AH} {hd_Arcs : Value} {fp_Arcs : Fp} {N_ : Int} {Arcs : List (Int × Int × Int)} {r : Int × List (Int × Int × Int) × Er}
  (wf : WF H) (h_Arcs : Sq enc_i64_i64_i64 3 H hd_Arcs Arcs fp_Arcs) (hr : z_normal_Of N_ Arcs = some r) :
  ACalls Try.prog 24 #[.agg #[.int .i64 N_, hd_Arcs]] H fun v H' => ∃ (s3 : Value) (f4 : Fp) (v7 : Value) (f8 : Fp), v = .tuple #[.agg #[.int .i64 r.1, s3], v7] ∧ FrS [] H H' ∧ Ow enc_i64_i64_i64 3 H' s3 r.2.1 f4 ∧ Ev 122 235 H' v7 r.2.2 f8 ∧ Inn [] H f4 ∧ Inn [] H f8 ∧ Dj f4 f8 := by
 refine acalls_of_body mixed Try.func24 rfl (Nat.le_of_ble_eq_true rfl) ?_
 unfold z_normal_Of at hr
 refine w_seqk fun K12 k12 => ?_
 refine w_reg (by kernel_rfl) ?_
 refine s_rwl wf [.int .i64 N_, hd_Arcs] (one_cons (rfl) (one_cons (h_Arcs.one1) (one_nil))) (by kernel_rfl) fun b13 H14 e15 hb16 r17 => ?_
 refine s_rwk e15.wf [.int .i64 0, .slice none 0 0] (by kernel_rfl) fun b19 H20 e21 hb22 r23 => ?_
 refine s_qk (.nilIface) (by kernel_rfl) ?_
 refine s_nil ?_
 refine k12 _ _ ?_
 refine w_seqk fun K25 k25 => ?_
 refine w_seqk fun K26 k26 => ?_
 refine w_reg (by kernel_rfl) ?_
 have u27 := (r17.ext e21)
 refine s_ql (.agg #[.int .i64 N_, hd_Arcs]) (x := aLoad Try.prog 59 (.pointer (some ⟨b13, 0, none⟩)) H20) (by kernel_rfl) (u27.ld (by kernel_rfl)) ?_
 have u28 := ((h_Arcs.ext e15).ext e21)
 obtain ⟨y29, hy30, r31⟩ := bind_some hr
 refine s_ck 73 #[.agg #[.int .i64 N_, hd_Arcs]] (by kernel_rfl) (c_gtext_Check e21.wf u28 hy30) ?_
 rintro v32 H34 ⟨_, f33, rfl, e35, m36, i37⟩
 refine s_qk (v32) (by kernel_rfl) ?_
 refine s_nil ?_
 refine k26 _ _ ?_
 refine w_seqk fun K39 k39 => ?_
 refine w_reg (by kernel_rfl) ?_
 refine s_qk (v32) (by kernel_rfl) ?_
 rcases (m36).cases with ⟨h40, rfl⟩ | ⟨h40, t41, x42, rfl⟩
 ·have r43 := ite_t h40 r31
  refine s_qk (.bool false) (by kernel_rfl) ?_
  refine s_nil ?_
  refine k39 _ _ ?_
  refine w_cond false (by kernel_rfl) rfl (fun h => by cases h) (fun _ => ?_)
  refine w_skip ?_
  refine k25 _ _ ?_
  refine w_seqk fun K44 k44 => ?_
  refine w_reg (by kernel_rfl) ?_
  refine s_qk (.pointer (some ⟨b13, 0, none⟩)) (by kernel_rfl) ?_
  have u45 := (u27.frS e35 Dj.nil_l)
  refine s_ql (.int .i64 N_) (x := aLoad Try.prog 3 (.pointer (some ⟨b13, 0, none⟩)) H34) (by kernel_rfl) (u45.ld (by kernel_rfl)) ?_
  refine s_qk (.agg #[.int .i64 N_, .slice none 0 0]) (by kernel_rfl) ?_
  refine s_rwk e35.wf [.int .i64 0, .slice none 0 0] (by kernel_rfl) fun b46 H47 e48 hb49 r50 => ?_
  obtain ⟨H52, q53, e54, r55⟩ := Row.store (P := Try.prog) (t := 59) (p := 0) e48.wf r50 (.agg #[.int .i64 N_, .slice none 0 0]) [.int .i64 N_, .slice none 0 0] (by kernel_rfl) (by kernel_rfl) (one_cons (rfl) (one_cons (rfl) (one_nil))) (Nat.le_of_ble_eq_true (by kernel_rfl)) [.int .i64 N_, .slice none 0 0] (by kernel_rfl)
  refine s_ek (undef) (by kernel_rfl) (map_ok q53) ?_
  refine s_nil ?_
  refine k44 _ _ ?_
  refine w_seqk fun K56 k56 => ?_
  refine w_seqk fun K57 k57 => ?_
  refine w_reg (by kernel_rfl) ?_
  refine s_qk (.pointer (some ⟨b13, 1, none⟩)) (by kernel_rfl) ?_
  have u58 := ((u45.ext e48).frS e54 (hb49.djn (r17.ltF.le (ntr e21.next e35.next))))
  refine s_ql (hd_Arcs) (x := aLoad Try.prog 57 (.pointer (some ⟨b13, 1, none⟩)) H52) (by kernel_rfl) (u58.ld (by kernel_rfl)) ?_
  have u59 := (((u28.fr e35 Dj.nil_l).ext e48).fr e54 (hb49.djn (h_Arcs.lt.le (ntr (ntr e15.next e21.next) e35.next))))
  refine s_ql (.int .i64 (Arcs.length : Int)) (x := aLen Try.prog 57 hd_Arcs H52) (by kernel_rfl) (u59.lenb (by kernel_rfl)) ?_
  refine s_qk (.int .i64 0) (by kernel_rfl) ?_
  refine s_nil ?_
  refine k57 _ _ ?_
  obtain ⟨o60, hx61, r62⟩ := bind_some r43
  refine w_mid (fun α H63 => ∃ (s67 : Value) (f68 : Fp), Has α [(2, .pointer (some ⟨b19, 0, none⟩)), (5, .pointer (some ⟨b46, 0, none⟩))] ∧ FrS [b46] H52 H63 ∧ Ow enc_i64_i64_i64 3 H63 s67 o60 f68 ∧ Row H63 b46 [.int .i64 N_, s67] ∧ Inn [] H52 f68) (fun K72 k72 => ?_) (fun α H63 hM => ?_)
  ·refine w_block ?_
   obtain ⟨n74, hn75⟩ := loopO_iff.1 hx61
   refine w_loopn (fun n α H76 => ∃ (i0 : Int), ∃ (c1 : List (Int × Int × Int)), ∃ (s80 : Value), ∃ (f81 : Fp), iterO (fun zz_ => z_normal_Of_l0 Arcs zz_.1 zz_.2) n (i0, c1) = some o60 ∧ Has α [(2, .pointer (some ⟨b19, 0, none⟩)), (5, .pointer (some ⟨b46, 0, none⟩)), (18, hd_Arcs), (19, .int .i64 (Arcs.length : Int)), (20, .int .i64 i0)] ∧ FrS [b46] H52 H76 ∧ Ow enc_i64_i64_i64 3 H76 s80 c1 f81 ∧ Row H76 b46 [.int .i64 N_, s80] ∧ Inn [] H52 f81) n74 ⟨0, [], (.slice none 0 0), [], hn75, ⟨by kernel_rfl, by kernel_rfl, by kernel_rfl, by kernel_rfl, by kernel_rfl, trivial⟩, (FrS.refl (W := [b46]) e54.wf), (Ow.nil (by decide)), r55, Inn.nil⟩ ?_
   rintro n74 α H76 ⟨i0, c1, s80, f81, hi86, hh85, e77, m79, m83, i84⟩ K91 k91
   obtain ⟨n87, z88, rfl, hz89, hn90⟩ := iter_succ hi86
   obtain ⟨β, rfl⟩ := has_ex hh85
   clear hh85
   replace hz89 : z_normal_Of_l0 Arcs i0 c1 = some z88 := hz89
   unfold z_normal_Of_l0 at hz89
   obtain ⟨a92, n93, c94, rfl⟩ := m79.form
   refine w_seqk fun K95 k95 => ?_
   refine w_reg (by kernel_rfl) ?_
   refine s_qk (.bool (decide (i0 < (Arcs.length : Int)))) (by kernel_rfl) ?_
   refine s_nil ?_
   refine k95 _ _ ?_
   refine w_seqk fun K96 k96 => ?_
   refine w_condp (i0 < (Arcs.length : Int)) (by kernel_rfl) rfl (fun h97 => ?_) (fun h97 => ?_)
   ·have r98 := ite_t h97 hz89
    refine w_skip ?_
    refine k96 _ _ ?_
    refine w_seqk fun K99 k99 => ?_
    refine w_block ?_
    refine w_seqk fun K100 k100 => ?_
    refine w_reg (by kernel_rfl) ?_
    obtain ⟨g101, r102⟩ := G_some r98
    have u103 := (u59.fr e77 (hb49.djn (h_Arcs.lt.le (ntr (ntr e15.next e21.next) e35.next))))
    refine s_ql (elp hd_Arcs 3 i0.toNat 0) (x := aIndexAddr Try.prog 57 hd_Arcs (.int .i64 i0)) (by kernel_rfl) (u103.idxb (by kernel_rfl) g101 h97) ?_
    refine s_ql (.agg #[.int .i64 ((gt Arcs i0).1), .int .i64 ((gt Arcs i0).2.1), .int .i64 ((gt Arcs i0).2.2)]) (x := aLoad Try.prog 73 (elp hd_Arcs 3 i0.toNat 0) H76) (by kernel_rfl) (u103.ld g101 h97 (by kernel_rfl)) ?_
    refine s_rwk e77.wf [.int .i64 0, .int .i64 0, .int .i64 0] (by kernel_rfl) fun b104 H105 e106 hb107 r108 => ?_
    obtain ⟨H110, q111, e112, r113⟩ := Row.store (P := Try.prog) (t := 73) (p := 0) e106.wf r108 (.agg #[.int .i64 ((gt Arcs i0).1), .int .i64 ((gt Arcs i0).2.1), .int .i64 ((gt Arcs i0).2.2)]) [.int .i64 ((gt Arcs i0).1), .int .i64 ((gt Arcs i0).2.1), .int .i64 ((gt Arcs i0).2.2)] (by kernel_rfl) (by kernel_rfl) (one_cons (rfl) (one_cons (rfl) (one_cons (rfl) (one_nil)))) (Nat.le_of_ble_eq_true (by kernel_rfl)) [.int .i64 ((gt Arcs i0).1), .int .i64 ((gt Arcs i0).2.1), .int .i64 ((gt Arcs i0).2.2)] (by kernel_rfl)
    refine s_ek (undef) (by kernel_rfl) (map_ok q111) ?_
    refine s_nil ?_
    refine k100 _ _ ?_
    refine w_seqk fun K114 k114 => ?_
    refine w_reg (by kernel_rfl) ?_
    refine s_qk (.pointer (some ⟨b104, 0, none⟩)) (by kernel_rfl) ?_
    refine s_ql (.int .i64 ((gt Arcs i0).1)) (x := aLoad Try.prog 3 (.pointer (some ⟨b104, 0, none⟩)) H110) (by kernel_rfl) (r113.ld (by kernel_rfl)) ?_
    refine s_qk (.pointer (some ⟨b104, 1, none⟩)) (by kernel_rfl) ?_
    refine s_ql (.int .i64 ((gt Arcs i0).2.1)) (x := aLoad Try.prog 3 (.pointer (some ⟨b104, 1, none⟩)) H110) (by kernel_rfl) (r113.ld (by kernel_rfl)) ?_
    refine s_qk (.bool (!decide (((gt Arcs i0).1) = ((gt Arcs i0).2.1)))) (by kernel_rfl) ?_
    refine s_nil ?_
    refine k114 _ _ ?_
    refine w_condn (((gt Arcs i0).1) = ((gt Arcs i0).2.1)) (by kernel_rfl) rfl (fun h115 => ?_) (fun h115 => ?_)
    ·have r116 := ite_f h115 r102
     refine w_reg (by kernel_rfl) ?_
     refine s_qk (.pointer (some ⟨b46, 1, none⟩)) (by kernel_rfl) ?_
     have u117 := ((m83.ext e106).frS e112 (hb107.djn (r50.ltF.le (ntr e54.next e77.next))))
     refine s_ql (.slice a92 n93 c94) (x := aLoad Try.prog 57 (.pointer (some ⟨b46, 1, none⟩)) H110) (by kernel_rfl) (u117.ld (by kernel_rfl)) ?_
     refine s_ql (.agg #[.int .i64 ((gt Arcs i0).1), .int .i64 ((gt Arcs i0).2.1), .int .i64 ((gt Arcs i0).2.2)]) (x := aLoad Try.prog 73 (.pointer (some ⟨b104, 0, none⟩)) H110) (by kernel_rfl) (r113.ld (by kernel_rfl)) ?_
     refine s_owk (enc := enc_i64_i64_i64) (sz := 3) e112.wf [((gt Arcs i0).1, (gt Arcs i0).2.1, (gt Arcs i0).2.2)] 1 (by decide) (fun _ _ => rfl) (fun _ _ => rfl) rfl (by kernel_rfl) fun s118 f119 H120 e121 hf122 hm123 => ?_
     obtain ⟨a124, n125, c126, rfl⟩ := hm123.form
     have u128 := (((m79.ext e106).fr e112 (hb107.djn m79.lt)).ext e121)
     obtain ⟨g129, r130⟩ := G_some r116
     obtain ⟨s131, H132, f133, q137, e134, hm135, hf136⟩ := Ow.append (P := Try.prog) 24 e121.wf u128 hm123.sq (fun _ _ => rfl) (at_ := #[57, 57]) rfl rfl (by kernel_rfl) (by kernel_rfl) (by decide) (by have := g129; first | omega | (simp only [List.length_cons, List.length_nil] at this ⊢; omega) | (simp at this ⊢; omega))
     obtain ⟨a138, n139, c140, rfl⟩ := hm135.form
     refine s_ek (.slice a138 n139 c140) (by kernel_rfl) (q137) ?_
     refine s_qk (.pointer (some ⟨b46, 1, none⟩)) (by kernel_rfl) ?_
     have u146 := ((u117.ext e121).frS e134 (i84.djn (r50.ltF.le e54.next)))
     obtain ⟨H142, q143, e144, r145⟩ := Row.store (P := Try.prog) (t := 57) (p := 1) e134.wf u146 (.slice a138 n139 c140) [.slice a138 n139 c140] (by kernel_rfl) (by kernel_rfl) (one_cons (hm135.one1) (one_nil)) (Nat.le_of_ble_eq_true (by kernel_rfl)) [.int .i64 N_, .slice a138 n139 c140] (by kernel_rfl)
     refine s_ek (undef) (by kernel_rfl) (map_ok q143) ?_
     refine s_nil ?_
     refine k99 _ _ ?_
     refine w_reg (by kernel_rfl) ?_
     obtain ⟨g147, r148⟩ := G_some r130
     refine s_w ((i0 + 1)) (k := .i64) (x := (i0 + 1)) (by kernel_rfl) (wrap64 (by have := g147; omega)) ?_
     refine s_qk (.int .i64 (i0 + 1)) (by kernel_rfl) ?_
     refine s_nil ?_
     have u149 := (hm135.fr e144 (Dj.symm (hf136.dj (i84.djn (r50.ltF.le e54.next)) (r50.ltF.le (ntr (ntr (ntr (ntr e54.next e77.next) e106.next) e112.next) e121.next)))))
     obtain rfl := Option.some.inj r148
     exact k91 n87 _ _ (Nat.lt_succ_self _) ⟨(i0 + 1), (c1 ++ [((gt Arcs i0).1, (gt Arcs i0).2.1, (gt Arcs i0).2.2)]), (.slice a138 n139 c140), f133, hn90, ⟨by kernel_rfl, by kernel_rfl, by kernel_rfl, by kernel_rfl, by kernel_rfl, trivial⟩, (FrS.step e54.wf (FrS.step e54.wf ((FrS.step e54.wf ((FrS.step e54.wf (FrS.refl (W := [b46]) e54.wf) e77 Inn.refl').extR e106) e112 (hb107.fresh e77.next)).extR e121) e134 (i84.fresh (Nat.le_refl _))) e144 Inn.refl'), u149, r145, (Inn.trans (i84.fresh (Nat.le_refl _)) (ntr (ntr (ntr e77.next e106.next) e112.next) e121.next) hf136)⟩
    ·have r150 := ite_t h115 r102
     refine w_skip ?_
     refine k99 _ _ ?_
     refine w_reg (by kernel_rfl) ?_
     obtain ⟨g151, r152⟩ := G_some r150
     refine s_w ((i0 + 1)) (k := .i64) (x := (i0 + 1)) (by kernel_rfl) (wrap64 (by have := g151; omega)) ?_
     refine s_qk (.int .i64 (i0 + 1)) (by kernel_rfl) ?_
     refine s_nil ?_
     have u153 := ((m79.ext e106).fr e112 (hb107.djn m79.lt))
     have u154 := ((m83.ext e106).frS e112 (hb107.djn (r50.ltF.le (ntr e54.next e77.next))))
     obtain rfl := Option.some.inj r152
     exact k91 n87 _ _ (Nat.lt_succ_self _) ⟨(i0 + 1), c1, (.slice a92 n93 c94), f81, hn90, ⟨by kernel_rfl, by kernel_rfl, by kernel_rfl, by kernel_rfl, by kernel_rfl, trivial⟩, (FrS.step e54.wf ((FrS.step e54.wf (FrS.refl (W := [b46]) e54.wf) e77 Inn.refl').extR e106) e112 (hb107.fresh e77.next)), u153, u154, (i84.fresh (Nat.le_refl _))⟩
   ·have r155 := ite_f h97 hz89
    refine w_exit (th_exit (th_exit (bl_eq ?_)))
    obtain rfl := Option.some.inj r155
    obtain rfl := it_inr hn90
    exact k72 _ _ ⟨(.slice a92 n93 c94), f81, ⟨by kernel_rfl, by kernel_rfl, trivial⟩, (FrS.step e54.wf (FrS.refl (W := [b46]) e54.wf) e77 Inn.refl'), m79, m83, (i84.fresh (Nat.le_refl _))⟩
  ·obtain ⟨s67, f68, hh73, e64, m66, m70, i71⟩ := hM
   obtain ⟨β, rfl⟩ := has_ex hh73
   clear hh73
   obtain ⟨a156, n157, c158, rfl⟩ := m66.form
   refine k56 _ _ ?_
   refine w_seqk fun K159 k159 => ?_
   refine w_reg (by kernel_rfl) ?_
   refine s_qk (.pointer (some ⟨b46, 1, none⟩)) (by kernel_rfl) ?_
   refine s_ql (.slice a156 n157 c158) (x := aLoad Try.prog 57 (.pointer (some ⟨b46, 1, none⟩)) H63) (by kernel_rfl) (m70.ld (by kernel_rfl)) ?_
   obtain ⟨g160, r161⟩ := G_some r62
   obtain ⟨y162, hy163, r164⟩ := bind_some r161
   refine s_ck 74 #[.slice a156 n157 c158, .func (.func 75) #[] #[]] (by kernel_rfl) (a_sortO (enc := enc_i64_i64_i64) (fun _ => rfl) (by intro x v hv; simp only [enc_i64_i64_i64, List.mem_cons, List.not_mem_nil, or_false] at hv; rcases hv with rfl | rfl | rfl <;> rfl) (by intro x v hv; simp only [enc_i64_i64_i64, List.mem_cons, List.not_mem_nil, or_false] at hv; rcases hv with rfl | rfl | rfl <;> rfl) (c := (fun (a_ b_ : Int × Int × Int) => z_normal_order a_.1 a_.2.1 a_.2.2 b_.1 b_.2.1 b_.2.2)) (Go.Proofs.enters_of Try.func75 (by kernel_rfl) rfl) (fun x y r hr => (c_normal_order aNil_wf hr).mono fun v H' h => h.1) e64.wf m66 g160 hy163) ?_
   rintro _ H165 ⟨rfl, e166, hm167⟩
   refine s_nil ?_
   refine k159 _ _ ?_
   refine w_seqk fun K168 k168 => ?_
   refine w_reg (by kernel_rfl) ?_
   refine s_qk (.pointer (some ⟨b46, 1, none⟩)) (by kernel_rfl) ?_
   have u169 := (m70.frS e166 (i71.djn (r50.ltF.le e54.next)))
   refine s_ql (.slice a156 n157 c158) (x := aLoad Try.prog 57 (.pointer (some ⟨b46, 1, none⟩)) H165) (by kernel_rfl) (u169.ld (by kernel_rfl)) ?_
   obtain ⟨y170, hy171, r172⟩ := bind_some r164
   refine s_ck 76 #[.slice a156 n157 c158, .func (.func 77) #[] #[]] (by kernel_rfl) (c_slices_CompactFunc e166.wf hm167 hy171) ?_
   rintro s173 H174 ⟨_, rfl, e175, m176, m177⟩
   obtain ⟨a179, n180, c181, rfl⟩ := m176.form
   refine s_qk (.pointer (some ⟨b46, 1, none⟩)) (by kernel_rfl) ?_
   have u186 := (u169.frS e175 (i71.djn (r50.ltF.le e54.next)))
   obtain ⟨H182, q183, e184, r185⟩ := Row.store (P := Try.prog) (t := 57) (p := 1) e175.wf u186 (.slice a179 n180 c181) [.slice a179 n180 c181] (by kernel_rfl) (by kernel_rfl) (one_cons (m176.one1) (one_nil)) (Nat.le_of_ble_eq_true (by kernel_rfl)) [.int .i64 N_, .slice a179 n180 c181] (by kernel_rfl)
   refine s_ek (undef) (by kernel_rfl) (map_ok q183) ?_
   refine s_nil ?_
   refine k168 _ _ ?_
   refine w_seqk fun K187 k187 => ?_
   refine w_reg (by kernel_rfl) ?_
   refine s_ql (.agg #[.int .i64 N_, .slice a179 n180 c181]) (x := aLoad Try.prog 59 (.pointer (some ⟨b46, 0, none⟩)) H182) (by kernel_rfl) (r185.ld (by kernel_rfl)) ?_
   have u192 := (((((((r23.frS e35 Dj.nil_l).ext e48).frS e54 (hb49.djn (r23.ltF.le e35.next))).frS e64 (hb49.djn (r23.ltF.le e35.next))).frS e166 (i71.djn (r23.ltF.le (ntr (ntr e35.next e48.next) e54.next)))).frS e175 (i71.djn (r23.ltF.le (ntr (ntr e35.next e48.next) e54.next)))).frS e184 (hb49.djn (r23.ltF.le e35.next)))
   have u193 := (m176.fr e184 (Dj.symm (i71.djn (r50.ltF.le e54.next))))
   obtain ⟨H188, q189, e190, r191⟩ := Row.store (P := Try.prog) (t := 59) (p := 0) e184.wf u192 (.agg #[.int .i64 N_, .slice a179 n180 c181]) [.int .i64 N_, .slice a179 n180 c181] (by kernel_rfl) (by kernel_rfl) (one_cons (rfl) (one_cons (u193.one1) (one_nil))) (Nat.le_of_ble_eq_true (by kernel_rfl)) [.int .i64 N_, .slice a179 n180 c181] (by kernel_rfl)
   refine s_ek (undef) (by kernel_rfl) (map_ok q189) ?_
   refine s_qk (.nilIface) (by kernel_rfl) ?_
   refine s_nil ?_
   refine k187 _ _ ?_
   refine w_ret ?_
   refine b_ret (fn := Try.f24) (vs := [.agg #[.int .i64 N_, .slice a179 n180 c181], .nilIface]) (aRes_cell (Eq.trans (b := aLoad Try.prog 59 (.pointer (some ⟨b19, 0, none⟩)) H188) (by kernel_rfl) (r191.ld (by kernel_rfl))) (aRes_tmp (by kernel_rfl) (rfl))) ?_
   have u194 := (u193.fr e190 (Dj.symm (i71.djn (r23.ltF.le (ntr (ntr e35.next e48.next) e54.next)))))
   obtain rfl := Option.some.inj r172
   exact ⟨(.slice a179 n180 c181), f68, (.nilIface), [], rfl, (FrS.step wf (FrS.step wf (FrS.step wf (FrS.step wf (FrS.step wf (FrS.step wf ((FrS.step wf (((FrS.refl (W := []) wf).extR e15).extR e21) e35 Inn.nil).extR e48) e54 (hb49.fresh (ntr (ntr e15.next e21.next) e35.next))) e64 (hb49.fresh (ntr (ntr e15.next e21.next) e35.next))) e166 (i71.fresh (ntr (ntr (ntr (ntr e15.next e21.next) e35.next) e48.next) e54.next))) e175 (i71.fresh (ntr (ntr (ntr (ntr e15.next e21.next) e35.next) e48.next) e54.next))) e184 (hb49.fresh (ntr (ntr e15.next e21.next) e35.next))) e190 (hb22.fresh e15.next)), u194, Ev.nil, (i71.fresh (ntr (ntr (ntr (ntr e15.next e21.next) e35.next) e48.next) e54.next)), Inn.nil, Dj.nil_r⟩
 ·have r195 := ite_f h40 r31
  refine s_ql (.bool true) (x := aBin Try.prog .neq 31 (.tmp 10) (.const .nilIface) (.iface t41 x42) .nilIface) (by kernel_rfl) (aBin_nnil (by kernel_rfl)) ?_
  refine s_nil ?_
  refine k39 _ _ ?_
  refine w_cond true (by kernel_rfl) rfl (fun _ => ?_) (fun h => by cases h)
  refine w_seqk fun K196 k196 => ?_
  refine w_reg (by kernel_rfl) ?_
  refine s_qk (.agg #[.int .i64 0, .slice none 0 0]) (by kernel_rfl) ?_
  refine s_qk (.iface t41 x42) (by kernel_rfl) ?_
  have u201 := (r23.frS e35 Dj.nil_l)
  obtain ⟨H197, q198, e199, r200⟩ := Row.store (P := Try.prog) (t := 59) (p := 0) e35.wf u201 (.agg #[.int .i64 0, .slice none 0 0]) [.int .i64 0, .slice none 0 0] (by kernel_rfl) (by kernel_rfl) (one_cons (rfl) (one_cons (rfl) (one_nil))) (Nat.le_of_ble_eq_true (by kernel_rfl)) [.int .i64 0, .slice none 0 0] (by kernel_rfl)
  refine s_ek (undef) (by kernel_rfl) (map_ok q198) ?_
  refine s_qk (.iface t41 x42) (by kernel_rfl) ?_
  refine s_nil ?_
  refine k196 _ _ ?_
  refine w_ret (th_ret ?_)
  refine b_ret (fn := Try.f24) (vs := [.agg #[.int .i64 0, .slice none 0 0], .iface t41 x42]) (aRes_cell (Eq.trans (b := aLoad Try.prog 59 (.pointer (some ⟨b19, 0, none⟩)) H197) (by kernel_rfl) (r200.ld (by kernel_rfl))) (aRes_tmp (by kernel_rfl) (rfl))) ?_
  have u202 := (m36.fr e199 (Dj.symm (i37.djn r23.ltF)))
  obtain rfl := Option.some.inj r195
  exact ⟨(.slice none 0 0), [], (.iface t41 x42), f33, rfl, (FrS.step wf (FrS.step wf (((FrS.refl (W := []) wf).extR e15).extR e21) e35 Inn.nil) e199 (hb22.fresh e15.next)), (Ow.nil (by decide)), u202, Inn.nil, (i37.fresh (ntr e15.next e21.next)), Dj.nil_l⟩

theorem c_normal_Reverse {H : AH} {hd_Arcs : Value} {fp_Arcs : Fp} {N_ : Int} {Arcs : List (Int × Int × Int)} {r : Int × List (Int × Int × Int) × Er}
  (wf : WF H) (h_Arcs : Sq enc_i64_i64_i64 3 H hd_Arcs Arcs fp_Arcs) (hr : z_normal_Reverse N_ Arcs = some r) :
  ACalls Try.prog 25 #[.agg #[.int .i64 N_, hd_Arcs]] H fun v H' => ∃ (s3 : Value) (f4 : Fp) (v7 : Value) (f8 : Fp), v = .tuple #[.agg #[.int .i64 r.1, s3], v7] ∧ FrS [] H H' ∧ Ow enc_i64_i64_i64 3 H' s3 r.2.1 f4 ∧ Ev 122 235 H' v7 r.2.2 f8 ∧ Inn [] H f4 ∧ Inn [] H f8 ∧ Dj f4 f8 := by
 refine acalls_of_body mixed Try.func25 rfl (Nat.le_of_ble_eq_true rfl) ?_
 unfold z_normal_Reverse at hr
 refine w_seqk fun K12 k12 => ?_
 refine w_reg (by kernel_rfl) ?_
 refine s_rwl wf [.int .i64 N_, hd_Arcs] (one_cons (rfl) (one_cons (h_Arcs.one1) (one_nil))) (by kernel_rfl) fun b13 H14 e15 hb16 r17 => ?_
 refine s_rwk e15.wf [.int .i64 0, .slice none 0 0] (by kernel_rfl) fun b19 H20 e21 hb22 r23 => ?_
 refine s_qk (.nilIface) (by kernel_rfl) ?_
 refine s_nil ?_
 refine k12 _ _ ?_
 refine w_seqk fun K25 k25 => ?_
 refine w_seqk fun K26 k26 => ?_
 refine w_reg (by kernel_rfl) ?_
 have u27 := (r17.ext e21)
 refine s_ql (.agg #[.int .i64 N_, hd_Arcs]) (x := aLoad Try.prog 59 (.pointer (some ⟨b13, 0, none⟩)) H20) (by kernel_rfl) (u27.ld (by kernel_rfl)) ?_
 have u28 := ((h_Arcs.ext e15).ext e21)
 obtain ⟨y29, hy30, r31⟩ := bind_some hr
 refine s_ck 73 #[.agg #[.int .i64 N_, hd_Arcs]] (by kernel_rfl) (c_gtext_Check e21.wf u28 hy30) ?_
 rintro v32 H34 ⟨_, f33, rfl, e35, m36, i37⟩
 refine s_qk (v32) (by kernel_rfl) ?_
 refine s_nil ?_
 refine k26 _ _ ?_
 refine w_seqk fun K39 k39 => ?_
 refine w_reg (by kernel_rfl) ?_
 refine s_qk (v32) (by kernel_rfl) ?_
 rcases (m36).cases with ⟨h40, rfl⟩ | ⟨h40, t41, x42, rfl⟩
 ·have r43 := ite_t h40 r31
  refine s_qk (.bool false) (by kernel_rfl) ?_
  refine s_nil ?_
  refine k39 _ _ ?_
  refine w_cond false (by kernel_rfl) rfl (fun h => by cases h) (fun _ => ?_)
  refine w_skip ?_
  refine k25 _ _ ?_
  refine w_seqk fun K44 k44 => ?_
  refine w_reg (by kernel_rfl) ?_
  refine s_qk (.pointer (some ⟨b13, 0, none⟩)) (by kernel_rfl) ?_
  have u45 := (u27.frS e35 Dj.nil_l)
  refine s_ql (.int .i64 N_) (x := aLoad Try.prog 3 (.pointer (some ⟨b13, 0, none⟩)) H34) (by kernel_rfl) (u45.ld (by kernel_rfl)) ?_
  refine s_qk (.agg #[.int .i64 N_, .slice none 0 0]) (by kernel_rfl) ?_
  refine s_rwk e35.wf [.int .i64 0, .slice none 0 0] (by kernel_rfl) fun b46 H47 e48 hb49 r50 => ?_
  obtain ⟨H52, q53, e54, r55⟩ := Row.store (P := Try.prog) (t := 59) (p := 0) e48.wf r50 (.agg #[.int .i64 N_, .slice none 0 0]) [.int .i64 N_, .slice none 0 0] (by kernel_rfl) (by kernel_rfl) (one_cons (rfl) (one_cons (rfl) (one_nil))) (Nat.le_of_ble_eq_true (by kernel_rfl)) [.int .i64 N_, .slice none 0 0] (by kernel_rfl)
  refine s_ek (undef) (by kernel_rfl) (map_ok q53) ?_
  refine s_nil ?_
  refine k44 _ _ ?_
  refine w_seqk fun K56 k56 => ?_
  refine w_seqk fun K57 k57 => ?_
  refine w_reg (by kernel_rfl) ?_
  refine s_qk (.pointer (some ⟨b13, 1, none⟩)) (by kernel_rfl) ?_
  have u58 := ((u45.ext e48).frS e54 (hb49.djn (r17.ltF.le (ntr e21.next e35.next))))
  refine s_ql (hd_Arcs) (x := aLoad Try.prog 57 (.pointer (some ⟨b13, 1, none⟩)) H52) (by kernel_rfl) (u58.ld (by kernel_rfl)) ?_
  have u59 := (((u28.fr e35 Dj.nil_l).ext e48).fr e54 (hb49.djn (h_Arcs.lt.le (ntr (ntr e15.next e21.next) e35.next))))
  refine s_ql (.int .i64 (Arcs.length : Int)) (x := aLen Try.prog 57 hd_Arcs H52) (by kernel_rfl) (u59.lenb (by kernel_rfl)) ?_
  refine s_qk (.int .i64 0) (by kernel_rfl) ?_
  refine s_nil ?_
  refine k57 _ _ ?_
  obtain ⟨o60, hx61, r62⟩ := bind_some r43
  refine w_mid (fun α H63 => ∃ (s67 : Value) (f68 : Fp), Has α [(2, .pointer (some ⟨b19, 0, none⟩)), (5, .pointer (some ⟨b46, 0, none⟩))] ∧ FrS [b46] H52 H63 ∧ Ow enc_i64_i64_i64 3 H63 s67 o60 f68 ∧ Row H63 b46 [.int .i64 N_, s67] ∧ Inn [] H52 f68) (fun K72 k72 => ?_) (fun α H63 hM => ?_)
  ·refine w_block ?_
   obtain ⟨n74, hn75⟩ := loopO_iff.1 hx61
   refine w_loopn (fun n α H76 => ∃ (i0 : Int), ∃ (c1 : List (Int × Int × Int)), ∃ (s80 : Value), ∃ (f81 : Fp), iterO (fun zz_ => z_normal_Reverse_l0 Arcs zz_.1 zz_.2) n (i0, c1) = some o60 ∧ Has α [(2, .pointer (some ⟨b19, 0, none⟩)), (5, .pointer (some ⟨b46, 0, none⟩)), (18, hd_Arcs), (19, .int .i64 (Arcs.length : Int)), (20, .int .i64 i0)] ∧ FrS [b46] H52 H76 ∧ Ow enc_i64_i64_i64 3 H76 s80 c1 f81 ∧ Row H76 b46 [.int .i64 N_, s80] ∧ Inn [] H52 f81) n74 ⟨0, [], (.slice none 0 0), [], hn75, ⟨by kernel_rfl, by kernel_rfl, by kernel_rfl, by kernel_rfl, by kernel_rfl, trivial⟩, (FrS.refl (W := [b46]) e54.wf), (Ow.nil (by decide)), r55, Inn.nil⟩ ?_
   rintro n74 α H76 ⟨i0, c1, s80, f81, hi86, hh85, e77, m79, m83, i84⟩ K91 k91
   obtain ⟨n87, z88, rfl, hz89, hn90⟩ := iter_succ hi86
   obtain ⟨β, rfl⟩ := has_ex hh85
   clear hh85
   replace hz89 : z_normal_Reverse_l0 Arcs i0 c1 = some z88 := hz89
   unfold z_normal_Reverse_l0 at hz89
   obtain ⟨a92, n93, c94, rfl⟩ := m79.form
   refine w_seqk fun K95 k95 => ?_
   refine w_reg (by kernel_rfl) ?_
   refine s_qk (.bool (decide (i0 < (Arcs.length : Int)))) (by kernel_rfl) ?_
   refine s_nil ?_
   refine k95 _ _ ?_
   refine w_seqk fun K96 k96 => ?_
   refine w_condp (i0 < (Arcs.length : Int)) (by kernel_rfl) rfl (fun h97 => ?_) (fun h97 => ?_)
   ·have r98 := ite_t h97 hz89
    refine w_skip ?_
    refine k96 _ _ ?_
    refine w_seqk fun K99 k99 => ?_
    refine w_block ?_
    refine w_seqk fun K100 k100 => ?_
    refine w_reg (by kernel_rfl) ?_
    obtain ⟨g101, r102⟩ := G_some r98
    have u103 := (u59.fr e77 (hb49.djn (h_Arcs.lt.le (ntr (ntr e15.next e21.next) e35.next))))
    refine s_ql (elp hd_Arcs 3 i0.toNat 0) (x := aIndexAddr Try.prog 57 hd_Arcs (.int .i64 i0)) (by kernel_rfl) (u103.idxb (by kernel_rfl) g101 h97) ?_
    refine s_ql (.agg #[.int .i64 ((gt Arcs i0).1), .int .i64 ((gt Arcs i0).2.1), .int .i64 ((gt Arcs i0).2.2)]) (x := aLoad Try.prog 73 (elp hd_Arcs 3 i0.toNat 0) H76) (by kernel_rfl) (u103.ld g101 h97 (by kernel_rfl)) ?_
    refine s_rwk e77.wf [.int .i64 0, .int .i64 0, .int .i64 0] (by kernel_rfl) fun b104 H105 e106 hb107 r108 => ?_
    obtain ⟨H110, q111, e112, r113⟩ := Row.store (P := Try.prog) (t := 73) (p := 0) e106.wf r108 (.agg #[.int .i64 ((gt Arcs i0).1), .int .i64 ((gt Arcs i0).2.1), .int .i64 ((gt Arcs i0).2.2)]) [.int .i64 ((gt Arcs i0).1), .int .i64 ((gt Arcs i0).2.1), .int .i64 ((gt Arcs i0).2.2)] (by kernel_rfl) (by kernel_rfl) (one_cons (rfl) (one_cons (rfl) (one_cons (rfl) (one_nil)))) (Nat.le_of_ble_eq_true (by kernel_rfl)) [.int .i64 ((gt Arcs i0).1), .int .i64 ((gt Arcs i0).2.1), .int .i64 ((gt Arcs i0).2.2)] (by kernel_rfl)
    refine s_ek (undef) (by kernel_rfl) (map_ok q111) ?_
    refine s_nil ?_
    refine k100 _ _ ?_
    refine w_reg (by kernel_rfl) ?_
    refine s_qk (.pointer (some ⟨b46, 1, none⟩)) (by kernel_rfl) ?_
    have u114 := ((m83.ext e106).frS e112 (hb107.djn (r50.ltF.le (ntr e54.next e77.next))))
    refine s_ql (.slice a92 n93 c94) (x := aLoad Try.prog 57 (.pointer (some ⟨b46, 1, none⟩)) H110) (by kernel_rfl) (u114.ld (by kernel_rfl)) ?_
    refine s_qk (.pointer (some ⟨b104, 1, none⟩)) (by kernel_rfl) ?_
    refine s_ql (.int .i64 ((gt Arcs i0).2.1)) (x := aLoad Try.prog 3 (.pointer (some ⟨b104, 1, none⟩)) H110) (by kernel_rfl) (r113.ld (by kernel_rfl)) ?_
    refine s_qk (.pointer (some ⟨b104, 0, none⟩)) (by kernel_rfl) ?_
    refine s_ql (.int .i64 ((gt Arcs i0).1)) (x := aLoad Try.prog 3 (.pointer (some ⟨b104, 0, none⟩)) H110) (by kernel_rfl) (r113.ld (by kernel_rfl)) ?_
    refine s_qk (.pointer (some ⟨b104, 2, none⟩)) (by kernel_rfl) ?_
    refine s_ql (.int .i64 ((gt Arcs i0).2.2)) (x := aLoad Try.prog 3 (.pointer (some ⟨b104, 2, none⟩)) H110) (by kernel_rfl) (r113.ld (by kernel_rfl)) ?_
    refine s_qk (.agg #[.int .i64 ((gt Arcs i0).2.1), .int .i64 ((gt Arcs i0).1), .int .i64 ((gt Arcs i0).2.2)]) (by kernel_rfl) ?_
    refine s_owk (enc := enc_i64_i64_i64) (sz := 3) e112.wf [((gt Arcs i0).2.1, (gt Arcs i0).1, (gt Arcs i0).2.2)] 1 (by decide) (fun _ _ => rfl) (fun _ _ => rfl) rfl (by kernel_rfl) fun s115 f116 H117 e118 hf119 hm120 => ?_
    obtain ⟨a121, n122, c123, rfl⟩ := hm120.form
    have u125 := (((m79.ext e106).fr e112 (hb107.djn m79.lt)).ext e118)
    obtain ⟨g126, r127⟩ := G_some r102
    obtain ⟨s128, H129, f130, q134, e131, hm132, hf133⟩ := Ow.append (P := Try.prog) 24 e118.wf u125 hm120.sq (fun _ _ => rfl) (at_ := #[57, 57]) rfl rfl (by kernel_rfl) (by kernel_rfl) (by decide) (by have := g126; first | omega | (simp only [List.length_cons, List.length_nil] at this ⊢; omega) | (simp at this ⊢; omega))
    obtain ⟨a135, n136, c137, rfl⟩ := hm132.form
    refine s_ek (.slice a135 n136 c137) (by kernel_rfl) (q134) ?_
    refine s_qk (.pointer (some ⟨b46, 1, none⟩)) (by kernel_rfl) ?_
    have u143 := ((u114.ext e118).frS e131 (i84.djn (r50.ltF.le e54.next)))
    obtain ⟨H139, q140, e141, r142⟩ := Row.store (P := Try.prog) (t := 57) (p := 1) e131.wf u143 (.slice a135 n136 c137) [.slice a135 n136 c137] (by kernel_rfl) (by kernel_rfl) (one_cons (hm132.one1) (one_nil)) (Nat.le_of_ble_eq_true (by kernel_rfl)) [.int .i64 N_, .slice a135 n136 c137] (by kernel_rfl)
    refine s_ek (undef) (by kernel_rfl) (map_ok q140) ?_
    refine s_nil ?_
    refine k99 _ _ ?_
    refine w_reg (by kernel_rfl) ?_
    obtain ⟨g144, r145⟩ := G_some r127
    refine s_w ((i0 + 1)) (k := .i64) (x := (i0 + 1)) (by kernel_rfl) (wrap64 (by have := g144; omega)) ?_
    refine s_qk (.int .i64 (i0 + 1)) (by kernel_rfl) ?_
    refine s_nil ?_
    have u146 := (hm132.fr e141 (Dj.symm (hf133.dj (i84.djn (r50.ltF.le e54.next)) (r50.ltF.le (ntr (ntr (ntr (ntr e54.next e77.next) e106.next) e112.next) e118.next)))))
    obtain rfl := Option.some.inj r145
    exact k91 n87 _ _ (Nat.lt_succ_self _) ⟨(i0 + 1), (c1 ++ [((gt Arcs i0).2.1, (gt Arcs i0).1, (gt Arcs i0).2.2)]), (.slice a135 n136 c137), f130, hn90, ⟨by kernel_rfl, by kernel_rfl, by kernel_rfl, by kernel_rfl, by kernel_rfl, trivial⟩, (FrS.step e54.wf (FrS.step e54.wf ((FrS.step e54.wf ((FrS.step e54.wf (FrS.refl (W := [b46]) e54.wf) e77 Inn.refl').extR e106) e112 (hb107.fresh e77.next)).extR e118) e131 (i84.fresh (Nat.le_refl _))) e141 Inn.refl'), u146, r142, (Inn.trans (i84.fresh (Nat.le_refl _)) (ntr (ntr (ntr e77.next e106.next) e112.next) e118.next) hf133)⟩
   ·have r147 := ite_f h97 hz89
    refine w_exit (th_exit (th_exit (bl_eq ?_)))
    obtain rfl := Option.some.inj r147
    obtain rfl := it_inr hn90
    exact k72 _ _ ⟨(.slice a92 n93 c94), f81, ⟨by kernel_rfl, by kernel_rfl, trivial⟩, (FrS.step e54.wf (FrS.refl (W := [b46]) e54.wf) e77 Inn.refl'), m79, m83, (i84.fresh (Nat.le_refl _))⟩
  ·obtain ⟨s67, f68, hh73, e64, m66, m70, i71⟩ := hM
   obtain ⟨β, rfl⟩ := has_ex hh73
   clear hh73
   obtain ⟨a148, n149, c150, rfl⟩ := m66.form
   refine k56 _ _ ?_
   refine w_seqk fun K151 k151 => ?_
   refine w_reg (by kernel_rfl) ?_
   refine s_ql (.agg #[.int .i64 N_, .slice a148 n149 c150]) (x := aLoad Try.prog 59 (.pointer (some ⟨b46, 0, none⟩)) H63) (by kernel_rfl) (m70.ld (by kernel_rfl)) ?_
   have u156 := ((((r23.frS e35 Dj.nil_l).ext e48).frS e54 (hb49.djn (r23.ltF.le e35.next))).frS e64 (hb49.djn (r23.ltF.le e35.next)))
   obtain ⟨H152, q153, e154, r155⟩ := Row.store (P := Try.prog) (t := 59) (p := 0) e64.wf u156 (.agg #[.int .i64 N_, .slice a148 n149 c150]) [.int .i64 N_, .slice a148 n149 c150] (by kernel_rfl) (by kernel_rfl) (one_cons (rfl) (one_cons (m66.one1) (one_nil))) (Nat.le_of_ble_eq_true (by kernel_rfl)) [.int .i64 N_, .slice a148 n149 c150] (by kernel_rfl)
   refine s_ek (undef) (by kernel_rfl) (map_ok q153) ?_
   refine s_qk (.nilIface) (by kernel_rfl) ?_
   refine s_nil ?_
   refine k151 _ _ ?_
   refine w_ret ?_
   refine b_ret (fn := Try.f25) (vs := [.agg #[.int .i64 N_, .slice a148 n149 c150], .nilIface]) (aRes_cell (Eq.trans (b := aLoad Try.prog 59 (.pointer (some ⟨b19, 0, none⟩)) H152) (by kernel_rfl) (r155.ld (by kernel_rfl))) (aRes_tmp (by kernel_rfl) (rfl))) ?_
   have u157 := (m66.fr e154 (Dj.symm (i71.djn (r23.ltF.le (ntr (ntr e35.next e48.next) e54.next)))))
   obtain rfl := Option.some.inj r62
   exact ⟨(.slice a148 n149 c150), f68, (.nilIface), [], rfl, (FrS.step wf (FrS.step wf (FrS.step wf ((FrS.step wf (((FrS.refl (W := []) wf).extR e15).extR e21) e35 Inn.nil).extR e48) e54 (hb49.fresh (ntr (ntr e15.next e21.next) e35.next))) e64 (hb49.fresh (ntr (ntr e15.next e21.next) e35.next))) e154 (hb22.fresh e15.next)), u157, Ev.nil, (i71.fresh (ntr (ntr (ntr (ntr e15.next e21.next) e35.next) e48.next) e54.next)), Inn.nil, Dj.nil_r⟩
 ·have r158 := ite_f h40 r31
  refine s_ql (.bool true) (x := aBin Try.prog .neq 31 (.tmp 10) (.const .nilIface) (.iface t41 x42) .nilIface) (by kernel_rfl) (aBin_nnil (by kernel_rfl)) ?_
  refine s_nil ?_
  refine k39 _ _ ?_
  refine w_cond true (by kernel_rfl) rfl (fun _ => ?_) (fun h => by cases h)
  refine w_seqk fun K159 k159 => ?_
  refine w_reg (by kernel_rfl) ?_
  refine s_qk (.agg #[.int .i64 0, .slice none 0 0]) (by kernel_rfl) ?_
  refine s_qk (.iface t41 x42) (by kernel_rfl) ?_
  have u164 := (r23.frS e35 Dj.nil_l)
  obtain ⟨H160, q161, e162, r163⟩ := Row.store (P := Try.prog) (t := 59) (p := 0) e35.wf u164 (.agg #[.int .i64 0, .slice none 0 0]) [.int .i64 0, .slice none 0 0] (by kernel_rfl) (by kernel_rfl) (one_cons (rfl) (one_cons (rfl) (one_nil))) (Nat.le_of_ble_eq_true (by kernel_rfl)) [.int .i64 0, .slice none 0 0] (by kernel_rfl)
  refine s_ek (undef) (by kernel_rfl) (map_ok q161) ?_
  refine s_qk (.iface t41 x42) (by kernel_rfl) ?_
  refine s_nil ?_
  refine k159 _ _ ?_
  refine w_ret (th_ret ?_)
  refine b_ret (fn := Try.f25) (vs := [.agg #[.int .i64 0, .slice none 0 0], .iface t41 x42]) (aRes_cell (Eq.trans (b := aLoad Try.prog 59 (.pointer (some ⟨b19, 0, none⟩)) H160) (by kernel_rfl) (r163.ld (by kernel_rfl))) (aRes_tmp (by kernel_rfl) (rfl))) ?_
  have u165 := (m36.fr e162 (Dj.symm (i37.djn r23.ltF)))
  obtain rfl := Option.some.inj r158
  exact ⟨(.slice none 0 0), [], (.iface t41 x42), f33, rfl, (FrS.step wf (FrS.step wf (((FrS.refl (W := []) wf).extR e15).extR e21) e35 Inn.nil) e162 (hb22.fresh e15.next)), (Ow.nil (by decide)), u165, Inn.nil, (i37.fresh (ntr e15.next e21.next)), Dj.nil_l⟩

theorem c_slices_Grow {H : AH} {n_ : Int} {r : List (Int × Int × Int)}
  (wf : WF H) (hr : z_slices_Grow n_ = some r) :
  ACalls Try.prog 127 #[.slice none 0 0, .int .i64 n_] H fun v H' => ∃ (s3 : Value) (f4 : Fp), v = s3 ∧ FrS [] H H' ∧ Ow enc_i64_i64_i64 3 H' s3 r f4 ∧ Inn [] H f4 := by
 refine acalls_of_body mixed Try.func127 rfl (Nat.le_of_ble_eq_true rfl) ?_
 unfold z_slices_Grow at hr
 refine w_seqk fun K6 k6 => ?_
 refine w_reg (by kernel_rfl) ?_
 refine s_qk (.slice none 0 0) (by kernel_rfl) ?_
 refine s_nil ?_
 refine k6 _ _ ?_
 refine w_seqk fun K7 k7 => ?_
 refine w_seqk fun K8 k8 => ?_
 refine w_reg (by kernel_rfl) ?_
 refine s_qk (.int .i64 n_) (by kernel_rfl) ?_
 refine s_qk (.bool (decide (n_ < 0))) (by kernel_rfl) ?_
 refine s_nil ?_
 refine k8 _ _ ?_
 refine w_condp (n_ < 0) (by kernel_rfl) rfl (fun h9 => ?_) (fun h9 => ?_)
 ·have r10 := ite_t h9 hr
  refine w_reg (by kernel_rfl) ?_
  refine s_qk (.iface 9 (.string ⟨#[99, 97, 110, 110, 111, 116, 32, 98, 101, 32, 110, 101, 103, 97, 116, 105, 118, 101]⟩)) (by kernel_rfl) ?_
  exact (no_none r10).elim
 ·have r11 := ite_f h9 hr
  refine w_skip ?_
  refine k7 _ _ ?_
  refine w_seqk fun K12 k12 => ?_
  refine w_seqk fun K13 k13 => ?_
  refine w_reg (by kernel_rfl) ?_
  refine s_qk (.int .i64 n_) (by kernel_rfl) ?_
  refine s_qk (.slice none 0 0) (by kernel_rfl) ?_
  refine s_qk (.int .i64 0) (by kernel_rfl) ?_
  refine s_qk (.slice none 0 0) (by kernel_rfl) ?_
  refine s_qk (.int .i64 0) (by kernel_rfl) ?_
  refine s_qk (.int .i64 0) (by kernel_rfl) ?_
  obtain ⟨g14, r15⟩ := G_some r11
  refine s_w ((n_ - 0)) (k := .i64) (x := (n_ - 0)) (by kernel_rfl) (wrap64 g14) ?_
  refine s_qk (.int .i64 (n_ - 0)) (by kernel_rfl) ?_
  refine s_nil ?_
  refine k13 _ _ ?_
  refine w_seqk fun K16 k16 => ?_
  refine w_reg (by kernel_rfl) ?_
  refine s_qk (.int .i64 (n_ - 0)) (by kernel_rfl) ?_
  refine s_qk (.bool (decide ((n_ - 0) > 0))) (by kernel_rfl) ?_
  refine s_nil ?_
  refine k16 _ _ ?_
  refine w_condp ((n_ - 0) > 0) (by kernel_rfl) rfl (fun h17 => ?_) (fun h17 => ?_)
  ·have r18 := ite_t h17 r15
   refine w_reg (by kernel_rfl) ?_
   refine s_qk (.slice none 0 0) (by kernel_rfl) ?_
   refine s_qk (.slice none 0 0) (by kernel_rfl) ?_
   refine s_qk (.int .i64 0) (by kernel_rfl) ?_
   refine s_qk (.slice none 0 0) (by kernel_rfl) ?_
   refine s_qk (.int .i64 (n_ - 0)) (by kernel_rfl) ?_
   obtain ⟨g19, r20⟩ := G_some r18
   have q27_ := g19
   obtain ⟨s21, H22, f23, q27, e24, hm25, hf26⟩ := Ow.appendZ (P := Try.prog) (m := 24) (k := .i64) (k1 := .i64) (n := (n_ - 0)) (at_ := #[57, 3]) ((0, 0, 0) : Int × Int × Int) wf (Ow.nil (enc := enc_i64_i64_i64) (sz := 3) (by decide)) rfl rfl (by kernel_rfl) (by kernel_rfl) (by decide) q27_.1 (by omega) (by have := q27_; omega) (by have := q27_; first | omega | (simp only [List.length_nil] at this ⊢; omega))
   obtain ⟨a28, n29, c30, rfl⟩ := hm25.form
   refine s_ek (.slice a28 n29 c30) (by kernel_rfl) (q27) ?_
   refine s_qk (.slice none 0 0) (by kernel_rfl) ?_
   refine s_qk (.int .i64 0) (by kernel_rfl) ?_
   obtain ⟨g32, r33⟩ := G_some r20
   obtain ⟨s34, q35, hs36⟩ := Ow.head (P := Try.prog) hm25 (t := 57) (by kernel_rfl) (hi := (some (.int .i64 0))) (r := (0 : Int).toNat) (aBound_int _ (by have := g32; omega)) (by have := g32; omega)
   obtain ⟨a37, n38, c39, rfl⟩ := hs36.form
   refine s_ql (.slice a37 n38 c39) (by kernel_rfl) q35 ?_
   refine s_qk (.slice a37 n38 c39) (by kernel_rfl) ?_
   refine s_nil ?_
   refine k12 _ _ ?_
   refine w_seqk fun K41 k41 => ?_
   refine w_reg (by kernel_rfl) ?_
   refine s_qk (.slice a37 n38 c39) (by kernel_rfl) ?_
   refine s_qk (.slice a37 n38 c39) (by kernel_rfl) ?_
   refine s_nil ?_
   refine k41 _ _ ?_
   refine w_ret ?_
   refine b_ret (fn := Try.f127) (vs := [.slice a37 n38 c39]) (aRes_tmp (by kernel_rfl) (rfl)) ?_
   obtain rfl := Option.some.inj r33
   exact ⟨(.slice a37 n38 c39), f23, rfl, (FrS.step wf (FrS.refl (W := []) wf) e24 Inn.nil), hs36, (hf26.fresh (Nat.le_refl _))⟩
  ·have r42 := ite_f h17 r15
   refine w_skip ?_
   refine k12 _ _ ?_
   refine w_seqk fun K43 k43 => ?_
   refine w_reg (by kernel_rfl) ?_
   refine s_qk (.slice none 0 0) (by kernel_rfl) ?_
   refine s_qk (.slice none 0 0) (by kernel_rfl) ?_
   refine s_nil ?_
   refine k43 _ _ ?_
   refine w_ret ?_
   refine b_ret (fn := Try.f127) (vs := [.slice none 0 0]) (aRes_tmp (by kernel_rfl) (rfl)) ?_
   obtain rfl := Option.some.inj r42
   exact ⟨(.slice none 0 0), [], rfl, (FrS.refl (W := []) wf), (Ow.nil (by decide)), Inn.nil⟩

theorem c_slices_Concat {H : AH} {b_slices : Nat} {hd_slices_ : Value} {fp_slices_ : Fp} {slices_ : List (Int × Int × Int)} {r : List (Int × Int × Int)}
  (wf : WF H) (h_slices_ : Sq enc_i64_i64_i64 3 H hd_slices_ slices_ fp_slices_) (h_slices : Row H b_slices [hd_slices_, hd_slices_]) (hr : z_slices_Concat slices_ = some r) :
  ACalls Try.prog 78 #[.slice (some ⟨b_slices, 0, none⟩) 2 2] H fun v H' => ∃ (s3 : Value) (f4 : Fp), v = s3 ∧ FrS [] H H' ∧ Ow enc_i64_i64_i64 3 H' s3 r f4 ∧ Inn [] H f4 := by
 refine acalls_of_body mixed Try.func78 rfl (Nat.le_of_ble_eq_true rfl) ?_
 unfold z_slices_Concat at hr
 refine w_seqk fun K6 k6 => ?_
 refine w_reg (by kernel_rfl) ?_
 refine s_qk (.slice none 0 0) (by kernel_rfl) ?_
 refine s_nil ?_
 refine k6 _ _ ?_
 refine w_seqk fun K7 k7 => ?_
 refine w_reg (by kernel_rfl) ?_
 refine s_qk (.int .i64 0) (by kernel_rfl) ?_
 refine s_nil ?_
 refine k7 _ _ ?_
 refine w_seqk fun K8 k8 => ?_
 refine w_seqk fun K9 k9 => ?_
 refine w_reg (by kernel_rfl) ?_
 refine s_qk (.slice (some ⟨b_slices, 0, none⟩) 2 2) (by kernel_rfl) ?_
 refine s_qk (.int .i64 2) (by kernel_rfl) ?_
 refine s_qk (.int .i64 0) (by kernel_rfl) ?_
 refine s_nil ?_
 refine k9 _ _ ?_
 refine w_block ?_
 refine w_unroll ?_
 refine w_seqk fun K10 k10 => ?_
 refine w_reg (by kernel_rfl) ?_
 refine s_qk (.bool true) (by kernel_rfl) ?_
 refine s_nil ?_
 refine k10 _ _ ?_
 refine w_seqk fun K11 k11 => ?_
 refine w_cond true (by kernel_rfl) rfl (fun _ => ?_) (fun h => by cases h)
 refine w_skip ?_
 refine k11 _ _ ?_
 refine w_seqk fun K12 k12 => ?_
 refine w_block ?_
 refine w_seqk fun K13 k13 => ?_
 refine w_reg (by kernel_rfl) ?_
 refine s_qk (.pointer (some ⟨b_slices, 0, none⟩)) (by kernel_rfl) ?_
 refine s_ql (hd_slices_) (x := aLoad Try.prog 57 (.pointer (some ⟨b_slices, 0, none⟩)) H) (by kernel_rfl) (h_slices.ld (by kernel_rfl)) ?_
 refine s_qk (hd_slices_) (by kernel_rfl) ?_
 refine s_nil ?_
 refine k13 _ _ ?_
 refine w_seqk fun K14 k14 => ?_
 refine w_reg (by kernel_rfl) ?_
 refine s_qk (.int .i64 0) (by kernel_rfl) ?_
 refine s_qk (hd_slices_) (by kernel_rfl) ?_
 refine s_ql (.int .i64 (slices_.length : Int)) (x := aLen Try.prog 57 hd_slices_ H) (by kernel_rfl) (h_slices_.lenb (by kernel_rfl)) ?_
 obtain ⟨g15, r16⟩ := G_some hr
 refine s_w ((0 + (slices_.length : Int))) (k := .i64) (x := (0 + (slices_.length : Int))) (by kernel_rfl) (wrap64 g15) ?_
 refine s_qk (.int .i64 (0 + (slices_.length : Int))) (by kernel_rfl) ?_
 refine s_nil ?_
 refine k14 _ _ ?_
 refine w_seqk fun K17 k17 => ?_
 refine w_reg (by kernel_rfl) ?_
 refine s_qk (.int .i64 (0 + (slices_.length : Int))) (by kernel_rfl) ?_
 refine s_qk (.bool (decide ((0 + (slices_.length : Int)) < 0))) (by kernel_rfl) ?_
 refine s_nil ?_
 refine k17 _ _ ?_
 refine w_condp ((0 + (slices_.length : Int)) < 0) (by kernel_rfl) rfl (fun h18 => ?_) (fun h18 => ?_)
 ·have r19 := ite_t h18 r16
  refine w_reg (by kernel_rfl) ?_
  refine s_qk (.iface 9 (.string ⟨#[108, 101, 110, 32, 111, 117, 116, 32, 111, 102, 32, 114, 97, 110, 103, 101]⟩)) (by kernel_rfl) ?_
  exact (no_none r19).elim
 ·have r20 := ite_f h18 r16
  refine w_skip ?_
  refine k12 _ _ ?_
  refine w_reg (by kernel_rfl) ?_
  refine s_qk (.int .i64 1) (by kernel_rfl) ?_
  refine s_qk (.int .i64 1) (by kernel_rfl) ?_
  refine s_nil ?_
  refine w_unroll ?_
  refine w_seqk fun K21 k21 => ?_
  refine w_reg (by kernel_rfl) ?_
  refine s_qk (.bool true) (by kernel_rfl) ?_
  refine s_nil ?_
  refine k21 _ _ ?_
  refine w_seqk fun K22 k22 => ?_
  refine w_cond true (by kernel_rfl) rfl (fun _ => ?_) (fun h => by cases h)
  refine w_skip ?_
  refine k22 _ _ ?_
  refine w_seqk fun K23 k23 => ?_
  refine w_block ?_
  refine w_seqk fun K24 k24 => ?_
  refine w_reg (by kernel_rfl) ?_
  refine s_qk (.pointer (some ⟨b_slices, 1, none⟩)) (by kernel_rfl) ?_
  refine s_ql (hd_slices_) (x := aLoad Try.prog 57 (.pointer (some ⟨b_slices, 1, none⟩)) H) (by kernel_rfl) (h_slices.ld (by kernel_rfl)) ?_
  refine s_qk (hd_slices_) (by kernel_rfl) ?_
  refine s_nil ?_
  refine k24 _ _ ?_
  refine w_seqk fun K25 k25 => ?_
  refine w_reg (by kernel_rfl) ?_
  refine s_qk (.int .i64 (0 + (slices_.length : Int))) (by kernel_rfl) ?_
  refine s_qk (hd_slices_) (by kernel_rfl) ?_
  refine s_ql (.int .i64 (slices_.length : Int)) (x := aLen Try.prog 57 hd_slices_ H) (by kernel_rfl) (h_slices_.lenb (by kernel_rfl)) ?_
  obtain ⟨g26, r27⟩ := G_some r20
  refine s_w (((0 + (slices_.length : Int)) + (slices_.length : Int))) (k := .i64) (x := ((0 + (slices_.length : Int)) + (slices_.length : Int))) (by kernel_rfl) (wrap64 g26) ?_
  refine s_qk (.int .i64 ((0 + (slices_.length : Int)) + (slices_.length : Int))) (by kernel_rfl) ?_
  refine s_nil ?_
  refine k25 _ _ ?_
  refine w_seqk fun K28 k28 => ?_
  refine w_reg (by kernel_rfl) ?_
  refine s_qk (.int .i64 ((0 + (slices_.length : Int)) + (slices_.length : Int))) (by kernel_rfl) ?_
  refine s_qk (.bool (decide (((0 + (slices_.length : Int)) + (slices_.length : Int)) < 0))) (by kernel_rfl) ?_
  refine s_nil ?_
  refine k28 _ _ ?_
  refine w_condp (((0 + (slices_.length : Int)) + (slices_.length : Int)) < 0) (by kernel_rfl) rfl (fun h29 => ?_) (fun h29 => ?_)
  ·have r30 := ite_t h29 r27
   refine w_reg (by kernel_rfl) ?_
   refine s_qk (.iface 9 (.string ⟨#[108, 101, 110, 32, 111, 117, 116, 32, 111, 102, 32, 114, 97, 110, 103, 101]⟩)) (by kernel_rfl) ?_
   exact (no_none r30).elim
  ·have r31 := ite_f h29 r27
   refine w_skip ?_
   refine k23 _ _ ?_
   refine w_reg (by kernel_rfl) ?_
   refine s_qk (.int .i64 2) (by kernel_rfl) ?_
   refine s_qk (.int .i64 2) (by kernel_rfl) ?_
   refine s_nil ?_
   refine w_unroll ?_
   refine w_seqk fun K32 k32 => ?_
   refine w_reg (by kernel_rfl) ?_
   refine s_qk (.bool false) (by kernel_rfl) ?_
   refine s_nil ?_
   refine k32 _ _ ?_
   refine w_seqk fun K33 k33 => ?_
   refine w_cond false (by kernel_rfl) rfl (fun h => by cases h) (fun _ => ?_)
   refine w_exit (th_exit (th_exit (bl_eq ?_)))
   refine k8 _ _ ?_
   refine w_seqk fun K34 k34 => ?_
   refine w_reg (by kernel_rfl) ?_
   refine s_qk (.int .i64 ((0 + (slices_.length : Int)) + (slices_.length : Int))) (by kernel_rfl) ?_
   obtain ⟨y35, hy36, r37⟩ := bind_some r31
   refine s_ck 127 #[.slice none 0 0, .int .i64 ((0 + (slices_.length : Int)) + (slices_.length : Int))] (by kernel_rfl) (c_slices_Grow wf hy36) ?_
   rintro s38 H40 ⟨_, f39, rfl, e41, m42, i43⟩
   obtain ⟨a45, n46, c47, rfl⟩ := m42.form
   refine s_qk (.slice a45 n46 c47) (by kernel_rfl) ?_
   refine s_nil ?_
   refine k34 _ _ ?_
   refine w_seqk fun K48 k48 => ?_
   refine w_seqk fun K49 k49 => ?_
   refine w_reg (by kernel_rfl) ?_
   refine s_qk (.slice (some ⟨b_slices, 0, none⟩) 2 2) (by kernel_rfl) ?_
   refine s_qk (.int .i64 2) (by kernel_rfl) ?_
   refine s_qk (.int .i64 0) (by kernel_rfl) ?_
   refine s_nil ?_
   refine k49 _ _ ?_
   refine w_block ?_
   refine w_unroll ?_
   refine w_seqk fun K50 k50 => ?_
   refine w_reg (by kernel_rfl) ?_
   refine s_qk (.bool true) (by kernel_rfl) ?_
   refine s_nil ?_
   refine k50 _ _ ?_
   refine w_seqk fun K51 k51 => ?_
   refine w_cond true (by kernel_rfl) rfl (fun _ => ?_) (fun h => by cases h)
   refine w_skip ?_
   refine k51 _ _ ?_
   refine w_seqk fun K52 k52 => ?_
   refine w_block ?_
   refine w_seqk fun K53 k53 => ?_
   refine w_reg (by kernel_rfl) ?_
   refine s_qk (.pointer (some ⟨b_slices, 0, none⟩)) (by kernel_rfl) ?_
   have u54 := (h_slices.frS e41 Dj.nil_l)
   refine s_ql (hd_slices_) (x := aLoad Try.prog 57 (.pointer (some ⟨b_slices, 0, none⟩)) H40) (by kernel_rfl) (u54.ld (by kernel_rfl)) ?_
   refine s_qk (hd_slices_) (by kernel_rfl) ?_
   refine s_nil ?_
   refine k53 _ _ ?_
   refine w_reg (by kernel_rfl) ?_
   refine s_qk (.slice a45 n46 c47) (by kernel_rfl) ?_
   refine s_qk (hd_slices_) (by kernel_rfl) ?_
   obtain ⟨g55, r56⟩ := G_some r37
   have u64 := (h_slices_.fr e41 Dj.nil_l)
   obtain ⟨s57, H58, f59, q63, e60, hm61, hf62⟩ := Ow.append (P := Try.prog) 24 e41.wf m42 u64 (fun _ _ => rfl) (at_ := #[57, 57]) rfl rfl (by kernel_rfl) (by kernel_rfl) (by decide) (by have := g55; first | omega | (simp only [List.length_cons, List.length_nil] at this ⊢; omega) | (simp at this ⊢; omega))
   obtain ⟨a65, n66, c67, rfl⟩ := hm61.form
   refine s_ek (.slice a65 n66 c67) (by kernel_rfl) (q63) ?_
   refine s_qk (.slice a65 n66 c67) (by kernel_rfl) ?_
   refine s_nil ?_
   refine k52 _ _ ?_
   refine w_reg (by kernel_rfl) ?_
   refine s_qk (.int .i64 1) (by kernel_rfl) ?_
   refine s_qk (.int .i64 1) (by kernel_rfl) ?_
   refine s_nil ?_
   refine w_unroll ?_
   refine w_seqk fun K69 k69 => ?_
   refine w_reg (by kernel_rfl) ?_
   refine s_qk (.bool true) (by kernel_rfl) ?_
   refine s_nil ?_
   refine k69 _ _ ?_
   refine w_seqk fun K70 k70 => ?_
   refine w_cond true (by kernel_rfl) rfl (fun _ => ?_) (fun h => by cases h)
   refine w_skip ?_
   refine k70 _ _ ?_
   refine w_seqk fun K71 k71 => ?_
   refine w_block ?_
   refine w_seqk fun K72 k72 => ?_
   refine w_reg (by kernel_rfl) ?_
   refine s_qk (.pointer (some ⟨b_slices, 1, none⟩)) (by kernel_rfl) ?_
   have u73 := (u54.frS e60 (i43.djn h_slices.ltF))
   refine s_ql (hd_slices_) (x := aLoad Try.prog 57 (.pointer (some ⟨b_slices, 1, none⟩)) H58) (by kernel_rfl) (u73.ld (by kernel_rfl)) ?_
   refine s_qk (hd_slices_) (by kernel_rfl) ?_
   refine s_nil ?_
   refine k72 _ _ ?_
   refine w_reg (by kernel_rfl) ?_
   refine s_qk (.slice a65 n66 c67) (by kernel_rfl) ?_
   refine s_qk (hd_slices_) (by kernel_rfl) ?_
   obtain ⟨g74, r75⟩ := G_some r56
   have u83 := (u64.fr e60 (i43.djn h_slices_.lt))
   obtain ⟨s76, H77, f78, q82, e79, hm80, hf81⟩ := Ow.append (P := Try.prog) 24 e60.wf hm61 u83 (fun _ _ => rfl) (at_ := #[57, 57]) rfl rfl (by kernel_rfl) (by kernel_rfl) (by decide) (by have := g74; first | omega | (simp only [List.length_cons, List.length_nil] at this ⊢; omega) | (simp at this ⊢; omega))
   obtain ⟨a84, n85, c86, rfl⟩ := hm80.form
   refine s_ek (.slice a84 n85 c86) (by kernel_rfl) (q82) ?_
   refine s_qk (.slice a84 n85 c86) (by kernel_rfl) ?_
   refine s_nil ?_
   refine k71 _ _ ?_
   refine w_reg (by kernel_rfl) ?_
   refine s_qk (.int .i64 2) (by kernel_rfl) ?_
   refine s_qk (.int .i64 2) (by kernel_rfl) ?_
   refine s_nil ?_
   refine w_unroll ?_
   refine w_seqk fun K88 k88 => ?_
   refine w_reg (by kernel_rfl) ?_
   refine s_qk (.bool false) (by kernel_rfl) ?_
   refine s_nil ?_
   refine k88 _ _ ?_
   refine w_seqk fun K89 k89 => ?_
   refine w_cond false (by kernel_rfl) rfl (fun h => by cases h) (fun _ => ?_)
   refine w_exit (th_exit (th_exit (bl_eq ?_)))
   refine k48 _ _ ?_
   refine w_seqk fun K90 k90 => ?_
   refine w_reg (by kernel_rfl) ?_
   refine s_qk (.slice a84 n85 c86) (by kernel_rfl) ?_
   refine s_qk (.slice a84 n85 c86) (by kernel_rfl) ?_
   refine s_nil ?_
   refine k90 _ _ ?_
   refine w_ret ?_
   refine b_ret (fn := Try.f78) (vs := [.slice a84 n85 c86]) (aRes_tmp (by kernel_rfl) (rfl)) ?_
   obtain rfl := Option.some.inj r75
   exact ⟨(.slice a84 n85 c86), f78, rfl, (FrS.step wf (FrS.step wf (FrS.step wf (FrS.refl (W := []) wf) e41 Inn.nil) e60 (i43.fresh (Nat.le_refl _))) e79 (Inn.trans (i43.fresh (Nat.le_refl _)) e41.next hf62)), hm80, (Inn.trans (Inn.trans (i43.fresh (Nat.le_refl _)) e41.next hf62) (ntr e41.next e60.next) hf81)⟩

theorem c_normal_Merge {H : AH} {hd_Arcs : Value} {fp_Arcs : Fp} {N_ : Int} {Arcs : List (Int × Int × Int)} {N_2 : Int} {r : Int × List (Int × Int × Int) × Er}
  (wf : WF H) (h_Arcs : Sq enc_i64_i64_i64 3 H hd_Arcs Arcs fp_Arcs) (hr : z_normal_Merge N_ Arcs N_2 = some r) :
  ACalls Try.prog 26 #[.agg #[.int .i64 N_, hd_Arcs], .agg #[.int .i64 N_2, hd_Arcs]] H fun v H' => ∃ (s3 : Value) (f4 : Fp) (v7 : Value) (f8 : Fp), v = .tuple #[.agg #[.int .i64 r.1, s3], v7] ∧ FrS [] H H' ∧ Ow enc_i64_i64_i64 3 H' s3 r.2.1 f4 ∧ Ev 122 235 H' v7 r.2.2 f8 ∧ Inn [] H f4 ∧ Inn [] H f8 ∧ Dj f4 f8 := by
 refine acalls_of_body mixed Try.func26 rfl (Nat.le_of_ble_eq_true rfl) ?_
 unfold z_normal_Merge at hr
 refine w_seqk fun K12 k12 => ?_
 refine w_reg (by kernel_rfl) ?_
 refine s_rwl wf [.int .i64 N_, hd_Arcs] (one_cons (rfl) (one_cons (h_Arcs.one1) (one_nil))) (by kernel_rfl) fun b13 H14 e15 hb16 r17 => ?_
 have u24 := (h_Arcs.ext e15)
 refine s_rwl e15.wf [.int .i64 N_2, hd_Arcs] (one_cons (rfl) (one_cons (u24.one1) (one_nil))) (by kernel_rfl) fun b19 H20 e21 hb22 r23 => ?_
 refine s_rwk e21.wf [.int .i64 0, .slice none 0 0] (by kernel_rfl) fun b26 H27 e28 hb29 r30 => ?_
 refine s_qk (.nilIface) (by kernel_rfl) ?_
 refine s_nil ?_
 refine k12 _ _ ?_
 refine w_seqk fun K32 k32 => ?_
 refine w_reg (by kernel_rfl) ?_
 have u33 := ((r17.ext e21).ext e28)
 refine s_ql (.agg #[.int .i64 N_, hd_Arcs]) (x := aLoad Try.prog 59 (.pointer (some ⟨b13, 0, none⟩)) H27) (by kernel_rfl) (u33.ld (by kernel_rfl)) ?_
 have u34 := ((u24.ext e21).ext e28)
 obtain ⟨y35, hy36, r37⟩ := bind_some hr
 refine s_ck 73 #[.agg #[.int .i64 N_, hd_Arcs]] (by kernel_rfl) (c_gtext_Check e28.wf u34 hy36) ?_
 rintro v38 H40 ⟨_, f39, rfl, e41, m42, i43⟩
 refine s_qk (v38) (by kernel_rfl) ?_
 refine s_nil ?_
 refine k32 _ _ ?_
 refine w_seqk fun K45 k45 => ?_
 refine w_seqk fun K46 k46 => ?_
 refine w_reg (by kernel_rfl) ?_
 refine s_qk (v38) (by kernel_rfl) ?_
 rcases (m42).cases with ⟨h47, rfl⟩ | ⟨h47, t48, x49, rfl⟩
 ·have r50 := ite_t h47 r37
  refine s_qk (.bool true) (by kernel_rfl) ?_
  refine s_nil ?_
  refine k46 _ _ ?_
  refine w_cond true (by kernel_rfl) rfl (fun _ => ?_) (fun h => by cases h)
  refine w_reg (by kernel_rfl) ?_
  have u51 := ((r23.ext e28).frS e41 Dj.nil_l)
  refine s_ql (.agg #[.int .i64 N_2, hd_Arcs]) (x := aLoad Try.prog 59 (.pointer (some ⟨b19, 0, none⟩)) H40) (by kernel_rfl) (u51.ld (by kernel_rfl)) ?_
  have u52 := (u34.fr e41 Dj.nil_l)
  obtain ⟨y53, hy54, r55⟩ := bind_some r50
  refine s_ck 73 #[.agg #[.int .i64 N_2, hd_Arcs]] (by kernel_rfl) (c_gtext_Check e41.wf u52 hy54) ?_
  rintro v56 H58 ⟨_, f57, rfl, e59, m60, i61⟩
  refine s_qk (v56) (by kernel_rfl) ?_
  refine s_nil ?_
  refine k45 _ _ ?_
  refine w_seqk fun K63 k63 => ?_
  refine w_block ?_
  refine w_seqk fun K64 k64 => ?_
  refine w_reg (by kernel_rfl) ?_
  refine s_qk (v56) (by kernel_rfl) ?_
  rcases (m60).cases with ⟨h65, rfl⟩ | ⟨h65, t66, x67, rfl⟩
  ·have r68 := ite_t h65 r55
   refine s_qk (.bool false) (by kernel_rfl) ?_
   refine s_qk (.bool false) (by kernel_rfl) ?_
   refine s_nil ?_
   refine k64 _ _ ?_
   refine w_cond false (by kernel_rfl) rfl (fun h => by cases h) (fun _ => ?_)
   refine w_seqk fun K69 k69 => ?_
   refine w_reg (by kernel_rfl) ?_
   refine s_qk (.pointer (some ⟨b13, 0, none⟩)) (by kernel_rfl) ?_
   have u70 := ((u33.frS e41 Dj.nil_l).frS e59 Dj.nil_l)
   refine s_ql (.int .i64 N_) (x := aLoad Try.prog 3 (.pointer (some ⟨b13, 0, none⟩)) H58) (by kernel_rfl) (u70.ld (by kernel_rfl)) ?_
   refine s_qk (.pointer (some ⟨b19, 0, none⟩)) (by kernel_rfl) ?_
   have u71 := (u51.frS e59 Dj.nil_l)
   refine s_ql (.int .i64 N_2) (x := aLoad Try.prog 3 (.pointer (some ⟨b19, 0, none⟩)) H58) (by kernel_rfl) (u71.ld (by kernel_rfl)) ?_
   refine s_qk (.bool (!decide (N_ = N_2))) (by kernel_rfl) ?_
   refine s_qk (.bool (!decide (N_ = N_2))) (by kernel_rfl) ?_
   refine s_nil ?_
   refine k69 _ _ ?_
   refine w_condn (N_ = N_2) (by kernel_rfl) rfl (fun h72 => ?_) (fun h72 => ?_)
   ·have r73 := ite_f h72 r68
    refine w_seqk fun K74 k74 => ?_
    refine w_reg (by kernel_rfl) ?_
    refine s_qk (.agg #[.int .i64 0, .slice none 0 0]) (by kernel_rfl) ?_
    refine s_qk (.iface 122 (.int .i64 1)) (by kernel_rfl) ?_
    have u79 := ((r30.frS e41 Dj.nil_l).frS e59 Dj.nil_l)
    obtain ⟨H75, q76, e77, r78⟩ := Row.store (P := Try.prog) (t := 59) (p := 0) e59.wf u79 (.agg #[.int .i64 0, .slice none 0 0]) [.int .i64 0, .slice none 0 0] (by kernel_rfl) (by kernel_rfl) (one_cons (rfl) (one_cons (rfl) (one_nil))) (Nat.le_of_ble_eq_true (by kernel_rfl)) [.int .i64 0, .slice none 0 0] (by kernel_rfl)
    refine s_ek (undef) (by kernel_rfl) (map_ok q76) ?_
    refine s_qk (.iface 122 (.int .i64 1)) (by kernel_rfl) ?_
    refine s_nil ?_
    refine k74 _ _ ?_
    refine w_ret (bl_ret (th_ret ?_))
    refine b_ret (fn := Try.f26) (vs := [.agg #[.int .i64 0, .slice none 0 0], .iface 122 (.int .i64 1)]) (aRes_cell (Eq.trans (b := aLoad Try.prog 59 (.pointer (some ⟨b26, 0, none⟩)) H75) (by kernel_rfl) (r78.ld (by kernel_rfl))) (aRes_tmp (by kernel_rfl) (rfl))) ?_
    obtain rfl := Option.some.inj r73
    exact ⟨(.slice none 0 0), [], (.iface 122 (.int .i64 1)), [], rfl, (FrS.step wf (FrS.step wf (FrS.step wf ((((FrS.refl (W := []) wf).extR e15).extR e21).extR e28) e41 Inn.nil) e59 Inn.nil) e77 (hb29.fresh (ntr e15.next e21.next))), (Ow.nil (by decide)), Ev.no, Inn.nil, Inn.nil, Dj.nil_l⟩
   ·have r80 := ite_t h72 r68
    refine w_seqk fun K81 k81 => ?_
    refine w_reg (by kernel_rfl) ?_
    refine s_qk (.pointer (some ⟨b13, 1, none⟩)) (by kernel_rfl) ?_
    refine s_ql (hd_Arcs) (x := aLoad Try.prog 57 (.pointer (some ⟨b13, 1, none⟩)) H58) (by kernel_rfl) (u70.ld (by kernel_rfl)) ?_
    have u82 := (u52.fr e59 Dj.nil_l)
    refine s_ql (.int .i64 (Arcs.length : Int)) (x := aLen Try.prog 57 hd_Arcs H58) (by kernel_rfl) (u82.lenb (by kernel_rfl)) ?_
    refine s_qk (.pointer (some ⟨b19, 1, none⟩)) (by kernel_rfl) ?_
    refine s_ql (hd_Arcs) (x := aLoad Try.prog 57 (.pointer (some ⟨b19, 1, none⟩)) H58) (by kernel_rfl) (u71.ld (by kernel_rfl)) ?_
    refine s_ql (.int .i64 (Arcs.length : Int)) (x := aLen Try.prog 57 hd_Arcs H58) (by kernel_rfl) (u82.lenb (by kernel_rfl)) ?_
    obtain ⟨g83, r84⟩ := G_some r80
    refine s_w (((Arcs.length : Int) + (Arcs.length : Int))) (k := .i64) (x := ((Arcs.length : Int) + (Arcs.length : Int))) (by kernel_rfl) (wrap64 g83) ?_
    refine s_qk (.bool (decide (((Arcs.length : Int) + (Arcs.length : Int)) > 262144))) (by kernel_rfl) ?_
    refine s_qk (.bool (decide (((Arcs.length : Int) + (Arcs.length : Int)) > 262144))) (by kernel_rfl) ?_
    refine s_nil ?_
    refine k81 _ _ ?_
    refine w_condp (((Arcs.length : Int) + (Arcs.length : Int)) > 262144) (by kernel_rfl) rfl (fun h85 => ?_) (fun h85 => ?_)
    ·have r86 := ite_t h85 r84
     refine w_seqk fun K87 k87 => ?_
     refine w_reg (by kernel_rfl) ?_
     refine s_qk (.agg #[.int .i64 0, .slice none 0 0]) (by kernel_rfl) ?_
     refine s_qk (.iface 122 (.int .i64 9)) (by kernel_rfl) ?_
     have u92 := ((r30.frS e41 Dj.nil_l).frS e59 Dj.nil_l)
     obtain ⟨H88, q89, e90, r91⟩ := Row.store (P := Try.prog) (t := 59) (p := 0) e59.wf u92 (.agg #[.int .i64 0, .slice none 0 0]) [.int .i64 0, .slice none 0 0] (by kernel_rfl) (by kernel_rfl) (one_cons (rfl) (one_cons (rfl) (one_nil))) (Nat.le_of_ble_eq_true (by kernel_rfl)) [.int .i64 0, .slice none 0 0] (by kernel_rfl)
     refine s_ek (undef) (by kernel_rfl) (map_ok q89) ?_
     refine s_qk (.iface 122 (.int .i64 9)) (by kernel_rfl) ?_
     refine s_nil ?_
     refine k87 _ _ ?_
     refine w_ret (bl_ret (th_ret ?_))
     refine b_ret (fn := Try.f26) (vs := [.agg #[.int .i64 0, .slice none 0 0], .iface 122 (.int .i64 9)]) (aRes_cell (Eq.trans (b := aLoad Try.prog 59 (.pointer (some ⟨b26, 0, none⟩)) H88) (by kernel_rfl) (r91.ld (by kernel_rfl))) (aRes_tmp (by kernel_rfl) (rfl))) ?_
     obtain rfl := Option.some.inj r86
     exact ⟨(.slice none 0 0), [], (.iface 122 (.int .i64 9)), [], rfl, (FrS.step wf (FrS.step wf (FrS.step wf ((((FrS.refl (W := []) wf).extR e15).extR e21).extR e28) e41 Inn.nil) e59 Inn.nil) e90 (hb29.fresh (ntr e15.next e21.next))), (Ow.nil (by decide)), Ev.no, Inn.nil, Inn.nil, Dj.nil_l⟩
    ·have r93 := ite_f h85 r84
     refine w_skip ?_
     refine k63 _ _ ?_
     refine w_seqk fun K94 k94 => ?_
     refine w_draw [0, 1, 2, 3, 4, 5, 6, 7, 8, 9, 10] (by kernel_rfl) ?_
     refine d_qk (.pointer (some ⟨b13, 0, none⟩)) (by kernel_rfl) ?_
     refine d_fl (.int .i64 N_) (x := aLoad Try.prog 3 (.pointer (some ⟨b13, 0, none⟩)) H58) (by kernel_rfl) (u70.ld (by kernel_rfl)) ?_
     refine d_qk (.pointer (some ⟨b13, 1, none⟩)) (by kernel_rfl) ?_
     refine d_ql (hd_Arcs) (x := aLoad Try.prog 57 (.pointer (some ⟨b13, 1, none⟩)) H58) (by kernel_rfl) (u70.ld (by kernel_rfl)) ?_
     refine d_qk (.pointer (some ⟨b19, 1, none⟩)) (by kernel_rfl) ?_
     refine d_ql (hd_Arcs) (x := aLoad Try.prog 57 (.pointer (some ⟨b19, 1, none⟩)) H58) (by kernel_rfl) (u71.ld (by kernel_rfl)) ?_
     obtain ⟨a95, n96, c97, rfl⟩ := u82.form
     refine d_lsl e59.wf [.slice a95 n96 c97, .slice a95 n96 c97] 2 (one_cons (u82.one1) (one_cons (u82.one1) (one_nil))) (by kernel_rfl) fun b98 H99 e100 hb101 r102 => ?_
     have u104 := (u82.ext e100)
     obtain ⟨y105, hy106, r107⟩ := bind_some r93
     refine d_ck 78 #[.slice (some ⟨b98, 0, none⟩) 2 2] (by kernel_rfl) (c_slices_Concat e100.wf u104 r102 hy106) ?_
     rintro s108 H110 ⟨_, f109, rfl, e111, m112, i113⟩
     obtain ⟨a115, n116, c117, rfl⟩ := m112.form
     have u118 := ((u70.ext e100).frS e111 Dj.nil_l)
     refine ⟨st_ql (y := aLoad Try.prog 3 (.pointer (some ⟨b13, 0, none⟩)) H110) (by kernel_rfl) (u118.ld (by kernel_rfl)) (st_nil), ?_⟩
     refine d_qk (.agg #[.int .i64 N_, .slice a115 n116 c117]) (by kernel_rfl) ?_
     have u123 := ((((r30.frS e41 Dj.nil_l).frS e59 Dj.nil_l).ext e100).frS e111 Dj.nil_l)
     obtain ⟨H119, q120, e121, r122⟩ := Row.store (P := Try.prog) (t := 59) (p := 0) e111.wf u123 (.agg #[.int .i64 N_, .slice a115 n116 c117]) [.int .i64 N_, .slice a115 n116 c117] (by kernel_rfl) (by kernel_rfl) (one_cons (rfl) (one_cons (m112.one1) (one_nil))) (Nat.le_of_ble_eq_true (by kernel_rfl)) [.int .i64 N_, .slice a115 n116 c117] (by kernel_rfl)
     refine d_ek (undef) (by kernel_rfl) (map_ok q120) (st_anc (by kernel_rfl) (st_nil)) ?_
     refine d_qk (.nilIface) (by kernel_rfl) ?_
     refine d_nil ?_
     refine k94 _ _ ?_
     refine w_ret ?_
     refine b_ret (fn := Try.f26) (vs := [.agg #[.int .i64 N_, .slice a115 n116 c117], .nilIface]) (aRes_cell (Eq.trans (b := aLoad Try.prog 59 (.pointer (some ⟨b26, 0, none⟩)) H119) (by kernel_rfl) (r122.ld (by kernel_rfl))) (aRes_tmp (by kernel_rfl) (rfl))) ?_
     have u124 := (m112.fr e121 (Dj.symm (i113.djn (r30.ltF.le (ntr (ntr e41.next e59.next) e100.next)))))
     obtain rfl := Option.some.inj r107
     exact ⟨(.slice a115 n116 c117), f109, (.nilIface), [], rfl, (FrS.step wf (FrS.step wf ((FrS.step wf (FrS.step wf ((((FrS.refl (W := []) wf).extR e15).extR e21).extR e28) e41 Inn.nil) e59 Inn.nil).extR e100) e111 Inn.nil) e121 (hb29.fresh (ntr e15.next e21.next))), u124, Ev.nil, (i113.fresh (ntr (ntr (ntr (ntr (ntr e15.next e21.next) e28.next) e41.next) e59.next) e100.next)), Inn.nil, Dj.nil_r⟩
  ·have r125 := ite_f h65 r55
   refine s_ql (.bool true) (x := aBin Try.prog .neq 31 (.tmp 14) (.const .nilIface) (.iface t66 x67) .nilIface) (by kernel_rfl) (aBin_nnil (by kernel_rfl)) ?_
   refine s_qk (.bool true) (by kernel_rfl) ?_
   refine s_nil ?_
   refine k64 _ _ ?_
   refine w_cond true (by kernel_rfl) rfl (fun _ => ?_) (fun h => by cases h)
   refine w_seqk fun K126 k126 => ?_
   refine w_reg (by kernel_rfl) ?_
   refine s_qk (.agg #[.int .i64 0, .slice none 0 0]) (by kernel_rfl) ?_
   refine s_qk (.iface t66 x67) (by kernel_rfl) ?_
   have u131 := ((r30.frS e41 Dj.nil_l).frS e59 Dj.nil_l)
   obtain ⟨H127, q128, e129, r130⟩ := Row.store (P := Try.prog) (t := 59) (p := 0) e59.wf u131 (.agg #[.int .i64 0, .slice none 0 0]) [.int .i64 0, .slice none 0 0] (by kernel_rfl) (by kernel_rfl) (one_cons (rfl) (one_cons (rfl) (one_nil))) (Nat.le_of_ble_eq_true (by kernel_rfl)) [.int .i64 0, .slice none 0 0] (by kernel_rfl)
   refine s_ek (undef) (by kernel_rfl) (map_ok q128) ?_
   refine s_qk (.iface t66 x67) (by kernel_rfl) ?_
   refine s_nil ?_
   refine k126 _ _ ?_
   refine w_ret (bl_ret (th_ret ?_))
   refine b_ret (fn := Try.f26) (vs := [.agg #[.int .i64 0, .slice none 0 0], .iface t66 x67]) (aRes_cell (Eq.trans (b := aLoad Try.prog 59 (.pointer (some ⟨b26, 0, none⟩)) H127) (by kernel_rfl) (r130.ld (by kernel_rfl))) (aRes_tmp (by kernel_rfl) (rfl))) ?_
   have u132 := (m60.fr e129 (Dj.symm (i61.djn (r30.ltF.le e41.next))))
   obtain rfl := Option.some.inj r125
   exact ⟨(.slice none 0 0), [], (.iface t66 x67), f57, rfl, (FrS.step wf (FrS.step wf (FrS.step wf ((((FrS.refl (W := []) wf).extR e15).extR e21).extR e28) e41 Inn.nil) e59 Inn.nil) e129 (hb29.fresh (ntr e15.next e21.next))), (Ow.nil (by decide)), u132, Inn.nil, (i61.fresh (ntr (ntr (ntr e15.next e21.next) e28.next) e41.next)), Dj.nil_l⟩
 ·have r133 := ite_f h47 r37
  refine s_ql (.bool false) (x := aBin Try.prog .eql 31 (.tmp 9) (.const .nilIface) (.iface t48 x49) .nilIface) (by kernel_rfl) (aBin_nil (by kernel_rfl)) ?_
  refine s_nil ?_
  refine k46 _ _ ?_
  refine w_cond false (by kernel_rfl) rfl (fun h => by cases h) (fun _ => ?_)
  refine w_skip ?_
  refine k45 _ _ ?_
  refine w_seqk fun K134 k134 => ?_
  refine w_block ?_
  refine w_seqk fun K135 k135 => ?_
  refine w_reg (by kernel_rfl) ?_
  refine s_qk (.iface t48 x49) (by kernel_rfl) ?_
  refine s_ql (.bool true) (x := aBin Try.prog .neq 31 (.tmp 14) (.const .nilIface) (.iface t48 x49) .nilIface) (by kernel_rfl) (aBin_nnil (by kernel_rfl)) ?_
  refine s_qk (.bool true) (by kernel_rfl) ?_
  refine s_nil ?_
  refine k135 _ _ ?_
  refine w_cond true (by kernel_rfl) rfl (fun _ => ?_) (fun h => by cases h)
  refine w_seqk fun K136 k136 => ?_
  refine w_reg (by kernel_rfl) ?_
  refine s_qk (.agg #[.int .i64 0, .slice none 0 0]) (by kernel_rfl) ?_
  refine s_qk (.iface t48 x49) (by kernel_rfl) ?_
  have u141 := (r30.frS e41 Dj.nil_l)
  obtain ⟨H137, q138, e139, r140⟩ := Row.store (P := Try.prog) (t := 59) (p := 0) e41.wf u141 (.agg #[.int .i64 0, .slice none 0 0]) [.int .i64 0, .slice none 0 0] (by kernel_rfl) (by kernel_rfl) (one_cons (rfl) (one_cons (rfl) (one_nil))) (Nat.le_of_ble_eq_true (by kernel_rfl)) [.int .i64 0, .slice none 0 0] (by kernel_rfl)
  refine s_ek (undef) (by kernel_rfl) (map_ok q138) ?_
  refine s_qk (.iface t48 x49) (by kernel_rfl) ?_
  refine s_nil ?_
  refine k136 _ _ ?_
  refine w_ret (bl_ret (th_ret ?_))
  refine b_ret (fn := Try.f26) (vs := [.agg #[.int .i64 0, .slice none 0 0], .iface t48 x49]) (aRes_cell (Eq.trans (b := aLoad Try.prog 59 (.pointer (some ⟨b26, 0, none⟩)) H137) (by kernel_rfl) (r140.ld (by kernel_rfl))) (aRes_tmp (by kernel_rfl) (rfl))) ?_
  have u142 := (m42.fr e139 (Dj.symm (i43.djn r30.ltF)))
  obtain rfl := Option.some.inj r133
  exact ⟨(.slice none 0 0), [], (.iface t48 x49), f39, rfl, (FrS.step wf (FrS.step wf ((((FrS.refl (W := []) wf).extR e15).extR e21).extR e28) e41 Inn.nil) e139 (hb29.fresh (ntr e15.next e21.next))), (Ow.nil (by decide)), u142, Inn.nil, (i43.fresh (ntr (ntr e15.next e21.next) e28.next)), Dj.nil_l⟩

theorem c_slices_Equal {H : AH} {hd_s1 : Value} {fp_s1 : Fp} {hd_s2 : Value} {fp_s2 : Fp} {s1 : List (Int × Int × Int)} {s2 : List (Int × Int × Int)} {r : Bool}
  (wf : WF H) (h_s1 : Sq enc_i64_i64_i64 3 H hd_s1 s1 fp_s1) (h_s2 : Sq enc_i64_i64_i64 3 H hd_s2 s2 fp_s2) (hr : z_slices_Equal s1 s2 = some r) :
  ACalls Try.prog 79 #[hd_s1, hd_s2] H fun v H' => v = .bool r ∧ H = H' := by
 refine acalls_of_body mixed Try.func79 rfl (Nat.le_of_ble_eq_true rfl) ?_
 unfold z_slices_Equal at hr
 refine w_seqk fun K1 k1 => ?_
 refine w_reg (by kernel_rfl) ?_
 refine s_qk (.bool false) (by kernel_rfl) ?_
 refine s_nil ?_
 refine k1 _ _ ?_
 refine w_seqk fun K2 k2 => ?_
 refine w_seqk fun K3 k3 => ?_
 refine w_reg (by kernel_rfl) ?_
 refine s_qk (hd_s1) (by kernel_rfl) ?_
 refine s_ql (.int .i64 (s1.length : Int)) (x := aLen Try.prog 57 hd_s1 H) (by kernel_rfl) (h_s1.lenb (by kernel_rfl)) ?_
 refine s_qk (hd_s2) (by kernel_rfl) ?_
 refine s_ql (.int .i64 (s2.length : Int)) (x := aLen Try.prog 57 hd_s2 H) (by kernel_rfl) (h_s2.lenb (by kernel_rfl)) ?_
 refine s_qk (.bool (!decide ((s1.length : Int) = (s2.length : Int)))) (by kernel_rfl) ?_
 refine s_nil ?_
 refine k3 _ _ ?_
 refine w_condn ((s1.length : Int) = (s2.length : Int)) (by kernel_rfl) rfl (fun h4 => ?_) (fun h4 => ?_)
 ·have r5 := ite_f h4 hr
  refine w_seqk fun K6 k6 => ?_
  refine w_reg (by kernel_rfl) ?_
  refine s_qk (.bool false) (by kernel_rfl) ?_
  refine s_nil ?_
  refine k6 _ _ ?_
  refine w_ret (th_ret ?_)
  refine b_ret (fn := Try.f79) (vs := [.bool false]) (aRes_tmp (by kernel_rfl) (rfl)) ?_
  obtain rfl := Option.some.inj r5
  exact ⟨rfl, rfl⟩
 ·have r7 := ite_t h4 hr
  refine w_skip ?_
  refine k2 _ _ ?_
  refine w_seqk fun K8 k8 => ?_
  refine w_seqk fun K9 k9 => ?_
  refine w_reg (by kernel_rfl) ?_
  refine s_qk (hd_s1) (by kernel_rfl) ?_
  refine s_ql (.int .i64 (s1.length : Int)) (x := aLen Try.prog 57 hd_s1 H) (by kernel_rfl) (h_s1.lenb (by kernel_rfl)) ?_
  refine s_qk (.int .i64 0) (by kernel_rfl) ?_
  refine s_nil ?_
  refine k9 _ _ ?_
  obtain ⟨z13, hx11, r12⟩ := bind_some r7
  refine w_mid (fun α H14 => ∃ o10, z13 = Sum.inr o10 ∧ Has α [] ∧ H = H14) (fun K16 k16 => ?_) (fun α H14 hM => ?_)
  ·refine w_block ?_
   obtain ⟨n18, hn19⟩ := loopO_iff.1 hx11
   refine w_loopn (fun n α H20 => ∃ (i0 : Int), iterO (fun zz_ => z_slices_Equal_l0 s1 s2 zz_) n i0 = some z13 ∧ Has α [(0, hd_s1), (1, hd_s2), (12, .int .i64 (s1.length : Int)), (13, .int .i64 i0)] ∧ H = H20) n18 ⟨0, hn19, ⟨by kernel_rfl, by kernel_rfl, by kernel_rfl, by kernel_rfl, trivial⟩, rfl⟩ ?_
   rintro n18 α H20 ⟨i0, hi23, hh22, rfl⟩ K28 k28
   obtain ⟨n24, z25, rfl, hz26, hn27⟩ := iter_succ hi23
   obtain ⟨β, rfl⟩ := has_ex hh22
   clear hh22
   replace hz26 : z_slices_Equal_l0 s1 s2 i0 = some z25 := hz26
   unfold z_slices_Equal_l0 at hz26
   refine w_seqk fun K29 k29 => ?_
   refine w_reg (by kernel_rfl) ?_
   refine s_qk (.bool (decide (i0 < (s1.length : Int)))) (by kernel_rfl) ?_
   refine s_nil ?_
   refine k29 _ _ ?_
   refine w_seqk fun K30 k30 => ?_
   refine w_condp (i0 < (s1.length : Int)) (by kernel_rfl) rfl (fun h31 => ?_) (fun h31 => ?_)
   ·have r32 := ite_t h31 hz26
    refine w_skip ?_
    refine k30 _ _ ?_
    refine w_seqk fun K33 k33 => ?_
    refine w_block ?_
    refine w_seqk fun K34 k34 => ?_
    refine w_reg (by kernel_rfl) ?_
    refine s_qk (.int .i64 i0) (by kernel_rfl) ?_
    refine s_qk (.int .i64 i0) (by kernel_rfl) ?_
    refine s_nil ?_
    refine k34 _ _ ?_
    refine w_seqk fun K35 k35 => ?_
    refine w_draw [0, 1, 2, 3, 4, 5, 6, 7, 8] (by kernel_rfl) ?_
    refine d_qk (hd_s1) (by kernel_rfl) ?_
    refine d_qk (.int .i64 i0) (by kernel_rfl) ?_
    obtain ⟨g36, r37⟩ := G_some r32
    refine d_ql (elp hd_s1 3 i0.toNat 0) (x := aIndexAddr Try.prog 57 hd_s1 (.int .i64 i0)) (by kernel_rfl) (h_s1.idxb (by kernel_rfl) g36 h31) ?_
    refine d_ql (.agg #[.int .i64 ((gt s1 i0).1), .int .i64 ((gt s1 i0).2.1), .int .i64 ((gt s1 i0).2.2)]) (x := aLoad Try.prog 73 (elp hd_s1 3 i0.toNat 0) H) (by kernel_rfl) (h_s1.ld g36 h31 (by kernel_rfl)) ?_
    refine d_qk (hd_s2) (by kernel_rfl) ?_
    refine d_qk (.int .i64 i0) (by kernel_rfl) ?_
    obtain ⟨g38, r39⟩ := G_some r37
    refine d_ql (elp hd_s2 3 i0.toNat 0) (x := aIndexAddr Try.prog 57 hd_s2 (.int .i64 i0)) (by kernel_rfl) (h_s2.idxb (by kernel_rfl) g36 g38) ?_
    refine d_ql (.agg #[.int .i64 ((gt s2 i0).1), .int .i64 ((gt s2 i0).2.1), .int .i64 ((gt s2 i0).2.2)]) (x := aLoad Try.prog 73 (elp hd_s2 3 i0.toNat 0) H) (by kernel_rfl) (h_s2.ld g36 g38 (by kernel_rfl)) ?_
    refine d_ql (.bool (!decide (((gt s1 i0).1) = ((gt s2 i0).1) ∧ ((gt s1 i0).2.1) = ((gt s2 i0).2.1) ∧ ((gt s1 i0).2.2) = ((gt s2 i0).2.2)))) (x := aBin Try.prog .neq 73 (.tmp 19) (.tmp 23) (.agg #[.int .i64 ((gt s1 i0).1), .int .i64 ((gt s1 i0).2.1), .int .i64 ((gt s1 i0).2.2)]) (.agg #[.int .i64 ((gt s2 i0).1), .int .i64 ((gt s2 i0).2.1), .int .i64 ((gt s2 i0).2.2)])) (by kernel_rfl) (aBin_neq73 _ _ ((gt s1 i0).1) ((gt s1 i0).2.1) ((gt s1 i0).2.2) ((gt s2 i0).1) ((gt s2 i0).2.1) ((gt s2 i0).2.2)) ?_
    refine d_nil ?_
    refine k35 _ _ ?_
    refine w_condn (((gt s1 i0).1) = ((gt s2 i0).1) ∧ ((gt s1 i0).2.1) = ((gt s2 i0).2.1) ∧ ((gt s1 i0).2.2) = ((gt s2 i0).2.2)) (by kernel_rfl) rfl (fun h40 => ?_) (fun h40 => ?_)
    ·have r41 := ite_f h40 r39
     refine w_seqk fun K42 k42 => ?_
     refine w_reg (by kernel_rfl) ?_
     refine s_qk (.bool false) (by kernel_rfl) ?_
     refine s_nil ?_
     refine k42 _ _ ?_
     refine w_ret (bl_ret (th_ret (th_ret (bl_ret (th_ret (th_ret ?_))))))
     obtain ⟨v43, hv44, hz45⟩ := map_some r41
     subst hz45
     obtain rfl := it_inr hn27
     have hq46 := elim_inl r12
     rw [hq46] at hv44
     refine b_ret (fn := Try.f79) (vs := [.bool false]) (aRes_tmp (by kernel_rfl) (rfl)) ?_
     obtain rfl := Option.some.inj hv44
     exact ⟨rfl, rfl⟩
    ·have r47 := ite_t h40 r39
     refine w_skip ?_
     refine k33 _ _ ?_
     refine w_reg (by kernel_rfl) ?_
     obtain ⟨g48, r49⟩ := G_some r47
     refine s_w ((i0 + 1)) (k := .i64) (x := (i0 + 1)) (by kernel_rfl) (wrap64 (by have := g48; omega)) ?_
     refine s_qk (.int .i64 (i0 + 1)) (by kernel_rfl) ?_
     refine s_nil ?_
     obtain rfl := Option.some.inj r49
     exact k28 n24 _ _ (Nat.lt_succ_self _) ⟨(i0 + 1), hn27, ⟨by kernel_rfl, by kernel_rfl, by kernel_rfl, by kernel_rfl, trivial⟩, rfl⟩
   ·have r50 := ite_f h31 hz26
    refine w_exit (th_exit (th_exit (bl_eq ?_)))
    obtain rfl := Option.some.inj r50
    obtain rfl := it_inr hn27
    exact k16 _ _ ⟨_, rfl, trivial, rfl⟩
  ·obtain ⟨o10, rfl, hh17, rfl⟩ := hM
   have r51 := elim_inr r12
   obtain ⟨β, rfl⟩ := has_ex hh17
   clear hh17
   refine k8 _ _ ?_
   refine w_seqk fun K52 k52 => ?_
   refine w_reg (by kernel_rfl) ?_
   refine s_qk (.bool true) (by kernel_rfl) ?_
   refine s_nil ?_
   refine k52 _ _ ?_
   refine w_ret ?_
   refine b_ret (fn := Try.f79) (vs := [.bool true]) (aRes_tmp (by kernel_rfl) (rfl)) ?_
   obtain rfl := Option.some.inj r51
   exact ⟨rfl, rfl⟩

theorem c_normal_Is {H : AH} {hd_Arcs : Value} {fp_Arcs : Fp} {N_ : Int} {Arcs : List (Int × Int × Int)} {r : Bool × Er}
  (wf : WF H) (h_Arcs : Sq enc_i64_i64_i64 3 H hd_Arcs Arcs fp_Arcs) (hr : z_normal_Is N_ Arcs = some r) :
  ACalls Try.prog 27 #[.agg #[.int .i64 N_, hd_Arcs]] H fun v H' => ∃ (v3 : Value) (f4 : Fp), v = .tuple #[.bool r.1, v3] ∧ FrS [] H H' ∧ Ev 122 235 H' v3 r.2 f4 ∧ Inn [] H f4 := by
 refine acalls_of_body mixed Try.func27 rfl (Nat.le_of_ble_eq_true rfl) ?_
 unfold z_normal_Is at hr
 refine w_seqk fun K6 k6 => ?_
 refine w_reg (by kernel_rfl) ?_
 refine s_rwl wf [.int .i64 N_, hd_Arcs] (one_cons (rfl) (one_cons (h_Arcs.one1) (one_nil))) (by kernel_rfl) fun b7 H8 e9 hb10 r11 => ?_
 refine s_qk (.bool false) (by kernel_rfl) ?_
 refine s_qk (.nilIface) (by kernel_rfl) ?_
 refine s_nil ?_
 refine k6 _ _ ?_
 refine w_seqk fun K13 k13 => ?_
 refine w_reg (by kernel_rfl) ?_
 refine s_ql (.agg #[.int .i64 N_, hd_Arcs]) (x := aLoad Try.prog 59 (.pointer (some ⟨b7, 0, none⟩)) H8) (by kernel_rfl) (r11.ld (by kernel_rfl)) ?_
 have u14 := (h_Arcs.ext e9)
 obtain ⟨y15, hy16, r17⟩ := bind_some hr
 refine s_ck 24 #[.agg #[.int .i64 N_, hd_Arcs]] (by kernel_rfl) (c_normal_Of e9.wf u14 hy16) ?_
 rintro _ H22 ⟨s18, f19, v20, f21, rfl, e23, m24, m25, i26, i27, d28⟩
 obtain ⟨a31, n32, c33, rfl⟩ := m24.form
 refine s_qk (.tuple #[.agg #[.int .i64 y15.1, .slice a31 n32 c33], v20]) (by kernel_rfl) ?_
 refine s_qk (.agg #[.int .i64 y15.1, .slice a31 n32 c33]) (by kernel_rfl) ?_
 refine s_qk (v20) (by kernel_rfl) ?_
 refine s_rwk e23.wf [.int .i64 0, .slice none 0 0] (by kernel_rfl) fun b34 H35 e36 hb37 r38 => ?_
 have u44 := (m24.ext e36)
 obtain ⟨H40, q41, e42, r43⟩ := Row.store (P := Try.prog) (t := 59) (p := 0) e36.wf r38 (.agg #[.int .i64 y15.1, .slice a31 n32 c33]) [.int .i64 y15.1, .slice a31 n32 c33] (by kernel_rfl) (by kernel_rfl) (one_cons (rfl) (one_cons (u44.one1) (one_nil))) (Nat.le_of_ble_eq_true (by kernel_rfl)) [.int .i64 y15.1, .slice a31 n32 c33] (by kernel_rfl)
 refine s_ek (undef) (by kernel_rfl) (map_ok q41) ?_
 refine s_qk (v20) (by kernel_rfl) ?_
 refine s_nil ?_
 refine k13 _ _ ?_
 refine w_seqk fun K45 k45 => ?_
 refine w_reg (by kernel_rfl) ?_
 refine s_qk (v20) (by kernel_rfl) ?_
 have u49 := ((m25.ext e36).fr e42 (hb37.djn m25.lt))
 rcases (u49).cases with ⟨h46, rfl⟩ | ⟨h46, t47, x48, rfl⟩
 ·have r50 := ite_t h46 r17
  refine s_qk (.bool true) (by kernel_rfl) ?_
  refine s_qk (.bool true) (by kernel_rfl) ?_
  refine s_qk (.pointer (some ⟨b34, 1, none⟩)) (by kernel_rfl) ?_
  refine s_ql (.slice a31 n32 c33) (x := aLoad Try.prog 57 (.pointer (some ⟨b34, 1, none⟩)) H40) (by kernel_rfl) (r43.ld (by kernel_rfl)) ?_
  refine s_qk (.pointer (some ⟨b7, 1, none⟩)) (by kernel_rfl) ?_
  have u51 := (((r11.frS e23 Dj.nil_l).ext e36).frS e42 (hb37.djn (r11.ltF.le e23.next)))
  refine s_ql (hd_Arcs) (x := aLoad Try.prog 57 (.pointer (some ⟨b7, 1, none⟩)) H40) (by kernel_rfl) (u51.ld (by kernel_rfl)) ?_
  have u52 := (u44.fr e42 (hb37.djn m24.lt))
  have u53 := (((u14.fr e23 Dj.nil_l).ext e36).fr e42 (hb37.djn (h_Arcs.lt.le (ntr e9.next e23.next))))
  obtain ⟨y54, hy55, r56⟩ := bind_some r50
  refine s_ck 79 #[.slice a31 n32 c33, hd_Arcs] (by kernel_rfl) (c_slices_Equal e42.wf u52.sq u53 hy55) ?_
  rintro _ _ ⟨rfl, rfl⟩
  refine s_qk (.bool y54) (by kernel_rfl) ?_
  refine s_qk (.nilIface) (by kernel_rfl) ?_
  refine s_qk (.bool y54) (by kernel_rfl) ?_
  refine s_qk (.nilIface) (by kernel_rfl) ?_
  refine s_nil ?_
  refine k45 _ _ ?_
  refine w_ret ?_
  refine b_ret (fn := Try.f27) (vs := [.bool y54, .nilIface]) (aRes_tmp (by kernel_rfl) (aRes_tmp (by kernel_rfl) (rfl))) ?_
  obtain rfl := Option.some.inj r56
  exact ⟨(.nilIface), [], rfl, (FrS.step wf ((FrS.step wf ((FrS.refl (W := []) wf).extR e9) e23 Inn.nil).extR e36) e42 (hb37.fresh (ntr e9.next e23.next))), Ev.nil, Inn.nil⟩
 ·have r59 := ite_f h46 r17
  refine s_ql (.bool false) (x := aBin Try.prog .eql 31 (.tmp 11) (.const .nilIface) (.iface t47 x48) .nilIface) (by kernel_rfl) (aBin_nil (by kernel_rfl)) ?_
  refine s_qk (.bool false) (by kernel_rfl) ?_
  refine s_no (by kernel_rfl) ?_
  refine s_no (by kernel_rfl) ?_
  refine s_no (by kernel_rfl) ?_
  refine s_no (by kernel_rfl) ?_
  refine s_no (by kernel_rfl) ?_
  refine s_qk (.bool false) (by kernel_rfl) ?_
  refine s_qk (.iface t47 x48) (by kernel_rfl) ?_
  refine s_qk (.bool false) (by kernel_rfl) ?_
  refine s_qk (.iface t47 x48) (by kernel_rfl) ?_
  refine s_nil ?_
  refine k45 _ _ ?_
  refine w_ret ?_
  refine b_ret (fn := Try.f27) (vs := [.bool false, .iface t47 x48]) (aRes_tmp (by kernel_rfl) (aRes_tmp (by kernel_rfl) (rfl))) ?_
  obtain rfl := Option.some.inj r59
  exact ⟨(.iface t47 x48), f21, rfl, (FrS.step wf ((FrS.step wf ((FrS.refl (W := []) wf).extR e9) e23 Inn.nil).extR e36) e42 (hb37.fresh (ntr e9.next e23.next))), u49, (i27.fresh e9.next)⟩

theorem c_normal_Degrees {H : AH} {hd_Arcs : Value} {fp_Arcs : Fp} {N_ : Int} {Arcs : List (Int × Int × Int)} {r : List (Int) × List (Int) × Er}
  (wf : WF H) (h_Arcs : Sq enc_i64_i64_i64 3 H hd_Arcs Arcs fp_Arcs) (hr : z_normal_Degrees N_ Arcs = some r) :
  ACalls Try.prog 28 #[.agg #[.int .i64 N_, hd_Arcs]] H fun v H' => ∃ (s3 : Value) (f4 : Fp) (s7 : Value) (f8 : Fp) (v11 : Value) (f12 : Fp), v = .tuple #[s3, s7, v11] ∧ FrS [] H H' ∧ Ow (encI .i64) 1 H' s3 r.1 f4 ∧ Ow (encI .i64) 1 H' s7 r.2.1 f8 ∧ Ev 122 235 H' v11 r.2.2 f12 ∧ Inn [] H f4 ∧ Inn [] H f8 ∧ Inn [] H f12 ∧ Dj f4 f8 ∧ Dj f4 f12 ∧ Dj f8 f12 := by
 refine acalls_of_body mixed Try.func28 rfl (Nat.le_of_ble_eq_true rfl) ?_
 unfold z_normal_Degrees at hr
 refine w_seqk fun K19 k19 => ?_
 refine w_reg (by kernel_rfl) ?_
 refine s_rwl wf [.int .i64 N_, hd_Arcs] (one_cons (rfl) (one_cons (h_Arcs.one1) (one_nil))) (by kernel_rfl) fun b20 H21 e22 hb23 r24 => ?_
 refine s_qk (.slice none 0 0) (by kernel_rfl) ?_
 refine s_qk (.slice none 0 0) (by kernel_rfl) ?_
 refine s_qk (.nilIface) (by kernel_rfl) ?_
 refine s_nil ?_
 refine k19 _ _ ?_
 refine w_seqk fun K26 k26 => ?_
 refine w_seqk fun K27 k27 => ?_
 refine w_reg (by kernel_rfl) ?_
 refine s_ql (.agg #[.int .i64 N_, hd_Arcs]) (x := aLoad Try.prog 59 (.pointer (some ⟨b20, 0, none⟩)) H21) (by kernel_rfl) (r24.ld (by kernel_rfl)) ?_
 have u28 := (h_Arcs.ext e22)
 obtain ⟨y29, hy30, r31⟩ := bind_some hr
 refine s_ck 73 #[.agg #[.int .i64 N_, hd_Arcs]] (by kernel_rfl) (c_gtext_Check e22.wf u28 hy30) ?_
 rintro v32 H34 ⟨_, f33, rfl, e35, m36, i37⟩
 refine s_qk (v32) (by kernel_rfl) ?_
 refine s_nil ?_
 refine k27 _ _ ?_
 refine w_seqk fun K39 k39 => ?_
 refine w_reg (by kernel_rfl) ?_
 refine s_qk (v32) (by kernel_rfl) ?_
 rcases (m36).cases with ⟨h40, rfl⟩ | ⟨h40, t41, x42, rfl⟩
 ·have r43 := ite_t h40 r31
  refine s_qk (.bool false) (by kernel_rfl) ?_
  refine s_nil ?_
  refine k39 _ _ ?_
  refine w_cond false (by kernel_rfl) rfl (fun h => by cases h) (fun _ => ?_)
  refine w_skip ?_
  refine k26 _ _ ?_
  refine w_seqk fun K44 k44 => ?_
  refine w_draw [0, 1, 2, 3, 4, 5, 6, 7] (by kernel_rfl) ?_
  refine d_qk (.pointer (some ⟨b20, 0, none⟩)) (by kernel_rfl) ?_
  have u45 := (r24.frS e35 Dj.nil_l)
  refine d_ql (.int .i64 N_) (x := aLoad Try.prog 3 (.pointer (some ⟨b20, 0, none⟩)) H34) (by kernel_rfl) (u45.ld (by kernel_rfl)) ?_
  obtain ⟨g46, r47⟩ := G_some r43
  refine d_mks (t := 22) (m := 8) (l := N_) (c := N_) (enc := (encI .i64)) (sz := 1) e35.wf (0 : Int) (by kernel_rfl) (by decide) g46.1 (Int.le_refl _) (by omega) (by have := g46; omega) (by kernel_rfl) fun s48 f49 H50 e51 hf52 hm53 => ?_
  obtain ⟨a54, n55, c56, rfl⟩ := hm53.form
  have hm53 : Ow (encI .i64) 1 H50 (.slice a54 n55 c56) (List.replicate N_.toNat (0 : Int)) f49 := hm53
  refine d_qk (.pointer (some ⟨b20, 0, none⟩)) (by kernel_rfl) ?_
  have u58 := (u45.ext e51)
  refine d_ql (.int .i64 N_) (x := aLoad Try.prog 3 (.pointer (some ⟨b20, 0, none⟩)) H50) (by kernel_rfl) (u58.ld (by kernel_rfl)) ?_
  refine d_mks (t := 22) (m := 8) (l := N_) (c := N_) (enc := (encI .i64)) (sz := 1) e51.wf (0 : Int) (by kernel_rfl) (by decide) g46.1 (Int.le_refl _) (by omega) (by have := g46; omega) (by kernel_rfl) fun s59 f60 H61 e62 hf63 hm64 => ?_
  obtain ⟨a65, n66, c67, rfl⟩ := hm64.form
  have hm64 : Ow (encI .i64) 1 H61 (.slice a65 n66 c67) (List.replicate N_.toNat (0 : Int)) f60 := hm64
  refine d_qk (.slice a54 n55 c56) (by kernel_rfl) ?_
  refine d_qk (.slice a65 n66 c67) (by kernel_rfl) ?_
  refine d_nil ?_
  refine k44 _ _ ?_
  refine w_seqk fun K69 k69 => ?_
  refine w_seqk fun K70 k70 => ?_
  refine w_reg (by kernel_rfl) ?_
  refine s_qk (.pointer (some ⟨b20, 1, none⟩)) (by kernel_rfl) ?_
  have u71 := (u58.ext e62)
  refine s_ql (hd_Arcs) (x := aLoad Try.prog 57 (.pointer (some ⟨b20, 1, none⟩)) H61) (by kernel_rfl) (u71.ld (by kernel_rfl)) ?_
  have u72 := (((u28.fr e35 Dj.nil_l).ext e51).ext e62)
  refine s_ql (.int .i64 (Arcs.length : Int)) (x := aLen Try.prog 57 hd_Arcs H61) (by kernel_rfl) (u72.lenb (by kernel_rfl)) ?_
  refine s_qk (.int .i64 0) (by kernel_rfl) ?_
  refine s_nil ?_
  refine k70 _ _ ?_
  obtain ⟨o73, hx74, r75⟩ := bind_some r47
  refine w_mid (fun α H76 => Has α [(6, .slice a54 n55 c56), (7, .slice a65 n66 c67)] ∧ FrS (f49 ++ f60) H61 H76 ∧ Ow (encI .i64) 1 H76 (.slice a54 n55 c56) o73.1 f49 ∧ Ow (encI .i64) 1 H76 (.slice a65 n66 c67) o73.2 f60) (fun K82 k82 => ?_) (fun α H76 hM => ?_)
  ·refine w_block ?_
   obtain ⟨n84, hn85⟩ := loopO_iff.1 hx74
   have u98 := (hm53.ext e62)
   refine w_loopn (fun n α H86 => ∃ (i0 : Int), ∃ (out1 : List (Int)), ∃ (in2 : List (Int)), iterO (fun zz_ => z_normal_Degrees_l0 Arcs zz_.1 zz_.2.1 zz_.2.2) n (i0, out1, in2) = some o73 ∧ Has α [(6, .slice a54 n55 c56), (7, .slice a65 n66 c67), (22, hd_Arcs), (23, .int .i64 (Arcs.length : Int)), (24, .int .i64 i0)] ∧ FrS (f49 ++ f60) H61 H86 ∧ Ow (encI .i64) 1 H86 (.slice a54 n55 c56) out1 f49 ∧ Ow (encI .i64) 1 H86 (.slice a65 n66 c67) in2 f60) n84 ⟨0, (List.replicate N_.toNat (0 : Int)), (List.replicate N_.toNat (0 : Int)), hn85, ⟨by kernel_rfl, by kernel_rfl, by kernel_rfl, by kernel_rfl, by kernel_rfl, trivial⟩, (FrS.refl (W := (f49 ++ f60)) e62.wf), u98, hm64⟩ ?_
   rintro n84 α H86 ⟨i0, out1, in2, hi93, hh92, e87, m89, m91⟩ K99 k99
   obtain ⟨n94, z95, rfl, hz96, hn97⟩ := iter_succ hi93
   obtain ⟨β, rfl⟩ := has_ex hh92
   clear hh92
   replace hz96 : z_normal_Degrees_l0 Arcs i0 out1 in2 = some z95 := hz96
   unfold z_normal_Degrees_l0 at hz96
   refine w_seqk fun K100 k100 => ?_
   refine w_reg (by kernel_rfl) ?_
   refine s_qk (.bool (decide (i0 < (Arcs.length : Int)))) (by kernel_rfl) ?_
   refine s_nil ?_
   refine k100 _ _ ?_
   refine w_seqk fun K101 k101 => ?_
   refine w_condp (i0 < (Arcs.length : Int)) (by kernel_rfl) rfl (fun h102 => ?_) (fun h102 => ?_)
   ·have r103 := ite_t h102 hz96
    refine w_skip ?_
    refine k101 _ _ ?_
    refine w_seqk fun K104 k104 => ?_
    refine w_block ?_
    refine w_seqk fun K105 k105 => ?_
    refine w_reg (by kernel_rfl) ?_
    obtain ⟨g106, r107⟩ := G_some r103
    have u108 := (u72.fr e87 (Dj.app (hf52.djn (h_Arcs.lt.le (ntr e22.next e35.next))) (hf63.djn (h_Arcs.lt.le (ntr (ntr e22.next e35.next) e51.next)))))
    refine s_ql (elp hd_Arcs 3 i0.toNat 0) (x := aIndexAddr Try.prog 57 hd_Arcs (.int .i64 i0)) (by kernel_rfl) (u108.idxb (by kernel_rfl) g106 h102) ?_
    refine s_ql (.agg #[.int .i64 ((gt Arcs i0).1), .int .i64 ((gt Arcs i0).2.1), .int .i64 ((gt Arcs i0).2.2)]) (x := aLoad Try.prog 73 (elp hd_Arcs 3 i0.toNat 0) H86) (by kernel_rfl) (u108.ld g106 h102 (by kernel_rfl)) ?_
    refine s_rwk e87.wf [.int .i64 0, .int .i64 0, .int .i64 0] (by kernel_rfl) fun b109 H110 e111 hb112 r113 => ?_
    obtain ⟨H115, q116, e117, r118⟩ := Row.store (P := Try.prog) (t := 73) (p := 0) e111.wf r113 (.agg #[.int .i64 ((gt Arcs i0).1), .int .i64 ((gt Arcs i0).2.1), .int .i64 ((gt Arcs i0).2.2)]) [.int .i64 ((gt Arcs i0).1), .int .i64 ((gt Arcs i0).2.1), .int .i64 ((gt Arcs i0).2.2)] (by kernel_rfl) (by kernel_rfl) (one_cons (rfl) (one_cons (rfl) (one_cons (rfl) (one_nil)))) (Nat.le_of_ble_eq_true (by kernel_rfl)) [.int .i64 ((gt Arcs i0).1), .int .i64 ((gt Arcs i0).2.1), .int .i64 ((gt Arcs i0).2.2)] (by kernel_rfl)
    refine s_ek (undef) (by kernel_rfl) (map_ok q116) ?_
    refine s_nil ?_
    refine k105 _ _ ?_
    refine w_seqk fun K119 k119 => ?_
    refine w_reg (by kernel_rfl) ?_
    refine s_qk (.slice a54 n55 c56) (by kernel_rfl) ?_
    refine s_qk (.pointer (some ⟨b109, 0, none⟩)) (by kernel_rfl) ?_
    refine s_ql (.int .i64 ((gt Arcs i0).1)) (x := aLoad Try.prog 3 (.pointer (some ⟨b109, 0, none⟩)) H115) (by kernel_rfl) (r118.ld (by kernel_rfl)) ?_
    obtain ⟨g120, r121⟩ := G_some r107
    have u122 := ((m89.ext e111).fr e117 (hb112.djn (hm53.lt.le (ntr e62.next e87.next))))
    refine s_ql (elp (.slice a54 n55 c56) 1 ((gt Arcs i0).1).toNat 0) (x := aIndexAddr Try.prog 22 (.slice a54 n55 c56) (.int .i64 ((gt Arcs i0).1))) (by kernel_rfl) (u122.sq.idxb (by kernel_rfl) g120.1 g120.2) ?_
    refine s_ql (.int .i64 (gt out1 ((gt Arcs i0).1))) (x := aLoad Try.prog 3 (elp (.slice a54 n55 c56) 1 ((gt Arcs i0).1).toNat 0) H115) (by kernel_rfl) (u122.sq.ld g120.1 g120.2 (by kernel_rfl)) ?_
    obtain ⟨g123, r124⟩ := G_some r121
    refine s_w (((gt out1 ((gt Arcs i0).1)) + 1)) (k := .i64) (x := ((gt out1 ((gt Arcs i0).1)) + 1)) (by kernel_rfl) (wrap64 g123) ?_
    refine s_ql (elp (.slice a54 n55 c56) 1 ((gt Arcs i0).1).toNat 0) (x := aIndexAddr Try.prog 22 (.slice a54 n55 c56) (.int .i64 ((gt Arcs i0).1))) (by kernel_rfl) (u122.sq.idxb (by kernel_rfl) g120.1 g120.2) ?_
    obtain ⟨H125, q126, e127, hm128⟩ := Ow.store (P := Try.prog) (t := 3) (off := 0) e117.wf u122 g120.1 g120.2 (.int .i64 ((gt out1 ((gt Arcs i0).1)) + 1)) [.int .i64 ((gt out1 ((gt Arcs i0).1)) + 1)] (by kernel_rfl) (by kernel_rfl) rfl ((gt out1 ((gt Arcs i0).1)) + 1) (Nat.le_of_ble_eq_true rfl) (by kernel_rfl)
    refine s_ek (undef) (by kernel_rfl) (map_ok q126) ?_
    refine s_nil ?_
    refine k119 _ _ ?_
    refine w_reg (by kernel_rfl) ?_
    refine s_qk (.slice a65 n66 c67) (by kernel_rfl) ?_
    refine s_qk (.pointer (some ⟨b109, 1, none⟩)) (by kernel_rfl) ?_
    have u129 := (r118.frS e127 (Dj.symm (hb112.djn (hm53.lt.le (ntr e62.next e87.next)))))
    refine s_ql (.int .i64 ((gt Arcs i0).2.1)) (x := aLoad Try.prog 3 (.pointer (some ⟨b109, 1, none⟩)) H125) (by kernel_rfl) (u129.ld (by kernel_rfl)) ?_
    obtain ⟨g130, r131⟩ := G_some r124
    have u132 := (((m91.ext e111).fr e117 (hb112.djn (hm64.lt.le e87.next))).fr e127 (Dj.symm (hf63.djn hm53.lt)))
    refine s_ql (elp (.slice a65 n66 c67) 1 ((gt Arcs i0).2.1).toNat 0) (x := aIndexAddr Try.prog 22 (.slice a65 n66 c67) (.int .i64 ((gt Arcs i0).2.1))) (by kernel_rfl) (u132.sq.idxb (by kernel_rfl) g130.1 g130.2) ?_
    refine s_ql (.int .i64 (gt in2 ((gt Arcs i0).2.1))) (x := aLoad Try.prog 3 (elp (.slice a65 n66 c67) 1 ((gt Arcs i0).2.1).toNat 0) H125) (by kernel_rfl) (u132.sq.ld g130.1 g130.2 (by kernel_rfl)) ?_
    obtain ⟨g133, r134⟩ := G_some r131
    refine s_w (((gt in2 ((gt Arcs i0).2.1)) + 1)) (k := .i64) (x := ((gt in2 ((gt Arcs i0).2.1)) + 1)) (by kernel_rfl) (wrap64 g133) ?_
    refine s_ql (elp (.slice a65 n66 c67) 1 ((gt Arcs i0).2.1).toNat 0) (x := aIndexAddr Try.prog 22 (.slice a65 n66 c67) (.int .i64 ((gt Arcs i0).2.1))) (by kernel_rfl) (u132.sq.idxb (by kernel_rfl) g130.1 g130.2) ?_
    obtain ⟨H135, q136, e137, hm138⟩ := Ow.store (P := Try.prog) (t := 3) (off := 0) e127.wf u132 g130.1 g130.2 (.int .i64 ((gt in2 ((gt Arcs i0).2.1)) + 1)) [.int .i64 ((gt in2 ((gt Arcs i0).2.1)) + 1)] (by kernel_rfl) (by kernel_rfl) rfl ((gt in2 ((gt Arcs i0).2.1)) + 1) (Nat.le_of_ble_eq_true rfl) (by kernel_rfl)
    refine s_ek (undef) (by kernel_rfl) (map_ok q136) ?_
    refine s_nil ?_
    refine k104 _ _ ?_
    refine w_reg (by kernel_rfl) ?_
    obtain ⟨g139, r140⟩ := G_some r134
    refine s_w ((i0 + 1)) (k := .i64) (x := (i0 + 1)) (by kernel_rfl) (wrap64 (by have := g139; omega)) ?_
    refine s_qk (.int .i64 (i0 + 1)) (by kernel_rfl) ?_
    refine s_nil ?_
    have u141 := (hm128.fr e137 (hf63.djn hm53.lt))
    obtain rfl := Option.some.inj r140
    exact k99 n94 _ _ (Nat.lt_succ_self _) ⟨(i0 + 1), (out1.set ((gt Arcs i0).1).toNat ((gt out1 ((gt Arcs i0).1)) + 1)), (in2.set ((gt Arcs i0).2.1).toNat ((gt in2 ((gt Arcs i0).2.1)) + 1)), hn97, ⟨by kernel_rfl, by kernel_rfl, by kernel_rfl, by kernel_rfl, by kernel_rfl, trivial⟩, (FrS.step e62.wf (FrS.step e62.wf (FrS.step e62.wf ((FrS.step e62.wf (FrS.refl (W := (f49 ++ f60)) e62.wf) e87 (Inn.app Inn.left (Inn.right Inn.refl'))).extR e111) e117 (hb112.fresh e87.next)) e127 Inn.left) e137 (Inn.right Inn.refl')), u141, hm138⟩
   ·have r142 := ite_f h102 hz96
    refine w_exit (th_exit (th_exit (bl_eq ?_)))
    obtain rfl := Option.some.inj r142
    obtain rfl := it_inr hn97
    exact k82 _ _ ⟨⟨by kernel_rfl, by kernel_rfl, trivial⟩, (FrS.step e62.wf (FrS.refl (W := (f49 ++ f60)) e62.wf) e87 (Inn.app Inn.left (Inn.right Inn.refl'))), m89, m91⟩
  ·obtain ⟨hh83, e77, m79, m81⟩ := hM
   obtain ⟨β, rfl⟩ := has_ex hh83
   clear hh83
   refine k69 _ _ ?_
   refine w_seqk fun K143 k143 => ?_
   refine w_reg (by kernel_rfl) ?_
   refine s_qk (.slice a54 n55 c56) (by kernel_rfl) ?_
   refine s_qk (.slice a65 n66 c67) (by kernel_rfl) ?_
   refine s_qk (.slice a54 n55 c56) (by kernel_rfl) ?_
   refine s_qk (.slice a65 n66 c67) (by kernel_rfl) ?_
   refine s_qk (.nilIface) (by kernel_rfl) ?_
   refine s_nil ?_
   refine k143 _ _ ?_
   refine w_ret ?_
   refine b_ret (fn := Try.f28) (vs := [.slice a54 n55 c56, .slice a65 n66 c67, .nilIface]) (aRes_tmp (by kernel_rfl) (aRes_tmp (by kernel_rfl) (aRes_tmp (by kernel_rfl) (rfl)))) ?_
   obtain rfl := Option.some.inj r75
   exact ⟨(.slice a54 n55 c56), f49, (.slice a65 n66 c67), f60, (.nilIface), [], rfl, (FrS.step wf (((FrS.step wf ((FrS.refl (W := []) wf).extR e22) e35 Inn.nil).extR e51).extR e62) e77 (Inn.app (hf52.fresh (ntr e22.next e35.next)) (hf63.fresh (ntr (ntr e22.next e35.next) e51.next)))), m79, m81, Ev.nil, (hf52.fresh (ntr e22.next e35.next)), (hf63.fresh (ntr (ntr e22.next e35.next) e51.next)), Inn.nil, (Dj.symm (hf63.djn hm53.lt)), Dj.nil_r, Dj.nil_r⟩
 ·have r144 := ite_f h40 r31
  refine s_ql (.bool true) (x := aBin Try.prog .neq 31 (.tmp 12) (.const .nilIface) (.iface t41 x42) .nilIface) (by kernel_rfl) (aBin_nnil (by kernel_rfl)) ?_
  refine s_nil ?_
  refine k39 _ _ ?_
  refine w_cond true (by kernel_rfl) rfl (fun _ => ?_) (fun h => by cases h)
  refine w_seqk fun K145 k145 => ?_
  refine w_reg (by kernel_rfl) ?_
  refine s_qk (.iface t41 x42) (by kernel_rfl) ?_
  refine s_qk (.slice none 0 0) (by kernel_rfl) ?_
  refine s_qk (.slice none 0 0) (by kernel_rfl) ?_
  refine s_qk (.iface t41 x42) (by kernel_rfl) ?_
  refine s_nil ?_
  refine k145 _ _ ?_
  refine w_ret (th_ret ?_)
  refine b_ret (fn := Try.f28) (vs := [.slice none 0 0, .slice none 0 0, .iface t41 x42]) (aRes_tmp (by kernel_rfl) (aRes_tmp (by kernel_rfl) (aRes_tmp (by kernel_rfl) (rfl)))) ?_
  obtain rfl := Option.some.inj r144
  exact ⟨(.slice none 0 0), [], (.slice none 0 0), [], (.iface t41 x42), f33, rfl, (FrS.step wf ((FrS.refl (W := []) wf).extR e22) e35 Inn.nil), (Ow.nil (by decide)), (Ow.nil (by decide)), m36, Inn.nil, Inn.nil, (i37.fresh e22.next), Dj.nil_l, Dj.nil_l, Dj.nil_l⟩


end Go.Vd

/-! (KNy2) -/

set_option maxRecDepth 100000
set_option maxHeartbeats 4000000
set_option linter.unusedVariables false
namespace Go.Vd
open Go.Proofs
attribute [local irreducible] wpSeq wpOrd aWp
theorem c_viaductref03_SameArcs {H : AH} {hd_a : Value} {fp_a : Fp} {hd_b : Value} {fp_b : Fp} {a : List (Int × Int × Int)} {b : List (Int × Int × Int)} {r : Bool}
  (wf : WF H) (h_a : Sq enc_i64_i64_i64 3 H hd_a a fp_a) (h_b : Sq enc_i64_i64_i64 3 H hd_b b fp_b) (hr : z_viaductref03_SameArcs a b = some r) :
  ACalls Try.prog 80 #[hd_a, hd_b] H fun v H' => v = .bool r ∧ H = H' := by
 refine acalls_of_body mixed Try.func80 rfl (Nat.le_of_ble_eq_true rfl) ?_
 unfold z_viaductref03_SameArcs at hr
 refine w_seqk fun K1 k1 => ?_
 refine w_reg (by kernel_rfl) ?_
 refine s_qk (.bool false) (by kernel_rfl) ?_
 refine s_nil ?_
 refine k1 _ _ ?_
 refine w_seqk fun K2 k2 => ?_
 refine w_seqk fun K3 k3 => ?_
 refine w_reg (by kernel_rfl) ?_
 refine s_qk (hd_a) (by kernel_rfl) ?_
 refine s_ql (.int .i64 (a.length : Int)) (x := aLen Try.prog 57 hd_a H) (by kernel_rfl) (h_a.lenb (by kernel_rfl)) ?_
 refine s_qk (hd_b) (by kernel_rfl) ?_
 refine s_ql (.int .i64 (b.length : Int)) (x := aLen Try.prog 57 hd_b H) (by kernel_rfl) (h_b.lenb (by kernel_rfl)) ?_
 refine s_qk (.bool (!decide ((a.length : Int) = (b.length : Int)))) (by kernel_rfl) ?_
 refine s_nil ?_
 refine k3 _ _ ?_
 refine w_condn ((a.length : Int) = (b.length : Int)) (by kernel_rfl) rfl (fun h4 => ?_) (fun h4 => ?_)
 ·have r5 := ite_f h4 hr
  refine w_seqk fun K6 k6 => ?_
  refine w_reg (by kernel_rfl) ?_
  refine s_qk (.bool false) (by kernel_rfl) ?_
  refine s_nil ?_
  refine k6 _ _ ?_
  refine w_ret (th_ret ?_)
  refine b_ret (fn := Try.f80) (vs := [.bool false]) (aRes_tmp (by kernel_rfl) (rfl)) ?_
  obtain rfl := Option.some.inj r5
  exact ⟨rfl, rfl⟩
 ·have r7 := ite_t h4 hr
  refine w_skip ?_
  refine k2 _ _ ?_
  refine w_seqk fun K8 k8 => ?_
  refine w_seqk fun K9 k9 => ?_
  refine w_reg (by kernel_rfl) ?_
  refine s_qk (hd_a) (by kernel_rfl) ?_
  refine s_ql (.int .i64 (a.length : Int)) (x := aLen Try.prog 57 hd_a H) (by kernel_rfl) (h_a.lenb (by kernel_rfl)) ?_
  refine s_qk (.int .i64 0) (by kernel_rfl) ?_
  refine s_nil ?_
  refine k9 _ _ ?_
  obtain ⟨z13, hx11, r12⟩ := bind_some r7
  refine w_mid (fun α H14 => ∃ o10, z13 = Sum.inr o10 ∧ Has α [] ∧ H = H14) (fun K16 k16 => ?_) (fun α H14 hM => ?_)
  ·refine w_block ?_
   obtain ⟨n18, hn19⟩ := loopO_iff.1 hx11
   refine w_loopn (fun n α H20 => ∃ (i0 : Int), iterO (fun zz_ => z_viaductref03_SameArcs_l0 a b zz_) n i0 = some z13 ∧ Has α [(0, hd_a), (1, hd_b), (12, .int .i64 (a.length : Int)), (13, .int .i64 i0)] ∧ H = H20) n18 ⟨0, hn19, ⟨by kernel_rfl, by kernel_rfl, by kernel_rfl, by kernel_rfl, trivial⟩, rfl⟩ ?_
   rintro n18 α H20 ⟨i0, hi23, hh22, rfl⟩ K28 k28
   obtain ⟨n24, z25, rfl, hz26, hn27⟩ := iter_succ hi23
   obtain ⟨β, rfl⟩ := has_ex hh22
   clear hh22
   replace hz26 : z_viaductref03_SameArcs_l0 a b i0 = some z25 := hz26
   unfold z_viaductref03_SameArcs_l0 at hz26
   refine w_seqk fun K29 k29 => ?_
   refine w_reg (by kernel_rfl) ?_
   refine s_qk (.bool (decide (i0 < (a.length : Int)))) (by kernel_rfl) ?_
   refine s_nil ?_
   refine k29 _ _ ?_
   refine w_seqk fun K30 k30 => ?_
   refine w_condp (i0 < (a.length : Int)) (by kernel_rfl) rfl (fun h31 => ?_) (fun h31 => ?_)
   ·have r32 := ite_t h31 hz26
    refine w_skip ?_
    refine k30 _ _ ?_
    refine w_seqk fun K33 k33 => ?_
    refine w_block ?_
    refine w_seqk fun K34 k34 => ?_
    refine w_reg (by kernel_rfl) ?_
    refine s_qk (.int .i64 i0) (by kernel_rfl) ?_
    refine s_qk (.int .i64 i0) (by kernel_rfl) ?_
    refine s_nil ?_
    refine k34 _ _ ?_
    refine w_seqk fun K35 k35 => ?_
    refine w_draw [0, 1, 2, 3, 4, 5, 6, 7, 8] (by kernel_rfl) ?_
    refine d_qk (hd_a) (by kernel_rfl) ?_
    refine d_qk (.int .i64 i0) (by kernel_rfl) ?_
    obtain ⟨g36, r37⟩ := G_some r32
    refine d_ql (elp hd_a 3 i0.toNat 0) (x := aIndexAddr Try.prog 57 hd_a (.int .i64 i0)) (by kernel_rfl) (h_a.idxb (by kernel_rfl) g36 h31) ?_
    refine d_ql (.agg #[.int .i64 ((gt a i0).1), .int .i64 ((gt a i0).2.1), .int .i64 ((gt a i0).2.2)]) (x := aLoad Try.prog 73 (elp hd_a 3 i0.toNat 0) H) (by kernel_rfl) (h_a.ld g36 h31 (by kernel_rfl)) ?_
    refine d_qk (hd_b) (by kernel_rfl) ?_
    refine d_qk (.int .i64 i0) (by kernel_rfl) ?_
    obtain ⟨g38, r39⟩ := G_some r37
    refine d_ql (elp hd_b 3 i0.toNat 0) (x := aIndexAddr Try.prog 57 hd_b (.int .i64 i0)) (by kernel_rfl) (h_b.idxb (by kernel_rfl) g36 g38) ?_
    refine d_ql (.agg #[.int .i64 ((gt b i0).1), .int .i64 ((gt b i0).2.1), .int .i64 ((gt b i0).2.2)]) (x := aLoad Try.prog 73 (elp hd_b 3 i0.toNat 0) H) (by kernel_rfl) (h_b.ld g36 g38 (by kernel_rfl)) ?_
    refine d_ql (.bool (!decide (((gt a i0).1) = ((gt b i0).1) ∧ ((gt a i0).2.1) = ((gt b i0).2.1) ∧ ((gt a i0).2.2) = ((gt b i0).2.2)))) (x := aBin Try.prog .neq 73 (.tmp 19) (.tmp 23) (.agg #[.int .i64 ((gt a i0).1), .int .i64 ((gt a i0).2.1), .int .i64 ((gt a i0).2.2)]) (.agg #[.int .i64 ((gt b i0).1), .int .i64 ((gt b i0).2.1), .int .i64 ((gt b i0).2.2)])) (by kernel_rfl) (aBin_neq73 _ _ ((gt a i0).1) ((gt a i0).2.1) ((gt a i0).2.2) ((gt b i0).1) ((gt b i0).2.1) ((gt b i0).2.2)) ?_
    refine d_nil ?_
    refine k35 _ _ ?_
    refine w_condn (((gt a i0).1) = ((gt b i0).1) ∧ ((gt a i0).2.1) = ((gt b i0).2.1) ∧ ((gt a i0).2.2) = ((gt b i0).2.2)) (by kernel_rfl) rfl (fun h40 => ?_) (fun h40 => ?_)
    ·have r41 := ite_f h40 r39
     refine w_seqk fun K42 k42 => ?_
     refine w_reg (by kernel_rfl) ?_
     refine s_qk (.bool false) (by kernel_rfl) ?_
     refine s_nil ?_
     refine k42 _ _ ?_
     refine w_ret (bl_ret (th_ret (th_ret (bl_ret (th_ret (th_ret ?_))))))
     obtain ⟨v43, hv44, hz45⟩ := map_some r41
     subst hz45
     obtain rfl := it_inr hn27
     have hq46 := elim_inl r12
     rw [hq46] at hv44
     refine b_ret (fn := Try.f80) (vs := [.bool false]) (aRes_tmp (by kernel_rfl) (rfl)) ?_
     obtain rfl := Option.some.inj hv44
     exact ⟨rfl, rfl⟩
    ·have r47 := ite_t h40 r39
     refine w_skip ?_
     refine k33 _ _ ?_
     refine w_reg (by kernel_rfl) ?_
     obtain ⟨g48, r49⟩ := G_some r47
     refine s_w ((i0 + 1)) (k := .i64) (x := (i0 + 1)) (by kernel_rfl) (wrap64 (by have := g48; omega)) ?_
     refine s_qk (.int .i64 (i0 + 1)) (by kernel_rfl) ?_
     refine s_nil ?_
     obtain rfl := Option.some.inj r49
     exact k28 n24 _ _ (Nat.lt_succ_self _) ⟨(i0 + 1), hn27, ⟨by kernel_rfl, by kernel_rfl, by kernel_rfl, by kernel_rfl, trivial⟩, rfl⟩
   ·have r50 := ite_f h31 hz26
    refine w_exit (th_exit (th_exit (bl_eq ?_)))
    obtain rfl := Option.some.inj r50
    obtain rfl := it_inr hn27
    exact k16 _ _ ⟨_, rfl, trivial, rfl⟩
  ·obtain ⟨o10, rfl, hh17, rfl⟩ := hM
   have r51 := elim_inr r12
   obtain ⟨β, rfl⟩ := has_ex hh17
   clear hh17
   refine k8 _ _ ?_
   refine w_seqk fun K52 k52 => ?_
   refine w_reg (by kernel_rfl) ?_
   refine s_qk (.bool true) (by kernel_rfl) ?_
   refine s_nil ?_
   refine k52 _ _ ?_
   refine w_ret ?_
   refine b_ret (fn := Try.f80) (vs := [.bool true]) (aRes_tmp (by kernel_rfl) (rfl)) ?_
   obtain rfl := Option.some.inj r51
   exact ⟨rfl, rfl⟩

theorem c_viaductref03_Kept {H : AH} {hd_Arcs : Value} {fp_Arcs : Fp} {hd_full : Value} {fp_full : Fp} {N_ : Int} {Arcs : List (Int × Int × Int)} {full : List (Int × Int × Int)} {r : Bool}
  (wf : WF H) (h_Arcs : Sq enc_i64_i64_i64 3 H hd_Arcs Arcs fp_Arcs) (h_full : Sq enc_i64_i64_i64 3 H hd_full full fp_full) (hr : z_viaductref03_Kept N_ Arcs full = some r) :
  ACalls Try.prog 29 #[.agg #[.int .i64 N_, hd_Arcs], hd_full] H fun v H' => v = .bool r ∧ FrS [] H H' := by
 refine acalls_of_body mixed Try.func29 rfl (Nat.le_of_ble_eq_true rfl) ?_
 unfold z_viaductref03_Kept at hr
 refine w_seqk fun K1 k1 => ?_
 refine w_reg (by kernel_rfl) ?_
 refine s_rwl wf [.int .i64 N_, hd_Arcs] (one_cons (rfl) (one_cons (h_Arcs.one1) (one_nil))) (by kernel_rfl) fun b2 H3 e4 hb5 r6 => ?_
 refine s_qk (.bool false) (by kernel_rfl) ?_
 refine s_nil ?_
 refine k1 _ _ ?_
 refine w_seqk fun K8 k8 => ?_
 refine w_reg (by kernel_rfl) ?_
 refine s_qk (.pointer (some ⟨b2, 1, none⟩)) (by kernel_rfl) ?_
 refine s_ql (hd_Arcs) (x := aLoad Try.prog 57 (.pointer (some ⟨b2, 1, none⟩)) H3) (by kernel_rfl) (r6.ld (by kernel_rfl)) ?_
 have u9 := (h_Arcs.ext e4)
 refine s_ql (.int .i64 (Arcs.length : Int)) (x := aLen Try.prog 57 hd_Arcs H3) (by kernel_rfl) (u9.lenb (by kernel_rfl)) ?_
 refine s_qk (.int .i64 (Arcs.length : Int)) (by kernel_rfl) ?_
 refine s_nil ?_
 refine k8 _ _ ?_
 refine w_seqk fun K10 k10 => ?_
 refine w_draw [0, 1, 2, 3, 4, 5, 6, 7, 8, 9, 10, 11, 12, 13, 14, 15, 16, 17, 18, 19, 20, 21, 22, 23, 24, 25, 26, 27, 28, 29, 30] (by kernel_rfl) ?_
 refine d_qk (hd_full) (by kernel_rfl) ?_
 have u11 := (h_full.ext e4)
 refine d_ql (.int .i64 (full.length : Int)) (x := aLen Try.prog 57 hd_full H3) (by kernel_rfl) (u11.lenb (by kernel_rfl)) ?_
 refine d_qk (.int .i64 (Arcs.length : Int)) (by kernel_rfl) ?_
 obtain ⟨g12, r13⟩ := G_some hr
 refine d_w (((Arcs.length : Int) + 2)) (k := .i64) (x := ((Arcs.length : Int) + 2)) (by kernel_rfl) (wrap64 (by have := g12; omega)) ?_
 refine d_b ((full.length : Int) = ((Arcs.length : Int) + 2)) (by kernel_rfl) (fun h14 => ?_) (fun h14 => ?_)
 ·have r15 := ite_t h14 r13
  refine d_qk (.bool true) (by kernel_rfl) ?_
  refine d_qk (hd_full) (by kernel_rfl) ?_
  refine d_qk (.int .i64 (Arcs.length : Int)) (by kernel_rfl) ?_
  obtain ⟨g16, r17⟩ := G_some r15
  obtain ⟨s18, q19, hs20⟩ := Sq.cut (P := Try.prog) u11 (t := 57) (by kernel_rfl) (lo := none) (hi := (some (.int .i64 (Arcs.length : Int)))) (l := 0) (r := Arcs.length) (rfl) (aBound_int _ (by have := g16; omega)) (by have := g16; omega) (by have := g16; omega)
  obtain ⟨a21, n22, c23, rfl⟩ := hs20.form
  refine d_ql (.slice a21 n22 c23) (by kernel_rfl) q19 ?_
  refine d_qk (.pointer (some ⟨b2, 1, none⟩)) (by kernel_rfl) ?_
  refine d_ql (hd_Arcs) (x := aLoad Try.prog 57 (.pointer (some ⟨b2, 1, none⟩)) H3) (by kernel_rfl) (r6.ld (by kernel_rfl)) ?_
  obtain ⟨y25, hy26, r27⟩ := bind_some r17
  refine d_ck 80 #[.slice a21 n22 c23, hd_Arcs] (by kernel_rfl) (c_viaductref03_SameArcs e4.wf hs20 u9 hy26) ?_
  rintro _ _ ⟨rfl, rfl⟩
  refine ⟨st_nil, ?_⟩
  by_cases h30 : y25 = true
  ·have r31 := ite_t h30 r27
   rw [h30]
   refine d_qk (.bool true) (by kernel_rfl) ?_
   refine d_qk (.bool true) (by kernel_rfl) ?_
   refine d_qk (hd_full) (by kernel_rfl) ?_
   refine d_qk (.int .i64 (Arcs.length : Int)) (by kernel_rfl) ?_
   obtain ⟨g33, r34⟩ := G_some r31
   refine d_ql (elp hd_full 3 (Arcs.length : Int).toNat 0) (x := aIndexAddr Try.prog 57 hd_full (.int .i64 (Arcs.length : Int))) (by kernel_rfl) (u11.idxb (by kernel_rfl) g33.1 g33.2) ?_
   refine d_ql (.agg #[.int .i64 ((gt full (Arcs.length : Int)).1), .int .i64 ((gt full (Arcs.length : Int)).2.1), .int .i64 ((gt full (Arcs.length : Int)).2.2)]) (x := aLoad Try.prog 73 (elp hd_full 3 (Arcs.length : Int).toNat 0) H3) (by kernel_rfl) (u11.ld g33.1 g33.2 (by kernel_rfl)) ?_
   refine d_qk (.agg #[.int .i64 41, .int .i64 0, .int .i64 0]) (by kernel_rfl) ?_
   refine d_ql (.bool (decide (((gt full (Arcs.length : Int)).1) = 41 ∧ ((gt full (Arcs.length : Int)).2.1) = 0 ∧ ((gt full (Arcs.length : Int)).2.2) = 0))) (x := aBin Try.prog .eql 73 (.tmp 26) (.tmp 27) (.agg #[.int .i64 ((gt full (Arcs.length : Int)).1), .int .i64 ((gt full (Arcs.length : Int)).2.1), .int .i64 ((gt full (Arcs.length : Int)).2.2)]) (.agg #[.int .i64 41, .int .i64 0, .int .i64 0])) (by kernel_rfl) (aBin_eql73 _ _ ((gt full (Arcs.length : Int)).1) ((gt full (Arcs.length : Int)).2.1) ((gt full (Arcs.length : Int)).2.2) 41 0 0) ?_
   refine d_qk (.bool (decide (((gt full (Arcs.length : Int)).1) = 41 ∧ ((gt full (Arcs.length : Int)).2.1) = 0 ∧ ((gt full (Arcs.length : Int)).2.2) = 0))) (by kernel_rfl) ?_
   refine d_qk (.bool (decide (((gt full (Arcs.length : Int)).1) = 41 ∧ ((gt full (Arcs.length : Int)).2.1) = 0 ∧ ((gt full (Arcs.length : Int)).2.2) = 0))) (by kernel_rfl) ?_
   by_cases h35 : ((gt full (Arcs.length : Int)).1) = 41 ∧ ((gt full (Arcs.length : Int)).2.1) = 0 ∧ ((gt full (Arcs.length : Int)).2.2) = 0
   ·have r36 := ite_t h35 r34
    rw [decide_eq_true h35]
    refine d_qk (hd_full) (by kernel_rfl) ?_
    refine d_qk (.int .i64 (Arcs.length : Int)) (by kernel_rfl) ?_
    obtain ⟨g37, r38⟩ := G_some r36
    refine d_w (((Arcs.length : Int) + 1)) (k := .i64) (x := ((Arcs.length : Int) + 1)) (by kernel_rfl) (wrap64 (by have := g37; omega)) ?_
    obtain ⟨g39, r40⟩ := G_some r38
    refine d_ql (elp hd_full 3 ((Arcs.length : Int) + 1).toNat 0) (x := aIndexAddr Try.prog 57 hd_full (.int .i64 ((Arcs.length : Int) + 1))) (by kernel_rfl) (u11.idxb (by kernel_rfl) g39.1 g39.2) ?_
    refine d_ql (.agg #[.int .i64 ((gt full ((Arcs.length : Int) + 1)).1), .int .i64 ((gt full ((Arcs.length : Int) + 1)).2.1), .int .i64 ((gt full ((Arcs.length : Int) + 1)).2.2)]) (x := aLoad Try.prog 73 (elp hd_full 3 ((Arcs.length : Int) + 1).toNat 0) H3) (by kernel_rfl) (u11.ld g39.1 g39.2 (by kernel_rfl)) ?_
    refine d_qk (.agg #[.int .i64 42, .int .i64 0, .int .i64 0]) (by kernel_rfl) ?_
    refine d_ql (.bool (decide (((gt full ((Arcs.length : Int) + 1)).1) = 42 ∧ ((gt full ((Arcs.length : Int) + 1)).2.1) = 0 ∧ ((gt full ((Arcs.length : Int) + 1)).2.2) = 0))) (x := aBin Try.prog .eql 73 (.tmp 35) (.tmp 36) (.agg #[.int .i64 ((gt full ((Arcs.length : Int) + 1)).1), .int .i64 ((gt full ((Arcs.length : Int) + 1)).2.1), .int .i64 ((gt full ((Arcs.length : Int) + 1)).2.2)]) (.agg #[.int .i64 42, .int .i64 0, .int .i64 0])) (by kernel_rfl) (aBin_eql73 _ _ ((gt full ((Arcs.length : Int) + 1)).1) ((gt full ((Arcs.length : Int) + 1)).2.1) ((gt full ((Arcs.length : Int) + 1)).2.2) 42 0 0) ?_
    refine d_qk (.bool (decide (((gt full ((Arcs.length : Int) + 1)).1) = 42 ∧ ((gt full ((Arcs.length : Int) + 1)).2.1) = 0 ∧ ((gt full ((Arcs.length : Int) + 1)).2.2) = 0))) (by kernel_rfl) ?_
    refine d_qk (.bool (decide (((gt full ((Arcs.length : Int) + 1)).1) = 42 ∧ ((gt full ((Arcs.length : Int) + 1)).2.1) = 0 ∧ ((gt full ((Arcs.length : Int) + 1)).2.2) = 0))) (by kernel_rfl) ?_
    refine d_nil ?_
    refine k10 _ _ ?_
    refine w_ret ?_
    refine b_ret (fn := Try.f29) (vs := [.bool (decide (((gt full ((Arcs.length : Int) + 1)).1) = 42 ∧ ((gt full ((Arcs.length : Int) + 1)).2.1) = 0 ∧ ((gt full ((Arcs.length : Int) + 1)).2.2) = 0))]) (aRes_tmp (by kernel_rfl) (rfl)) ?_
    obtain rfl := Option.some.inj r40
    exact ⟨rfl, ((FrS.refl (W := []) wf).extR e4)⟩
   ·have r41 := ite_f h35 r34
    rw [decide_eq_false h35]
    refine d_idle (by kernel_rfl) ?_
    refine d_idle (by kernel_rfl) ?_
    refine d_idle (by kernel_rfl) ?_
    refine d_idle (by kernel_rfl) ?_
    refine d_idle (by kernel_rfl) ?_
    refine d_idle (by kernel_rfl) ?_
    refine d_idle (by kernel_rfl) ?_
    refine d_qk (.bool false) (by kernel_rfl) ?_
    refine d_qk (.bool false) (by kernel_rfl) ?_
    refine d_nil ?_
    refine k10 _ _ ?_
    refine w_ret ?_
    refine b_ret (fn := Try.f29) (vs := [.bool false]) (aRes_tmp (by kernel_rfl) (rfl)) ?_
    obtain rfl := Option.some.inj r41
    exact ⟨rfl, ((FrS.refl (W := []) wf).extR e4)⟩
  ·have r42 := ite_f h30 r27
   rw [nb h30]
   refine d_qk (.bool false) (by kernel_rfl) ?_
   refine d_qk (.bool false) (by kernel_rfl) ?_
   refine d_idle (by kernel_rfl) ?_
   refine d_idle (by kernel_rfl) ?_
   refine d_idle (by kernel_rfl) ?_
   refine d_idle (by kernel_rfl) ?_
   refine d_idle (by kernel_rfl) ?_
   refine d_idle (by kernel_rfl) ?_
   refine d_qk (.bool false) (by kernel_rfl) ?_
   refine d_qk (.bool false) (by kernel_rfl) ?_
   refine d_idle (by kernel_rfl) ?_
   refine d_idle (by kernel_rfl) ?_
   refine d_idle (by kernel_rfl) ?_
   refine d_idle (by kernel_rfl) ?_
   refine d_idle (by kernel_rfl) ?_
   refine d_idle (by kernel_rfl) ?_
   refine d_idle (by kernel_rfl) ?_
   refine d_qk (.bool false) (by kernel_rfl) ?_
   refine d_qk (.bool false) (by kernel_rfl) ?_
   refine d_nil ?_
   refine k10 _ _ ?_
   refine w_ret ?_
   refine b_ret (fn := Try.f29) (vs := [.bool false]) (aRes_tmp (by kernel_rfl) (rfl)) ?_
   obtain rfl := Option.some.inj r42
   exact ⟨rfl, ((FrS.refl (W := []) wf).extR e4)⟩
 ·have r44 := ite_f h14 r13
  refine d_qk (.bool false) (by kernel_rfl) ?_
  refine d_idle (by kernel_rfl) ?_
  refine d_idle (by kernel_rfl) ?_
  refine d_idle (by kernel_rfl) ?_
  refine d_idle (by kernel_rfl) ?_
  refine d_idle (by kernel_rfl) ?_
  refine d_idle (by kernel_rfl) ?_
  refine d_qk (.bool false) (by kernel_rfl) ?_
  refine d_qk (.bool false) (by kernel_rfl) ?_
  refine d_idle (by kernel_rfl) ?_
  refine d_idle (by kernel_rfl) ?_
  refine d_idle (by kernel_rfl) ?_
  refine d_idle (by kernel_rfl) ?_
  refine d_idle (by kernel_rfl) ?_
  refine d_idle (by kernel_rfl) ?_
  refine d_qk (.bool false) (by kernel_rfl) ?_
  refine d_qk (.bool false) (by kernel_rfl) ?_
  refine d_idle (by kernel_rfl) ?_
  refine d_idle (by kernel_rfl) ?_
  refine d_idle (by kernel_rfl) ?_
  refine d_idle (by kernel_rfl) ?_
  refine d_idle (by kernel_rfl) ?_
  refine d_idle (by kernel_rfl) ?_
  refine d_idle (by kernel_rfl) ?_
  refine d_qk (.bool false) (by kernel_rfl) ?_
  refine d_qk (.bool false) (by kernel_rfl) ?_
  refine d_nil ?_
  refine k10 _ _ ?_
  refine w_ret ?_
  refine b_ret (fn := Try.f29) (vs := [.bool false]) (aRes_tmp (by kernel_rfl) (rfl)) ?_
  obtain rfl := Option.some.inj r44
  exact ⟨rfl, ((FrS.refl (W := []) wf).extR e4)⟩

theorem c_viaductref01_E {H : AH} {n_ : Int} {r : Int}
  (wf : WF H) (hr : z_viaductref01_E n_ = some r) :
  ACalls Try.prog 70 #[.int .i64 n_] H fun v H' => v = .agg #[.int .i64 r, .slice none 0 0] ∧ FrS [] H H' := by
 refine acalls_of_body mixed Try.func70 rfl (Nat.le_of_ble_eq_true rfl) ?_
 unfold z_viaductref01_E at hr
 refine w_seqk fun K1 k1 => ?_
 refine w_reg (by kernel_rfl) ?_
 refine s_rwk wf [.int .i64 0, .slice none 0 0] (by kernel_rfl) fun b2 H3 e4 hb5 r6 => ?_
 refine s_nil ?_
 refine k1 _ _ ?_
 refine w_seqk fun K8 k8 => ?_
 refine w_reg (by kernel_rfl) ?_
 refine s_qk (.int .i64 n_) (by kernel_rfl) ?_
 refine s_qk (.agg #[.int .i64 n_, .slice none 0 0]) (by kernel_rfl) ?_
 obtain ⟨H9, q10, e11, r12⟩ := Row.store (P := Try.prog) (t := 46) (p := 0) e4.wf r6 (.agg #[.int .i64 n_, .slice none 0 0]) [.int .i64 n_, .slice none 0 0] (by kernel_rfl) (by kernel_rfl) (one_cons (rfl) (one_cons (rfl) (one_nil))) (Nat.le_of_ble_eq_true (by kernel_rfl)) [.int .i64 n_, .slice none 0 0] (by kernel_rfl)
 refine s_ek (undef) (by kernel_rfl) (map_ok q10) ?_
 refine s_nil ?_
 refine k8 _ _ ?_
 refine w_ret ?_
 refine b_ret (fn := Try.f70) (vs := [.agg #[.int .i64 n_, .slice none 0 0]]) (aRes_cell (Eq.trans (b := aLoad Try.prog 46 (.pointer (some ⟨b2, 0, none⟩)) H9) (by kernel_rfl) (r12.ld (by kernel_rfl))) (rfl)) ?_
 obtain rfl := Option.some.inj hr
 exact ⟨rfl, (FrS.step wf ((FrS.refl (W := []) wf).extR e4) e11 (hb5.fresh (Nat.le_refl _)))⟩

theorem c_viaductref01_At {H : AH} {hd_Places : Value} {fp_Places : Fp} {kind : Int} {at_ : Int} {Code : Int} {Places : List (Int × Int)} {r : Int × List (Int × Int)}
  (wf : WF H) (h_Places : Sq enc_i64_i64 2 H hd_Places Places fp_Places) (hr : z_viaductref01_At kind at_ Code Places = some r) :
  ACalls Try.prog 111 #[.int .i64 kind, .int .i64 at_, .agg #[.int .i64 Code, hd_Places]] H fun v H' => ∃ (s3 : Value) (f4 : Fp), v = .agg #[.int .i64 r.1, s3] ∧ FrS [] H H' ∧ Ow enc_i64_i64 2 H' s3 r.2 f4 ∧ Inn [] H f4 := by
 refine acalls_of_body mixed Try.func111 rfl (Nat.le_of_ble_eq_true rfl) ?_
 unfold z_viaductref01_At at hr
 refine w_seqk fun K6 k6 => ?_
 refine w_reg (by kernel_rfl) ?_
 refine s_rwl wf [.int .i64 Code, hd_Places] (one_cons (rfl) (one_cons (h_Places.one1) (one_nil))) (by kernel_rfl) fun b7 H8 e9 hb10 r11 => ?_
 refine s_rwk e9.wf [.int .i64 0, .slice none 0 0] (by kernel_rfl) fun b13 H14 e15 hb16 r17 => ?_
 refine s_nil ?_
 refine k6 _ _ ?_
 refine w_seqk fun K19 k19 => ?_
 refine w_reg (by kernel_rfl) ?_
 refine s_qk (.int .i64 kind) (by kernel_rfl) ?_
 refine s_qk (.int .i64 at_) (by kernel_rfl) ?_
 refine s_qk (.agg #[.int .i64 kind, .int .i64 at_]) (by kernel_rfl) ?_
 refine s_owk (enc := enc_i64_i64) (sz := 2) e15.wf [(kind, at_)] 1 (by decide) (fun _ _ => rfl) (fun _ _ => rfl) rfl (by kernel_rfl) fun s20 f21 H22 e23 hf24 hm25 => ?_
 obtain ⟨a26, n27, c28, rfl⟩ := hm25.form
 refine s_qk (.slice a26 n27 c28) (by kernel_rfl) ?_
 refine s_nil ?_
 refine k19 _ _ ?_
 refine w_seqk fun K30 k30 => ?_
 refine w_reg (by kernel_rfl) ?_
 refine s_qk (.slice a26 n27 c28) (by kernel_rfl) ?_
 refine s_qk (.pointer (some ⟨b7, 1, none⟩)) (by kernel_rfl) ?_
 have u31 := ((r11.ext e15).ext e23)
 refine s_ql (hd_Places) (x := aLoad Try.prog 44 (.pointer (some ⟨b7, 1, none⟩)) H22) (by kernel_rfl) (u31.ld (by kernel_rfl)) ?_
 obtain ⟨g32, r33⟩ := G_some hr
 have u41 := (((h_Places.ext e9).ext e15).ext e23)
 obtain ⟨s34, H35, f36, q40, e37, hm38, hf39⟩ := Ow.append (P := Try.prog) 16 e23.wf hm25 u41 (fun _ _ => rfl) (at_ := #[44, 44]) rfl rfl (by kernel_rfl) (by kernel_rfl) (by decide) (by have := g32; first | omega | (simp only [List.length_cons, List.length_nil] at this ⊢; omega) | (simp at this ⊢; omega))
 obtain ⟨a42, n43, c44, rfl⟩ := hm38.form
 refine s_ek (.slice a42 n43 c44) (by kernel_rfl) (q40) ?_
 refine s_qk (.slice a42 n43 c44) (by kernel_rfl) ?_
 refine s_nil ?_
 refine k30 _ _ ?_
 refine w_seqk fun K46 k46 => ?_
 refine w_reg (by kernel_rfl) ?_
 refine s_qk (.pointer (some ⟨b7, 0, none⟩)) (by kernel_rfl) ?_
 have u47 := (u31.frS e37 (hf24.djn (r11.ltF.le e15.next)))
 refine s_ql (.int .i64 Code) (x := aLoad Try.prog 3 (.pointer (some ⟨b7, 0, none⟩)) H35) (by kernel_rfl) (u47.ld (by kernel_rfl)) ?_
 refine s_qk (.slice a42 n43 c44) (by kernel_rfl) ?_
 refine s_qk (.agg #[.int .i64 Code, .slice a42 n43 c44]) (by kernel_rfl) ?_
 have u52 := ((r17.ext e23).frS e37 (hf24.djn r17.ltF))
 obtain ⟨H48, q49, e50, r51⟩ := Row.store (P := Try.prog) (t := 46) (p := 0) e37.wf u52 (.agg #[.int .i64 Code, .slice a42 n43 c44]) [.int .i64 Code, .slice a42 n43 c44] (by kernel_rfl) (by kernel_rfl) (one_cons (rfl) (one_cons (hm38.one1) (one_nil))) (Nat.le_of_ble_eq_true (by kernel_rfl)) [.int .i64 Code, .slice a42 n43 c44] (by kernel_rfl)
 refine s_ek (undef) (by kernel_rfl) (map_ok q49) ?_
 refine s_nil ?_
 refine k46 _ _ ?_
 refine w_ret ?_
 refine b_ret (fn := Try.f111) (vs := [.agg #[.int .i64 Code, .slice a42 n43 c44]]) (aRes_cell (Eq.trans (b := aLoad Try.prog 46 (.pointer (some ⟨b13, 0, none⟩)) H48) (by kernel_rfl) (r51.ld (by kernel_rfl))) (rfl)) ?_
 have u53 := (hm38.fr e50 (Dj.symm (hf39.dj (hf24.djn r17.ltF) (r17.ltF.le e23.next))))
 obtain rfl := Option.some.inj r33
 exact ⟨(.slice a42 n43 c44), f36, rfl, (FrS.step wf (FrS.step wf ((((FrS.refl (W := []) wf).extR e9).extR e15).extR e23) e37 (hf24.fresh (ntr e9.next e15.next))) e50 (hb16.fresh e9.next)), u53, (Inn.trans (hf24.fresh (ntr e9.next e15.next)) (ntr (ntr e9.next e15.next) e23.next) hf39)⟩

theorem c_viaductref03_DocCheck {H : AH} {hd_Arcs : Value} {fp_Arcs : Fp} {N_ : Int} {Arcs : List (Int × Int × Int)} {r : Int × List (Int × Int)}
  (wf : WF H) (h_Arcs : Sq enc_i64_i64_i64 3 H hd_Arcs Arcs fp_Arcs) (hr : z_viaductref03_DocCheck N_ Arcs = some r) :
  ACalls Try.prog 81 #[.agg #[.int .i64 N_, hd_Arcs]] H fun v H' => ∃ (s3 : Value) (f4 : Fp), v = .agg #[.int .i64 r.1, s3] ∧ FrS [] H H' ∧ Ow enc_i64_i64 2 H' s3 r.2 f4 ∧ Inn [] H f4 := by
 refine acalls_of_body mixed Try.func81 rfl (Nat.le_of_ble_eq_true rfl) ?_
 unfold z_viaductref03_DocCheck at hr
 refine w_seqk fun K6 k6 => ?_
 refine w_reg (by kernel_rfl) ?_
 refine s_rwl wf [.int .i64 N_, hd_Arcs] (one_cons (rfl) (one_cons (h_Arcs.one1) (one_nil))) (by kernel_rfl) fun b7 H8 e9 hb10 r11 => ?_
 refine s_rwk e9.wf [.int .i64 0, .slice none 0 0] (by kernel_rfl) fun b13 H14 e15 hb16 r17 => ?_
 refine s_nil ?_
 refine k6 _ _ ?_
 refine w_seqk fun K19 k19 => ?_
 refine w_seqk fun K20 k20 => ?_
 obtain ⟨o21, hx22, r23⟩ := bind_some hr
 refine w_mid (fun α H24 => Has α [(1, .pointer (some ⟨b7, 0, none⟩)), (2, .pointer (some ⟨b13, 0, none⟩)), (18, .bool o21)] ∧ H14 = H24) (fun K26 k26 => ?_) (fun α H24 hM => ?_)
 ·refine w_reg (by kernel_rfl) ?_
  refine s_qk (.pointer (some ⟨b7, 0, none⟩)) (by kernel_rfl) ?_
  have u28 := (r11.ext e15)
  refine s_ql (.int .i64 N_) (x := aLoad Try.prog 3 (.pointer (some ⟨b7, 0, none⟩)) H14) (by kernel_rfl) (u28.ld (by kernel_rfl)) ?_
  refine s_b (N_ < 0) (by kernel_rfl) (fun h29 => ?_) (fun h29 => ?_)
  ·have r30 := ite_t h29 hx22
   refine s_qk (.bool true) (by kernel_rfl) ?_
   refine s_no (by kernel_rfl) ?_
   refine s_no (by kernel_rfl) ?_
   refine s_no (by kernel_rfl) ?_
   refine s_qk (.bool true) (by kernel_rfl) ?_
   refine s_qk (.bool true) (by kernel_rfl) ?_
   refine s_no (by kernel_rfl) ?_
   refine s_no (by kernel_rfl) ?_
   refine s_no (by kernel_rfl) ?_
   refine s_no (by kernel_rfl) ?_
   refine s_qk (.bool true) (by kernel_rfl) ?_
   refine s_nil ?_
   obtain rfl := Option.some.inj r30
   exact k26 _ _ ⟨⟨by kernel_rfl, by kernel_rfl, by kernel_rfl, trivial⟩, rfl⟩
  ·have r31 := ite_f h29 hx22
   refine s_qk (.bool false) (by kernel_rfl) ?_
   refine s_qk (.pointer (some ⟨b7, 0, none⟩)) (by kernel_rfl) ?_
   refine s_ql (.int .i64 N_) (x := aLoad Try.prog 3 (.pointer (some ⟨b7, 0, none⟩)) H14) (by kernel_rfl) (u28.ld (by kernel_rfl)) ?_
   refine s_b (N_ > 65536) (by kernel_rfl) (fun h32 => ?_) (fun h32 => ?_)
   ·have r33 := ite_t h32 r31
    refine s_qk (.bool true) (by kernel_rfl) ?_
    refine s_qk (.bool true) (by kernel_rfl) ?_
    refine s_no (by kernel_rfl) ?_
    refine s_no (by kernel_rfl) ?_
    refine s_no (by kernel_rfl) ?_
    refine s_no (by kernel_rfl) ?_
    refine s_qk (.bool true) (by kernel_rfl) ?_
    refine s_nil ?_
    obtain rfl := Option.some.inj r33
    exact k26 _ _ ⟨⟨by kernel_rfl, by kernel_rfl, by kernel_rfl, trivial⟩, rfl⟩
   ·have r34 := ite_f h32 r31
    refine s_qk (.bool false) (by kernel_rfl) ?_
    refine s_qk (.bool false) (by kernel_rfl) ?_
    refine s_qk (.pointer (some ⟨b7, 1, none⟩)) (by kernel_rfl) ?_
    refine s_ql (hd_Arcs) (x := aLoad Try.prog 57 (.pointer (some ⟨b7, 1, none⟩)) H14) (by kernel_rfl) (u28.ld (by kernel_rfl)) ?_
    have u35 := ((h_Arcs.ext e9).ext e15)
    refine s_ql (.int .i64 (Arcs.length : Int)) (x := aLen Try.prog 57 hd_Arcs H14) (by kernel_rfl) (u35.lenb (by kernel_rfl)) ?_
    refine s_qk (.bool (decide ((Arcs.length : Int) > 262144))) (by kernel_rfl) ?_
    refine s_qk (.bool (decide ((Arcs.length : Int) > 262144))) (by kernel_rfl) ?_
    refine s_nil ?_
    obtain rfl := Option.some.inj r34
    exact k26 _ _ ⟨⟨by kernel_rfl, by kernel_rfl, by kernel_rfl, trivial⟩, rfl⟩
 ·obtain ⟨hh27, rfl⟩ := hM
  obtain ⟨β, rfl⟩ := has_ex hh27
  clear hh27
  refine k20 _ _ ?_
  refine w_cond (o21) (by kernel_rfl) rfl (fun h36 => ?_) (fun h36 => ?_)
  ·have r37 := ite_t h36 r23
   refine w_seqk fun K38 k38 => ?_
   refine w_reg (by kernel_rfl) ?_
   obtain ⟨y39, hy40, r41⟩ := bind_some r37
   refine s_ck 70 #[.int .i64 9] (by kernel_rfl) (c_viaductref01_E e15.wf hy40) ?_
   rintro _ H42 ⟨rfl, e43⟩
   have u48 := (r17.frS e43 Dj.nil_l)
   obtain ⟨H44, q45, e46, r47⟩ := Row.store (P := Try.prog) (t := 46) (p := 0) e43.wf u48 (.agg #[.int .i64 y39, .slice none 0 0]) [.int .i64 y39, .slice none 0 0] (by kernel_rfl) (by kernel_rfl) (one_cons (rfl) (one_cons (rfl) (one_nil))) (Nat.le_of_ble_eq_true (by kernel_rfl)) [.int .i64 y39, .slice none 0 0] (by kernel_rfl)
   refine s_ek (undef) (by kernel_rfl) (map_ok q45) ?_
   refine s_nil ?_
   refine k38 _ _ ?_
   refine w_ret (th_ret ?_)
   refine b_ret (fn := Try.f81) (vs := [.agg #[.int .i64 y39, .slice none 0 0]]) (aRes_cell (Eq.trans (b := aLoad Try.prog 46 (.pointer (some ⟨b13, 0, none⟩)) H44) (by kernel_rfl) (r47.ld (by kernel_rfl))) (rfl)) ?_
   obtain rfl := Option.some.inj r41
   exact ⟨(.slice none 0 0), [], rfl, (FrS.step wf (FrS.step wf (((FrS.refl (W := []) wf).extR e9).extR e15) e43 Inn.nil) e46 (hb16.fresh e9.next)), (Ow.nil (by decide)), Inn.nil⟩
  ·have r49 := ite_bf h36 r23
   refine w_skip ?_
   refine k19 _ _ ?_
   refine w_seqk fun K50 k50 => ?_
   refine w_seqk fun K51 k51 => ?_
   refine w_reg (by kernel_rfl) ?_
   refine s_qk (.pointer (some ⟨b7, 1, none⟩)) (by kernel_rfl) ?_
   have u52 := (r11.ext e15)
   refine s_ql (hd_Arcs) (x := aLoad Try.prog 57 (.pointer (some ⟨b7, 1, none⟩)) H14) (by kernel_rfl) (u52.ld (by kernel_rfl)) ?_
   have u53 := ((h_Arcs.ext e9).ext e15)
   refine s_ql (.int .i64 (Arcs.length : Int)) (x := aLen Try.prog 57 hd_Arcs H14) (by kernel_rfl) (u53.lenb (by kernel_rfl)) ?_
   refine s_qk (.int .i64 0) (by kernel_rfl) ?_
   refine s_nil ?_
   refine k51 _ _ ?_
   obtain ⟨z57, hx55, r56⟩ := bind_some r49
   refine w_mid (fun α H58 => ∃ o54, z57 = Sum.inr o54 ∧ Has α [(2, .pointer (some ⟨b13, 0, none⟩))] ∧ FrS [] H14 H58) (fun K60 k60 => ?_) (fun α H58 hM => ?_)
   ·refine w_block ?_
    obtain ⟨n62, hn63⟩ := loopO_iff.1 hx55
    refine w_loopn (fun n α H64 => ∃ (i0 : Int), iterO (fun zz_ => z_viaductref03_DocCheck_l0 N_ Arcs zz_) n i0 = some z57 ∧ Has α [(1, .pointer (some ⟨b7, 0, none⟩)), (2, .pointer (some ⟨b13, 0, none⟩)), (21, hd_Arcs), (22, .int .i64 (Arcs.length : Int)), (23, .int .i64 i0)] ∧ FrS [] H14 H64) n62 ⟨0, hn63, ⟨by kernel_rfl, by kernel_rfl, by kernel_rfl, by kernel_rfl, by kernel_rfl, trivial⟩, (FrS.refl (W := []) e15.wf)⟩ ?_
    rintro n62 α H64 ⟨i0, hi67, hh66, e65⟩ K72 k72
    obtain ⟨n68, z69, rfl, hz70, hn71⟩ := iter_succ hi67
    obtain ⟨β, rfl⟩ := has_ex hh66
    clear hh66
    replace hz70 : z_viaductref03_DocCheck_l0 N_ Arcs i0 = some z69 := hz70
    unfold z_viaductref03_DocCheck_l0 at hz70
    refine w_seqk fun K73 k73 => ?_
    refine w_reg (by kernel_rfl) ?_
    refine s_qk (.bool (decide (i0 < (Arcs.length : Int)))) (by kernel_rfl) ?_
    refine s_nil ?_
    refine k73 _ _ ?_
    refine w_seqk fun K74 k74 => ?_
    refine w_condp (i0 < (Arcs.length : Int)) (by kernel_rfl) rfl (fun h75 => ?_) (fun h75 => ?_)
    ·have r76 := ite_t h75 hz70
     refine w_skip ?_
     refine k74 _ _ ?_
     refine w_seqk fun K77 k77 => ?_
     refine w_block ?_
     refine w_seqk fun K78 k78 => ?_
     refine w_reg (by kernel_rfl) ?_
     refine s_qk (.int .i64 i0) (by kernel_rfl) ?_
     obtain ⟨g79, r80⟩ := G_some r76
     have u81 := (u53.fr e65 Dj.nil_l)
     refine s_ql (elp hd_Arcs 3 i0.toNat 0) (x := aIndexAddr Try.prog 57 hd_Arcs (.int .i64 i0)) (by kernel_rfl) (u81.idxb (by kernel_rfl) g79 h75) ?_
     refine s_ql (.agg #[.int .i64 ((gt Arcs i0).1), .int .i64 ((gt Arcs i0).2.1), .int .i64 ((gt Arcs i0).2.2)]) (x := aLoad Try.prog 73 (elp hd_Arcs 3 i0.toNat 0) H64) (by kernel_rfl) (u81.ld g79 h75 (by kernel_rfl)) ?_
     refine s_rwk e65.wf [.int .i64 0, .int .i64 0, .int .i64 0] (by kernel_rfl) fun b82 H83 e84 hb85 r86 => ?_
     refine s_qk (.int .i64 i0) (by kernel_rfl) ?_
     obtain ⟨H88, q89, e90, r91⟩ := Row.store (P := Try.prog) (t := 73) (p := 0) e84.wf r86 (.agg #[.int .i64 ((gt Arcs i0).1), .int .i64 ((gt Arcs i0).2.1), .int .i64 ((gt Arcs i0).2.2)]) [.int .i64 ((gt Arcs i0).1), .int .i64 ((gt Arcs i0).2.1), .int .i64 ((gt Arcs i0).2.2)] (by kernel_rfl) (by kernel_rfl) (one_cons (rfl) (one_cons (rfl) (one_cons (rfl) (one_nil)))) (Nat.le_of_ble_eq_true (by kernel_rfl)) [.int .i64 ((gt Arcs i0).1), .int .i64 ((gt Arcs i0).2.1), .int .i64 ((gt Arcs i0).2.2)] (by kernel_rfl)
     refine s_ek (undef) (by kernel_rfl) (map_ok q89) ?_
     refine s_nil ?_
     refine k78 _ _ ?_
     refine w_seqk fun K92 k92 => ?_
     refine w_seqk fun K93 k93 => ?_
     obtain ⟨o94, hx95, r96⟩ := bind_some r80
     refine w_mid (fun α H97 => Has α [(1, .pointer (some ⟨b7, 0, none⟩)), (2, .pointer (some ⟨b13, 0, none⟩)), (3, .int .i64 i0), (4, .pointer (some ⟨b82, 0, none⟩)), (21, hd_Arcs), (22, .int .i64 (Arcs.length : Int)), (23, .int .i64 i0), (49, .bool o94)] ∧ H88 = H97) (fun K99 k99 => ?_) (fun α H97 hM => ?_)
     ·refine w_reg (by kernel_rfl) ?_
      refine s_qk (.pointer (some ⟨b82, 0, none⟩)) (by kernel_rfl) ?_
      refine s_ql (.int .i64 ((gt Arcs i0).1)) (x := aLoad Try.prog 3 (.pointer (some ⟨b82, 0, none⟩)) H88) (by kernel_rfl) (r91.ld (by kernel_rfl)) ?_
      refine s_b (((gt Arcs i0).1) < 0) (by kernel_rfl) (fun h101 => ?_) (fun h101 => ?_)
      ·have r102 := ite_t h101 hx95
       refine s_qk (.bool true) (by kernel_rfl) ?_
       refine s_no (by kernel_rfl) ?_
       refine s_no (by kernel_rfl) ?_
       refine s_no (by kernel_rfl) ?_
       refine s_no (by kernel_rfl) ?_
       refine s_no (by kernel_rfl) ?_
       refine s_qk (.bool true) (by kernel_rfl) ?_
       refine s_qk (.bool true) (by kernel_rfl) ?_
       refine s_no (by kernel_rfl) ?_
       refine s_no (by kernel_rfl) ?_
       refine s_no (by kernel_rfl) ?_
       refine s_qk (.bool true) (by kernel_rfl) ?_
       refine s_qk (.bool true) (by kernel_rfl) ?_
       refine s_no (by kernel_rfl) ?_
       refine s_no (by kernel_rfl) ?_
       refine s_no (by kernel_rfl) ?_
       refine s_no (by kernel_rfl) ?_
       refine s_no (by kernel_rfl) ?_
       refine s_qk (.bool true) (by kernel_rfl) ?_
       refine s_nil ?_
       obtain rfl := Option.some.inj r102
       exact k99 _ _ ⟨⟨by kernel_rfl, by kernel_rfl, by kernel_rfl, by kernel_rfl, by kernel_rfl, by kernel_rfl, by kernel_rfl, by kernel_rfl, trivial⟩, rfl⟩
      ·have r103 := ite_f h101 hx95
       refine s_qk (.bool false) (by kernel_rfl) ?_
       refine s_qk (.pointer (some ⟨b82, 0, none⟩)) (by kernel_rfl) ?_
       refine s_ql (.int .i64 ((gt Arcs i0).1)) (x := aLoad Try.prog 3 (.pointer (some ⟨b82, 0, none⟩)) H88) (by kernel_rfl) (r91.ld (by kernel_rfl)) ?_
       refine s_qk (.pointer (some ⟨b7, 0, none⟩)) (by kernel_rfl) ?_
       have u104 := (((u52.frS e65 Dj.nil_l).ext e84).frS e90 (hb85.djn (r11.ltF.le (ntr e15.next e65.next))))
       refine s_ql (.int .i64 N_) (x := aLoad Try.prog 3 (.pointer (some ⟨b7, 0, none⟩)) H88) (by kernel_rfl) (u104.ld (by kernel_rfl)) ?_
       refine s_b (((gt Arcs i0).1) ≥ N_) (by kernel_rfl) (fun h105 => ?_) (fun h105 => ?_)
       ·have r106 := ite_t h105 r103
        refine s_qk (.bool true) (by kernel_rfl) ?_
        refine s_qk (.bool true) (by kernel_rfl) ?_
        refine s_no (by kernel_rfl) ?_
        refine s_no (by kernel_rfl) ?_
        refine s_no (by kernel_rfl) ?_
        refine s_qk (.bool true) (by kernel_rfl) ?_
        refine s_qk (.bool true) (by kernel_rfl) ?_
        refine s_no (by kernel_rfl) ?_
        refine s_no (by kernel_rfl) ?_
        refine s_no (by kernel_rfl) ?_
        refine s_no (by kernel_rfl) ?_
        refine s_no (by kernel_rfl) ?_
        refine s_qk (.bool true) (by kernel_rfl) ?_
        refine s_nil ?_
        obtain rfl := Option.some.inj r106
        exact k99 _ _ ⟨⟨by kernel_rfl, by kernel_rfl, by kernel_rfl, by kernel_rfl, by kernel_rfl, by kernel_rfl, by kernel_rfl, by kernel_rfl, trivial⟩, rfl⟩
       ·have r107 := ite_f h105 r103
        refine s_qk (.bool false) (by kernel_rfl) ?_
        refine s_qk (.bool false) (by kernel_rfl) ?_
        refine s_qk (.pointer (some ⟨b82, 1, none⟩)) (by kernel_rfl) ?_
        refine s_ql (.int .i64 ((gt Arcs i0).2.1)) (x := aLoad Try.prog 3 (.pointer (some ⟨b82, 1, none⟩)) H88) (by kernel_rfl) (r91.ld (by kernel_rfl)) ?_
        refine s_b (((gt Arcs i0).2.1) < 0) (by kernel_rfl) (fun h108 => ?_) (fun h108 => ?_)
        ·have r109 := ite_t h108 r107
         refine s_qk (.bool true) (by kernel_rfl) ?_
         refine s_qk (.bool true) (by kernel_rfl) ?_
         refine s_no (by kernel_rfl) ?_
         refine s_no (by kernel_rfl) ?_
         refine s_no (by kernel_rfl) ?_
         refine s_no (by kernel_rfl) ?_
         refine s_no (by kernel_rfl) ?_
         refine s_qk (.bool true) (by kernel_rfl) ?_
         refine s_nil ?_
         obtain rfl := Option.some.inj r109
         exact k99 _ _ ⟨⟨by kernel_rfl, by kernel_rfl, by kernel_rfl, by kernel_rfl, by kernel_rfl, by kernel_rfl, by kernel_rfl, by kernel_rfl, trivial⟩, rfl⟩
        ·have r110 := ite_f h108 r107
         refine s_qk (.bool false) (by kernel_rfl) ?_
         refine s_qk (.bool false) (by kernel_rfl) ?_
         refine s_qk (.pointer (some ⟨b82, 1, none⟩)) (by kernel_rfl) ?_
         refine s_ql (.int .i64 ((gt Arcs i0).2.1)) (x := aLoad Try.prog 3 (.pointer (some ⟨b82, 1, none⟩)) H88) (by kernel_rfl) (r91.ld (by kernel_rfl)) ?_
         refine s_qk (.pointer (some ⟨b7, 0, none⟩)) (by kernel_rfl) ?_
         refine s_ql (.int .i64 N_) (x := aLoad Try.prog 3 (.pointer (some ⟨b7, 0, none⟩)) H88) (by kernel_rfl) (u104.ld (by kernel_rfl)) ?_
         refine s_qk (.bool (decide (((gt Arcs i0).2.1) ≥ N_))) (by kernel_rfl) ?_
         refine s_qk (.bool (decide (((gt Arcs i0).2.1) ≥ N_))) (by kernel_rfl) ?_
         refine s_nil ?_
         obtain rfl := Option.some.inj r110
         exact k99 _ _ ⟨⟨by kernel_rfl, by kernel_rfl, by kernel_rfl, by kernel_rfl, by kernel_rfl, by kernel_rfl, by kernel_rfl, by kernel_rfl, trivial⟩, rfl⟩
     ·obtain ⟨hh100, rfl⟩ := hM
      obtain ⟨β, rfl⟩ := has_ex hh100
      clear hh100
      refine k93 _ _ ?_
      refine w_cond (o94) (by kernel_rfl) rfl (fun h111 => ?_) (fun h111 => ?_)
      ·have r112 := ite_t h111 r96
       refine w_seqk fun K113 k113 => ?_
       refine w_reg (by kernel_rfl) ?_
       refine s_qk (.int .i64 i0) (by kernel_rfl) ?_
       obtain ⟨y114, hy115, r116⟩ := bind_some r112
       refine s_ck 70 #[.int .i64 7] (by kernel_rfl) (c_viaductref01_E e90.wf hy115) ?_
       rintro _ H117 ⟨rfl, e118⟩
       obtain ⟨y119, hy120, r121⟩ := bind_some r116
       refine s_ck 111 #[.int .i64 4, .int .i64 i0, .agg #[.int .i64 y114, .slice none 0 0]] (by kernel_rfl) (c_viaductref01_At e118.wf (Sq.nil (enc := enc_i64_i64) (sz := 2) (by decide)) hy120) ?_
       rintro _ H124 ⟨s122, f123, rfl, e125, m126, i127⟩
       obtain ⟨a129, n130, c131, rfl⟩ := m126.form
       have u136 := (((((r17.frS e65 Dj.nil_l).ext e84).frS e90 (hb85.djn (r17.ltF.le e65.next))).frS e118 Dj.nil_l).frS e125 Dj.nil_l)
       obtain ⟨H132, q133, e134, r135⟩ := Row.store (P := Try.prog) (t := 46) (p := 0) e125.wf u136 (.agg #[.int .i64 y119.1, .slice a129 n130 c131]) [.int .i64 y119.1, .slice a129 n130 c131] (by kernel_rfl) (by kernel_rfl) (one_cons (rfl) (one_cons (m126.one1) (one_nil))) (Nat.le_of_ble_eq_true (by kernel_rfl)) [.int .i64 y119.1, .slice a129 n130 c131] (by kernel_rfl)
       refine s_ek (undef) (by kernel_rfl) (map_ok q133) ?_
       refine s_nil ?_
       refine k113 _ _ ?_
       refine w_ret (th_ret (bl_ret (th_ret (th_ret (bl_ret (th_ret (th_ret ?_)))))))
       obtain ⟨v137, hv138, hz139⟩ := map_some r121
       subst hz139
       obtain rfl := it_inr hn71
       have hq140 := elim_inl r56
       rw [hq140] at hv138
       refine b_ret (fn := Try.f81) (vs := [.agg #[.int .i64 y119.1, .slice a129 n130 c131]]) (aRes_cell (Eq.trans (b := aLoad Try.prog 46 (.pointer (some ⟨b13, 0, none⟩)) H132) (by kernel_rfl) (r135.ld (by kernel_rfl))) (rfl)) ?_
       have u141 := (m126.fr e134 (Dj.symm (i127.djn (r17.ltF.le (ntr (ntr (ntr e65.next e84.next) e90.next) e118.next)))))
       obtain rfl := Option.some.inj hv138
       exact ⟨(.slice a129 n130 c131), f123, rfl, (FrS.step wf (FrS.step wf (FrS.step wf (FrS.step wf ((FrS.step wf (((FrS.refl (W := []) wf).extR e9).extR e15) e65 Inn.nil).extR e84) e90 (hb85.fresh (ntr (ntr e9.next e15.next) e65.next))) e118 Inn.nil) e125 Inn.nil) e134 (hb16.fresh e9.next)), u141, (i127.fresh (ntr (ntr (ntr (ntr (ntr e9.next e15.next) e65.next) e84.next) e90.next) e118.next))⟩
      ·have r142 := ite_bf h111 r96
       refine w_skip ?_
       refine k92 _ _ ?_
       refine w_seqk fun K143 k143 => ?_
       obtain ⟨o144, hx145, r146⟩ := bind_some r142
       refine w_mid (fun α H147 => Has α [(1, .pointer (some ⟨b7, 0, none⟩)), (2, .pointer (some ⟨b13, 0, none⟩)), (3, .int .i64 i0), (21, hd_Arcs), (22, .int .i64 (Arcs.length : Int)), (23, .int .i64 i0), (60, .bool o144)] ∧ H88 = H147) (fun K149 k149 => ?_) (fun α H147 hM => ?_)
       ·refine w_reg (by kernel_rfl) ?_
        refine s_qk (.pointer (some ⟨b82, 2, none⟩)) (by kernel_rfl) ?_
        refine s_ql (.int .i64 ((gt Arcs i0).2.2)) (x := aLoad Try.prog 3 (.pointer (some ⟨b82, 2, none⟩)) H88) (by kernel_rfl) (r91.ld (by kernel_rfl)) ?_
        refine s_b (((gt Arcs i0).2.2) < 0) (by kernel_rfl) (fun h151 => ?_) (fun h151 => ?_)
        ·have r152 := ite_t h151 hx145
         refine s_qk (.bool true) (by kernel_rfl) ?_
         refine s_no (by kernel_rfl) ?_
         refine s_no (by kernel_rfl) ?_
         refine s_no (by kernel_rfl) ?_
         refine s_qk (.bool true) (by kernel_rfl) ?_
         refine s_nil ?_
         obtain rfl := Option.some.inj r152
         exact k149 _ _ ⟨⟨by kernel_rfl, by kernel_rfl, by kernel_rfl, by kernel_rfl, by kernel_rfl, by kernel_rfl, by kernel_rfl, trivial⟩, rfl⟩
        ·have r153 := ite_f h151 hx145
         refine s_qk (.bool false) (by kernel_rfl) ?_
         refine s_qk (.pointer (some ⟨b82, 2, none⟩)) (by kernel_rfl) ?_
         refine s_ql (.int .i64 ((gt Arcs i0).2.2)) (x := aLoad Try.prog 3 (.pointer (some ⟨b82, 2, none⟩)) H88) (by kernel_rfl) (r91.ld (by kernel_rfl)) ?_
         refine s_qk (.bool (decide (((gt Arcs i0).2.2) > 2147483647))) (by kernel_rfl) ?_
         refine s_qk (.bool (decide (((gt Arcs i0).2.2) > 2147483647))) (by kernel_rfl) ?_
         refine s_nil ?_
         obtain rfl := Option.some.inj r153
         exact k149 _ _ ⟨⟨by kernel_rfl, by kernel_rfl, by kernel_rfl, by kernel_rfl, by kernel_rfl, by kernel_rfl, by kernel_rfl, trivial⟩, rfl⟩
       ·obtain ⟨hh150, rfl⟩ := hM
        obtain ⟨β, rfl⟩ := has_ex hh150
        clear hh150
        refine k143 _ _ ?_
        refine w_cond (o144) (by kernel_rfl) rfl (fun h154 => ?_) (fun h154 => ?_)
        ·have r155 := ite_t h154 r146
         refine w_seqk fun K156 k156 => ?_
         refine w_reg (by kernel_rfl) ?_
         refine s_qk (.int .i64 i0) (by kernel_rfl) ?_
         obtain ⟨y157, hy158, r159⟩ := bind_some r155
         refine s_ck 70 #[.int .i64 8] (by kernel_rfl) (c_viaductref01_E e90.wf hy158) ?_
         rintro _ H160 ⟨rfl, e161⟩
         obtain ⟨y162, hy163, r164⟩ := bind_some r159
         refine s_ck 111 #[.int .i64 4, .int .i64 i0, .agg #[.int .i64 y157, .slice none 0 0]] (by kernel_rfl) (c_viaductref01_At e161.wf (Sq.nil (enc := enc_i64_i64) (sz := 2) (by decide)) hy163) ?_
         rintro _ H167 ⟨s165, f166, rfl, e168, m169, i170⟩
         obtain ⟨a172, n173, c174, rfl⟩ := m169.form
         have u179 := (((((r17.frS e65 Dj.nil_l).ext e84).frS e90 (hb85.djn (r17.ltF.le e65.next))).frS e161 Dj.nil_l).frS e168 Dj.nil_l)
         obtain ⟨H175, q176, e177, r178⟩ := Row.store (P := Try.prog) (t := 46) (p := 0) e168.wf u179 (.agg #[.int .i64 y162.1, .slice a172 n173 c174]) [.int .i64 y162.1, .slice a172 n173 c174] (by kernel_rfl) (by kernel_rfl) (one_cons (rfl) (one_cons (m169.one1) (one_nil))) (Nat.le_of_ble_eq_true (by kernel_rfl)) [.int .i64 y162.1, .slice a172 n173 c174] (by kernel_rfl)
         refine s_ek (undef) (by kernel_rfl) (map_ok q176) ?_
         refine s_nil ?_
         refine k156 _ _ ?_
         refine w_ret (bl_ret (th_ret (th_ret (bl_ret (th_ret (th_ret ?_))))))
         obtain ⟨v180, hv181, hz182⟩ := map_some r164
         subst hz182
         obtain rfl := it_inr hn71
         have hq183 := elim_inl r56
         rw [hq183] at hv181
         refine b_ret (fn := Try.f81) (vs := [.agg #[.int .i64 y162.1, .slice a172 n173 c174]]) (aRes_cell (Eq.trans (b := aLoad Try.prog 46 (.pointer (some ⟨b13, 0, none⟩)) H175) (by kernel_rfl) (r178.ld (by kernel_rfl))) (rfl)) ?_
         have u184 := (m169.fr e177 (Dj.symm (i170.djn (r17.ltF.le (ntr (ntr (ntr e65.next e84.next) e90.next) e161.next)))))
         obtain rfl := Option.some.inj hv181
         exact ⟨(.slice a172 n173 c174), f166, rfl, (FrS.step wf (FrS.step wf (FrS.step wf (FrS.step wf ((FrS.step wf (((FrS.refl (W := []) wf).extR e9).extR e15) e65 Inn.nil).extR e84) e90 (hb85.fresh (ntr (ntr e9.next e15.next) e65.next))) e161 Inn.nil) e168 Inn.nil) e177 (hb16.fresh e9.next)), u184, (i170.fresh (ntr (ntr (ntr (ntr (ntr e9.next e15.next) e65.next) e84.next) e90.next) e161.next))⟩
        ·have r185 := ite_bf h154 r146
         refine w_skip ?_
         refine k77 _ _ ?_
         refine w_reg (by kernel_rfl) ?_
         obtain ⟨g186, r187⟩ := G_some r185
         refine s_w ((i0 + 1)) (k := .i64) (x := (i0 + 1)) (by kernel_rfl) (wrap64 (by have := g186; omega)) ?_
         refine s_qk (.int .i64 (i0 + 1)) (by kernel_rfl) ?_
         refine s_nil ?_
         obtain rfl := Option.some.inj r187
         exact k72 n68 _ _ (Nat.lt_succ_self _) ⟨(i0 + 1), hn71, ⟨by kernel_rfl, by kernel_rfl, by kernel_rfl, by kernel_rfl, by kernel_rfl, trivial⟩, (FrS.step e15.wf ((FrS.step e15.wf (FrS.refl (W := []) e15.wf) e65 Inn.nil).extR e84) e90 (hb85.fresh e65.next))⟩
    ·have r188 := ite_f h75 hz70
     refine w_exit (th_exit (th_exit (bl_eq ?_)))
     obtain rfl := Option.some.inj r188
     obtain rfl := it_inr hn71
     exact k60 _ _ ⟨_, rfl, ⟨by kernel_rfl, trivial⟩, (FrS.step e15.wf (FrS.refl (W := []) e15.wf) e65 Inn.nil)⟩
   ·obtain ⟨o54, rfl, hh61, e59⟩ := hM
    have r189 := elim_inr r56
    obtain ⟨β, rfl⟩ := has_ex hh61
    clear hh61
    refine k50 _ _ ?_
    refine w_seqk fun K190 k190 => ?_
    refine w_reg (by kernel_rfl) ?_
    refine s_qk (.agg #[.int .i64 0, .slice none 0 0]) (by kernel_rfl) ?_
    have u195 := (r17.frS e59 Dj.nil_l)
    obtain ⟨H191, q192, e193, r194⟩ := Row.store (P := Try.prog) (t := 46) (p := 0) e59.wf u195 (.agg #[.int .i64 0, .slice none 0 0]) [.int .i64 0, .slice none 0 0] (by kernel_rfl) (by kernel_rfl) (one_cons (rfl) (one_cons (rfl) (one_nil))) (Nat.le_of_ble_eq_true (by kernel_rfl)) [.int .i64 0, .slice none 0 0] (by kernel_rfl)
    refine s_ek (undef) (by kernel_rfl) (map_ok q192) ?_
    refine s_nil ?_
    refine k190 _ _ ?_
    refine w_ret ?_
    refine b_ret (fn := Try.f81) (vs := [.agg #[.int .i64 0, .slice none 0 0]]) (aRes_cell (Eq.trans (b := aLoad Try.prog 46 (.pointer (some ⟨b13, 0, none⟩)) H191) (by kernel_rfl) (r194.ld (by kernel_rfl))) (rfl)) ?_
    obtain rfl := Option.some.inj r189
    exact ⟨(.slice none 0 0), [], rfl, (FrS.step wf (FrS.step wf (((FrS.refl (W := []) wf).extR e9).extR e15) e59 Inn.nil) e193 (hb16.fresh e9.next)), (Ow.nil (by decide)), Inn.nil⟩

theorem c_viaductref01_Err_Bad {H : AH} {hd_Places : Value} {fp_Places : Fp} {Code : Int} {Places : List (Int × Int)} {r : Bool}
  (wf : WF H) (h_Places : Sq enc_i64_i64 2 H hd_Places Places fp_Places) (hr : z_viaductref01_Err_Bad Code Places = some r) :
  ACalls Try.prog 56 #[.agg #[.int .i64 Code, hd_Places]] H fun v H' => v = .bool r ∧ FrS [] H H' := by
 refine acalls_of_body mixed Try.func56 rfl (Nat.le_of_ble_eq_true rfl) ?_
 unfold z_viaductref01_Err_Bad at hr
 refine w_seqk fun K1 k1 => ?_
 refine w_reg (by kernel_rfl) ?_
 refine s_rwl wf [.int .i64 Code, hd_Places] (one_cons (rfl) (one_cons (h_Places.one1) (one_nil))) (by kernel_rfl) fun b2 H3 e4 hb5 r6 => ?_
 refine s_qk (.bool false) (by kernel_rfl) ?_
 refine s_nil ?_
 refine k1 _ _ ?_
 refine w_seqk fun K8 k8 => ?_
 refine w_reg (by kernel_rfl) ?_
 refine s_qk (.pointer (some ⟨b2, 0, none⟩)) (by kernel_rfl) ?_
 refine s_ql (.int .i64 Code) (x := aLoad Try.prog 3 (.pointer (some ⟨b2, 0, none⟩)) H3) (by kernel_rfl) (r6.ld (by kernel_rfl)) ?_
 refine s_bn (Code = 0) (by kernel_rfl) (fun h9 => ?_) (fun h9 => ?_)
 ·have r10 := ite_t h9 hr
  refine s_qk (.bool false) (by kernel_rfl) ?_
  refine s_qk (.pointer (some ⟨b2, 1, none⟩)) (by kernel_rfl) ?_
  refine s_ql (hd_Places) (x := aLoad Try.prog 44 (.pointer (some ⟨b2, 1, none⟩)) H3) (by kernel_rfl) (r6.ld (by kernel_rfl)) ?_
  have u11 := (h_Places.ext e4)
  refine s_ql (.int .i64 (Places.length : Int)) (x := aLen Try.prog 44 hd_Places H3) (by kernel_rfl) (u11.lenb (by kernel_rfl)) ?_
  refine s_qk (.bool (decide ((Places.length : Int) > 0))) (by kernel_rfl) ?_
  refine s_qk (.bool (decide ((Places.length : Int) > 0))) (by kernel_rfl) ?_
  refine s_qk (.bool (decide ((Places.length : Int) > 0))) (by kernel_rfl) ?_
  refine s_nil ?_
  refine k8 _ _ ?_
  refine w_ret ?_
  refine b_ret (fn := Try.f56) (vs := [.bool (decide ((Places.length : Int) > 0))]) (aRes_tmp (by kernel_rfl) (rfl)) ?_
  obtain rfl := Option.some.inj r10
  exact ⟨rfl, ((FrS.refl (W := []) wf).extR e4)⟩
 ·have r12 := ite_f h9 hr
  refine s_qk (.bool true) (by kernel_rfl) ?_
  refine s_no (by kernel_rfl) ?_
  refine s_no (by kernel_rfl) ?_
  refine s_no (by kernel_rfl) ?_
  refine s_no (by kernel_rfl) ?_
  refine s_qk (.bool true) (by kernel_rfl) ?_
  refine s_qk (.bool true) (by kernel_rfl) ?_
  refine s_nil ?_
  refine k8 _ _ ?_
  refine w_ret ?_
  refine b_ret (fn := Try.f56) (vs := [.bool true]) (aRes_tmp (by kernel_rfl) (rfl)) ?_
  obtain rfl := Option.some.inj r12
  exact ⟨rfl, ((FrS.refl (W := []) wf).extR e4)⟩

theorem c_viaductref04_less {H : AH} {From : Int} {To : Int} {Weight : Int} {From_ : Int} {To_ : Int} {Weight_ : Int} {r : Bool}
  (wf : WF H) (hr : z_viaductref04_less From To Weight From_ To_ Weight_ = some r) :
  ACalls Try.prog 159 #[.agg #[.int .i64 From, .int .i64 To, .int .i64 Weight], .agg #[.int .i64 From_, .int .i64 To_, .int .i64 Weight_]] H fun v H' => v = .bool r ∧ FrS [] H H' := by
 refine acalls_of_body mixed Try.func159 rfl (Nat.le_of_ble_eq_true rfl) ?_
 unfold z_viaductref04_less at hr
 refine w_seqk fun K1 k1 => ?_
 refine w_reg (by kernel_rfl) ?_
 refine s_rwl wf [.int .i64 From, .int .i64 To, .int .i64 Weight] (one_cons (rfl) (one_cons (rfl) (one_cons (rfl) (one_nil)))) (by kernel_rfl) fun b2 H3 e4 hb5 r6 => ?_
 refine s_rwl e4.wf [.int .i64 From_, .int .i64 To_, .int .i64 Weight_] (one_cons (rfl) (one_cons (rfl) (one_cons (rfl) (one_nil)))) (by kernel_rfl) fun b8 H9 e10 hb11 r12 => ?_
 refine s_qk (.bool false) (by kernel_rfl) ?_
 refine s_nil ?_
 refine k1 _ _ ?_
 refine w_seqk fun K14 k14 => ?_
 refine w_reg (by kernel_rfl) ?_
 refine s_qk (.pointer (some ⟨b2, 0, none⟩)) (by kernel_rfl) ?_
 have u15 := (r6.ext e10)
 refine s_ql (.int .i64 From) (x := aLoad Try.prog 3 (.pointer (some ⟨b2, 0, none⟩)) H9) (by kernel_rfl) (u15.ld (by kernel_rfl)) ?_
 refine s_qk (.pointer (some ⟨b8, 0, none⟩)) (by kernel_rfl) ?_
 refine s_ql (.int .i64 From_) (x := aLoad Try.prog 3 (.pointer (some ⟨b8, 0, none⟩)) H9) (by kernel_rfl) (r12.ld (by kernel_rfl)) ?_
 refine s_b (From < From_) (by kernel_rfl) (fun h16 => ?_) (fun h16 => ?_)
 ·have r17 := ite_t h16 hr
  refine s_qk (.bool true) (by kernel_rfl) ?_
  refine s_no (by kernel_rfl) ?_
  refine s_no (by kernel_rfl) ?_
  refine s_no (by kernel_rfl) ?_
  refine s_no (by kernel_rfl) ?_
  refine s_no (by kernel_rfl) ?_
  refine s_no (by kernel_rfl) ?_
  refine s_no (by kernel_rfl) ?_
  refine s_no (by kernel_rfl) ?_
  refine s_no (by kernel_rfl) ?_
  refine s_no (by kernel_rfl) ?_
  refine s_no (by kernel_rfl) ?_
  refine s_no (by kernel_rfl) ?_
  refine s_qk (.bool true) (by kernel_rfl) ?_
  refine s_qk (.bool true) (by kernel_rfl) ?_
  refine s_nil ?_
  refine k14 _ _ ?_
  refine w_ret ?_
  refine b_ret (fn := Try.f159) (vs := [.bool true]) (aRes_tmp (by kernel_rfl) (rfl)) ?_
  obtain rfl := Option.some.inj r17
  exact ⟨rfl, (((FrS.refl (W := []) wf).extR e4).extR e10)⟩
 ·have r18 := ite_f h16 hr
  refine s_qk (.bool false) (by kernel_rfl) ?_
  refine s_qk (.pointer (some ⟨b2, 0, none⟩)) (by kernel_rfl) ?_
  refine s_ql (.int .i64 From) (x := aLoad Try.prog 3 (.pointer (some ⟨b2, 0, none⟩)) H9) (by kernel_rfl) (u15.ld (by kernel_rfl)) ?_
  refine s_qk (.pointer (some ⟨b8, 0, none⟩)) (by kernel_rfl) ?_
  refine s_ql (.int .i64 From_) (x := aLoad Try.prog 3 (.pointer (some ⟨b8, 0, none⟩)) H9) (by kernel_rfl) (r12.ld (by kernel_rfl)) ?_
  refine s_b (From = From_) (by kernel_rfl) (fun h19 => ?_) (fun h19 => ?_)
  ·have r20 := ite_t h19 r18
   refine s_qk (.bool true) (by kernel_rfl) ?_
   refine s_qk (.pointer (some ⟨b2, 1, none⟩)) (by kernel_rfl) ?_
   refine s_ql (.int .i64 To) (x := aLoad Try.prog 3 (.pointer (some ⟨b2, 1, none⟩)) H9) (by kernel_rfl) (u15.ld (by kernel_rfl)) ?_
   refine s_qk (.pointer (some ⟨b8, 1, none⟩)) (by kernel_rfl) ?_
   refine s_ql (.int .i64 To_) (x := aLoad Try.prog 3 (.pointer (some ⟨b8, 1, none⟩)) H9) (by kernel_rfl) (r12.ld (by kernel_rfl)) ?_
   refine s_qk (.bool (decide (To < To_))) (by kernel_rfl) ?_
   refine s_qk (.bool (decide (To < To_))) (by kernel_rfl) ?_
   refine s_qk (.bool (decide (To < To_))) (by kernel_rfl) ?_
   refine s_qk (.bool (decide (To < To_))) (by kernel_rfl) ?_
   refine s_nil ?_
   refine k14 _ _ ?_
   refine w_ret ?_
   refine b_ret (fn := Try.f159) (vs := [.bool (decide (To < To_))]) (aRes_tmp (by kernel_rfl) (rfl)) ?_
   obtain rfl := Option.some.inj r20
   exact ⟨rfl, (((FrS.refl (W := []) wf).extR e4).extR e10)⟩
  ·have r21 := ite_f h19 r18
   refine s_qk (.bool false) (by kernel_rfl) ?_
   refine s_no (by kernel_rfl) ?_
   refine s_no (by kernel_rfl) ?_
   refine s_no (by kernel_rfl) ?_
   refine s_no (by kernel_rfl) ?_
   refine s_no (by kernel_rfl) ?_
   refine s_qk (.bool false) (by kernel_rfl) ?_
   refine s_qk (.bool false) (by kernel_rfl) ?_
   refine s_qk (.bool false) (by kernel_rfl) ?_
   refine s_nil ?_
   refine k14 _ _ ?_
   refine w_ret ?_
   refine b_ret (fn := Try.f159) (vs := [.bool false]) (aRes_tmp (by kernel_rfl) (rfl)) ?_
   obtain rfl := Option.some.inj r21
   exact ⟨rfl, (((FrS.refl (W := []) wf).extR e4).extR e10)⟩

theorem c_viaductref04_Put {H : AH} {hd_l : Value} {fp_l : Fp} {l : List (Int × Int × Int)} {From : Int} {To : Int} {Weight : Int} {r : List (Int × Int × Int)}
  (wf : WF H) (h_l : Sq enc_i64_i64_i64 3 H hd_l l fp_l) (hr : z_viaductref04_Put l From To Weight = some r) :
  ACalls Try.prog 128 #[hd_l, .agg #[.int .i64 From, .int .i64 To, .int .i64 Weight]] H fun v H' => ∃ (s3 : Value) (f4 : Fp), v = s3 ∧ FrS [] H H' ∧ Ow enc_i64_i64_i64 3 H' s3 r f4 ∧ Inn [] H f4 := by
 refine acalls_of_body mixed Try.func128 rfl (Nat.le_of_ble_eq_true rfl) ?_
 unfold z_viaductref04_Put at hr
 refine w_seqk fun K6 k6 => ?_
 refine w_reg (by kernel_rfl) ?_
 refine s_rwl wf [.int .i64 From, .int .i64 To, .int .i64 Weight] (one_cons (rfl) (one_cons (rfl) (one_cons (rfl) (one_nil)))) (by kernel_rfl) fun b7 H8 e9 hb10 r11 => ?_
 refine s_qk (.slice none 0 0) (by kernel_rfl) ?_
 refine s_nil ?_
 refine k6 _ _ ?_
 refine w_seqk fun K13 k13 => ?_
 refine w_reg (by kernel_rfl) ?_
 refine s_qk (.int .i64 0) (by kernel_rfl) ?_
 refine s_nil ?_
 refine k13 _ _ ?_
 refine w_seqk fun K14 k14 => ?_
 obtain ⟨o15, hx16, r17⟩ := bind_some hr
 refine w_mid (fun α H18 => Has α [(0, hd_l), (3, .pointer (some ⟨b7, 0, none⟩)), (5, .int .i64 o15)] ∧ FrS [] H8 H18) (fun K20 k20 => ?_) (fun α H18 hM => ?_)
 ·refine w_block ?_
  obtain ⟨n22, hn23⟩ := loopO_iff.1 hx16
  refine w_loopn (fun n α H24 => ∃ (i0 : Int), iterO (fun zz_ => z_viaductref04_Put_l0 l From To Weight zz_) n i0 = some o15 ∧ Has α [(0, hd_l), (3, .pointer (some ⟨b7, 0, none⟩)), (5, .int .i64 i0)] ∧ FrS [] H8 H24) n22 ⟨0, hn23, ⟨by kernel_rfl, by kernel_rfl, by kernel_rfl, trivial⟩, (FrS.refl (W := []) e9.wf)⟩ ?_
  rintro n22 α H24 ⟨i0, hi27, hh26, e25⟩ K32 k32
  obtain ⟨n28, z29, rfl, hz30, hn31⟩ := iter_succ hi27
  obtain ⟨β, rfl⟩ := has_ex hh26
  clear hh26
  replace hz30 : z_viaductref04_Put_l0 l From To Weight i0 = some z29 := hz30
  unfold z_viaductref04_Put_l0 at hz30
  refine w_seqk fun K33 k33 => ?_
  refine w_seqk fun K34 k34 => ?_
  refine w_draw [0, 1, 2, 3, 4, 5, 6, 7, 8, 9, 10, 11] (by kernel_rfl) ?_
  refine d_qk (.int .i64 i0) (by kernel_rfl) ?_
  refine d_qk (hd_l) (by kernel_rfl) ?_
  have u35 := ((h_l.ext e9).fr e25 Dj.nil_l)
  refine d_ql (.int .i64 (l.length : Int)) (x := aLen Try.prog 57 hd_l H24) (by kernel_rfl) (u35.lenb (by kernel_rfl)) ?_
  refine d_b (i0 < (l.length : Int)) (by kernel_rfl) (fun h36 => ?_) (fun h36 => ?_)
  ·have r37 := ite_t h36 hz30
   refine d_qk (.bool true) (by kernel_rfl) ?_
   refine d_qk (hd_l) (by kernel_rfl) ?_
   refine d_qk (.int .i64 i0) (by kernel_rfl) ?_
   obtain ⟨g38, r39⟩ := G_some r37
   refine d_ql (elp hd_l 3 i0.toNat 0) (x := aIndexAddr Try.prog 57 hd_l (.int .i64 i0)) (by kernel_rfl) (u35.idxb (by kernel_rfl) g38 h36) ?_
   refine d_ql (.agg #[.int .i64 ((gt l i0).1), .int .i64 ((gt l i0).2.1), .int .i64 ((gt l i0).2.2)]) (x := aLoad Try.prog 73 (elp hd_l 3 i0.toNat 0) H24) (by kernel_rfl) (u35.ld g38 h36 (by kernel_rfl)) ?_
   have u40 := (r11.frS e25 Dj.nil_l)
   refine d_ql (.agg #[.int .i64 From, .int .i64 To, .int .i64 Weight]) (x := aLoad Try.prog 73 (.pointer (some ⟨b7, 0, none⟩)) H24) (by kernel_rfl) (u40.ld (by kernel_rfl)) ?_
   obtain ⟨y41, hy42, r43⟩ := bind_some r39
   refine d_ck 159 #[.agg #[.int .i64 ((gt l i0).1), .int .i64 ((gt l i0).2.1), .int .i64 ((gt l i0).2.2)], .agg #[.int .i64 From, .int .i64 To, .int .i64 Weight]] (by kernel_rfl) (c_viaductref04_less e25.wf hy42) ?_
   rintro _ H44 ⟨rfl, e45⟩
   refine ⟨st_nil, ?_⟩
   refine d_qk (.bool y41) (by kernel_rfl) ?_
   refine d_nil ?_
   refine k34 _ _ ?_
   refine w_cond (y41) (by kernel_rfl) rfl (fun h46 => ?_) (fun h46 => ?_)
   ·have r47 := ite_t h46 r43
    refine w_skip ?_
    refine k33 _ _ ?_
    refine w_block ?_
    refine w_reg (by kernel_rfl) ?_
    refine s_qk (.int .i64 i0) (by kernel_rfl) ?_
    obtain ⟨g48, r49⟩ := G_some r47
    refine s_w ((i0 + 1)) (k := .i64) (x := (i0 + 1)) (by kernel_rfl) (wrap64 (by have := g48; omega)) ?_
    refine s_qk (.int .i64 (i0 + 1)) (by kernel_rfl) ?_
    refine s_nil ?_
    obtain rfl := Option.some.inj r49
    exact k32 n28 _ _ (Nat.lt_succ_self _) ⟨(i0 + 1), hn31, ⟨by kernel_rfl, by kernel_rfl, by kernel_rfl, trivial⟩, (FrS.step e9.wf (FrS.step e9.wf (FrS.refl (W := []) e9.wf) e25 Inn.nil) e45 Inn.nil)⟩
   ·have r50 := ite_bf h46 r43
    refine w_exit (th_exit (th_exit (bl_eq ?_)))
    obtain rfl := Option.some.inj r50
    obtain rfl := it_inr hn31
    exact k20 _ _ ⟨⟨by kernel_rfl, by kernel_rfl, by kernel_rfl, trivial⟩, (FrS.step e9.wf (FrS.step e9.wf (FrS.refl (W := []) e9.wf) e25 Inn.nil) e45 Inn.nil)⟩
  ·have r51 := ite_f h36 hz30
   refine d_qk (.bool false) (by kernel_rfl) ?_
   refine d_idle (by kernel_rfl) ?_
   refine d_idle (by kernel_rfl) ?_
   refine d_idle (by kernel_rfl) ?_
   refine d_idle (by kernel_rfl) ?_
   refine d_idle (by kernel_rfl) ?_
   refine d_idle (by kernel_rfl) ?_
   refine d_qk (.bool false) (by kernel_rfl) ?_
   refine d_nil ?_
   refine k34 _ _ ?_
   refine w_cond false (by kernel_rfl) rfl (fun h => by cases h) (fun _ => ?_)
   refine w_exit (th_exit (th_exit (bl_eq ?_)))
   obtain rfl := Option.some.inj r51
   obtain rfl := it_inr hn31
   exact k20 _ _ ⟨⟨by kernel_rfl, by kernel_rfl, by kernel_rfl, trivial⟩, (FrS.step e9.wf (FrS.refl (W := []) e9.wf) e25 Inn.nil)⟩
 ·obtain ⟨hh21, e19⟩ := hM
  obtain ⟨β, rfl⟩ := has_ex hh21
  clear hh21
  refine k14 _ _ ?_
  refine w_seqk fun K52 k52 => ?_
  refine w_reg (by kernel_rfl) ?_
  refine s_qk (.slice none 0 0) (by kernel_rfl) ?_
  refine s_nil ?_
  refine k52 _ _ ?_
  refine w_seqk fun K53 k53 => ?_
  refine w_reg (by kernel_rfl) ?_
  refine s_qk (.slice none 0 0) (by kernel_rfl) ?_
  refine s_qk (hd_l) (by kernel_rfl) ?_
  refine s_qk (.int .i64 o15) (by kernel_rfl) ?_
  obtain ⟨g54, r55⟩ := G_some r17
  have u59 := ((h_l.ext e9).fr e19 Dj.nil_l)
  obtain ⟨s56, q57, hs58⟩ := Sq.cut (P := Try.prog) u59 (t := 57) (by kernel_rfl) (lo := none) (hi := (some (.int .i64 o15))) (l := 0) (r := o15.toNat) (rfl) (aBound_int _ (by have := g54; omega)) (by have := g54; omega) (by have := g54; omega)
  obtain ⟨a60, n61, c62, rfl⟩ := hs58.form
  refine s_ql (.slice a60 n61 c62) (by kernel_rfl) q57 ?_
  obtain ⟨g64, r65⟩ := G_some r55
  obtain ⟨s66, H67, f68, q72, e69, hm70, hf71⟩ := Ow.append (P := Try.prog) 24 e19.wf (Ow.nil (enc := enc_i64_i64_i64) (sz := 3) (by decide)) hs58 (fun _ _ => rfl) (at_ := #[57, 57]) rfl rfl (by kernel_rfl) (by kernel_rfl) (by decide) (by have := g64; first | omega | (simp only [List.length_cons, List.length_nil] at this ⊢; omega) | (simp at this ⊢; omega))
  obtain ⟨a73, n74, c75, rfl⟩ := hm70.form
  refine s_ek (.slice a73 n74 c75) (by kernel_rfl) (q72) ?_
  refine s_qk (.slice a73 n74 c75) (by kernel_rfl) ?_
  refine s_nil ?_
  refine k53 _ _ ?_
  refine w_seqk fun K77 k77 => ?_
  refine w_seqk fun K78 k78 => ?_
  obtain ⟨o79, hx80, r81⟩ := bind_some r65
  refine w_mid (fun α H82 => Has α [(0, hd_l), (3, .pointer (some ⟨b7, 0, none⟩)), (5, .int .i64 o15), (6, .slice a73 n74 c75), (49, .bool o79)] ∧ H67 = H82) (fun K84 k84 => ?_) (fun α H82 hM => ?_)
  ·refine w_draw [0, 1, 2, 3, 4, 5, 6, 7, 8, 9, 10, 11, 12, 13, 14, 15, 16, 17, 18, 19, 20, 21, 22, 23] (by kernel_rfl) ?_
   refine d_qk (.int .i64 o15) (by kernel_rfl) ?_
   refine d_qk (hd_l) (by kernel_rfl) ?_
   have u86 := (u59.fr e69 Dj.nil_l)
   refine d_ql (.int .i64 (l.length : Int)) (x := aLen Try.prog 57 hd_l H67) (by kernel_rfl) (u86.lenb (by kernel_rfl)) ?_
   refine d_b (o15 < (l.length : Int)) (by kernel_rfl) (fun h87 => ?_) (fun h87 => ?_)
   ·have r88 := ite_t h87 hx80
    refine d_qk (.bool true) (by kernel_rfl) ?_
    refine d_qk (hd_l) (by kernel_rfl) ?_
    refine d_qk (.int .i64 o15) (by kernel_rfl) ?_
    obtain ⟨g89, r90⟩ := G_some r88
    refine d_ql (elp hd_l 3 o15.toNat 0) (x := aIndexAddr Try.prog 57 hd_l (.int .i64 o15)) (by kernel_rfl) (u86.idxb (by kernel_rfl) g89 h87) ?_
    refine d_ql (elp hd_l 3 o15.toNat 0) (x := aFieldAddr Try.prog 73 (elp hd_l 3 o15.toNat 0) 0) (by kernel_rfl) (Sq.fldq (d := 0) u86 g89 h87 (by kernel_rfl)) ?_
    refine d_ql (.int .i64 ((gt l o15).1)) (x := aLoad Try.prog 3 (elp hd_l 3 o15.toNat 0) H67) (by kernel_rfl) (u86.ld g89 h87 (by kernel_rfl)) ?_
    refine d_qk (.pointer (some ⟨b7, 0, none⟩)) (by kernel_rfl) ?_
    have u91 := ((r11.frS e19 Dj.nil_l).frS e69 Dj.nil_l)
    refine d_ql (.int .i64 From) (x := aLoad Try.prog 3 (.pointer (some ⟨b7, 0, none⟩)) H67) (by kernel_rfl) (u91.ld (by kernel_rfl)) ?_
    refine d_b (((gt l o15).1) = From) (by kernel_rfl) (fun h92 => ?_) (fun h92 => ?_)
    ·have r93 := ite_t h92 r90
     refine d_qk (.bool true) (by kernel_rfl) ?_
     refine d_qk (.bool true) (by kernel_rfl) ?_
     refine d_qk (hd_l) (by kernel_rfl) ?_
     refine d_qk (.int .i64 o15) (by kernel_rfl) ?_
     refine d_ql (elp hd_l 3 o15.toNat 0) (x := aIndexAddr Try.prog 57 hd_l (.int .i64 o15)) (by kernel_rfl) (u86.idxb (by kernel_rfl) g89 h87) ?_
     refine d_ql (elp hd_l 3 o15.toNat 1) (x := aFieldAddr Try.prog 73 (elp hd_l 3 o15.toNat 0) 1) (by kernel_rfl) (Sq.fldq (d := 1) u86 g89 h87 (by kernel_rfl)) ?_
     refine d_ql (.int .i64 ((gt l o15).2.1)) (x := aLoad Try.prog 3 (elp hd_l 3 o15.toNat 1) H67) (by kernel_rfl) (u86.ld g89 h87 (by kernel_rfl)) ?_
     refine d_qk (.pointer (some ⟨b7, 1, none⟩)) (by kernel_rfl) ?_
     refine d_ql (.int .i64 To) (x := aLoad Try.prog 3 (.pointer (some ⟨b7, 1, none⟩)) H67) (by kernel_rfl) (u91.ld (by kernel_rfl)) ?_
     refine d_qk (.bool (decide (((gt l o15).2.1) = To))) (by kernel_rfl) ?_
     refine d_qk (.bool (decide (((gt l o15).2.1) = To))) (by kernel_rfl) ?_
     refine d_nil ?_
     obtain rfl := Option.some.inj r93
     exact k84 _ _ ⟨⟨by kernel_rfl, by kernel_rfl, by kernel_rfl, by kernel_rfl, by kernel_rfl, trivial⟩, rfl⟩
    ·have r94 := ite_f h92 r90
     refine d_qk (.bool false) (by kernel_rfl) ?_
     refine d_qk (.bool false) (by kernel_rfl) ?_
     refine d_idle (by kernel_rfl) ?_
     refine d_idle (by kernel_rfl) ?_
     refine d_idle (by kernel_rfl) ?_
     refine d_idle (by kernel_rfl) ?_
     refine d_idle (by kernel_rfl) ?_
     refine d_idle (by kernel_rfl) ?_
     refine d_idle (by kernel_rfl) ?_
     refine d_idle (by kernel_rfl) ?_
     refine d_qk (.bool false) (by kernel_rfl) ?_
     refine d_nil ?_
     obtain rfl := Option.some.inj r94
     exact k84 _ _ ⟨⟨by kernel_rfl, by kernel_rfl, by kernel_rfl, by kernel_rfl, by kernel_rfl, trivial⟩, rfl⟩
   ·have r95 := ite_f h87 hx80
    refine d_qk (.bool false) (by kernel_rfl) ?_
    refine d_idle (by kernel_rfl) ?_
    refine d_idle (by kernel_rfl) ?_
    refine d_idle (by kernel_rfl) ?_
    refine d_idle (by kernel_rfl) ?_
    refine d_idle (by kernel_rfl) ?_
    refine d_idle (by kernel_rfl) ?_
    refine d_idle (by kernel_rfl) ?_
    refine d_idle (by kernel_rfl) ?_
    refine d_qk (.bool false) (by kernel_rfl) ?_
    refine d_qk (.bool false) (by kernel_rfl) ?_
    refine d_idle (by kernel_rfl) ?_
    refine d_idle (by kernel_rfl) ?_
    refine d_idle (by kernel_rfl) ?_
    refine d_idle (by kernel_rfl) ?_
    refine d_idle (by kernel_rfl) ?_
    refine d_idle (by kernel_rfl) ?_
    refine d_idle (by kernel_rfl) ?_
    refine d_idle (by kernel_rfl) ?_
    refine d_qk (.bool false) (by kernel_rfl) ?_
    refine d_nil ?_
    obtain rfl := Option.some.inj r95
    exact k84 _ _ ⟨⟨by kernel_rfl, by kernel_rfl, by kernel_rfl, by kernel_rfl, by kernel_rfl, trivial⟩, rfl⟩
  ·obtain ⟨hh85, rfl⟩ := hM
   obtain ⟨β, rfl⟩ := has_ex hh85
   clear hh85
   refine k78 _ _ ?_
   refine w_cond (o79) (by kernel_rfl) rfl (fun h96 => ?_) (fun h96 => ?_)
   ·have r97 := ite_t h96 r81
    refine w_seqk fun K98 k98 => ?_
    refine w_draw [0, 1, 2, 3, 4, 5, 6, 7, 8, 9] (by kernel_rfl) ?_
    refine d_qk (.pointer (some ⟨b7, 2, none⟩)) (by kernel_rfl) ?_
    have u99 := ((r11.frS e19 Dj.nil_l).frS e69 Dj.nil_l)
    refine d_ql (.int .i64 Weight) (x := aLoad Try.prog 3 (.pointer (some ⟨b7, 2, none⟩)) H67) (by kernel_rfl) (u99.ld (by kernel_rfl)) ?_
    refine d_qk (hd_l) (by kernel_rfl) ?_
    refine d_qk (.int .i64 o15) (by kernel_rfl) ?_
    obtain ⟨g100, r101⟩ := G_some r97
    have u102 := (u59.fr e69 Dj.nil_l)
    refine d_ql (elp hd_l 3 o15.toNat 0) (x := aIndexAddr Try.prog 57 hd_l (.int .i64 o15)) (by kernel_rfl) (u102.idxb (by kernel_rfl) g100.1 g100.2) ?_
    refine d_ql (elp hd_l 3 o15.toNat 2) (x := aFieldAddr Try.prog 73 (elp hd_l 3 o15.toNat 0) 2) (by kernel_rfl) (Sq.fldq (d := 2) u102 g100.1 g100.2 (by kernel_rfl)) ?_
    refine d_ql (.int .i64 ((gt l o15).2.2)) (x := aLoad Try.prog 3 (elp hd_l 3 o15.toNat 2) H67) (by kernel_rfl) (u102.ld g100.1 g100.2 (by kernel_rfl)) ?_
    refine d_ql (.int .i64 (min Weight ((gt l o15).2.2))) (x := aMin Try.prog [.int .i64 Weight, .int .i64 ((gt l o15).2.2)]) (by kernel_rfl) (aMin_two _ _) ?_
    refine d_qk (.pointer (some ⟨b7, 2, none⟩)) (by kernel_rfl) ?_
    obtain ⟨H103, q104, e105, r106⟩ := Row.store (P := Try.prog) (t := 3) (p := 2) e69.wf u99 (.int .i64 (min Weight ((gt l o15).2.2))) [.int .i64 (min Weight ((gt l o15).2.2))] (by kernel_rfl) (by kernel_rfl) (one_cons (rfl) (one_nil)) (Nat.le_of_ble_eq_true (by kernel_rfl)) [.int .i64 From, .int .i64 To, .int .i64 (min Weight ((gt l o15).2.2))] (by kernel_rfl)
    refine d_ek (undef) (by kernel_rfl) (map_ok q104) (st_nil) ?_
    refine d_nil ?_
    refine k98 _ _ ?_
    refine w_seqk fun K107 k107 => ?_
    refine w_reg (by kernel_rfl) ?_
    refine s_qk (.slice a73 n74 c75) (by kernel_rfl) ?_
    refine s_ql (.agg #[.int .i64 From, .int .i64 To, .int .i64 (min Weight ((gt l o15).2.2))]) (x := aLoad Try.prog 73 (.pointer (some ⟨b7, 0, none⟩)) H103) (by kernel_rfl) (r106.ld (by kernel_rfl)) ?_
    refine s_owk (enc := enc_i64_i64_i64) (sz := 3) e105.wf [(From, To, (min Weight ((gt l o15).2.2)))] 1 (by decide) (fun _ _ => rfl) (fun _ _ => rfl) rfl (by kernel_rfl) fun s108 f109 H110 e111 hf112 hm113 => ?_
    obtain ⟨a114, n115, c116, rfl⟩ := hm113.form
    have u118 := ((hm70.fr e105 (Dj.symm (hf71.djn (r11.ltF.le e19.next)))).ext e111)
    obtain ⟨g119, r120⟩ := G_some r101
    obtain ⟨s121, H122, f123, q127, e124, hm125, hf126⟩ := Ow.append (P := Try.prog) 24 e111.wf u118 hm113.sq (fun _ _ => rfl) (at_ := #[57, 57]) rfl rfl (by kernel_rfl) (by kernel_rfl) (by decide) (by have := g119; first | omega | (simp only [List.length_cons, List.length_nil] at this ⊢; omega) | (simp at this ⊢; omega))
    obtain ⟨a128, n129, c130, rfl⟩ := hm125.form
    refine s_ek (.slice a128 n129 c130) (by kernel_rfl) (q127) ?_
    refine s_qk (.slice a128 n129 c130) (by kernel_rfl) ?_
    refine s_nil ?_
    refine k107 _ _ ?_
    refine w_seqk fun K132 k132 => ?_
    refine w_reg (by kernel_rfl) ?_
    refine s_qk (.slice a128 n129 c130) (by kernel_rfl) ?_
    refine s_qk (hd_l) (by kernel_rfl) ?_
    refine s_qk (.int .i64 o15) (by kernel_rfl) ?_
    obtain ⟨g133, r134⟩ := G_some r120
    refine s_w ((o15 + 1)) (k := .i64) (x := (o15 + 1)) (by kernel_rfl) (wrap64 (by have := g133; omega)) ?_
    obtain ⟨g135, r136⟩ := G_some r134
    have u140 := (((u102.fr e105 (hb10.djn h_l.lt)).ext e111).fr e124 (hf71.djn (h_l.lt.le (ntr e9.next e19.next))))
    obtain ⟨s137, q138, hs139⟩ := Sq.cut (P := Try.prog) u140 (t := 57) (by kernel_rfl) (lo := (some (.int .i64 (o15 + 1)))) (hi := none) (l := (o15 + 1).toNat) (r := l.length) (aBound_int _ (by have := g135; omega)) (rfl) (by have := g135; omega) (by have := g135; omega)
    obtain ⟨a141, n142, c143, rfl⟩ := hs139.form
    refine s_ql (.slice a141 n142 c143) (by kernel_rfl) q138 ?_
    obtain ⟨g145, r146⟩ := G_some r136
    obtain ⟨s147, H148, f149, q153, e150, hm151, hf152⟩ := Ow.append (P := Try.prog) 24 e124.wf hm125 hs139 (fun _ _ => rfl) (at_ := #[57, 57]) rfl rfl (by kernel_rfl) (by kernel_rfl) (by decide) (by have := g145; first | omega | (simp only [List.length_cons, List.length_nil] at this ⊢; omega) | (simp at this ⊢; omega))
    obtain ⟨a154, n155, c156, rfl⟩ := hm151.form
    refine s_ek (.slice a154 n155 c156) (by kernel_rfl) (q153) ?_
    refine s_qk (.slice a154 n155 c156) (by kernel_rfl) ?_
    refine s_nil ?_
    refine k132 _ _ ?_
    refine w_ret (th_ret ?_)
    refine b_ret (fn := Try.f128) (vs := [.slice a154 n155 c156]) (aRes_tmp (by kernel_rfl) (rfl)) ?_
    obtain rfl := Option.some.inj r146
    exact ⟨(.slice a154 n155 c156), f149, rfl, (FrS.step wf (FrS.step wf ((FrS.step wf (FrS.step wf (FrS.step wf ((FrS.refl (W := []) wf).extR e9) e19 Inn.nil) e69 Inn.nil) e105 (hb10.fresh (Nat.le_refl _))).extR e111) e124 (hf71.fresh (ntr e9.next e19.next))) e150 (Inn.trans (hf71.fresh (ntr e9.next e19.next)) (ntr (ntr (ntr (ntr e9.next e19.next) e69.next) e105.next) e111.next) hf126)), hm151, (Inn.trans (Inn.trans (hf71.fresh (ntr e9.next e19.next)) (ntr (ntr (ntr (ntr e9.next e19.next) e69.next) e105.next) e111.next) hf126) (ntr (ntr (ntr (ntr (ntr e9.next e19.next) e69.next) e105.next) e111.next) e124.next) hf152)⟩
   ·have r158 := ite_bf h96 r81
    refine w_skip ?_
    refine k77 _ _ ?_
    refine w_seqk fun K159 k159 => ?_
    refine w_reg (by kernel_rfl) ?_
    refine s_qk (.slice a73 n74 c75) (by kernel_rfl) ?_
    have u160 := ((r11.frS e19 Dj.nil_l).frS e69 Dj.nil_l)
    refine s_ql (.agg #[.int .i64 From, .int .i64 To, .int .i64 Weight]) (x := aLoad Try.prog 73 (.pointer (some ⟨b7, 0, none⟩)) H67) (by kernel_rfl) (u160.ld (by kernel_rfl)) ?_
    refine s_owk (enc := enc_i64_i64_i64) (sz := 3) e69.wf [(From, To, Weight)] 1 (by decide) (fun _ _ => rfl) (fun _ _ => rfl) rfl (by kernel_rfl) fun s161 f162 H163 e164 hf165 hm166 => ?_
    obtain ⟨a167, n168, c169, rfl⟩ := hm166.form
    have u171 := (hm70.ext e164)
    obtain ⟨g172, r173⟩ := G_some r158
    obtain ⟨s174, H175, f176, q180, e177, hm178, hf179⟩ := Ow.append (P := Try.prog) 24 e164.wf u171 hm166.sq (fun _ _ => rfl) (at_ := #[57, 57]) rfl rfl (by kernel_rfl) (by kernel_rfl) (by decide) (by have := g172; first | omega | (simp only [List.length_cons, List.length_nil] at this ⊢; omega) | (simp at this ⊢; omega))
    obtain ⟨a181, n182, c183, rfl⟩ := hm178.form
    refine s_ek (.slice a181 n182 c183) (by kernel_rfl) (q180) ?_
    refine s_qk (.slice a181 n182 c183) (by kernel_rfl) ?_
    refine s_nil ?_
    refine k159 _ _ ?_
    refine w_seqk fun K185 k185 => ?_
    refine w_reg (by kernel_rfl) ?_
    refine s_qk (.slice a181 n182 c183) (by kernel_rfl) ?_
    refine s_qk (hd_l) (by kernel_rfl) ?_
    refine s_qk (.int .i64 o15) (by kernel_rfl) ?_
    have u189 := (((u59.fr e69 Dj.nil_l).ext e164).fr e177 (hf71.djn (h_l.lt.le (ntr e9.next e19.next))))
    obtain ⟨s186, q187, hs188⟩ := Sq.cut (P := Try.prog) u189 (t := 57) (by kernel_rfl) (lo := (some (.int .i64 o15))) (hi := none) (l := o15.toNat) (r := l.length) (aBound_int _ (by have := g54; omega)) (rfl) (by have := g54; omega) (by have := g54; omega)
    obtain ⟨a190, n191, c192, rfl⟩ := hs188.form
    refine s_ql (.slice a190 n191 c192) (by kernel_rfl) q187 ?_
    obtain ⟨g194, r195⟩ := G_some r173
    obtain ⟨s196, H197, f198, q202, e199, hm200, hf201⟩ := Ow.append (P := Try.prog) 24 e177.wf hm178 hs188 (fun _ _ => rfl) (at_ := #[57, 57]) rfl rfl (by kernel_rfl) (by kernel_rfl) (by decide) (by have := g194; first | omega | (simp only [List.length_cons, List.length_nil] at this ⊢; omega) | (simp at this ⊢; omega))
    obtain ⟨a203, n204, c205, rfl⟩ := hm200.form
    refine s_ek (.slice a203 n204 c205) (by kernel_rfl) (q202) ?_
    refine s_qk (.slice a203 n204 c205) (by kernel_rfl) ?_
    refine s_nil ?_
    refine k185 _ _ ?_
    refine w_ret ?_
    refine b_ret (fn := Try.f128) (vs := [.slice a203 n204 c205]) (aRes_tmp (by kernel_rfl) (rfl)) ?_
    obtain rfl := Option.some.inj r195
    exact ⟨(.slice a203 n204 c205), f198, rfl, (FrS.step wf (FrS.step wf ((FrS.step wf (FrS.step wf ((FrS.refl (W := []) wf).extR e9) e19 Inn.nil) e69 Inn.nil).extR e164) e177 (hf71.fresh (ntr e9.next e19.next))) e199 (Inn.trans (hf71.fresh (ntr e9.next e19.next)) (ntr (ntr (ntr e9.next e19.next) e69.next) e164.next) hf179)), hm200, (Inn.trans (Inn.trans (hf71.fresh (ntr e9.next e19.next)) (ntr (ntr (ntr e9.next e19.next) e69.next) e164.next) hf179) (ntr (ntr (ntr (ntr e9.next e19.next) e69.next) e164.next) e177.next) hf201)⟩

theorem c_viaductref04_Of {H : AH} {hd_Arcs : Value} {fp_Arcs : Fp} {N_ : Int} {Arcs : List (Int × Int × Int)} {r : Int × List (Int × Int × Int)}
  (wf : WF H) (h_Arcs : Sq enc_i64_i64_i64 3 H hd_Arcs Arcs fp_Arcs) (hr : z_viaductref04_Of N_ Arcs = some r) :
  ACalls Try.prog 82 #[.agg #[.int .i64 N_, hd_Arcs]] H fun v H' => ∃ (s3 : Value) (f4 : Fp), v = .agg #[.int .i64 r.1, s3] ∧ FrS [] H H' ∧ Ow enc_i64_i64_i64 3 H' s3 r.2 f4 ∧ Inn [] H f4 := by
 refine acalls_of_body mixed Try.func82 rfl (Nat.le_of_ble_eq_true rfl) ?_
 unfold z_viaductref04_Of at hr
 refine w_seqk fun K6 k6 => ?_
 refine w_reg (by kernel_rfl) ?_
 refine s_rwl wf [.int .i64 N_, hd_Arcs] (one_cons (rfl) (one_cons (h_Arcs.one1) (one_nil))) (by kernel_rfl) fun b7 H8 e9 hb10 r11 => ?_
 refine s_rwk e9.wf [.int .i64 0, .slice none 0 0] (by kernel_rfl) fun b13 H14 e15 hb16 r17 => ?_
 refine s_nil ?_
 refine k6 _ _ ?_
 refine w_seqk fun K19 k19 => ?_
 refine w_reg (by kernel_rfl) ?_
 refine s_qk (.pointer (some ⟨b7, 0, none⟩)) (by kernel_rfl) ?_
 have u20 := (r11.ext e15)
 refine s_ql (.int .i64 N_) (x := aLoad Try.prog 3 (.pointer (some ⟨b7, 0, none⟩)) H14) (by kernel_rfl) (u20.ld (by kernel_rfl)) ?_
 refine s_qk (.agg #[.int .i64 N_, .slice none 0 0]) (by kernel_rfl) ?_
 refine s_rwk e15.wf [.int .i64 0, .slice none 0 0] (by kernel_rfl) fun b21 H22 e23 hb24 r25 => ?_
 obtain ⟨H27, q28, e29, r30⟩ := Row.store (P := Try.prog) (t := 59) (p := 0) e23.wf r25 (.agg #[.int .i64 N_, .slice none 0 0]) [.int .i64 N_, .slice none 0 0] (by kernel_rfl) (by kernel_rfl) (one_cons (rfl) (one_cons (rfl) (one_nil))) (Nat.le_of_ble_eq_true (by kernel_rfl)) [.int .i64 N_, .slice none 0 0] (by kernel_rfl)
 refine s_ek (undef) (by kernel_rfl) (map_ok q28) ?_
 refine s_nil ?_
 refine k19 _ _ ?_
 refine w_seqk fun K31 k31 => ?_
 refine w_seqk fun K32 k32 => ?_
 refine w_reg (by kernel_rfl) ?_
 refine s_qk (.pointer (some ⟨b7, 1, none⟩)) (by kernel_rfl) ?_
 have u33 := ((u20.ext e23).frS e29 (hb24.djn (r11.ltF.le e15.next)))
 refine s_ql (hd_Arcs) (x := aLoad Try.prog 57 (.pointer (some ⟨b7, 1, none⟩)) H27) (by kernel_rfl) (u33.ld (by kernel_rfl)) ?_
 have u34 := ((((h_Arcs.ext e9).ext e15).ext e23).fr e29 (hb24.djn (h_Arcs.lt.le (ntr e9.next e15.next))))
 refine s_ql (.int .i64 (Arcs.length : Int)) (x := aLen Try.prog 57 hd_Arcs H27) (by kernel_rfl) (u34.lenb (by kernel_rfl)) ?_
 refine s_qk (.int .i64 0) (by kernel_rfl) ?_
 refine s_nil ?_
 refine k32 _ _ ?_
 obtain ⟨o35, hx36, r37⟩ := bind_some hr
 refine w_mid (fun α H38 => ∃ (s42 : Value) (f43 : Fp), Has α [(2, .pointer (some ⟨b13, 0, none⟩)), (3, .pointer (some ⟨b21, 0, none⟩))] ∧ FrS [b21] H27 H38 ∧ Ow enc_i64_i64_i64 3 H38 s42 o35 f43 ∧ Row H38 b21 [.int .i64 N_, s42] ∧ Inn [] H27 f43) (fun K47 k47 => ?_) (fun α H38 hM => ?_)
 ·refine w_block ?_
  obtain ⟨n49, hn50⟩ := loopO_iff.1 hx36
  refine w_loopn (fun n α H51 => ∃ (i0 : Int), ∃ (c1 : List (Int × Int × Int)), ∃ (s55 : Value), ∃ (f56 : Fp), iterO (fun zz_ => z_viaductref04_Of_l0 Arcs zz_.1 zz_.2) n (i0, c1) = some o35 ∧ Has α [(2, .pointer (some ⟨b13, 0, none⟩)), (3, .pointer (some ⟨b21, 0, none⟩)), (10, hd_Arcs), (11, .int .i64 (Arcs.length : Int)), (12, .int .i64 i0)] ∧ FrS [b21] H27 H51 ∧ Ow enc_i64_i64_i64 3 H51 s55 c1 f56 ∧ Row H51 b21 [.int .i64 N_, s55] ∧ Inn [] H27 f56) n49 ⟨0, [], (.slice none 0 0), [], hn50, ⟨by kernel_rfl, by kernel_rfl, by kernel_rfl, by kernel_rfl, by kernel_rfl, trivial⟩, (FrS.refl (W := [b21]) e29.wf), (Ow.nil (by decide)), r30, Inn.nil⟩ ?_
  rintro n49 α H51 ⟨i0, c1, s55, f56, hi61, hh60, e52, m54, m58, i59⟩ K66 k66
  obtain ⟨n62, z63, rfl, hz64, hn65⟩ := iter_succ hi61
  obtain ⟨β, rfl⟩ := has_ex hh60
  clear hh60
  replace hz64 : z_viaductref04_Of_l0 Arcs i0 c1 = some z63 := hz64
  unfold z_viaductref04_Of_l0 at hz64
  obtain ⟨a67, n68, c69, rfl⟩ := m54.form
  refine w_seqk fun K70 k70 => ?_
  refine w_reg (by kernel_rfl) ?_
  refine s_qk (.bool (decide (i0 < (Arcs.length : Int)))) (by kernel_rfl) ?_
  refine s_nil ?_
  refine k70 _ _ ?_
  refine w_seqk fun K71 k71 => ?_
  refine w_condp (i0 < (Arcs.length : Int)) (by kernel_rfl) rfl (fun h72 => ?_) (fun h72 => ?_)
  ·have r73 := ite_t h72 hz64
   refine w_skip ?_
   refine k71 _ _ ?_
   refine w_seqk fun K74 k74 => ?_
   refine w_block ?_
   refine w_seqk fun K75 k75 => ?_
   refine w_reg (by kernel_rfl) ?_
   obtain ⟨g76, r77⟩ := G_some r73
   have u78 := (u34.fr e52 (hb24.djn (h_Arcs.lt.le (ntr e9.next e15.next))))
   refine s_ql (elp hd_Arcs 3 i0.toNat 0) (x := aIndexAddr Try.prog 57 hd_Arcs (.int .i64 i0)) (by kernel_rfl) (u78.idxb (by kernel_rfl) g76 h72) ?_
   refine s_ql (.agg #[.int .i64 ((gt Arcs i0).1), .int .i64 ((gt Arcs i0).2.1), .int .i64 ((gt Arcs i0).2.2)]) (x := aLoad Try.prog 73 (elp hd_Arcs 3 i0.toNat 0) H51) (by kernel_rfl) (u78.ld g76 h72 (by kernel_rfl)) ?_
   refine s_rwk e52.wf [.int .i64 0, .int .i64 0, .int .i64 0] (by kernel_rfl) fun b79 H80 e81 hb82 r83 => ?_
   obtain ⟨H85, q86, e87, r88⟩ := Row.store (P := Try.prog) (t := 73) (p := 0) e81.wf r83 (.agg #[.int .i64 ((gt Arcs i0).1), .int .i64 ((gt Arcs i0).2.1), .int .i64 ((gt Arcs i0).2.2)]) [.int .i64 ((gt Arcs i0).1), .int .i64 ((gt Arcs i0).2.1), .int .i64 ((gt Arcs i0).2.2)] (by kernel_rfl) (by kernel_rfl) (one_cons (rfl) (one_cons (rfl) (one_cons (rfl) (one_nil)))) (Nat.le_of_ble_eq_true (by kernel_rfl)) [.int .i64 ((gt Arcs i0).1), .int .i64 ((gt Arcs i0).2.1), .int .i64 ((gt Arcs i0).2.2)] (by kernel_rfl)
   refine s_ek (undef) (by kernel_rfl) (map_ok q86) ?_
   refine s_nil ?_
   refine k75 _ _ ?_
   refine w_seqk fun K89 k89 => ?_
   refine w_reg (by kernel_rfl) ?_
   refine s_qk (.pointer (some ⟨b79, 0, none⟩)) (by kernel_rfl) ?_
   refine s_ql (.int .i64 ((gt Arcs i0).1)) (x := aLoad Try.prog 3 (.pointer (some ⟨b79, 0, none⟩)) H85) (by kernel_rfl) (r88.ld (by kernel_rfl)) ?_
   refine s_qk (.pointer (some ⟨b79, 1, none⟩)) (by kernel_rfl) ?_
   refine s_ql (.int .i64 ((gt Arcs i0).2.1)) (x := aLoad Try.prog 3 (.pointer (some ⟨b79, 1, none⟩)) H85) (by kernel_rfl) (r88.ld (by kernel_rfl)) ?_
   refine s_qk (.bool (!decide (((gt Arcs i0).1) = ((gt Arcs i0).2.1)))) (by kernel_rfl) ?_
   refine s_nil ?_
   refine k89 _ _ ?_
   refine w_condn (((gt Arcs i0).1) = ((gt Arcs i0).2.1)) (by kernel_rfl) rfl (fun h90 => ?_) (fun h90 => ?_)
   ·have r91 := ite_f h90 r77
    refine w_reg (by kernel_rfl) ?_
    refine s_qk (.pointer (some ⟨b21, 1, none⟩)) (by kernel_rfl) ?_
    have u92 := ((m58.ext e81).frS e87 (hb82.djn (r25.ltF.le (ntr e29.next e52.next))))
    refine s_ql (.slice a67 n68 c69) (x := aLoad Try.prog 57 (.pointer (some ⟨b21, 1, none⟩)) H85) (by kernel_rfl) (u92.ld (by kernel_rfl)) ?_
    refine s_ql (.agg #[.int .i64 ((gt Arcs i0).1), .int .i64 ((gt Arcs i0).2.1), .int .i64 ((gt Arcs i0).2.2)]) (x := aLoad Try.prog 73 (.pointer (some ⟨b79, 0, none⟩)) H85) (by kernel_rfl) (r88.ld (by kernel_rfl)) ?_
    have u93 := ((m54.ext e81).fr e87 (hb82.djn m54.lt))
    obtain ⟨y94, hy95, r96⟩ := bind_some r91
    refine s_ck 128 #[.slice a67 n68 c69, .agg #[.int .i64 ((gt Arcs i0).1), .int .i64 ((gt Arcs i0).2.1), .int .i64 ((gt Arcs i0).2.2)]] (by kernel_rfl) (c_viaductref04_Put e87.wf u93.sq hy95) ?_
    rintro s97 H99 ⟨_, f98, rfl, e100, m101, i102⟩
    obtain ⟨a104, n105, c106, rfl⟩ := m101.form
    refine s_qk (.pointer (some ⟨b21, 1, none⟩)) (by kernel_rfl) ?_
    have u111 := (u92.frS e100 Dj.nil_l)
    obtain ⟨H107, q108, e109, r110⟩ := Row.store (P := Try.prog) (t := 57) (p := 1) e100.wf u111 (.slice a104 n105 c106) [.slice a104 n105 c106] (by kernel_rfl) (by kernel_rfl) (one_cons (m101.one1) (one_nil)) (Nat.le_of_ble_eq_true (by kernel_rfl)) [.int .i64 N_, .slice a104 n105 c106] (by kernel_rfl)
    refine s_ek (undef) (by kernel_rfl) (map_ok q108) ?_
    refine s_nil ?_
    refine k74 _ _ ?_
    refine w_reg (by kernel_rfl) ?_
    obtain ⟨g112, r113⟩ := G_some r96
    refine s_w ((i0 + 1)) (k := .i64) (x := (i0 + 1)) (by kernel_rfl) (wrap64 (by have := g112; omega)) ?_
    refine s_qk (.int .i64 (i0 + 1)) (by kernel_rfl) ?_
    refine s_nil ?_
    have u114 := (m101.fr e109 (Dj.symm (i102.djn (r25.ltF.le (ntr (ntr (ntr e29.next e52.next) e81.next) e87.next)))))
    obtain rfl := Option.some.inj r113
    exact k66 n62 _ _ (Nat.lt_succ_self _) ⟨(i0 + 1), y94, (.slice a104 n105 c106), f98, hn65, ⟨by kernel_rfl, by kernel_rfl, by kernel_rfl, by kernel_rfl, by kernel_rfl, trivial⟩, (FrS.step e29.wf (FrS.step e29.wf (FrS.step e29.wf ((FrS.step e29.wf (FrS.refl (W := [b21]) e29.wf) e52 Inn.refl').extR e81) e87 (hb82.fresh e52.next)) e100 Inn.nil) e109 Inn.refl'), u114, r110, (i102.fresh (ntr (ntr e52.next e81.next) e87.next))⟩
   ·have r115 := ite_t h90 r77
    refine w_skip ?_
    refine k74 _ _ ?_
    refine w_reg (by kernel_rfl) ?_
    obtain ⟨g116, r117⟩ := G_some r115
    refine s_w ((i0 + 1)) (k := .i64) (x := (i0 + 1)) (by kernel_rfl) (wrap64 (by have := g116; omega)) ?_
    refine s_qk (.int .i64 (i0 + 1)) (by kernel_rfl) ?_
    refine s_nil ?_
    have u118 := ((m54.ext e81).fr e87 (hb82.djn m54.lt))
    have u119 := ((m58.ext e81).frS e87 (hb82.djn (r25.ltF.le (ntr e29.next e52.next))))
    obtain rfl := Option.some.inj r117
    exact k66 n62 _ _ (Nat.lt_succ_self _) ⟨(i0 + 1), c1, (.slice a67 n68 c69), f56, hn65, ⟨by kernel_rfl, by kernel_rfl, by kernel_rfl, by kernel_rfl, by kernel_rfl, trivial⟩, (FrS.step e29.wf ((FrS.step e29.wf (FrS.refl (W := [b21]) e29.wf) e52 Inn.refl').extR e81) e87 (hb82.fresh e52.next)), u118, u119, (i59.fresh (Nat.le_refl _))⟩
  ·have r120 := ite_f h72 hz64
   refine w_exit (th_exit (th_exit (bl_eq ?_)))
   obtain rfl := Option.some.inj r120
   obtain rfl := it_inr hn65
   exact k47 _ _ ⟨(.slice a67 n68 c69), f56, ⟨by kernel_rfl, by kernel_rfl, trivial⟩, (FrS.step e29.wf (FrS.refl (W := [b21]) e29.wf) e52 Inn.refl'), m54, m58, (i59.fresh (Nat.le_refl _))⟩
 ·obtain ⟨s42, f43, hh48, e39, m41, m45, i46⟩ := hM
  obtain ⟨β, rfl⟩ := has_ex hh48
  clear hh48
  obtain ⟨a121, n122, c123, rfl⟩ := m41.form
  refine k31 _ _ ?_
  refine w_seqk fun K124 k124 => ?_
  refine w_reg (by kernel_rfl) ?_
  refine s_ql (.agg #[.int .i64 N_, .slice a121 n122 c123]) (x := aLoad Try.prog 59 (.pointer (some ⟨b21, 0, none⟩)) H38) (by kernel_rfl) (m45.ld (by kernel_rfl)) ?_
  have u129 := (((r17.ext e23).frS e29 (hb24.djn r17.ltF)).frS e39 (hb24.djn r17.ltF))
  obtain ⟨H125, q126, e127, r128⟩ := Row.store (P := Try.prog) (t := 59) (p := 0) e39.wf u129 (.agg #[.int .i64 N_, .slice a121 n122 c123]) [.int .i64 N_, .slice a121 n122 c123] (by kernel_rfl) (by kernel_rfl) (one_cons (rfl) (one_cons (m41.one1) (one_nil))) (Nat.le_of_ble_eq_true (by kernel_rfl)) [.int .i64 N_, .slice a121 n122 c123] (by kernel_rfl)
  refine s_ek (undef) (by kernel_rfl) (map_ok q126) ?_
  refine s_nil ?_
  refine k124 _ _ ?_
  refine w_ret ?_
  refine b_ret (fn := Try.f82) (vs := [.agg #[.int .i64 N_, .slice a121 n122 c123]]) (aRes_cell (Eq.trans (b := aLoad Try.prog 59 (.pointer (some ⟨b13, 0, none⟩)) H125) (by kernel_rfl) (r128.ld (by kernel_rfl))) (rfl)) ?_
  have u130 := (m41.fr e127 (Dj.symm (i46.djn (r17.ltF.le (ntr e23.next e29.next)))))
  obtain rfl := Option.some.inj r37
  exact ⟨(.slice a121 n122 c123), f43, rfl, (FrS.step wf (FrS.step wf (FrS.step wf ((((FrS.refl (W := []) wf).extR e9).extR e15).extR e23) e29 (hb24.fresh (ntr e9.next e15.next))) e39 (hb24.fresh (ntr e9.next e15.next))) e127 (hb16.fresh e9.next)), u130, (i46.fresh (ntr (ntr (ntr e9.next e15.next) e23.next) e29.next))⟩


end Go.Vd
