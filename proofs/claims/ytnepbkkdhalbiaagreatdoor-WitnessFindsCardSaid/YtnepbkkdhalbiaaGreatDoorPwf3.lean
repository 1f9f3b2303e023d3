/- The walks of the functions (printed by a program of ours). -/
import Derived.Test.YtnepbkkdhalbiaaGreatDoorPwf2
import Derived.Test.YtnepbkkdhalbiaaGreatDoorPwfIWf
import Derived.Test.YtnepbkkdhalbiaaGreatDoorPwfVeN
import Derived.Test.YtnepbkkdhalbiaaGreatDoorPwfSoA
import Derived.Test.YtnepbkkdhalbiaaGreatDoorPwfVeV
set_option linter.unusedVariables false
set_option linter.unusedSimpArgs false
set_option linter.unusedSectionVars false
/-! (KWf0) -/

set_option maxRecDepth 100000
set_option maxHeartbeats 4000000
set_option linter.unusedVariables false
namespace Go.Vd
open Go.Proofs
attribute [local irreducible] wpSeq wpOrd aWp
set_option linter.unusedSimpArgs false
theorem e_pure {α : Type} (P : Program) (a : α) : pr P (pure a : Sem α) = some a := rfl
theorem e_prog {P : Program} : pr P (program : Sem Program) = some P := rfl
theorem e_und {P : Program} {t : TypeId} {d : TypeDesc} (h : P.underlying t = some d) : pr P (underlying t) = some d := by
  simp only [underlying, pr_bind]
  show ((pr P (program : Sem Program)).bind _) = _
  simp [show pr P (program : Sem Program) = some P from rfl, h]
  rfl
theorem e_int {P : Program} (d : Nat) (t : TypeId) (k : IntKind) (h : P.underlying t = some (.int k)) (a c : Int) : pr P (Op.equalIn (d+1) t (.int k a) (.int k c)) = some (a == c) := by
  simp only [Op.equalIn, pr_bind, e_und h]
  simp [e_pure]
theorem e_bool {P : Program} (d : Nat) (t : TypeId) (h : P.underlying t = some .bool) (a c : Bool) : pr P (Op.equalIn (d+1) t (.bool a) (.bool c)) = some (a == c) := by
  simp only [Op.equalIn, pr_bind, e_und h]
  simp [e_pure]
theorem e115_p0 (a0 : Int) (a1 : Int) : pr Tryz.prog (part 101 #[i_ a0, i_ a1] 0) = some (i_ a0) := by kernel_rfl
theorem e115_q0 (a c : Int) : pr Tryz.prog (Op.equalIn 9999 101 (i_ a) (i_ c)) = some (a == c) := e_int 9998 101 .i64 Go.Proofs.Tryz.underlying101 a c
theorem e115_p1 (a0 : Int) (a1 : Int) : pr Tryz.prog (part 3 #[i_ a0, i_ a1] 1) = some (i_ a1) := by kernel_rfl
theorem e115_q1 (a c : Int) : pr Tryz.prog (Op.equalIn 9999 3 (i_ a) (i_ c)) = some (a == c) := e_int 9998 3 .i64 Go.Proofs.Tryz.underlying3 a c
theorem e115_stood : Tryz.prog.stoodInHeld 115 = false := by kernel_rfl
theorem e115_eq (a0 : Int) (a1 : Int) (c0 : Int) (c1 : Int) : pr Tryz.prog (Op.equalIn Op.maxDepth 115 (.agg #[i_ a0, i_ a1]) (.agg #[i_ c0, i_ c1])) = some (a0 == c0 && a1 == c1) := by
  rw [show Op.maxDepth = 9998 + 1 + 1 from rfl, Op.equalIn]
  rw [pr_bind, e_und Go.Proofs.Tryz.underlying115]
  simp only [Option.bind_some, pr_bind, e_prog, e115_stood, Bool.false_eq_true, if_false]
  simp [pr_bind, e115_p0, e115_p1, e115_q0, e115_q1]
  by_cases h0 : a0 = c0
  · subst h0
    by_cases h1 : a1 = c1
    · subst h1
      simp [e_pure, pr_bind, e115_p0, e115_p1, e115_q0, e115_q1]
    · simp [e_pure, pr_bind, e115_p0, e115_p1, e115_q0, e115_q1, h1]
  · simp [e_pure, pr_bind, e115_p0, e115_p1, e115_q0, e115_q1, h0]
theorem e115_gneq (x y : Operand) (a0 : Int) (a1 : Int) (c0 : Int) (c1 : Int) : pr Tryz.prog (eqGuard .neq 115 x y (.agg #[i_ a0, i_ a1]) (.agg #[i_ c0, i_ c1])) = some () := by kernel_rfl
theorem aBin_neq115 (x y : Operand) (a0 : Int) (a1 : Int) (c0 : Int) (c1 : Int) : aBin Tryz.prog .neq 115 x y (.agg #[i_ a0, i_ a1]) (.agg #[i_ c0, i_ c1]) = some (.bool (!decide (a0 = c0 /\ a1 = c1))) := by
  unfold aBin
  rw [if_pos (show (plain (.agg #[i_ a0, i_ a1]) && plain (.agg #[i_ c0, i_ c1])) = true from rfl), pr_bind, e115_gneq]
  have : pr Tryz.prog (binOp .neq 115 (.agg #[i_ a0, i_ a1]) (.agg #[i_ c0, i_ c1])) = some (.bool (!decide (a0 = c0 /\ a1 = c1))) := by
    simp only [binOp, Op.equal, pr_bind, e115_eq]
    by_cases g0 : a0 = c0 <;> by_cases g1 : a1 = c1 <;> simp [e_pure, g0, g1]
  simp only [Option.bind_some, this]
  rfl
theorem e115_geql (x y : Operand) (a0 : Int) (a1 : Int) (c0 : Int) (c1 : Int) : pr Tryz.prog (eqGuard .eql 115 x y (.agg #[i_ a0, i_ a1]) (.agg #[i_ c0, i_ c1])) = some () := by kernel_rfl
theorem aBin_eql115 (x y : Operand) (a0 : Int) (a1 : Int) (c0 : Int) (c1 : Int) : aBin Tryz.prog .eql 115 x y (.agg #[i_ a0, i_ a1]) (.agg #[i_ c0, i_ c1]) = some (.bool (decide (a0 = c0 /\ a1 = c1))) := by
  unfold aBin
  rw [if_pos (show (plain (.agg #[i_ a0, i_ a1]) && plain (.agg #[i_ c0, i_ c1])) = true from rfl), pr_bind, e115_geql]
  have : pr Tryz.prog (binOp .eql 115 (.agg #[i_ a0, i_ a1]) (.agg #[i_ c0, i_ c1])) = some (.bool (decide (a0 = c0 /\ a1 = c1))) := by
    simp only [binOp, Op.equal, pr_bind, e115_eq]
    by_cases g0 : a0 = c0 <;> by_cases g1 : a1 = c1 <;> simp [e_pure, g0, g1]
  simp only [Option.bind_some, this]
  rfl
theorem c_viaductlaw12_awake_ev : evB Tryz.prog 100000 7 #[] = some true := by kernel_rfl
theorem c_viaductlaw12_awake {H : AH} : ACalls Tryz.prog 7 #[] H fun v H' => H = H' /\ v = .bool true :=
  (acalls_evB mixed c_viaductlaw12_awake_ev rfl H).mono fun _ _ ⟨a, b⟩ => ⟨b.symm, a⟩
theorem c_viaductref01_E {H : AH} {n_ : Int} {r : Int}
    (wf : WF H) (hr : z_viaductref01_E n_ = some r) :
    ACalls Tryz.prog 30 #[i_ n_] H fun v H' => v = .agg #[i_ r, .slice none 0 0] /\ FrS [] H H' := by
 refine ab_ Tryz.func30 ?_
 unfold z_viaductref01_E at hr
 refine sq_ fun k1 => g_' ?_
 refine rk_ wf [i_ 0, .slice none 0 0] fun b2 H3 e4 hb5 r6 => ?_
 refine s_nil (k1 _ _ (sq_ fun k8 => g_' (q_ (i_ n_) (q_ (.agg #[i_ n_, .slice none 0 0]) ?_))))
 obtain ⟨H9, q10, e11, r12⟩ := ra_ 44 0 e4.wf r6 [i_ n_, .slice none 0 0] [i_ n_, .slice none 0 0]
 refine ek_ q10 (s_nil (k8 _ _ ?_))
 refine w_ret ?_
 refine b_ret (vs := [.agg #[i_ n_, .slice none 0 0]]) (aRes_cell (Eq.trans (b := aL_ 44 (pt_ b2 0) H9) (by kernel_rfl) (r12.l_)) (rfl)) ?_
 obtain rfl := oi_ hr
 exact ⟨rfl, (fs_ wf ((f0_ wf).extR e4) e11 (hb5.fresh (Nat.le_refl _)))⟩
theorem c_viaductref01_At {H : AH} {hd_Places : Value} {fp_Places : Fp} {kind : Int} {at_ : Int} {Code : Int} {Places : List (Int × Int)} {r : Int × List (Int × Int)}
    (wf : WF H) (h_Places : Sq enc_i64_i64 2 H hd_Places Places fp_Places) (hr : z_viaductref01_At kind at_ Code Places = some r) :
    ACalls Tryz.prog 45 #[i_ kind, i_ at_, .agg #[i_ Code, hd_Places]] H fun v H' => ∃ (s3 : Value) (f4 : Fp), v = .agg #[i_ r.1, s3] /\ FrS [] H H' /\ Ow enc_i64_i64 2 H' s3 r.2 f4 /\ Inn [] H f4 := by
 refine ab_ Tryz.func45 ?_
 unfold z_viaductref01_At at hr
 refine sq_ fun k6 => g_' ?_
 refine s_rwl wf [i_ Code, hd_Places] (one_cons (rfl) (one_cons (h_Places.one1) (one_nil))) (by kernel_rfl) fun b7 H8 e9 hb10 r11 => ?_
 refine rk_ e9.wf [i_ 0, .slice none 0 0] fun b13 H14 e15 hb16 r17 => ?_
 refine s_nil (k6 _ _ (sq_ fun k19 => g_' (q_ (i_ kind) (q_ (i_ at_) (q_ (.agg #[i_ kind, i_ at_]) ?_)))))
 refine s_owk (enc := enc_i64_i64) (sz := 2) e15.wf [(kind, at_)] 1 (by decide) (fun _ _ => rfl) (fun _ _ => rfl) rfl (by kernel_rfl) fun s20 f21 H22 e23 hf24 hm25 => ?_
 obtain ⟨a26, n27, c28, rfl⟩ := hm25.form
 refine q_ (.slice a26 n27 c28) (s_nil (k19 _ _ (sq_ fun k30 => g_' (q_ (.slice a26 n27 c28) (q_ (pt_ b7 1) ?_)))))
 have u31 := ((r11.ext e15).ext e23)
 refine lr_ 42 1 (hd_Places) u31 ?_
 obtain ⟨g32, r33⟩ := G_some hr
 have u41 := (((h_Places.ext e9).ext e15).ext e23)
 obtain ⟨s34, H35, f36, q40, e37, hm38, hf39⟩ := Ow.append (P := Tryz.prog) 16 e23.wf hm25 u41 (fun _ _ => rfl) (at_ := #[42, 42]) rfl rfl (by kernel_rfl) (by kernel_rfl) (by decide) (by have := g32; first | omega | (simp only [List.length_cons, List.length_nil] at this ⊢; omega) | (simp at this ⊢; omega))
 obtain ⟨a42, n43, c44, rfl⟩ := hm38.form
 refine s_ek (.slice a42 n43 c44) (by kernel_rfl) (q40) ?_
 refine q_ (.slice a42 n43 c44) (s_nil (k30 _ _ (sq_ fun k46 => g_' (q_ (pt_ b7 0) ?_))))
 have d47 := (hf24.djn (r11.ltF.le e15.n))
 have u48 := (u31.frS e37 d47)
 refine lr_ 3 0 (i_ Code) u48 (q_ (.slice a42 n43 c44) (q_ (.agg #[i_ Code, .slice a42 n43 c44]) ?_))
 have u53 := ((r17.ext e23).frS e37 (hf24.djn r17.ltF))
 obtain ⟨H49, q50, e51, r52⟩ := ra_ 44 0 e37.wf u53 [i_ Code, .slice a42 n43 c44] [i_ Code, .slice a42 n43 c44]
 refine ek_ q50 (s_nil (k46 _ _ ?_))
 refine w_ret ?_
 refine b_ret (vs := [.agg #[i_ Code, .slice a42 n43 c44]]) (aRes_cell (Eq.trans (b := aL_ 44 (pt_ b13 0) H49) (by kernel_rfl) (r52.l_)) (rfl)) ?_
 have n54 := (t_ e9.n e15.n)
 have d55 := (hf39.dj (hf24.djn r17.ltF) (r17.ltF.le e23.n))
 have u56 := (hm38.fr e51 (Dj.symm d55))
 have n57 := (t_ (t_ e9.n e15.n) e23.n)
 obtain rfl := oi_ r33
 exact ⟨(.slice a42 n43 c44), f36, rfl, (fs_ wf (fs_ wf ((((f0_ wf).extR e9).extR e15).extR e23) e37 (hf24.fresh n54)) e51 (hb16.fresh e9.n)), u56, (Inn.trans (hf24.fresh n54) n57 hf39)⟩
theorem c_viaductref03_DocCheck {H : AH} {hd_Arcs : Value} {fp_Arcs : Fp} {N_ : Int} {Arcs : List (Int × Int × Int)} {r : Int × List (Int × Int)}
    (wf : WF H) (h_Arcs : Sq enc_i64_i64_i64 3 H hd_Arcs Arcs fp_Arcs) (hr : z_viaductref03_DocCheck N_ Arcs = some r) :
    ACalls Tryz.prog 58 #[.agg #[i_ N_, hd_Arcs]] H fun v H' => ∃ (s3 : Value) (f4 : Fp), v = .agg #[i_ r.1, s3] /\ FrS [] H H' /\ Ow enc_i64_i64 2 H' s3 r.2 f4 /\ Inn [] H f4 := by
 refine ab_ Tryz.func58 ?_
 unfold z_viaductref03_DocCheck at hr
 refine sq_ fun k6 => g_' ?_
 refine s_rwl wf [i_ N_, hd_Arcs] (one_cons (rfl) (one_cons (h_Arcs.one1) (one_nil))) (by kernel_rfl) fun b7 H8 e9 hb10 r11 => ?_
 refine rk_ e9.wf [i_ 0, .slice none 0 0] fun b13 H14 e15 hb16 r17 => ?_
 refine s_nil (k6 _ _ (sq_ fun k19 => sq_ fun k20 => ?_))
 obtain ⟨o21, hx22, r23⟩ := bs_ hr
 refine w_mid (fun α H24 => Has α [(1, pt_ b7 0), (2, pt_ b13 0), (18, .bool o21)] /\ H14 = H24) (fun _ k26 => ?_) (fun α H24 hM => ?_)
 ·refine g_' (q_ (pt_ b7 0) ?_)
  have u28 := (r11.ext e15)
  refine lr_ 3 0 (i_ N_) u28 ?_
  refine sb_ (N_ < 0) (fun h29 => ?_) fun h29 => ?_
  ·have r30 := ite_t h29 hx22
   refine q_ (.bool true) (n_' (n_' (n_' (q_ (.bool true) (q_ (.bool true) (n_' (n_' (n_' (n_' (q_ (.bool true) (s_nil ?_)))))))))))
   obtain rfl := oi_ r30
   exact k26 _ _ ⟨ha_, rfl⟩
  have r31 := ite_f h29 hx22
  refine q_ (.bool false) (q_ (pt_ b7 0) (lr_ 3 0 (i_ N_) u28 ?_))
  refine sb_ (N_ > 65536) (fun h32 => ?_) fun h32 => ?_
  ·have r33 := ite_t h32 r31
   refine q_ (.bool true) (q_ (.bool true) (n_' (n_' (n_' (n_' (q_ (.bool true) (s_nil ?_)))))))
   obtain rfl := oi_ r33
   exact k26 _ _ ⟨ha_, rfl⟩
  have r34 := ite_f h32 r31
  refine q_ (.bool false) (q_ (.bool false) (q_ (pt_ b7 1) (lr_ 22 1 (hd_Arcs) u28 ?_)))
  have u35 := ((h_Arcs.ext e9).ext e15)
  refine u35.ln_ 22 (q_ (.bool (decide ((Arcs.length : Int) > 262144))) (q_ (.bool (decide ((Arcs.length : Int) > 262144))) (s_nil ?_)))
  obtain rfl := oi_ r34
  exact k26 _ _ ⟨ha_, rfl⟩
 obtain ⟨hh27, rfl⟩ := hM
 obtain ⟨β, rfl⟩ := has_ex hh27
 clear hh27
 refine k20 _ _ ?_
 refine wb_ (o21) (fun h36 => ?_) fun h36 => ?_
 ·have r37 := ite_t h36 r23
  refine sq_ fun k38 => g_' ?_
  obtain ⟨y39, hy40, r41⟩ := bs_ r37
  refine ck_ (c_viaductref01_E e15.wf hy40) ?_
  rintro _ H42 ⟨rfl, e43⟩
  have u48 := (r17.frS e43 dn_)
  obtain ⟨H44, q45, e46, r47⟩ := ra_ 44 0 e43.wf u48 [i_ y39, .slice none 0 0] [i_ y39, .slice none 0 0]
  refine ek_ q45 (s_nil (k38 _ _ ?_))
  refine w_ret (th_ret ?_)
  refine b_ret (vs := [.agg #[i_ y39, .slice none 0 0]]) (aRes_cell (Eq.trans (b := aL_ 44 (pt_ b13 0) H44) (by kernel_rfl) (r47.l_)) (rfl)) ?_
  obtain rfl := oi_ r41
  exact ⟨(.slice none 0 0), [], rfl, (fs_ wf (fs_ wf (((f0_ wf).extR e9).extR e15) e43 in_) e46 (hb16.fresh e9.n)), (Ow.nil (by decide)), in_⟩
 have r49 := ite_bf h36 r23
 refine w_skip (k19 _ _ (sq_ fun k50 => sq_ fun k51 => g_' (q_ (pt_ b7 1) ?_)))
 have u52 := (r11.ext e15)
 refine lr_ 22 1 (hd_Arcs) u52 ?_
 have u53 := ((h_Arcs.ext e9).ext e15)
 refine u53.ln_ 22 (q_ (i_ 0) (s_nil (k51 _ _ ?_)))
 obtain ⟨z57, hx55, r56⟩ := bs_ r49
 refine w_mid (fun α H58 => ∃ o54, z57 = Sum.inr o54 /\ Has α [(2, pt_ b13 0)] /\ FrS [] H14 H58) (fun _ k60 => ?_) (fun α H58 hM => ?_)
 ·refine w_block ?_
  obtain ⟨n62, hn63⟩ := loopO_iff.1 hx55
  refine w_loopn (fun n α H64 => ∃ (i0 : Int), iterO (fun zz_ => z_viaductref03_DocCheck_l0 N_ Arcs zz_) n i0 = some z57 /\ Has α [(1, pt_ b7 0), (2, pt_ b13 0), (21, hd_Arcs), (22, i_ (Arcs.length : Int)), (23, i_ i0)] /\ FrS [] H14 H64) n62 ⟨0, hn63, ha_, (fr_ e15.wf)⟩ ?_
  rintro n62 α H64 ⟨i0, hi67, hh66, e65⟩ K72 k72
  obtain ⟨n68, z69, rfl, hz70, hn71⟩ := iter_succ hi67
  obtain ⟨β, rfl⟩ := has_ex hh66
  clear hh66
  replace hz70 : z_viaductref03_DocCheck_l0 N_ Arcs i0 = some z69 := hz70
  unfold z_viaductref03_DocCheck_l0 at hz70
  refine sq_ fun k73 => g_' (q_ (.bool (decide (i0 < (Arcs.length : Int)))) (s_nil (k73 _ _ (sq_ fun k74 => ?_))))
  refine wc_ (i0 < (Arcs.length : Int)) (fun h75 => ?_) fun h75 => ?_
  ·have r76 := ite_t h75 hz70
   refine w_skip (k74 _ _ (sq_ fun k77 => w_block (sq_ fun k78 => g_' (q_ (i_ i0) ?_))))
   obtain ⟨g79, r80⟩ := G_some r76
   have u81 := (u53.fr e65 dn_)
   refine u81.ix_ 22 g79 h75 (le_ 74 0 (.agg #[i_ ((gt Arcs i0).1), i_ ((gt Arcs i0).2.1), i_ ((gt Arcs i0).2.2)]) u81 g79 h75 ?_)
   refine rk_ e65.wf [i_ 0, i_ 0, i_ 0] fun b82 H83 e84 hb85 r86 => ?_
   refine q_ (i_ i0) ?_
   obtain ⟨H88, q89, e90, r91⟩ := ra_ 74 0 e84.wf r86 [i_ ((gt Arcs i0).1), i_ ((gt Arcs i0).2.1), i_ ((gt Arcs i0).2.2)] [i_ ((gt Arcs i0).1), i_ ((gt Arcs i0).2.1), i_ ((gt Arcs i0).2.2)]
   refine ek_ q89 (s_nil (k78 _ _ (sq_ fun k92 => sq_ fun k93 => ?_)))
   obtain ⟨o94, hx95, r96⟩ := bs_ r80
   refine w_mid (fun α H97 => Has α [(1, pt_ b7 0), (2, pt_ b13 0), (3, i_ i0), (4, pt_ b82 0), (21, hd_Arcs), (22, i_ (Arcs.length : Int)), (23, i_ i0), (49, .bool o94)] /\ H88 = H97) (fun _ k99 => ?_) (fun α H97 hM => ?_)
   ·refine g_' (q_ (pt_ b82 0) (lr_ 3 0 (i_ ((gt Arcs i0).1)) r91 ?_))
    refine sb_ (((gt Arcs i0).1) < 0) (fun h101 => ?_) fun h101 => ?_
    ·have r102 := ite_t h101 hx95
     refine q_ (.bool true) (n_' (n_' (n_' (n_' (n_' (q_ (.bool true) (q_ (.bool true) (n_' (n_' (n_' (q_ (.bool true) (q_ (.bool true) (n_' (n_' (n_' (n_' (n_' (q_ (.bool true) (s_nil ?_)))))))))))))))))))
     obtain rfl := oi_ r102
     exact k99 _ _ ⟨ha_, rfl⟩
    have r103 := ite_f h101 hx95
    refine q_ (.bool false) (q_ (pt_ b82 0) (lr_ 3 0 (i_ ((gt Arcs i0).1)) r91 (q_ (pt_ b7 0) ?_)))
    have n104 := (t_ e15.n e65.n)
    have d105 := (hb85.djn (r11.ltF.le n104))
    have u106 := (((u52.frS e65 dn_).ext e84).frS e90 d105)
    refine lr_ 3 0 (i_ N_) u106 ?_
    refine sb_ (((gt Arcs i0).1) ≥ N_) (fun h107 => ?_) fun h107 => ?_
    ·have r108 := ite_t h107 r103
     refine q_ (.bool true) (q_ (.bool true) (n_' (n_' (n_' (q_ (.bool true) (q_ (.bool true) (n_' (n_' (n_' (n_' (n_' (q_ (.bool true) (s_nil ?_)))))))))))))
     obtain rfl := oi_ r108
     exact k99 _ _ ⟨ha_, rfl⟩
    have r109 := ite_f h107 r103
    refine q_ (.bool false) (q_ (.bool false) (q_ (pt_ b82 1) (lr_ 3 1 (i_ ((gt Arcs i0).2.1)) r91 ?_)))
    refine sb_ (((gt Arcs i0).2.1) < 0) (fun h110 => ?_) fun h110 => ?_
    ·have r111 := ite_t h110 r109
     refine q_ (.bool true) (q_ (.bool true) (n_' (n_' (n_' (n_' (n_' (q_ (.bool true) (s_nil ?_))))))))
     obtain rfl := oi_ r111
     exact k99 _ _ ⟨ha_, rfl⟩
    have r112 := ite_f h110 r109
    refine q_ (.bool false) (q_ (.bool false) (q_ (pt_ b82 1) (lr_ 3 1 (i_ ((gt Arcs i0).2.1)) r91 (q_ (pt_ b7 0) (lr_ 3 0 (i_ N_) u106 (q_ (.bool (decide (((gt Arcs i0).2.1) ≥ N_))) (q_ (.bool (decide (((gt Arcs i0).2.1) ≥ N_))) (s_nil ?_))))))))
    obtain rfl := oi_ r112
    exact k99 _ _ ⟨ha_, rfl⟩
   obtain ⟨hh100, rfl⟩ := hM
   obtain ⟨β, rfl⟩ := has_ex hh100
   clear hh100
   refine k93 _ _ ?_
   refine wb_ (o94) (fun h113 => ?_) fun h113 => ?_
   ·have r114 := ite_t h113 r96
    refine sq_ fun k115 => g_' (q_ (i_ i0) ?_)
    obtain ⟨y116, hy117, r118⟩ := bs_ r114
    refine ck_ (c_viaductref01_E e90.wf hy117) ?_
    rintro _ H119 ⟨rfl, e120⟩
    obtain ⟨y121, hy122, r123⟩ := bs_ r118
    refine ck_ (c_viaductref01_At e120.wf (Sq.nil (enc := enc_i64_i64) (sz := 2) (by decide)) hy122) ?_
    rintro _ H126 ⟨s124, f125, rfl, e127, m128, i129⟩
    obtain ⟨a131, n132, c133, rfl⟩ := m128.form
    have d138 := (hb85.djn (r17.ltF.le e65.n))
    have u139 := (((((r17.frS e65 dn_).ext e84).frS e90 d138).frS e120 dn_).frS e127 dn_)
    obtain ⟨H134, q135, e136, r137⟩ := ra_ 44 0 e127.wf u139 [i_ y121.1, .slice a131 n132 c133] [i_ y121.1, .slice a131 n132 c133]
    refine ek_ q135 (s_nil (k115 _ _ ?_))
    refine w_ret (th_ret (bl_ret (th_ret (th_ret (bl_ret (th_ret (th_ret ?_)))))))
    obtain ⟨v140, hv141, hz142⟩ := map_some r123
    subst hz142
    obtain rfl := it_inr hn71
    have hq143 := elim_inl r56
    rw [hq143] at hv141
    refine b_ret (vs := [.agg #[i_ y121.1, .slice a131 n132 c133]]) (aRes_cell (Eq.trans (b := aL_ 44 (pt_ b13 0) H134) (by kernel_rfl) (r137.l_)) (rfl)) ?_
    have n144 := (t_ (t_ e9.n e15.n) e65.n)
    have n145 := (t_ (t_ (t_ e65.n e84.n) e90.n) e120.n)
    have d146 := (i129.djn (r17.ltF.le n145))
    have u147 := (m128.fr e136 (Dj.symm d146))
    have n148 := (t_ (t_ (t_ (t_ (t_ e9.n e15.n) e65.n) e84.n) e90.n) e120.n)
    obtain rfl := oi_ hv141
    exact ⟨(.slice a131 n132 c133), f125, rfl, (fs_ wf (fs_ wf (fs_ wf (fs_ wf ((fs_ wf (((f0_ wf).extR e9).extR e15) e65 in_).extR e84) e90 (hb85.fresh n144)) e120 in_) e127 in_) e136 (hb16.fresh e9.n)), u147, (i129.fresh n148)⟩
   have r149 := ite_bf h113 r96
   refine w_skip (k92 _ _ (sq_ fun k150 => ?_))
   obtain ⟨o151, hx152, r153⟩ := bs_ r149
   refine w_mid (fun α H154 => Has α [(1, pt_ b7 0), (2, pt_ b13 0), (3, i_ i0), (21, hd_Arcs), (22, i_ (Arcs.length : Int)), (23, i_ i0), (60, .bool o151)] /\ H88 = H154) (fun _ k156 => ?_) (fun α H154 hM => ?_)
   ·refine g_' (q_ (pt_ b82 2) (lr_ 3 2 (i_ ((gt Arcs i0).2.2)) r91 ?_))
    refine sb_ (((gt Arcs i0).2.2) < 0) (fun h158 => ?_) fun h158 => ?_
    ·have r159 := ite_t h158 hx152
     refine q_ (.bool true) (n_' (n_' (n_' (q_ (.bool true) (s_nil ?_)))))
     obtain rfl := oi_ r159
     exact k156 _ _ ⟨ha_, rfl⟩
    have r160 := ite_f h158 hx152
    refine q_ (.bool false) (q_ (pt_ b82 2) (lr_ 3 2 (i_ ((gt Arcs i0).2.2)) r91 (q_ (.bool (decide (((gt Arcs i0).2.2) > 2147483647))) (q_ (.bool (decide (((gt Arcs i0).2.2) > 2147483647))) (s_nil ?_)))))
    obtain rfl := oi_ r160
    exact k156 _ _ ⟨ha_, rfl⟩
   obtain ⟨hh157, rfl⟩ := hM
   obtain ⟨β, rfl⟩ := has_ex hh157
   clear hh157
   refine k150 _ _ ?_
   refine wb_ (o151) (fun h161 => ?_) fun h161 => ?_
   ·have r162 := ite_t h161 r153
    refine sq_ fun k163 => g_' (q_ (i_ i0) ?_)
    obtain ⟨y164, hy165, r166⟩ := bs_ r162
    refine ck_ (c_viaductref01_E e90.wf hy165) ?_
    rintro _ H167 ⟨rfl, e168⟩
    obtain ⟨y169, hy170, r171⟩ := bs_ r166
    refine ck_ (c_viaductref01_At e168.wf (Sq.nil (enc := enc_i64_i64) (sz := 2) (by decide)) hy170) ?_
    rintro _ H174 ⟨s172, f173, rfl, e175, m176, i177⟩
    obtain ⟨a179, n180, c181, rfl⟩ := m176.form
    have d186 := (hb85.djn (r17.ltF.le e65.n))
    have u187 := (((((r17.frS e65 dn_).ext e84).frS e90 d186).frS e168 dn_).frS e175 dn_)
    obtain ⟨H182, q183, e184, r185⟩ := ra_ 44 0 e175.wf u187 [i_ y169.1, .slice a179 n180 c181] [i_ y169.1, .slice a179 n180 c181]
    refine ek_ q183 (s_nil (k163 _ _ ?_))
    refine w_ret (bl_ret (th_ret (th_ret (bl_ret (th_ret (th_ret ?_))))))
    obtain ⟨v188, hv189, hz190⟩ := map_some r171
    subst hz190
    obtain rfl := it_inr hn71
    have hq191 := elim_inl r56
    rw [hq191] at hv189
    refine b_ret (vs := [.agg #[i_ y169.1, .slice a179 n180 c181]]) (aRes_cell (Eq.trans (b := aL_ 44 (pt_ b13 0) H182) (by kernel_rfl) (r185.l_)) (rfl)) ?_
    have n192 := (t_ (t_ e9.n e15.n) e65.n)
    have n193 := (t_ (t_ (t_ e65.n e84.n) e90.n) e168.n)
    have d194 := (i177.djn (r17.ltF.le n193))
    have u195 := (m176.fr e184 (Dj.symm d194))
    have n196 := (t_ (t_ (t_ (t_ (t_ e9.n e15.n) e65.n) e84.n) e90.n) e168.n)
    obtain rfl := oi_ hv189
    exact ⟨(.slice a179 n180 c181), f173, rfl, (fs_ wf (fs_ wf (fs_ wf (fs_ wf ((fs_ wf (((f0_ wf).extR e9).extR e15) e65 in_).extR e84) e90 (hb85.fresh n192)) e168 in_) e175 in_) e184 (hb16.fresh e9.n)), u195, (i177.fresh n196)⟩
   have r197 := ite_bf h161 r153
   refine w_skip (k77 _ _ (g_' ?_))
   obtain ⟨g198, r199⟩ := G_some r197
   refine w_' ((i0 + 1)) (wrap64 (by have := g198; omega)) (q_ (i_ (i0 + 1)) (s_nil ?_))
   obtain rfl := oi_ r199
   exact k72 n68 _ _ lt_ ⟨(i0 + 1), hn71, ha_, (fs_ e15.wf ((fs_ e15.wf (fr_ e15.wf) e65 in_).extR e84) e90 (hb85.fresh e65.n))⟩
  have r200 := ite_f h75 hz70
  refine w_exit (th_exit (th_exit (bl_eq ?_)))
  obtain rfl := oi_ r200
  obtain rfl := it_inr hn71
  exact k60 _ _ ⟨_, rfl, ha_, (fs_ e15.wf (fr_ e15.wf) e65 in_)⟩
 obtain ⟨o54, rfl, hh61, e59⟩ := hM
 have r201 := elim_inr r56
 obtain ⟨β, rfl⟩ := has_ex hh61
 clear hh61
 refine k50 _ _ (sq_ fun k202 => g_' (q_ (.agg #[i_ 0, .slice none 0 0]) ?_))
 have u207 := (r17.frS e59 dn_)
 obtain ⟨H203, q204, e205, r206⟩ := ra_ 44 0 e59.wf u207 [i_ 0, .slice none 0 0] [i_ 0, .slice none 0 0]
 refine ek_ q204 (s_nil (k202 _ _ ?_))
 refine w_ret ?_
 refine b_ret (vs := [.agg #[i_ 0, .slice none 0 0]]) (aRes_cell (Eq.trans (b := aL_ 44 (pt_ b13 0) H203) (by kernel_rfl) (r206.l_)) (rfl)) ?_
 obtain rfl := oi_ r201
 exact ⟨(.slice none 0 0), [], rfl, (fs_ wf (fs_ wf (((f0_ wf).extR e9).extR e15) e59 in_) e205 (hb16.fresh e9.n)), (Ow.nil (by decide)), in_⟩
theorem c_viaductref01_Err_Bad {H : AH} {hd_Places : Value} {fp_Places : Fp} {Code : Int} {Places : List (Int × Int)} {r : Bool}
    (wf : WF H) (h_Places : Sq enc_i64_i64 2 H hd_Places Places fp_Places) (hr : z_viaductref01_Err_Bad Code Places = some r) :
    ACalls Tryz.prog 38 #[.agg #[i_ Code, hd_Places]] H fun v H' => v = .bool r /\ FrS [] H H' := by
 refine ab_ Tryz.func38 ?_
 unfold z_viaductref01_Err_Bad at hr
 refine sq_ fun k1 => g_' ?_
 refine s_rwl wf [i_ Code, hd_Places] (one_cons (rfl) (one_cons (h_Places.one1) (one_nil))) (by kernel_rfl) fun b2 H3 e4 hb5 r6 => ?_
 refine q_ (.bool false) (s_nil (k1 _ _ (sq_ fun k8 => g_' (q_ (pt_ b2 0) (lr_ 3 0 (i_ Code) r6 ?_)))))
 refine s_bn (Code = 0) (by kernel_rfl) (fun h9 => ?_) (fun h9 => ?_)
 ·have r10 := ite_t h9 hr
  refine q_ (.bool false) (q_ (pt_ b2 1) (lr_ 42 1 (hd_Places) r6 ?_))
  have u11 := (h_Places.ext e4)
  refine u11.ln_ 42 (q_ (.bool (decide ((Places.length : Int) > 0))) (q_ (.bool (decide ((Places.length : Int) > 0))) (q_ (.bool (decide ((Places.length : Int) > 0))) (s_nil (k8 _ _ ?_)))))
  refine w_ret ?_
  refine br_ [.bool (decide ((Places.length : Int) > 0))] ?_
  obtain rfl := oi_ r10
  exact ⟨rfl, ((f0_ wf).extR e4)⟩
 have r12 := ite_f h9 hr
 refine q_ (.bool true) (n_' (n_' (n_' (n_' (q_ (.bool true) (q_ (.bool true) (s_nil (k8 _ _ ?_))))))))
 refine w_ret ?_
 refine br_ [.bool true] ?_
 obtain rfl := oi_ r12
 exact ⟨rfl, ((f0_ wf).extR e4)⟩
theorem c_viaductref04_Few {H : AH} {hd_Arcs : Value} {fp_Arcs : Fp} {N_ : Int} {Arcs : List (Int × Int × Int)} {most : Int} {r : Bool}
    (wf : WF H) (h_Arcs : Sq enc_i64_i64_i64 3 H hd_Arcs Arcs fp_Arcs) (hr : z_viaductref04_Few N_ Arcs most = some r) :
    ACalls Tryz.prog 34 #[.agg #[i_ N_, hd_Arcs], i_ most] H fun v H' => v = .bool r /\ FrS [] H H' := by
 refine ab_ Tryz.func34 ?_
 unfold z_viaductref04_Few at hr
 refine sq_ fun k1 => g_' ?_
 refine s_rwl wf [i_ N_, hd_Arcs] (one_cons (rfl) (one_cons (h_Arcs.one1) (one_nil))) (by kernel_rfl) fun b2 H3 e4 hb5 r6 => ?_
 refine q_ (.bool false) (s_nil (k1 _ _ (sq_ fun k8 => g_' (lr_ 24 0 (.agg #[i_ N_, hd_Arcs]) r6 ?_))))
 have u9 := (h_Arcs.ext e4)
 obtain ⟨y10, hy11, r12⟩ := bs_ hr
 refine ck_ (c_viaductref03_DocCheck e4.wf u9 hy11) ?_
 rintro _ H15 ⟨s13, f14, rfl, e16, m17, i18⟩
 obtain ⟨a20, n21, c22, rfl⟩ := m17.form
 refine rk_ e16.wf [i_ 0, .slice none 0 0] fun b23 H24 e25 hb26 r27 => ?_
 have u33 := (m17.ext e25)
 obtain ⟨H29, q30, e31, r32⟩ := ra_ 44 0 e25.wf r27 [i_ y10.1, .slice a20 n21 c22] [i_ y10.1, .slice a20 n21 c22]
 refine ek_ q30 (s_nil (k8 _ _ (sq_ fun k34 => g_' (lr_ 44 0 (.agg #[i_ y10.1, .slice a20 n21 c22]) r32 ?_))))
 have u35 := (u33.fr e31 (hb26.djn m17.lt))
 obtain ⟨y36, hy37, r38⟩ := bs_ r12
 refine ck_ (c_viaductref01_Err_Bad e31.wf u35.sq hy37) ?_
 rintro _ H39 ⟨rfl, e40⟩
 by_cases h41 : y36 = true
 ·have r42 := ite_t h41 r38
  rw [h41]
  refine q_ (.bool false) (q_ (.bool false) (n_' (n_' (n_' (n_' (q_ (.bool false) (q_ (.bool false) (n_' (n_' (n_' (n_' (q_ (.bool false) (q_ (.bool false) (s_nil (k34 _ _ ?_)))))))))))))))
  refine w_ret ?_
  refine br_ [.bool false] ?_
  have n44 := (t_ e4.n e16.n)
  obtain rfl := oi_ r42
  exact ⟨rfl, (fs_ wf (fs_ wf ((fs_ wf ((f0_ wf).extR e4) e16 in_).extR e25) e31 (hb26.fresh n44)) e40 in_)⟩
 have r45 := ite_f h41 r38
 rw [nb h41]
 refine q_ (.bool true) (q_ (.bool true) (q_ (pt_ b2 0) ?_))
 have d47 := (hb26.djn (r6.ltF.le e16.n))
 have u48 := ((((r6.frS e16 dn_).ext e25).frS e31 d47).frS e40 dn_)
 refine lr_ 3 0 (i_ N_) u48 (q_ (i_ most) ?_)
 refine sb_ (N_ ≤ most) (fun h49 => ?_) fun h49 => ?_
 ·have r50 := ite_t h49 r45
  refine q_ (.bool true) (q_ (.bool true) (q_ (pt_ b2 1) (lr_ 22 1 (hd_Arcs) u48 ?_)))
  have n51 := (t_ e4.n e16.n)
  have d52 := (hb26.djn (h_Arcs.lt.le n51))
  have u53 := ((((u9.fr e16 dn_).ext e25).fr e31 d52).fr e40 dn_)
  refine u53.ln_ 22 (q_ (.bool (decide ((Arcs.length : Int) ≤ 2000))) (q_ (.bool (decide ((Arcs.length : Int) ≤ 2000))) (q_ (.bool (decide ((Arcs.length : Int) ≤ 2000))) (s_nil (k34 _ _ ?_)))))
  refine w_ret ?_
  refine br_ [.bool (decide ((Arcs.length : Int) ≤ 2000))] ?_
  obtain rfl := oi_ r50
  exact ⟨rfl, (fs_ wf (fs_ wf ((fs_ wf ((f0_ wf).extR e4) e16 in_).extR e25) e31 (hb26.fresh n51)) e40 in_)⟩
 have r54 := ite_f h49 r45
 refine q_ (.bool false) (q_ (.bool false) (n_' (n_' (n_' (n_' (q_ (.bool false) (q_ (.bool false) (s_nil (k34 _ _ ?_)))))))))
 refine w_ret ?_
 refine br_ [.bool false] ?_
 have n55 := (t_ e4.n e16.n)
 obtain rfl := oi_ r54
 exact ⟨rfl, (fs_ wf (fs_ wf ((fs_ wf ((f0_ wf).extR e4) e16 in_).extR e25) e31 (hb26.fresh n55)) e40 in_)⟩
theorem c_gtext_within {H : AH} {x : Int} {n_ : Int} {r : Bool}
    (wf : WF H) (hr : z_gtext_within x n_ = some r) :
    ACalls Tryz.prog 106 #[i_ x, i_ n_] H fun v H' => v = .bool r /\ H = H' := by
 refine ab_ Tryz.func106 ?_
 unfold z_gtext_within at hr
 refine sq_ fun k1 => g_' (q_ (.bool false) (s_nil (k1 _ _ (sq_ fun k2 => g_' (q_ (i_ x) ?_)))))
 refine sb_ (x ≥ 0) (fun h3 => ?_) fun h3 => ?_
 ·have r4 := ite_t h3 hr
  refine q_ (.bool true) (q_ (i_ x) (q_ (i_ n_) (q_ (.bool (decide (x < n_))) (q_ (.bool (decide (x < n_))) (q_ (.bool (decide (x < n_))) (s_nil (k2 _ _ ?_)))))))
  refine w_ret ?_
  refine br_ [.bool (decide (x < n_))] ?_
  obtain rfl := oi_ r4
  exact ⟨rfl, rfl⟩
 have r5 := ite_f h3 hr
 refine q_ (.bool false) (n_' (n_' (n_' (q_ (.bool false) (q_ (.bool false) (s_nil (k2 _ _ ?_)))))))
 refine w_ret ?_
 refine br_ [.bool false] ?_
 obtain rfl := oi_ r5
 exact ⟨rfl, rfl⟩
theorem c_gtext_arc {H : AH} {From : Int} {To : Int} {Weight : Int} {n_ : Int} {r : Er}
    (wf : WF H) (hr : z_gtext_arc From To Weight n_ = some r) :
    ACalls Tryz.prog 94 #[.agg #[i_ From, i_ To, i_ Weight], i_ n_] H fun v H' => ∃ (v3 : Value) (f4 : Fp), v = v3 /\ FrS [] H H' /\ Ev 78 116 H' v3 r f4 /\ Inn [] H f4 := by
 refine ab_ Tryz.func94 ?_
 unfold z_gtext_arc at hr
 refine sq_ fun k6 => g_' ?_
 refine rl_ wf [i_ From, i_ To, i_ Weight] fun b7 H8 e9 hb10 r11 => ?_
 refine q_ (.nilIface) (s_nil (k6 _ _ (sq_ fun k13 => w_block (sq_ fun k14 => ?_))))
 obtain ⟨o15, hx16, r17⟩ := bs_ hr
 refine w_mid (fun α H18 => Has α [(2, pt_ b7 0), (5, .bool o15)] /\ H8 = H18) (fun _ k20 => ?_) (fun α H18 hM => ?_)
 ·refine g_' (q_ (pt_ b7 0) (lr_ 3 0 (i_ From) r11 (q_ (i_ n_) ?_)))
  obtain ⟨y22, hy23, r24⟩ := bs_ hx16
  refine ck_ (c_gtext_within e9.wf hy23) ?_
  rintro _ _ ⟨rfl, rfl⟩
  by_cases h27 : y22 = true
  ·have r28 := ite_t h27 r24
   rw [h27]
   refine q_ (.bool false) (q_ (.bool false) (q_ (pt_ b7 1) (lr_ 3 1 (i_ To) r11 (q_ (i_ n_) ?_))))
   obtain ⟨y30, hy31, r32⟩ := bs_ r28
   refine ck_ (c_gtext_within e9.wf hy31) ?_
   rintro _ _ ⟨rfl, rfl⟩
   refine q_ (.bool (!y30)) (q_ (.bool (!y30)) (q_ (.bool (!y30)) (s_nil ?_)))
   obtain rfl := oi_ r32
   exact k20 _ _ ⟨ha_, rfl⟩
  have r35 := ite_f h27 r24
  rw [nb h27]
  refine q_ (.bool true) (q_ (.bool true) (n_' (n_' (n_' (n_' (n_' (q_ (.bool true) (q_ (.bool true) (s_nil ?_)))))))))
  obtain rfl := oi_ r35
  exact k20 _ _ ⟨ha_, rfl⟩
 obtain ⟨hh21, rfl⟩ := hM
 obtain ⟨β, rfl⟩ := has_ex hh21
 clear hh21
 refine k14 _ _ ?_
 refine wb_ (o15) (fun h37 => ?_) fun h37 => ?_
 ·have r38 := ite_t h37 r17
  refine sq_ fun k39 => g_' (q_ (.iface 78 (i_ 7)) (q_ (.iface 78 (i_ 7)) (s_nil (k39 _ _ ?_))))
  refine w_ret (bl_ret (th_ret ?_))
  refine br_ [.iface 78 (i_ 7)] ?_
  obtain rfl := oi_ r38
  exact ⟨(.iface 78 (i_ 7)), [], rfl, ((f0_ wf).extR e9), Ev.no, in_⟩
 have r40 := ite_bf h37 r17
 refine sq_ fun k41 => g_' (q_ (pt_ b7 2) (lr_ 3 2 (i_ Weight) r11 ?_))
 refine sb_ (Weight < 0) (fun h42 => ?_) fun h42 => ?_
 ·have r43 := ite_t h42 r40
  refine q_ (.bool true) (n_' (n_' (n_' (q_ (.bool true) (q_ (.bool true) (s_nil (k41 _ _ ?_)))))))
  refine wb_ true (fun _ => ?_) fun h => by cases h
  refine sq_ fun k44 => g_' (q_ (.iface 78 (i_ 8)) (q_ (.iface 78 (i_ 8)) (s_nil (k44 _ _ ?_))))
  refine w_ret (bl_ret (th_ret ?_))
  refine br_ [.iface 78 (i_ 8)] ?_
  obtain rfl := oi_ r43
  exact ⟨(.iface 78 (i_ 8)), [], rfl, ((f0_ wf).extR e9), Ev.no, in_⟩
 have r45 := ite_f h42 r40
 refine q_ (.bool false) (q_ (pt_ b7 2) (lr_ 3 2 (i_ Weight) r11 (q_ (.bool (decide (Weight > 2147483647))) (q_ (.bool (decide (Weight > 2147483647))) (q_ (.bool (decide (Weight > 2147483647))) (s_nil (k41 _ _ ?_)))))))
 refine wc_ (Weight > 2147483647) (fun h46 => ?_) fun h46 => ?_
 ·have r47 := ite_t h46 r45
  refine sq_ fun k48 => g_' (q_ (.iface 78 (i_ 8)) (q_ (.iface 78 (i_ 8)) (s_nil (k48 _ _ ?_))))
  refine w_ret (bl_ret (th_ret ?_))
  refine br_ [.iface 78 (i_ 8)] ?_
  obtain rfl := oi_ r47
  exact ⟨(.iface 78 (i_ 8)), [], rfl, ((f0_ wf).extR e9), Ev.no, in_⟩
 have r49 := ite_f h46 r45
 refine w_skip (k13 _ _ (sq_ fun k50 => g_' (q_ (.nilIface) (s_nil (k50 _ _ ?_)))))
 refine w_ret ?_
 refine br_ [.nilIface] ?_
 obtain rfl := oi_ r49
 exact ⟨(.nilIface), [], rfl, ((f0_ wf).extR e9), Ev.nil, in_⟩
theorem c_fault_At {H : AH} {ev_err : Value} {fp_err : Fp} {kind : Int} {at_ : Int} {err : Er} {r : Er}
    (wf : WF H) (h_err : Ev 78 116 H ev_err err fp_err) (hr : z_fault_At kind at_ err = some r) :
    ACalls Tryz.prog 43 #[i_ kind, i_ at_, ev_err] H fun v H' => ∃ (v3 : Value) (f4 : Fp), v = v3 /\ FrS [] H H' /\ Ev 78 116 H' v3 r f4 /\ Inn fp_err H f4 := by
 refine ab_ Tryz.func43 ?_
 unfold z_fault_At at hr
 refine sq_ fun k6 => g_' (q_ (.nilIface) (s_nil (k6 _ _ (sq_ fun k7 => sq_ fun k8 => g_' (q_ (ev_err) ?_)))))
 rcases (h_err).cases with ⟨h9, rfl⟩ | ⟨h9, t10, x11, rfl⟩
 ·have r12 := ite_t h9 hr
  refine q_ (.bool true) (s_nil (k8 _ _ ?_))
  refine wb_ true (fun _ => ?_) fun h => by cases h
  refine sq_ fun k13 => g_' (q_ (.nilIface) (s_nil (k13 _ _ ?_)))
  refine w_ret (th_ret ?_)
  refine br_ [.nilIface] ?_
  obtain rfl := oi_ r12
  exact ⟨(.nilIface), [], rfl, (f0_ wf), Ev.nil, in_⟩
 have r14 := ite_f h9 hr
 refine l_' (.bool false) (aBin Tryz.prog .eql 38 (.tmp 7) (.const .nilIface) (.iface t10 x11) .nilIface) (aBin_nil (by kernel_rfl)) (s_nil (k8 _ _ ?_))
 refine wb_ false (fun h => by cases h) fun _ => ?_
 refine w_skip (k7 _ _ (sq_ fun k15 => g_' (q_ (i_ kind) (q_ (i_ at_) (q_ (.agg #[i_ kind, i_ at_]) (q_ (.iface t10 x11) (q_ (.agg #[i_ kind, i_ at_, .iface t10 x11]) ?_)))))))
 refine rl_ wf [i_ kind, i_ at_, .iface t10 x11] fun b16 H17 e18 hb19 r20 => ?_
 have u22 := (h_err.ext e18)
 obtain ⟨fq23, he24, hi25⟩ := Ev.at r20 u22 hb19
 refine q_ (.iface 116 (pt_ b16 0)) (q_ (.iface 116 (pt_ b16 0)) (s_nil (k15 _ _ ?_)))
 refine w_ret ?_
 refine br_ [.iface 116 (pt_ b16 0)] ?_
 obtain rfl := oi_ r14
 exact ⟨(.iface 116 (pt_ b16 0)), fq23, rfl, ((f0_ wf).extR e18), he24, (Inn.trans ir_ (Nat.le_refl _) hi25)⟩
theorem c_gtext_Check {H : AH} {hd_Arcs : Value} {fp_Arcs : Fp} {N_ : Int} {Arcs : List (Int × Int × Int)} {r : Er}
    (wf : WF H) (h_Arcs : Sq enc_i64_i64_i64 3 H hd_Arcs Arcs fp_Arcs) (hr : z_gtext_Check N_ Arcs = some r) :
    ACalls Tryz.prog 79 #[.agg #[i_ N_, hd_Arcs]] H fun v H' => ∃ (v3 : Value) (f4 : Fp), v = v3 /\ FrS [] H H' /\ Ev 78 116 H' v3 r f4 /\ Inn [] H f4 := by
 refine ab_ Tryz.func79 ?_
 unfold z_gtext_Check at hr
 refine sq_ fun k6 => g_' ?_
 refine s_rwl wf [i_ N_, hd_Arcs] (one_cons (rfl) (one_cons (h_Arcs.one1) (one_nil))) (by kernel_rfl) fun b7 H8 e9 hb10 r11 => ?_
 refine q_ (.nilIface) (s_nil (k6 _ _ (sq_ fun k13 => sq_ fun k14 => ?_)))
 obtain ⟨o15, hx16, r17⟩ := bs_ hr
 refine w_mid (fun α H18 => Has α [(1, pt_ b7 0), (19, .bool o15)] /\ H8 = H18) (fun _ k20 => ?_) (fun α H18 hM => ?_)
 ·refine g_' (q_ (pt_ b7 0) (lr_ 3 0 (i_ N_) r11 ?_))
  refine sb_ (N_ < 0) (fun h22 => ?_) fun h22 => ?_
  ·have r23 := ite_t h22 hx16
   refine q_ (.bool true) (n_' (n_' (n_' (q_ (.bool true) (q_ (.bool true) (n_' (n_' (n_' (n_' (q_ (.bool true) (s_nil ?_)))))))))))
   obtain rfl := oi_ r23
   exact k20 _ _ ⟨ha_, rfl⟩
  have r24 := ite_f h22 hx16
  refine q_ (.bool false) (q_ (pt_ b7 0) (lr_ 3 0 (i_ N_) r11 ?_))
  refine sb_ (N_ > 65536) (fun h25 => ?_) fun h25 => ?_
  ·have r26 := ite_t h25 r24
   refine q_ (.bool true) (q_ (.bool true) (n_' (n_' (n_' (n_' (q_ (.bool true) (s_nil ?_)))))))
   obtain rfl := oi_ r26
   exact k20 _ _ ⟨ha_, rfl⟩
  have r27 := ite_f h25 r24
  refine q_ (.bool false) (q_ (.bool false) (q_ (pt_ b7 1) (lr_ 22 1 (hd_Arcs) r11 ?_)))
  have u28 := (h_Arcs.ext e9)
  refine u28.ln_ 22 (q_ (.bool (decide ((Arcs.length : Int) > 262144))) (q_ (.bool (decide ((Arcs.length : Int) > 262144))) (s_nil ?_)))
  obtain rfl := oi_ r27
  exact k20 _ _ ⟨ha_, rfl⟩
 obtain ⟨hh21, rfl⟩ := hM
 obtain ⟨β, rfl⟩ := has_ex hh21
 clear hh21
 refine k14 _ _ ?_
 refine wb_ (o15) (fun h29 => ?_) fun h29 => ?_
 ·have r30 := ite_t h29 r17
  refine sq_ fun k31 => g_' (q_ (.iface 78 (i_ 9)) (q_ (.iface 78 (i_ 9)) (s_nil (k31 _ _ ?_))))
  refine w_ret (th_ret ?_)
  refine br_ [.iface 78 (i_ 9)] ?_
  obtain rfl := oi_ r30
  exact ⟨(.iface 78 (i_ 9)), [], rfl, ((f0_ wf).extR e9), Ev.no, in_⟩
 have r32 := ite_bf h29 r17
 refine w_skip (k13 _ _ (sq_ fun k33 => sq_ fun k34 => g_' (q_ (pt_ b7 1) (lr_ 22 1 (hd_Arcs) r11 ?_))))
 have u35 := (h_Arcs.ext e9)
 refine u35.ln_ 22 (q_ (i_ 0) (s_nil (k34 _ _ ?_)))
 obtain ⟨z39, hx37, r38⟩ := bs_ r32
 refine w_mid (fun α H40 => ∃ o36, z39 = Sum.inr o36 /\ Has α [] /\ FrS [] H8 H40) (fun _ k42 => ?_) (fun α H40 hM => ?_)
 ·refine w_block ?_
  obtain ⟨n44, hn45⟩ := loopO_iff.1 hx37
  refine w_loopn (fun n α H46 => ∃ (i0 : Int), iterO (fun zz_ => z_gtext_Check_l0 N_ Arcs zz_) n i0 = some z39 /\ Has α [(1, pt_ b7 0), (22, hd_Arcs), (23, i_ (Arcs.length : Int)), (24, i_ i0)] /\ FrS [] H8 H46) n44 ⟨0, hn45, ha_, (fr_ e9.wf)⟩ ?_
  rintro n44 α H46 ⟨i0, hi49, hh48, e47⟩ K54 k54
  obtain ⟨n50, z51, rfl, hz52, hn53⟩ := iter_succ hi49
  obtain ⟨β, rfl⟩ := has_ex hh48
  clear hh48
  replace hz52 : z_gtext_Check_l0 N_ Arcs i0 = some z51 := hz52
  unfold z_gtext_Check_l0 at hz52
  refine sq_ fun k55 => g_' (q_ (.bool (decide (i0 < (Arcs.length : Int)))) (s_nil (k55 _ _ (sq_ fun k56 => ?_))))
  refine wc_ (i0 < (Arcs.length : Int)) (fun h57 => ?_) fun h57 => ?_
  ·have r58 := ite_t h57 hz52
   refine w_skip (k56 _ _ (sq_ fun k59 => w_block (sq_ fun k60 => g_' (q_ (i_ i0) ?_))))
   obtain ⟨g61, r62⟩ := G_some r58
   have u63 := (u35.fr e47 dn_)
   refine u63.ix_ 22 g61 h57 (le_ 74 0 (.agg #[i_ ((gt Arcs i0).1), i_ ((gt Arcs i0).2.1), i_ ((gt Arcs i0).2.2)]) u63 g61 h57 ?_)
   refine rk_ e47.wf [i_ 0, i_ 0, i_ 0] fun b64 H65 e66 hb67 r68 => ?_
   refine q_ (i_ i0) ?_
   obtain ⟨H70, q71, e72, r73⟩ := ra_ 74 0 e66.wf r68 [i_ ((gt Arcs i0).1), i_ ((gt Arcs i0).2.1), i_ ((gt Arcs i0).2.2)] [i_ ((gt Arcs i0).1), i_ ((gt Arcs i0).2.1), i_ ((gt Arcs i0).2.2)]
   refine ek_ q71 (s_nil (k60 _ _ (sq_ fun k74 => g_' (lr_ 74 0 (.agg #[i_ ((gt Arcs i0).1), i_ ((gt Arcs i0).2.1), i_ ((gt Arcs i0).2.2)]) r73 (q_ (pt_ b7 0) ?_)))))
   have d75 := (hb67.djn (r11.ltF.le e47.n))
   have u76 := (((r11.frS e47 dn_).ext e66).frS e72 d75)
   refine lr_ 3 0 (i_ N_) u76 ?_
   obtain ⟨y77, hy78, r79⟩ := bs_ r62
   refine ck_ (c_gtext_arc e72.wf hy78) ?_
   rintro v80 H82 ⟨_, f81, rfl, e83, m84, i85⟩
   refine q_ (v80) (s_nil (k74 _ _ (sq_ fun k87 => g_' (q_ (v80) ?_))))
   rcases (m84).cases with ⟨h88, rfl⟩ | ⟨h88, t89, x90, rfl⟩
   ·have r91 := ite_t h88 r79
    refine q_ (.bool false) (s_nil (k87 _ _ ?_))
    refine wb_ false (fun h => by cases h) fun _ => ?_
    refine w_skip (k59 _ _ (g_' ?_))
    obtain ⟨g92, r93⟩ := G_some r91
    refine w_' ((i0 + 1)) (wrap64 (by have := g92; omega)) (q_ (i_ (i0 + 1)) (s_nil ?_))
    obtain rfl := oi_ r93
    exact k54 n50 _ _ lt_ ⟨(i0 + 1), hn53, ha_, (fs_ e9.wf (fs_ e9.wf ((fs_ e9.wf (fr_ e9.wf) e47 in_).extR e66) e72 (hb67.fresh e47.n)) e83 in_)⟩
   have r94 := ite_f h88 r79
   refine l_' (.bool true) (aBin Tryz.prog .neq 38 (.tmp 33) (.const .nilIface) (.iface t89 x90) .nilIface) (aBin_nnil (by kernel_rfl)) (s_nil (k87 _ _ ?_))
   refine wb_ true (fun _ => ?_) fun h => by cases h
   refine sq_ fun k95 => g_' (q_ (i_ i0) (q_ (.iface t89 x90) ?_))
   obtain ⟨y96, hy97, r98⟩ := bs_ r94
   refine ck_ (c_fault_At e83.wf m84 hy97) ?_
   rintro v99 H101 ⟨_, f100, rfl, e102, m103, i104⟩
   refine q_ (v99) (s_nil (k95 _ _ ?_))
   refine w_ret (bl_ret (th_ret (th_ret (bl_ret (th_ret (th_ret ?_))))))
   obtain ⟨v106, hv107, hz108⟩ := map_some r98
   subst hz108
   obtain rfl := it_inr hn53
   have hq109 := elim_inl r38
   rw [hq109] at hv107
   refine br_ [v99] ?_
   have n110 := (t_ e9.n e47.n)
   have n111 := (t_ (t_ (t_ e9.n e47.n) e66.n) e72.n)
   have n112 := (t_ (t_ (t_ (t_ e9.n e47.n) e66.n) e72.n) e83.n)
   obtain rfl := oi_ hv107
   exact ⟨(v99), f100, rfl, (fs_ wf (fs_ wf (fs_ wf ((fs_ wf ((f0_ wf).extR e9) e47 in_).extR e66) e72 (hb67.fresh n110)) e83 in_) e102 in_), m103, (Inn.trans (i85.fresh n111) n112 i104)⟩
  have r113 := ite_f h57 hz52
  refine w_exit (th_exit (th_exit (bl_eq ?_)))
  obtain rfl := oi_ r113
  obtain rfl := it_inr hn53
  exact k42 _ _ ⟨_, rfl, trivial, (fs_ e9.wf (fr_ e9.wf) e47 in_)⟩
 obtain ⟨o36, rfl, hh43, e41⟩ := hM
 have r114 := elim_inr r38
 obtain ⟨β, rfl⟩ := has_ex hh43
 clear hh43
 refine k33 _ _ (sq_ fun k115 => g_' (q_ (.nilIface) (s_nil (k115 _ _ ?_))))
 refine w_ret ?_
 refine br_ [.nilIface] ?_
 obtain rfl := oi_ r114
 exact ⟨(.nilIface), [], rfl, (fs_ wf ((f0_ wf).extR e9) e41 in_), Ev.nil, in_⟩
theorem c_cmp_isNaN {H : AH} {x : Int} {r : Bool}
    (wf : WF H) (hr : z_cmp_isNaN x = some r) :
    ACalls Tryz.prog 117 #[i_ x] H fun v H' => v = .bool r /\ H = H' := by
 refine ab_ Tryz.func117 ?_
 unfold z_cmp_isNaN at hr
 refine sq_ fun k1 => g_' (q_ (.bool false) (s_nil (k1 _ _ (sq_ fun k2 => g_' (q_ (i_ x) (q_ (i_ x) (q_ (.bool (!decide (x = x))) (q_ (.bool (!decide (x = x))) (s_nil (k2 _ _ ?_))))))))))
 refine w_ret ?_
 refine br_ [.bool (!decide (x = x))] ?_
 obtain rfl := oi_ hr
 exact ⟨rfl, rfl⟩
theorem c_cmp_Compare {H : AH} {x : Int} {y : Int} {r : Int}
    (wf : WF H) (hr : z_cmp_Compare x y = some r) :
    ACalls Tryz.prog 98 #[i_ x, i_ y] H fun v H' => v = i_ r /\ H = H' := by
 refine ab_ Tryz.func98 ?_
 unfold z_cmp_Compare at hr
 refine sq_ fun k1 => g_' (q_ (i_ 0) (s_nil (k1 _ _ (sq_ fun k2 => g_' (q_ (i_ x) ?_)))))
 obtain ⟨y3, hy4, r5⟩ := bs_ hr
 refine ck_ (c_cmp_isNaN wf hy4) ?_
 rintro _ _ ⟨rfl, rfl⟩
 refine q_ (.bool y3) (s_nil (k2 _ _ (sq_ fun k8 => g_' (q_ (i_ y) ?_))))
 obtain ⟨y9, hy10, r11⟩ := bs_ r5
 refine ck_ (c_cmp_isNaN wf hy10) ?_
 rintro _ _ ⟨rfl, rfl⟩
 refine q_ (.bool y9) (s_nil (k8 _ _ (sq_ fun k14 => sq_ fun k15 => g_' (q_ (.bool y3) (s_nil (k15 _ _ ?_))))))
 refine wb_ (y3) (fun h16 => ?_) fun h16 => ?_
 ·have r17 := ite_t h16 r11
  refine sq_ fun k18 => sq_ fun k19 => g_' (q_ (.bool y9) (s_nil (k19 _ _ ?_)))
  refine wb_ (y9) (fun h20 => ?_) fun h20 => ?_
  ·have r21 := ite_t h20 r17
   refine sq_ fun k22 => g_' (q_ (i_ 0) (s_nil (k22 _ _ ?_)))
   refine w_ret (th_ret (th_ret ?_))
   refine br_ [i_ 0] ?_
   obtain rfl := oi_ r21
   exact ⟨rfl, rfl⟩
  have r23 := ite_bf h20 r17
  refine w_skip (k18 _ _ (sq_ fun k24 => g_' (q_ (i_ (-1)) (s_nil (k24 _ _ ?_)))))
  refine w_ret (th_ret ?_)
  refine br_ [i_ (-1)] ?_
  obtain rfl := oi_ r23
  exact ⟨rfl, rfl⟩
 have r25 := ite_bf h16 r11
 refine w_skip (k14 _ _ (sq_ fun k26 => sq_ fun k27 => g_' (q_ (.bool y9) (s_nil (k27 _ _ ?_)))))
 refine wb_ (y9) (fun h28 => ?_) fun h28 => ?_
 ·have r29 := ite_t h28 r25
  refine sq_ fun k30 => g_' (q_ (i_ 1) (s_nil (k30 _ _ ?_)))
  refine w_ret (th_ret ?_)
  refine br_ [i_ 1] ?_
  obtain rfl := oi_ r29
  exact ⟨rfl, rfl⟩
 have r31 := ite_bf h28 r25
 refine w_skip (k26 _ _ (sq_ fun k32 => sq_ fun k33 => g_' (q_ (i_ x) (q_ (i_ y) (q_ (.bool (decide (x < y))) (s_nil (k33 _ _ ?_)))))))
 refine wc_ (x < y) (fun h34 => ?_) fun h34 => ?_
 ·have r35 := ite_t h34 r31
  refine sq_ fun k36 => g_' (q_ (i_ (-1)) (s_nil (k36 _ _ ?_)))
  refine w_ret (th_ret ?_)
  refine br_ [i_ (-1)] ?_
  obtain rfl := oi_ r35
  exact ⟨rfl, rfl⟩
 have r37 := ite_f h34 r31
 refine w_skip (k32 _ _ (sq_ fun k38 => sq_ fun k39 => g_' (q_ (i_ x) (q_ (i_ y) (q_ (.bool (decide (x > y))) (s_nil (k39 _ _ ?_)))))))
 refine wc_ (x > y) (fun h40 => ?_) fun h40 => ?_
 ·have r41 := ite_t h40 r37
  refine sq_ fun k42 => g_' (q_ (i_ 1) (s_nil (k42 _ _ ?_)))
  refine w_ret (th_ret ?_)
  refine br_ [i_ 1] ?_
  obtain rfl := oi_ r41
  exact ⟨rfl, rfl⟩
 have r43 := ite_f h40 r37
 refine w_skip (k38 _ _ (sq_ fun k44 => g_' (q_ (i_ 0) (s_nil (k44 _ _ ?_)))))
 refine w_ret ?_
 refine br_ [i_ 0] ?_
 obtain rfl := oi_ r43
 exact ⟨rfl, rfl⟩
theorem c_cmp_Or {H : AH} {hd_vals : Value} {fp_vals : Fp} {vals : List (Int)} {r : Int}
    (wf : WF H) (h_vals : Sq (encI .i64) 1 H hd_vals vals fp_vals) (hr : z_cmp_Or vals = some r) :
    ACalls Tryz.prog 97 #[hd_vals] H fun v H' => v = i_ r /\ H = H' := by
 refine ab_ Tryz.func97 ?_
 unfold z_cmp_Or at hr
 refine sq_ fun k1 => g_' (q_ (i_ 0) (s_nil (k1 _ _ (sq_ fun k2 => g_' (q_ (i_ 0) (s_nil (k2 _ _ (sq_ fun k3 => sq_ fun k4 => g_' (q_ (hd_vals) (h_vals.ln_ 26 (q_ (i_ 0) (s_nil (k4 _ _ ?_)))))))))))))
 obtain ⟨z8, hx6, r7⟩ := bs_ hr
 refine w_mid (fun α H9 => ∃ o5, z8 = Sum.inr o5 /\ Has α [(3, i_ 0)] /\ H = H9) (fun _ k11 => ?_) (fun α H9 hM => ?_)
 ·refine w_block ?_
  obtain ⟨n13, hn14⟩ := loopO_iff.1 hx6
  refine w_loopn (fun n α H15 => ∃ (i0 : Int), iterO (fun zz_ => z_cmp_Or_l0 vals zz_) n i0 = some z8 /\ Has α [(3, i_ 0), (6, hd_vals), (7, i_ (vals.length : Int)), (8, i_ i0)] /\ H = H15) n13 ⟨0, hn14, ha_, rfl⟩ ?_
  rintro n13 α H15 ⟨i0, hi18, hh17, rfl⟩ K23 k23
  obtain ⟨n19, z20, rfl, hz21, hn22⟩ := iter_succ hi18
  obtain ⟨β, rfl⟩ := has_ex hh17
  clear hh17
  replace hz21 : z_cmp_Or_l0 vals i0 = some z20 := hz21
  unfold z_cmp_Or_l0 at hz21
  refine sq_ fun k24 => g_' (q_ (.bool (decide (i0 < (vals.length : Int)))) (s_nil (k24 _ _ (sq_ fun k25 => ?_))))
  refine wc_ (i0 < (vals.length : Int)) (fun h26 => ?_) fun h26 => ?_
  ·have r27 := ite_t h26 hz21
   refine w_skip (k25 _ _ (sq_ fun k28 => w_block (sq_ fun k29 => g_' ?_)))
   obtain ⟨g30, r31⟩ := G_some r27
   refine h_vals.ix_ 26 g30 h26 (le_ 3 0 (i_ (gt vals i0)) h_vals g30 h26 (q_ (i_ (gt vals i0)) (s_nil (k29 _ _ (sq_ fun k32 => g_' (q_ (i_ (gt vals i0)) (q_ (i_ 0) (q_ (.bool (!decide ((gt vals i0) = 0))) (s_nil (k32 _ _ ?_))))))))))
   refine w_condn ((gt vals i0) = 0) (by kernel_rfl) rfl (fun h33 => ?_) (fun h33 => ?_)
   ·have r34 := ite_f h33 r31
    refine sq_ fun k35 => g_' (q_ (i_ (gt vals i0)) (q_ (i_ (gt vals i0)) (s_nil (k35 _ _ ?_))))
    refine w_ret (bl_ret (th_ret (th_ret (bl_ret (th_ret (th_ret ?_))))))
    obtain ⟨v36, hv37, hz38⟩ := map_some r34
    subst hz38
    obtain rfl := it_inr hn22
    have hq39 := elim_inl r7
    rw [hq39] at hv37
    refine br_ [i_ (gt vals i0)] ?_
    obtain rfl := oi_ hv37
    exact ⟨rfl, rfl⟩
   have r40 := ite_t h33 r31
   refine w_skip (k28 _ _ (g_' ?_))
   obtain ⟨g41, r42⟩ := G_some r40
   refine w_' ((i0 + 1)) (wrap64 (by have := g41; omega)) (q_ (i_ (i0 + 1)) (s_nil ?_))
   obtain rfl := oi_ r42
   exact k23 n19 _ _ lt_ ⟨(i0 + 1), hn22, ha_, rfl⟩
  have r43 := ite_f h26 hz21
  refine w_exit (th_exit (th_exit (bl_eq ?_)))
  obtain rfl := oi_ r43
  obtain rfl := it_inr hn22
  exact k11 _ _ ⟨_, rfl, ha_, rfl⟩
 obtain ⟨o5, rfl, hh12, rfl⟩ := hM
 have r44 := elim_inr r7
 obtain ⟨β, rfl⟩ := has_ex hh12
 clear hh12
 refine k3 _ _ (sq_ fun k45 => g_' (q_ (i_ 0) (q_ (i_ 0) (s_nil (k45 _ _ ?_)))))
 refine w_ret ?_
 refine br_ [i_ 0] ?_
 obtain rfl := oi_ r44
 exact ⟨rfl, rfl⟩
theorem c_normal_order {H : AH} {From : Int} {To : Int} {Weight : Int} {From_ : Int} {To_ : Int} {Weight_ : Int} {r : Int}
    (wf : WF H) (hr : z_normal_order From To Weight From_ To_ Weight_ = some r) :
    ACalls Tryz.prog 81 #[.agg #[i_ From, i_ To, i_ Weight], .agg #[i_ From_, i_ To_, i_ Weight_]] H fun v H' => v = i_ r /\ FrS [] H H' := by
 refine ab_ Tryz.func81 ?_
 unfold z_normal_order at hr
 refine sq_ fun k1 => g_' ?_
 refine rl_ wf [i_ From, i_ To, i_ Weight] fun b2 H3 e4 hb5 r6 => ?_
 refine rl_ e4.wf [i_ From_, i_ To_, i_ Weight_] fun b8 H9 e10 hb11 r12 => ?_
 refine q_ (i_ 0) (s_nil (k1 _ _ (sq_ fun k14 => ?_)))
 refine w_draw [0, 1, 2, 3, 5, 6, 7, 8, 10, 11, 12, 13, 4, 9, 14, 15, 16, 17] (by kernel_rfl) ?_
 refine e_' (pt_ b2 0) ?_
 have u15 := (r6.ext e10)
 refine mr_ 3 0 (i_ From) u15 (e_' (pt_ b8 0) (mr_ 3 0 (i_ From_) r12 (e_' (pt_ b2 1) ?_)))
 refine d_fl (i_ To) (x := aL_ 3 (pt_ b2 1) H9) (by kernel_rfl) (u15.l_) ?_
 refine e_' (pt_ b8 1) ?_
 refine d_fl (i_ To_) (x := aL_ 3 (pt_ b8 1) H9) (by kernel_rfl) (r12.l_) ?_
 refine e_' (pt_ b2 2) ?_
 refine d_fl (i_ Weight) (x := aL_ 3 (pt_ b2 2) H9) (by kernel_rfl) (u15.l_) ?_
 refine e_' (pt_ b8 2) ?_
 refine d_fl (i_ Weight_) (x := aL_ 3 (pt_ b8 2) H9) (by kernel_rfl) (r12.l_) ?_
 obtain ⟨y16, hy17, r18⟩ := bs_ hr
 refine dk_ (c_cmp_Compare e10.wf hy17) ?_
 rintro _ _ ⟨rfl, rfl⟩
 refine ⟨st_ql (y := aL_ 3 (pt_ b8 2) H9) (by kernel_rfl) (r12.l_) (st_ql (y := aL_ 3 (pt_ b2 2) H9) (by kernel_rfl) (u15.l_) (st_ql (y := aL_ 3 (pt_ b8 1) H9) (by kernel_rfl) (r12.l_) (st_ql (y := aL_ 3 (pt_ b2 1) H9) (by kernel_rfl) (u15.l_) (st_nil)))), ?_⟩
 obtain ⟨y21, hy22, r23⟩ := bs_ r18
 refine dk_ (c_cmp_Compare e10.wf hy22) ?_
 rintro _ _ ⟨rfl, rfl⟩
 refine ⟨st_ql (y := aL_ 3 (pt_ b8 2) H9) (by kernel_rfl) (r12.l_) (st_ql (y := aL_ 3 (pt_ b2 2) H9) (by kernel_rfl) (u15.l_) (st_anc (by kernel_rfl) (st_anc (by kernel_rfl) (st_nil)))), ?_⟩
 obtain ⟨y26, hy27, r28⟩ := bs_ r23
 refine dk_ (c_cmp_Compare e10.wf hy27) ?_
 rintro _ _ ⟨rfl, rfl⟩
 refine ⟨st_anc (by kernel_rfl) (st_anc (by kernel_rfl) (st_anc (by kernel_rfl) (st_anc (by kernel_rfl) (st_nil)))), ?_⟩
 refine d_owk (enc := (encI .i64)) (sz := 1) e10.wf [y16, y21, y26] 3 (by decide) (fun _ _ => rfl) (fun _ _ => rfl) rfl (by kernel_rfl) fun s31 f32 H33 e34 hf35 hm36 => ?_
 obtain ⟨a37, n38, c39, rfl⟩ := hm36.form
 obtain ⟨y41, hy42, r43⟩ := bs_ r28
 refine dk_ (c_cmp_Or e34.wf hm36.sq hy42) ?_
 rintro _ _ ⟨rfl, rfl⟩
 refine ⟨st_anc (by kernel_rfl) (st_anc (by kernel_rfl) (st_anc (by kernel_rfl) (st_anc (by kernel_rfl) (st_nil)))), ?_⟩
 refine e_' (i_ y41) ?_
 refine d_nil ?_
 refine k14 _ _ ?_
 refine w_ret ?_
 refine br_ [i_ y41] ?_
 obtain rfl := oi_ r43
 exact ⟨rfl, ((((f0_ wf).extR e4).extR e10).extR e34)⟩
theorem c_normal_Of_1 {H : AH} {From : Int} {To : Int} {Weight : Int} {From_ : Int} {To_ : Int} {Weight_ : Int} {r : Bool}
    (wf : WF H) (hr : z_normal_Of_1 From To Weight From_ To_ Weight_ = some r) :
    ACalls Tryz.prog 83 #[.agg #[i_ From, i_ To, i_ Weight], .agg #[i_ From_, i_ To_, i_ Weight_]] H fun v H' => v = .bool r /\ FrS [] H H' := by
 refine ab_ Tryz.func83 ?_
 unfold z_normal_Of_1 at hr
 refine sq_ fun k1 => g_' ?_
 refine rl_ wf [i_ From, i_ To, i_ Weight] fun b2 H3 e4 hb5 r6 => ?_
 refine rl_ e4.wf [i_ From_, i_ To_, i_ Weight_] fun b8 H9 e10 hb11 r12 => ?_
 refine q_ (.bool false) (s_nil (k1 _ _ (sq_ fun k14 => g_' (q_ (pt_ b2 0) ?_))))
 have u15 := (r6.ext e10)
 refine lr_ 3 0 (i_ From) u15 (q_ (pt_ b8 0) (lr_ 3 0 (i_ From_) r12 ?_))
 refine sb_ (From = From_) (fun h16 => ?_) fun h16 => ?_
 ·have r17 := ite_t h16 hr
  refine q_ (.bool true) (q_ (pt_ b2 1) (lr_ 3 1 (i_ To) u15 (q_ (pt_ b8 1) (lr_ 3 1 (i_ To_) r12 (q_ (.bool (decide (To = To_))) (q_ (.bool (decide (To = To_))) (q_ (.bool (decide (To = To_))) (s_nil (k14 _ _ ?_)))))))))
  refine w_ret ?_
  refine br_ [.bool (decide (To = To_))] ?_
  obtain rfl := oi_ r17
  exact ⟨rfl, (((f0_ wf).extR e4).extR e10)⟩
 have r18 := ite_f h16 hr
 refine q_ (.bool false) (n_' (n_' (n_' (n_' (n_' (q_ (.bool false) (q_ (.bool false) (s_nil (k14 _ _ ?_)))))))))
 refine w_ret ?_
 refine br_ [.bool false] ?_
 obtain rfl := oi_ r18
 exact ⟨rfl, (((f0_ wf).extR e4).extR e10)⟩
end Go.Vd

/-! (KWf1) -/

set_option maxRecDepth 100000
set_option maxHeartbeats 4000000
set_option linter.unusedVariables false
namespace Go.Vd
open Go.Proofs
attribute [local irreducible] wpSeq wpOrd aWp
theorem c_slices_CompactFunc {H : AH} {hd_s : Value} {fp_s : Fp} {s : List (Int × Int × Int)} {r : List (Int × Int × Int) × List (Int × Int × Int)}
    (wf : WF H) (h_s : Ow enc_i64_i64_i64 3 H hd_s s fp_s) (hr : z_slices_CompactFunc s = some r) :
    ACalls Tryz.prog 82 #[hd_s, .func (.func 83) #[] #[]] H fun v H' => ∃ (s3 : Value), v = s3 /\ FrS fp_s H H' /\ Ow enc_i64_i64_i64 3 H' s3 r.1 fp_s /\ Ow enc_i64_i64_i64 3 H' hd_s r.2 fp_s := by
 refine ab_ Tryz.func82 ?_
 unfold z_slices_CompactFunc at hr
 refine sq_ fun k6 => g_' (q_ (.slice none 0 0) (s_nil (k6 _ _ (sq_ fun k7 => sq_ fun k8 => g_' (q_ (hd_s) (h_s.sq.ln_ 22 (q_ (.bool (decide ((s.length : Int) < 2))) (s_nil (k8 _ _ ?_)))))))))
 refine wc_ ((s.length : Int) < 2) (fun h9 => ?_) fun h9 => ?_
 ·have r10 := ite_t h9 hr
  refine sq_ fun k11 => g_' (q_ (hd_s) (q_ (hd_s) (s_nil (k11 _ _ ?_))))
  refine w_ret (th_ret ?_)
  refine br_ [hd_s] ?_
  obtain rfl := oi_ r10
  exact ⟨(hd_s), rfl, (fr_ wf), h_s, h_s⟩
 have r12 := ite_f h9 hr
 refine w_skip (k7 _ _ (sq_ fun k13 => sq_ fun k14 => g_' (q_ (i_ 1) (s_nil (k14 _ _ ?_)))))
 obtain ⟨z18, hx16, r17⟩ := bs_ r12
 refine w_mid (fun α H19 => ∃ o15, z18 = Sum.inr o15 /\ Has α [(0, hd_s)] /\ FrS [] H H19) (fun _ k21 => ?_) (fun α H19 hM => ?_)
 ·refine w_block ?_
  obtain ⟨n23, hn24⟩ := loopO_iff.1 hx16
  refine w_loopn (fun n α H25 => ∃ (k3 : Int), iterO (fun zz_ => z_slices_CompactFunc_l1 s zz_) n k3 = some z18 /\ Has α [(0, hd_s), (1, .func (.func 83) #[] #[]), (5, i_ k3)] /\ FrS [] H H25) n23 ⟨1, hn24, ha_, (f0_ wf)⟩ ?_
  rintro n23 α H25 ⟨k3, hi28, hh27, e26⟩ K33 k33
  obtain ⟨n29, z30, rfl, hz31, hn32⟩ := iter_succ hi28
  obtain ⟨β, rfl⟩ := has_ex hh27
  clear hh27
  replace hz31 : z_slices_CompactFunc_l1 s k3 = some z30 := hz31
  unfold z_slices_CompactFunc_l1 at hz31
  refine sq_ fun k34 => sq_ fun k35 => g_' (q_ (i_ k3) (q_ (hd_s) ?_))
  have u36 := (h_s.fr e26 dn_)
  refine u36.sq.ln_ 22 (q_ (.bool (decide (k3 < (s.length : Int)))) (s_nil (k35 _ _ ?_)))
  refine wc_ (k3 < (s.length : Int)) (fun h37 => ?_) fun h37 => ?_
  ·have r38 := ite_t h37 hz31
   refine w_skip (k34 _ _ (sq_ fun k39 => w_block (sq_ fun k40 => ?_)))
   refine w_draw [0, 1, 2, 3, 4, 5, 6, 7, 8, 9, 10] (by kernel_rfl) ?_
   refine e_' (.func (.func 83) #[] #[]) (e_' (hd_s) (e_' (i_ k3) ?_))
   obtain ⟨g41, r42⟩ := G_some r38
   refine u36.sq.mx_ 22 g41 h37 (me_ 74 0 (.agg #[i_ ((gt s k3).1), i_ ((gt s k3).2.1), i_ ((gt s k3).2.2)]) u36.sq g41 h37 (e_' (hd_s) (e_' (i_ k3) ?_)))
   obtain ⟨g43, r44⟩ := G_some r42
   refine d_w ((k3 - 1)) (k := .i64) (x := (k3 - 1)) (by kernel_rfl) (wrap64 g43) ?_
   obtain ⟨g45, r46⟩ := G_some r44
   refine u36.sq.mx_ 22 g45.1 g45.2 (me_ 74 0 (.agg #[i_ ((gt s (k3 - 1)).1), i_ ((gt s (k3 - 1)).2.1), i_ ((gt s (k3 - 1)).2.2)]) u36.sq g45.1 g45.2 ?_)
   obtain ⟨y47, hy48, r49⟩ := bs_ r46
   refine dk_ (c_normal_Of_1 e26.wf hy48) ?_
   rintro _ H50 ⟨rfl, e51⟩
   refine ⟨st_nil, ?_⟩
   refine d_nil ?_
   refine k40 _ _ ?_
   refine wb_ (y47) (fun h52 => ?_) fun h52 => ?_
   ·have r53 := ite_t h52 r49
    refine sq_ fun k54 => g_' (q_ (hd_s) (q_ (i_ k3) ?_))
    obtain ⟨g55, r56⟩ := G_some r53
    have u60 := (u36.fr e51 dn_)
    obtain ⟨s57, q58, vw59⟩ := Ow.view (P := Tryz.prog) u60 (t := 22) (by kernel_rfl) (lo := some (i_ k3)) (l := k3.toNat) (aBound_int _ (by have := g55; omega)) (by have := g55; omega)
    obtain ⟨a61, n62, c63, rfl⟩ := vw59.form
    refine s_ql (.slice a61 n62 c63) (by kernel_rfl) q58 ?_
    refine q_ (.slice a61 n62 c63) (s_nil (k54 _ _ (sq_ fun k64 => sq_ fun k65 => g_' (q_ (i_ 1) (s_nil (k65 _ _ ?_))))))
    obtain ⟨o66, hx67, r68⟩ := bs_ r56
    refine w_mid (fun α H69 => Has α [(0, hd_s), (5, i_ o66.2)] /\ FrS fp_s H50 H69 /\ Ow enc_i64_i64_i64 3 H69 hd_s o66.1 fp_s) (fun _ k73 => ?_) (fun α H69 hM => ?_)
    ·refine w_block ?_
     obtain ⟨n75, hn76⟩ := loopO_iff.1 hx67
     refine w_loopn (fun n α H77 => ∃ (s0 : List (Int × Int × Int)), ∃ (k1 : Int), ∃ (k22 : Int), iterO (fun zz_ => z_slices_CompactFunc_l0 k3 zz_.1 zz_.2.1 zz_.2.2) n (s0, k1, k22) = some o66 /\ Has α [(0, hd_s), (1, .func (.func 83) #[] #[]), (5, i_ k1), (6, .slice a61 n62 c63), (7, i_ k22)] /\ FrS fp_s H50 H77 /\ Ow enc_i64_i64_i64 3 H77 hd_s s0 fp_s) n75 ⟨s, k3, 1, hn76, ha_, (fr_ e51.wf), u60⟩ ?_
     rintro n75 α H77 ⟨s0, k1, k22, hi82, hh81, e78, m80⟩ K87 k87
     obtain ⟨n83, z84, rfl, hz85, hn86⟩ := iter_succ hi82
     obtain ⟨β, rfl⟩ := has_ex hh81
     clear hh81
     replace hz85 : z_slices_CompactFunc_l0 k3 s0 k1 k22 = some z84 := hz85
     unfold z_slices_CompactFunc_l0 at hz85
     refine sq_ fun k88 => sq_ fun k89 => g_' (q_ (i_ k22) (q_ (.slice a61 n62 c63) ?_))
     obtain ⟨hs90, hl91⟩ := vw59.sq m80
     refine hs90.ln_ 22 (q_ (.bool (decide (k22 < ((s0.drop k3.toNat).length : Int)))) (s_nil (k89 _ _ ?_)))
     refine wc_ (k22 < ((s0.drop k3.toNat).length : Int)) (fun h93 => ?_) fun h93 => ?_
     ·have r94 := ite_t h93 hz85
      refine w_skip (k88 _ _ (sq_ fun k95 => w_block (sq_ fun k96 => ?_)))
      refine w_draw [0, 1, 2, 3, 4, 5, 6, 7, 8, 9, 10, 11] (by kernel_rfl) ?_
      refine e_' (.func (.func 83) #[] #[]) (e_' (.slice a61 n62 c63) (e_' (i_ k22) ?_))
      obtain ⟨hs97, hl98⟩ := vw59.sq m80
      obtain ⟨g100, r101⟩ := G_some r94
      refine hs97.mx_ 22 g100 h93 (me_ 74 0 (.agg #[i_ ((gt (s0.drop k3.toNat) k22).1), i_ ((gt (s0.drop k3.toNat) k22).2.1), i_ ((gt (s0.drop k3.toNat) k22).2.2)]) hs97 g100 h93 (e_' (.slice a61 n62 c63) (e_' (i_ k22) ?_)))
      obtain ⟨g102, r103⟩ := G_some r101
      refine d_w ((k22 - 1)) (k := .i64) (x := (k22 - 1)) (by kernel_rfl) (wrap64 g102) ?_
      obtain ⟨hs104, hl105⟩ := vw59.sq m80
      obtain ⟨g107, r108⟩ := G_some r103
      refine hs104.mx_ 22 g107.1 g107.2 (me_ 74 0 (.agg #[i_ ((gt (s0.drop k3.toNat) (k22 - 1)).1), i_ ((gt (s0.drop k3.toNat) (k22 - 1)).2.1), i_ ((gt (s0.drop k3.toNat) (k22 - 1)).2.2)]) hs104 g107.1 g107.2 ?_)
      obtain ⟨y109, hy110, r111⟩ := bs_ r108
      refine dk_ (c_normal_Of_1 e78.wf hy110) ?_
      rintro _ H112 ⟨rfl, e113⟩
      refine ⟨st_nil, ?_⟩
      refine e_' (.bool (!y109)) ?_
      refine d_nil ?_
      refine k96 _ _ ?_
      refine wb_ ((!y109)) (fun h114 => ?_) fun h114 => ?_
      ·have r115 := ite_t h114 r111
       refine sq_ fun k116 => g_' (q_ (hd_s) (q_ (i_ k1) (q_ (.slice a61 n62 c63) (q_ (i_ k22) ?_))))
       have u119 := (m80.fr e113 dn_)
       obtain ⟨hs117, hl118⟩ := vw59.sq u119
       refine hs117.ix_ 22 g100 h93 (le_ 74 0 (.agg #[i_ ((gt (s0.drop k3.toNat) k22).1), i_ ((gt (s0.drop k3.toNat) k22).2.1), i_ ((gt (s0.drop k3.toNat) k22).2.2)]) hs117 g100 h93 ?_)
       obtain ⟨g121, r122⟩ := G_some r115
       refine u119.sq.ix_ 22 g121.1 g121.2 ?_
       obtain ⟨H123, q124, e125, hm126⟩ := Ow.store (P := Tryz.prog) (t := 74) (off := 0) e113.wf u119 g121.1 g121.2 (.agg #[i_ ((gt (s0.drop k3.toNat) k22).1), i_ ((gt (s0.drop k3.toNat) k22).2.1), i_ ((gt (s0.drop k3.toNat) k22).2.2)]) [i_ ((gt (s0.drop k3.toNat) k22).1), i_ ((gt (s0.drop k3.toNat) k22).2.1), i_ ((gt (s0.drop k3.toNat) k22).2.2)] (by kernel_rfl) (by kernel_rfl) rfl ((gt (s0.drop k3.toNat) k22).1, (gt (s0.drop k3.toNat) k22).2.1, (gt (s0.drop k3.toNat) k22).2.2) (Nat.le_of_ble_eq_true rfl) (by kernel_rfl)
       refine ek_ q124 (s_nil (k116 _ _ (g_' (q_ (i_ k1) ?_))))
       obtain ⟨g127, r128⟩ := G_some r122
       refine w_' ((k1 + 1)) (wrap64 (by have := g127; omega)) (q_ (i_ (k1 + 1)) (s_nil (k95 _ _ (g_' (q_ (i_ k22) ?_)))))
       obtain ⟨g129, r130⟩ := G_some r128
       refine w_' ((k22 + 1)) (wrap64 (by have := g129; omega)) (q_ (i_ (k22 + 1)) (s_nil ?_))
       obtain rfl := oi_ r130
       exact k87 n83 _ _ lt_ ⟨(s0.set k1.toNat ((gt (s0.drop k3.toNat) k22).1, (gt (s0.drop k3.toNat) k22).2.1, (gt (s0.drop k3.toNat) k22).2.2)), (k1 + 1), (k22 + 1), hn86, ha_, (fs_ e51.wf (fs_ e51.wf (fs_ e51.wf (fr_ e51.wf) e78 ir_) e113 in_) e125 ir_), hm126⟩
      have r131 := ite_bf h114 r111
      refine w_skip (k95 _ _ (g_' (q_ (i_ k22) ?_)))
      obtain ⟨g132, r133⟩ := G_some r131
      refine w_' ((k22 + 1)) (wrap64 (by have := g132; omega)) (q_ (i_ (k22 + 1)) (s_nil ?_))
      have u134 := (m80.fr e113 dn_)
      obtain rfl := oi_ r133
      exact k87 n83 _ _ lt_ ⟨s0, k1, (k22 + 1), hn86, ha_, (fs_ e51.wf (fs_ e51.wf (fr_ e51.wf) e78 ir_) e113 in_), u134⟩
     have r135 := ite_f h93 hz85
     refine w_exit (th_exit (th_exit (bl_eq ?_)))
     obtain rfl := oi_ r135
     obtain rfl := it_inr hn86
     exact k73 _ _ ⟨ha_, (fs_ e51.wf (fr_ e51.wf) e78 ir_), m80⟩
    obtain ⟨hh74, e70, m72⟩ := hM
    obtain ⟨β, rfl⟩ := has_ex hh74
    clear hh74
    refine k64 _ _ (sq_ fun k136 => g_' (q_ (hd_s) (q_ (i_ o66.2) ?_)))
    obtain ⟨g137, r138⟩ := G_some r68
    obtain ⟨s139, q140, vw141⟩ := Ow.view (P := Tryz.prog) m72 (t := 22) (by kernel_rfl) (lo := some (i_ o66.2)) (l := o66.2.toNat) (aBound_int _ (by have := g137; omega)) (by have := g137; omega)
    obtain ⟨a142, n143, c144, rfl⟩ := vw141.form
    refine s_ql (.slice a142 n143 c144) (by kernel_rfl) q140 ?_
    obtain ⟨g145, r146⟩ := G_some r138
    obtain ⟨H147, q148, e149, hm150⟩ := View.clear (P := Tryz.prog) (m := 24) (at_ := #[22]) vw141 ((0, 0, 0) : Int × Int × Int) e70.wf m72 g145 rfl (by kernel_rfl)
    refine s_ek (.tuple #[]) (by kernel_rfl) (map_ok q148) ?_
    refine s_nil (k136 _ _ (sq_ fun k151 => g_' (q_ (hd_s) (q_ (i_ o66.2) ?_))))
    obtain ⟨g152, r153⟩ := G_some r146
    obtain ⟨s154, q155, hs156⟩ := Ow.head (P := Tryz.prog) hm150 (t := 22) (by kernel_rfl) (hi := (some (i_ o66.2))) (r := o66.2.toNat) (aBound_int _ (by have := g152; omega)) (by have := g152; omega)
    obtain ⟨a157, n158, c159, rfl⟩ := hs156.form
    refine s_ql (.slice a157 n158 c159) (by kernel_rfl) q155 ?_
    refine q_ (.slice a157 n158 c159) (s_nil (k151 _ _ ?_))
    refine w_ret (bl_ret (th_ret (th_ret (bl_ret (th_ret (th_ret ?_))))))
    obtain ⟨v161, hv162, hz163⟩ := map_some r153
    subst hz163
    obtain rfl := it_inr hn32
    have hq164 := elim_inl r17
    rw [hq164] at hv162
    refine br_ [.slice a157 n158 c159] ?_
    obtain rfl := oi_ hv162
    exact ⟨(.slice a157 n158 c159), rfl, (fs_ wf (fs_ wf (fs_ wf (fs_ wf (fr_ wf) e26 in_) e51 in_) e70 ir_) e149 ir_), hs156, hm150⟩
   have r165 := ite_bf h52 r49
   refine w_skip (k39 _ _ (g_' (q_ (i_ k3) ?_)))
   obtain ⟨g166, r167⟩ := G_some r165
   refine w_' ((k3 + 1)) (wrap64 (by have := g166; omega)) (q_ (i_ (k3 + 1)) (s_nil ?_))
   obtain rfl := oi_ r167
   exact k33 n29 _ _ lt_ ⟨(k3 + 1), hn32, ha_, (fs_ wf (fs_ wf (f0_ wf) e26 in_) e51 in_)⟩
  have r168 := ite_f h37 hz31
  refine w_exit (th_exit (th_exit (bl_eq ?_)))
  obtain rfl := oi_ r168
  obtain rfl := it_inr hn32
  exact k21 _ _ ⟨_, rfl, ha_, (fs_ wf (f0_ wf) e26 in_)⟩
 obtain ⟨o15, rfl, hh22, e20⟩ := hM
 have r169 := elim_inr r17
 obtain ⟨β, rfl⟩ := has_ex hh22
 clear hh22
 refine k13 _ _ (sq_ fun k170 => g_' (q_ (hd_s) (q_ (hd_s) (s_nil (k170 _ _ ?_)))))
 refine w_ret ?_
 refine br_ [hd_s] ?_
 have u171 := (h_s.fr e20 dn_)
 obtain rfl := oi_ r169
 exact ⟨(hd_s), rfl, (fs_ wf (fr_ wf) e20 in_), u171, u171⟩
theorem c_normal_Of {H : AH} {hd_Arcs : Value} {fp_Arcs : Fp} {N_ : Int} {Arcs : List (Int × Int × Int)} {r : Int × List (Int × Int × Int) × Er}
    (wf : WF H) (h_Arcs : Sq enc_i64_i64_i64 3 H hd_Arcs Arcs fp_Arcs) (hr : z_normal_Of N_ Arcs = some r) :
    ACalls Tryz.prog 56 #[.agg #[i_ N_, hd_Arcs]] H fun v H' => ∃ (s3 : Value) (f4 : Fp) (v7 : Value) (f8 : Fp), v = .tuple #[.agg #[i_ r.1, s3], v7] /\ FrS [] H H' /\ Ow enc_i64_i64_i64 3 H' s3 r.2.1 f4 /\ Ev 78 116 H' v7 r.2.2 f8 /\ Inn [] H f4 /\ Inn [] H f8 /\ Dj f4 f8 := by
 refine ab_ Tryz.func56 ?_
 unfold z_normal_Of at hr
 refine sq_ fun k12 => g_' ?_
 refine s_rwl wf [i_ N_, hd_Arcs] (one_cons (rfl) (one_cons (h_Arcs.one1) (one_nil))) (by kernel_rfl) fun b13 H14 e15 hb16 r17 => ?_
 refine rk_ e15.wf [i_ 0, .slice none 0 0] fun b19 H20 e21 hb22 r23 => ?_
 refine q_ (.nilIface) (s_nil (k12 _ _ (sq_ fun k25 => sq_ fun k26 => g_' ?_)))
 have u27 := (r17.ext e21)
 refine lr_ 24 0 (.agg #[i_ N_, hd_Arcs]) u27 ?_
 have u28 := ((h_Arcs.ext e15).ext e21)
 obtain ⟨y29, hy30, r31⟩ := bs_ hr
 refine ck_ (c_gtext_Check e21.wf u28 hy30) ?_
 rintro v32 H34 ⟨_, f33, rfl, e35, m36, i37⟩
 refine q_ (v32) (s_nil (k26 _ _ (sq_ fun k39 => g_' (q_ (v32) ?_))))
 rcases (m36).cases with ⟨h40, rfl⟩ | ⟨h40, t41, x42, rfl⟩
 ·have r43 := ite_t h40 r31
  refine q_ (.bool false) (s_nil (k39 _ _ ?_))
  refine wb_ false (fun h => by cases h) fun _ => ?_
  refine w_skip (k25 _ _ (sq_ fun k44 => g_' (q_ (pt_ b13 0) ?_)))
  have u45 := (u27.frS e35 dn_)
  refine lr_ 3 0 (i_ N_) u45 (q_ (.agg #[i_ N_, .slice none 0 0]) ?_)
  refine rk_ e35.wf [i_ 0, .slice none 0 0] fun b46 H47 e48 hb49 r50 => ?_
  obtain ⟨H52, q53, e54, r55⟩ := ra_ 24 0 e48.wf r50 [i_ N_, .slice none 0 0] [i_ N_, .slice none 0 0]
  refine ek_ q53 (s_nil (k44 _ _ (sq_ fun k56 => sq_ fun k57 => g_' (q_ (pt_ b13 1) ?_))))
  have n58 := (t_ e21.n e35.n)
  have d59 := (hb49.djn (r17.ltF.le n58))
  have u60 := ((u45.ext e48).frS e54 d59)
  refine lr_ 22 1 (hd_Arcs) u60 ?_
  have n61 := (t_ (t_ e15.n e21.n) e35.n)
  have d62 := (hb49.djn (h_Arcs.lt.le n61))
  have u63 := (((u28.fr e35 dn_).ext e48).fr e54 d62)
  refine u63.ln_ 22 (q_ (i_ 0) (s_nil (k57 _ _ ?_)))
  obtain ⟨o64, hx65, r66⟩ := bs_ r43
  refine w_mid (fun α H67 => ∃ (s71 : Value) (f72 : Fp), Has α [(2, pt_ b19 0), (5, pt_ b46 0)] /\ FrS [b46] H52 H67 /\ Ow enc_i64_i64_i64 3 H67 s71 o64 f72 /\ Row H67 b46 [i_ N_, s71] /\ Inn [] H52 f72) (fun _ k76 => ?_) (fun α H67 hM => ?_)
  ·refine w_block ?_
   obtain ⟨n78, hn79⟩ := loopO_iff.1 hx65
   refine w_loopn (fun n α H80 => ∃ (i0 : Int), ∃ (c1 : List (Int × Int × Int)), ∃ (s84 : Value), ∃ (f85 : Fp), iterO (fun zz_ => z_normal_Of_l0 Arcs zz_.1 zz_.2) n (i0, c1) = some o64 /\ Has α [(2, pt_ b19 0), (5, pt_ b46 0), (18, hd_Arcs), (19, i_ (Arcs.length : Int)), (20, i_ i0)] /\ FrS [b46] H52 H80 /\ Ow enc_i64_i64_i64 3 H80 s84 c1 f85 /\ Row H80 b46 [i_ N_, s84] /\ Inn [] H52 f85) n78 ⟨0, [], (.slice none 0 0), [], hn79, ha_, (fr_ e54.wf), (Ow.nil (by decide)), r55, in_⟩ ?_
   rintro n78 α H80 ⟨i0, c1, s84, f85, hi90, hh89, e81, m83, m87, i88⟩ K95 k95
   obtain ⟨n91, z92, rfl, hz93, hn94⟩ := iter_succ hi90
   obtain ⟨β, rfl⟩ := has_ex hh89
   clear hh89
   replace hz93 : z_normal_Of_l0 Arcs i0 c1 = some z92 := hz93
   unfold z_normal_Of_l0 at hz93
   obtain ⟨a96, n97, c98, rfl⟩ := m83.form
   refine sq_ fun k99 => g_' (q_ (.bool (decide (i0 < (Arcs.length : Int)))) (s_nil (k99 _ _ (sq_ fun k100 => ?_))))
   refine wc_ (i0 < (Arcs.length : Int)) (fun h101 => ?_) fun h101 => ?_
   ·have r102 := ite_t h101 hz93
    refine w_skip (k100 _ _ (sq_ fun k103 => w_block (sq_ fun k104 => g_' ?_)))
    obtain ⟨g105, r106⟩ := G_some r102
    have u107 := (u63.fr e81 d62)
    refine u107.ix_ 22 g105 h101 (le_ 74 0 (.agg #[i_ ((gt Arcs i0).1), i_ ((gt Arcs i0).2.1), i_ ((gt Arcs i0).2.2)]) u107 g105 h101 ?_)
    refine rk_ e81.wf [i_ 0, i_ 0, i_ 0] fun b108 H109 e110 hb111 r112 => ?_
    obtain ⟨H114, q115, e116, r117⟩ := ra_ 74 0 e110.wf r112 [i_ ((gt Arcs i0).1), i_ ((gt Arcs i0).2.1), i_ ((gt Arcs i0).2.2)] [i_ ((gt Arcs i0).1), i_ ((gt Arcs i0).2.1), i_ ((gt Arcs i0).2.2)]
    refine ek_ q115 (s_nil (k104 _ _ (sq_ fun k118 => g_' (q_ (pt_ b108 0) (lr_ 3 0 (i_ ((gt Arcs i0).1)) r117 (q_ (pt_ b108 1) (lr_ 3 1 (i_ ((gt Arcs i0).2.1)) r117 (q_ (.bool (!decide (((gt Arcs i0).1) = ((gt Arcs i0).2.1)))) (s_nil (k118 _ _ ?_))))))))))
    refine w_condn (((gt Arcs i0).1) = ((gt Arcs i0).2.1)) (by kernel_rfl) rfl (fun h119 => ?_) (fun h119 => ?_)
    ·have r120 := ite_f h119 r106
     refine g_' (q_ (pt_ b46 1) ?_)
     have n121 := (t_ e54.n e81.n)
     have d122 := (hb111.djn (r50.ltF.le n121))
     have u123 := ((m87.ext e110).frS e116 d122)
     refine lr_ 22 1 (.slice a96 n97 c98) u123 (lr_ 74 0 (.agg #[i_ ((gt Arcs i0).1), i_ ((gt Arcs i0).2.1), i_ ((gt Arcs i0).2.2)]) r117 ?_)
     refine s_owk (enc := enc_i64_i64_i64) (sz := 3) e116.wf [((gt Arcs i0).1, (gt Arcs i0).2.1, (gt Arcs i0).2.2)] 1 (by decide) (fun _ _ => rfl) (fun _ _ => rfl) rfl (by kernel_rfl) fun s124 f125 H126 e127 hf128 hm129 => ?_
     obtain ⟨a130, n131, c132, rfl⟩ := hm129.form
     have u134 := (((m83.ext e110).fr e116 (hb111.djn m83.lt)).ext e127)
     obtain ⟨g135, r136⟩ := G_some r120
     obtain ⟨s137, H138, f139, q143, e140, hm141, hf142⟩ := Ow.append (P := Tryz.prog) 24 e127.wf u134 hm129.sq (fun _ _ => rfl) (at_ := #[22, 22]) rfl rfl (by kernel_rfl) (by kernel_rfl) (by decide) (by have := g135; first | omega | (simp only [List.length_cons, List.length_nil] at this ⊢; omega) | (simp at this ⊢; omega))
     obtain ⟨a144, n145, c146, rfl⟩ := hm141.form
     refine s_ek (.slice a144 n145 c146) (by kernel_rfl) (q143) ?_
     refine q_ (pt_ b46 1) ?_
     have d152 := (i88.djn (r50.ltF.le e54.n))
     have u153 := ((u123.ext e127).frS e140 d152)
     obtain ⟨H148, q149, e150, r151⟩ := rb_ 22 1 e140.wf u153 (.slice a144 n145 c146) [i_ N_, .slice a144 n145 c146]
     refine ek_ q149 (s_nil (k103 _ _ (g_' ?_)))
     obtain ⟨g154, r155⟩ := G_some r136
     refine w_' ((i0 + 1)) (wrap64 (by have := g154; omega)) (q_ (i_ (i0 + 1)) (s_nil ?_))
     have n156 := (t_ (t_ (t_ (t_ e54.n e81.n) e110.n) e116.n) e127.n)
     have d157 := (hf142.dj d152 (r50.ltF.le n156))
     have u158 := (hm141.fr e150 (Dj.symm d157))
     have n159 := (t_ (t_ (t_ e81.n e110.n) e116.n) e127.n)
     obtain rfl := oi_ r155
     exact k95 n91 _ _ lt_ ⟨(i0 + 1), (c1 ++ [((gt Arcs i0).1, (gt Arcs i0).2.1, (gt Arcs i0).2.2)]), (.slice a144 n145 c146), f139, hn94, ha_, (fs_ e54.wf (fs_ e54.wf ((fs_ e54.wf ((fs_ e54.wf (fr_ e54.wf) e81 ir_).extR e110) e116 (hb111.fresh e81.n)).extR e127) e140 (i88.fresh (Nat.le_refl _))) e150 ir_), u158, r151, (Inn.trans (i88.fresh (Nat.le_refl _)) n159 hf142)⟩
    have r160 := ite_t h119 r106
    refine w_skip (k103 _ _ (g_' ?_))
    obtain ⟨g161, r162⟩ := G_some r160
    refine w_' ((i0 + 1)) (wrap64 (by have := g161; omega)) (q_ (i_ (i0 + 1)) (s_nil ?_))
    have u163 := ((m83.ext e110).fr e116 (hb111.djn m83.lt))
    have n164 := (t_ e54.n e81.n)
    have d165 := (hb111.djn (r50.ltF.le n164))
    have u166 := ((m87.ext e110).frS e116 d165)
    obtain rfl := oi_ r162
    exact k95 n91 _ _ lt_ ⟨(i0 + 1), c1, (.slice a96 n97 c98), f85, hn94, ha_, (fs_ e54.wf ((fs_ e54.wf (fr_ e54.wf) e81 ir_).extR e110) e116 (hb111.fresh e81.n)), u163, u166, (i88.fresh (Nat.le_refl _))⟩
   have r167 := ite_f h101 hz93
   refine w_exit (th_exit (th_exit (bl_eq ?_)))
   obtain rfl := oi_ r167
   obtain rfl := it_inr hn94
   exact k76 _ _ ⟨(.slice a96 n97 c98), f85, ha_, (fs_ e54.wf (fr_ e54.wf) e81 ir_), m83, m87, (i88.fresh (Nat.le_refl _))⟩
  obtain ⟨s71, f72, hh77, e68, m70, m74, i75⟩ := hM
  obtain ⟨β, rfl⟩ := has_ex hh77
  clear hh77
  obtain ⟨a168, n169, c170, rfl⟩ := m70.form
  refine k56 _ _ (sq_ fun k171 => g_' (q_ (pt_ b46 1) (lr_ 22 1 (.slice a168 n169 c170) m74 ?_)))
  obtain ⟨g172, r173⟩ := G_some r66
  obtain ⟨y174, hy175, r176⟩ := bs_ r173
  refine s_ck 80 #[.slice a168 n169 c170, .func (.func 81) #[] #[]] (by kernel_rfl) (a_sortO (enc := enc_i64_i64_i64) (fun _ => rfl) (by intro x v hv; simp only [enc_i64_i64_i64, List.mem_cons, List.not_mem_nil, or_false] at hv; rcases hv with rfl | rfl | rfl <;> rfl) (by intro x v hv; simp only [enc_i64_i64_i64, List.mem_cons, List.not_mem_nil, or_false] at hv; rcases hv with rfl | rfl | rfl <;> rfl) (c := (fun (a_ b_ : Int × Int × Int) => z_normal_order a_.1 a_.2.1 a_.2.2 b_.1 b_.2.1 b_.2.2)) (Go.Proofs.enters_of Tryz.func81 (by kernel_rfl) rfl) (fun x y r hr => (c_normal_order aNil_wf hr).mono fun v H' h => h.1) e68.wf m70 g172 hy175) ?_
  rintro _ H177 ⟨rfl, e178, hm179⟩
  refine s_nil (k171 _ _ (sq_ fun k180 => g_' (q_ (pt_ b46 1) ?_)))
  have d181 := (i75.djn (r50.ltF.le e54.n))
  have u182 := (m74.frS e178 d181)
  refine lr_ 22 1 (.slice a168 n169 c170) u182 ?_
  obtain ⟨y183, hy184, r185⟩ := bs_ r176
  refine ck_ (c_slices_CompactFunc e178.wf hm179 hy184) ?_
  rintro s186 H187 ⟨_, rfl, e188, m189, m190⟩
  obtain ⟨a192, n193, c194, rfl⟩ := m189.form
  refine q_ (pt_ b46 1) ?_
  have u199 := (u182.frS e188 d181)
  obtain ⟨H195, q196, e197, r198⟩ := rb_ 22 1 e188.wf u199 (.slice a192 n193 c194) [i_ N_, .slice a192 n193 c194]
  refine ek_ q196 (s_nil (k180 _ _ (sq_ fun k200 => g_' (lr_ 24 0 (.agg #[i_ N_, .slice a192 n193 c194]) r198 ?_))))
  have d205 := (hb49.djn (r23.ltF.le e35.n))
  have n206 := (t_ (t_ e35.n e48.n) e54.n)
  have d207 := (i75.djn (r23.ltF.le n206))
  have u208 := (((((((r23.frS e35 dn_).ext e48).frS e54 d205).frS e68 d205).frS e178 d207).frS e188 d207).frS e197 d205)
  have u209 := (m189.fr e197 (Dj.symm d181))
  obtain ⟨H201, q202, e203, r204⟩ := ra_ 24 0 e197.wf u208 [i_ N_, .slice a192 n193 c194] [i_ N_, .slice a192 n193 c194]
  refine ek_ q202 (q_ (.nilIface) (s_nil (k200 _ _ ?_)))
  refine w_ret ?_
  refine b_ret (vs := [.agg #[i_ N_, .slice a192 n193 c194], .nilIface]) (aRes_cell (Eq.trans (b := aL_ 24 (pt_ b19 0) H201) (by kernel_rfl) (r204.l_)) (rt_ (rfl))) ?_
  have n210 := (t_ (t_ (t_ (t_ e15.n e21.n) e35.n) e48.n) e54.n)
  have u211 := (u209.fr e203 (Dj.symm d207))
  obtain rfl := oi_ r185
  exact ⟨(.slice a192 n193 c194), f72, (.nilIface), [], rfl, (fs_ wf (fs_ wf (fs_ wf (fs_ wf (fs_ wf (fs_ wf ((fs_ wf (((f0_ wf).extR e15).extR e21) e35 in_).extR e48) e54 (hb49.fresh n61)) e68 (hb49.fresh n61)) e178 (i75.fresh n210)) e188 (i75.fresh n210)) e197 (hb49.fresh n61)) e203 (hb22.fresh e15.n)), u211, Ev.nil, (i75.fresh n210), in_, Dj.nil_r⟩
 have r212 := ite_f h40 r31
 refine l_' (.bool true) (aBin Tryz.prog .neq 38 (.tmp 10) (.const .nilIface) (.iface t41 x42) .nilIface) (aBin_nnil (by kernel_rfl)) (s_nil (k39 _ _ ?_))
 refine wb_ true (fun _ => ?_) fun h => by cases h
 refine sq_ fun k213 => g_' (q_ (.agg #[i_ 0, .slice none 0 0]) (q_ (.iface t41 x42) ?_))
 have u218 := (r23.frS e35 dn_)
 obtain ⟨H214, q215, e216, r217⟩ := ra_ 24 0 e35.wf u218 [i_ 0, .slice none 0 0] [i_ 0, .slice none 0 0]
 refine ek_ q215 (q_ (.iface t41 x42) (s_nil (k213 _ _ ?_)))
 refine w_ret (th_ret ?_)
 refine b_ret (vs := [.agg #[i_ 0, .slice none 0 0], .iface t41 x42]) (aRes_cell (Eq.trans (b := aL_ 24 (pt_ b19 0) H214) (by kernel_rfl) (r217.l_)) (rt_ (rfl))) ?_
 have d219 := (i37.djn r23.ltF)
 have u220 := (m36.fr e216 (Dj.symm d219))
 have n221 := (t_ e15.n e21.n)
 obtain rfl := oi_ r212
 exact ⟨(.slice none 0 0), [], (.iface t41 x42), f33, rfl, (fs_ wf (fs_ wf (((f0_ wf).extR e15).extR e21) e35 in_) e216 (hb22.fresh e15.n)), (Ow.nil (by decide)), u220, in_, (i37.fresh n221), dn_⟩
theorem c_overlay_New {H : AH} {hd_Arcs : Value} {fp_Arcs : Fp} {N_ : Int} {Arcs : List (Int × Int × Int)} {r : (Er) ⊕ (List (Bool × List (Int × Int × Int) × List (Int × Int × Int)) × Int × Int)}
    (wf : WF H) (h_Arcs : Sq enc_i64_i64_i64 3 H hd_Arcs Arcs fp_Arcs) (hr : z_overlay_New N_ Arcs = some r) :
    ACalls Tryz.prog 26 #[.agg #[i_ N_, hd_Arcs]] H fun v H' => Sum.elim (fun (r : Er) => ∃ (v3 : Value) (f4 : Fp), v = .tuple #[.pointer none, v3] /\ FrS [] H H' /\ Ev 78 116 H' v3 r f4 /\ Inn [] H f4) (fun (r : List (Bool × List (Int × Int × Int) × List (Int × Int × Int)) × Int × Int) => ∃ (s8 : Value) (f9 : Fp) (b12 : Nat), v = .tuple #[pt_ b12 0, .nilIface] /\ FrS [] H H' /\ Nd enc_i64_u64_i64 3 H' s8 r.1 f9 [] /\ Row H' b12 [s8, i_ r.2.1, i_ r.2.2] /\ Inn [] H f9 /\ Inn [] H [b12] /\ Dj f9 [b12]) r := by
 refine ab_ Tryz.func26 ?_
 unfold z_overlay_New at hr
 refine sq_ fun k16 => g_' ?_
 refine s_rwl wf [i_ N_, hd_Arcs] (one_cons (rfl) (one_cons (h_Arcs.one1) (one_nil))) (by kernel_rfl) fun b17 H18 e19 hb20 r21 => ?_
 refine q_ (.pointer none) (q_ (.nilIface) (s_nil (k16 _ _ (sq_ fun k23 => g_' (lr_ 24 0 (.agg #[i_ N_, hd_Arcs]) r21 ?_)))))
 have u24 := (h_Arcs.ext e19)
 obtain ⟨y25, hy26, r27⟩ := bs_ hr
 refine ck_ (c_normal_Of e19.wf u24 hy26) ?_
 rintro _ H32 ⟨s28, f29, v30, f31, rfl, e33, m34, m35, i36, i37, d38⟩
 obtain ⟨a41, n42, c43, rfl⟩ := m34.form
 refine q_ (.tuple #[.agg #[i_ y25.1, .slice a41 n42 c43], v30]) (q_ (.agg #[i_ y25.1, .slice a41 n42 c43]) (q_ (v30) ?_))
 refine rk_ e33.wf [i_ 0, .slice none 0 0] fun b44 H45 e46 hb47 r48 => ?_
 have u54 := (m34.ext e46)
 obtain ⟨H50, q51, e52, r53⟩ := ra_ 24 0 e46.wf r48 [i_ y25.1, .slice a41 n42 c43] [i_ y25.1, .slice a41 n42 c43]
 refine ek_ q51 (q_ (v30) (s_nil (k23 _ _ (sq_ fun k55 => sq_ fun k56 => g_' (q_ (v30) ?_)))))
 have u60 := ((m35.ext e46).fr e52 (hb47.djn m35.lt))
 rcases (u60).cases with ⟨h57, rfl⟩ | ⟨h57, t58, x59, rfl⟩
 ·have r61 := ite_t h57 r27
  refine q_ (.bool false) (s_nil (k56 _ _ ?_))
  refine wb_ false (fun h => by cases h) fun _ => ?_
  refine w_skip (k55 _ _ (sq_ fun k62 => ?_))
  refine w_draw [0, 1, 2, 3, 4, 5, 6, 7, 8, 9, 10] (by kernel_rfl) ?_
  refine e_' (pt_ b44 0) (mr_ 3 0 (i_ y25.1) r53 ?_)
  obtain ⟨g63, r64⟩ := G_some r61
  refine d_mks (t := 123) (m := 56) (l := y25.1) (c := y25.1) (enc := id) (sz := 3) e52.wf [.bool false, .slice none 0 0, .slice none 0 0] (by kernel_rfl) (by decide) g63.1 (Int.le_refl _) (by omega) (by have := g63; omega) (by kernel_rfl) fun s65 f66 H67 e68 hf69 hm70 => ?_
  replace hm70 := Nd.zeros (enc := enc_i64_u64_i64) (sz := 3) (by decide) hm70
  obtain ⟨a71, n72, c73, rfl⟩ := hm70.form
  have hm70 : Nd enc_i64_u64_i64 3 H67 (.slice a71 n72 c73) (List.replicate y25.1.toNat (false, [], [])) f66 [] := hm70
  refine e_' (pt_ b44 0) ?_
  have u75 := (r53.ext e68)
  refine mr_ 3 0 (i_ y25.1) u75 (e_' (pt_ b44 1) (mr_ 22 1 (.slice a41 n42 c43) u75 ?_))
  have u76 := ((u54.fr e52 (hb47.djn m34.lt)).ext e68)
  refine u76.sq.mn_ 22 (e_' (.agg #[.slice a71 n72 c73, i_ y25.1, i_ (y25.2.1.length : Int)]) ?_)
  refine d_rwl e68.wf [.slice a71 n72 c73, i_ y25.1, i_ (y25.2.1.length : Int)] (one_cons (hm70.one1) (one_cons (rfl) (one_cons (rfl) (one_nil)))) (by kernel_rfl) fun b77 H78 e79 hb80 r81 => ?_
  refine e_' (pt_ b77 0) ?_
  refine d_nil ?_
  refine k62 _ _ (sq_ fun k83 => sq_ fun k84 => g_' (q_ (pt_ b44 1) ?_))
  have u85 := (u75.ext e79)
  refine lr_ 22 1 (.slice a41 n42 c43) u85 ?_
  have u86 := (u76.ext e79)
  refine u86.sq.ln_ 22 (q_ (i_ 0) (s_nil (k84 _ _ ?_)))
  obtain ⟨o87, hx88, r89⟩ := bs_ r64
  refine w_mid (fun α H90 => ∃ (f94 : Fp), Has α [(6, pt_ b77 0)] /\ FrS f66 H78 H90 /\ Nd enc_i64_u64_i64 3 H90 (.slice a71 n72 c73) o87 f94 [] /\ Inn f66 H78 f94) (fun _ k96 => ?_) (fun α H90 hM => ?_)
  ·refine w_block ?_
   obtain ⟨n98, hn99⟩ := loopO_iff.1 hx88
   have u112 := (hm70.ext e79)
   refine w_loopn (fun n α H100 => ∃ (i0 : Int), ∃ (o1 : List (Bool × List (Int × Int × Int) × List (Int × Int × Int))), ∃ (f104 : Fp), iterO (fun zz_ => z_overlay_New_l0 y25 zz_.1 zz_.2) n (i0, o1) = some o87 /\ Has α [(6, pt_ b77 0), (28, .slice a41 n42 c43), (29, i_ (y25.2.1.length : Int)), (30, i_ i0)] /\ FrS f66 H78 H100 /\ Nd enc_i64_u64_i64 3 H100 (.slice a71 n72 c73) o1 f104 [] /\ Inn f66 H78 f104) n98 ⟨0, (List.replicate y25.1.toNat (false, [], [])), f66, hn99, ha_, (fr_ e79.wf), u112, ir_⟩ ?_
   rintro n98 α H100 ⟨i0, o1, f104, hi107, hh106, e101, m103, i105⟩ K113 k113
   obtain ⟨n108, z109, rfl, hz110, hn111⟩ := iter_succ hi107
   obtain ⟨β, rfl⟩ := has_ex hh106
   clear hh106
   replace hz110 : z_overlay_New_l0 y25 i0 o1 = some z109 := hz110
   unfold z_overlay_New_l0 at hz110
   refine sq_ fun k114 => g_' (q_ (.bool (decide (i0 < (y25.2.1.length : Int)))) (s_nil (k114 _ _ (sq_ fun k115 => ?_))))
   refine wc_ (i0 < (y25.2.1.length : Int)) (fun h116 => ?_) fun h116 => ?_
   ·have r117 := ite_t h116 hz110
    refine w_skip (k115 _ _ (sq_ fun k118 => w_block (sq_ fun k119 => g_' ?_)))
    obtain ⟨g120, r121⟩ := G_some r117
    have n122 := (t_ e46.n e52.n)
    have d123 := (hf69.djn (m34.lt.le n122))
    have u124 := (u86.fr e101 d123)
    refine u124.sq.ix_ 22 g120 h116 (le_ 74 0 (.agg #[i_ ((gt y25.2.1 i0).1), i_ ((gt y25.2.1 i0).2.1), i_ ((gt y25.2.1 i0).2.2)]) u124.sq g120 h116 ?_)
    refine rk_ e101.wf [i_ 0, i_ 0, i_ 0] fun b125 H126 e127 hb128 r129 => ?_
    obtain ⟨H131, q132, e133, r134⟩ := ra_ 74 0 e127.wf r129 [i_ ((gt y25.2.1 i0).1), i_ ((gt y25.2.1 i0).2.1), i_ ((gt y25.2.1 i0).2.2)] [i_ ((gt y25.2.1 i0).1), i_ ((gt y25.2.1 i0).2.1), i_ ((gt y25.2.1 i0).2.2)]
    refine ek_ q132 (s_nil (k119 _ _ (sq_ fun k135 => ?_)))
    refine w_draw [0, 1, 2, 3, 4, 5, 6, 7, 8, 9, 10, 11, 12, 13, 14, 15, 16, 17, 18, 19, 20, 21, 22, 23, 24, 25] (by kernel_rfl) ?_
    refine e_' (pt_ b77 0) (e_' (pt_ b77 0) (e_' (pt_ b77 0) ?_))
    have d136 := (hb80.djn hm70.lt)
    have d137 := (hb128.djn (r81.ltF.le e101.n))
    have u138 := (((r81.frS e101 (Dj.symm d136)).ext e127).frS e133 d137)
    refine d_fl (.slice a71 n72 c73) (x := aL_ 123 (pt_ b77 0) H131) (by kernel_rfl) (u138.l_) ?_
    refine e_' (pt_ b125 0) ?_
    refine d_fl (i_ ((gt y25.2.1 i0).1)) (x := aL_ 3 (pt_ b125 0) H131) (by kernel_rfl) (r134.l_) ?_
    refine e_' (pt_ b77 0) (e_' (pt_ b77 0) (e_' (pt_ b77 0) (mr_ 123 0 (.slice a71 n72 c73) u138 (e_' (pt_ b125 0) (mr_ 3 0 (i_ ((gt y25.2.1 i0).1)) r134 ?_)))))
    obtain ⟨g139, r140⟩ := G_some r121
    have u141 := ((m103.ext e127).fr e133 (hb128.djn m103.lt))
    refine u141.mx_ 123 g139.1 g139.2 (m_' (elp (.slice a71 n72 c73) 3 ((gt y25.2.1 i0).1).toNat 1) (aFieldAddr Tryz.prog 138 (elp (.slice a71 n72 c73) 3 ((gt y25.2.1 i0).1).toNat 0) 1) (Nd.fldq (d := 1) u141 g139.1 g139.2 (by kernel_rfl)) ?_)
    obtain ⟨u142, u143, hl144, hk145⟩ := Nd.at u141 g139.1 g139.2
    have kd146 : KdS enc_i64_u64_i64 3 H131 u142 ((gt o1 ((gt y25.2.1 i0).1)).2.1) f104 (.slice a71 n72 c73) 3 ((gt y25.2.1 i0).1).toNat 1 := hk145 false (by simp)
    obtain ⟨a147, n148, c149, rfl⟩ := kd146.sq.form
    refine m_' (.slice a147 n148 c149) (aL_ 75 (elp (.slice a71 n72 c73) 3 ((gt y25.2.1 i0).1).toNat 1) H131) (hl144 _ _ _ _ (by kernel_rfl)) (e_' (pt_ b125 1) (mr_ 3 1 (i_ ((gt y25.2.1 i0).2.1)) r134 (e_' (pt_ b125 2) (mr_ 3 2 (i_ ((gt y25.2.1 i0).2.2)) r134 ?_))))
    obtain ⟨g151, r152⟩ := G_some r140
    refine d_w ((gt y25.2.1 i0).2.2) (k := .u64) (x := (gt y25.2.1 i0).2.2) (by kernel_rfl) (wrapu64 g151) ?_
    refine e_' (.agg #[i_ ((gt y25.2.1 i0).2.1), .int .u64 ((gt y25.2.1 i0).2.2), i_ (-1)]) ?_
    refine d_owk (enc := enc_i64_u64_i64) (sz := 3) e133.wf [((gt y25.2.1 i0).2.1, (gt y25.2.1 i0).2.2, (-1))] 1 (by decide) (fun _ _ => rfl) (fun _ _ => rfl) rfl (by kernel_rfl) fun s153 f154 H155 e156 hf157 hm158 => ?_
    obtain ⟨a159, n160, c161, rfl⟩ := hm158.form
    have u163 := (u141.ext e156)
    have u164 := (kd146.ext e156)
    obtain ⟨f165, f166, hh167, ho168, d169, hs170, hs171⟩ := Nd.borrow false u163 g139.1 g139.2 (by simp) u164 rfl
    have w172 := Inn.sub' (H := H155) hs170
    have w173 := Inn.sub' (H := H155) hs171
    have hh167 : Nd enc_i64_u64_i64 3 H155 (.slice a71 n72 c73) o1 f165 [(((gt y25.2.1 i0).1).toNat, false)] := hh167
    obtain ⟨g174, r175⟩ := G_some r152
    obtain ⟨s176, H177, f178, q182, e179, hm180, hf181⟩ := Ow.append (P := Tryz.prog) 24 e156.wf ho168 hm158.sq (fun _ _ => rfl) (at_ := #[75, 75]) rfl rfl (by kernel_rfl) (by kernel_rfl) (by decide) (by have := g174; first | omega | (simp only [List.length_cons, List.length_nil] at this ⊢; omega) | (simp at this ⊢; omega))
    obtain ⟨a183, n184, c185, rfl⟩ := hm180.form
    have d187 := (i105.dj (Dj.symm d136) r81.ltF)
    have n188 := (t_ (t_ (t_ e101.n e127.n) e133.n) e156.n)
    have d189 := (w173.dj d187 (r81.ltF.le n188))
    have u190 := ((u138.ext e156).frS e179 d189)
    have d191 := (hb128.djn m103.lt)
    have n192 := (t_ e133.n e156.n)
    have d193 := (w173.dj (Dj.symm d191) (r129.ltF.le n192))
    have u194 := ((r134.ext e156).frS e179 d193)
    refine d_ek (.slice a183 n184 c185) (by kernel_rfl) (q182) (st_ql (y := aL_ 3 (pt_ b125 0) H177) (by kernel_rfl) (u194.l_) (st_ql (y := aL_ 123 (pt_ b77 0) H177) (by kernel_rfl) (u190.l_) (st_nil))) ?_
    have u195 := (hh167.fr e179 (Dj.symm d169))
    refine u195.mx_ 123 g139.1 g139.2 (m_' (elp (.slice a71 n72 c73) 3 ((gt y25.2.1 i0).1).toNat 1) (aFieldAddr Tryz.prog 138 (elp (.slice a71 n72 c73) 3 ((gt y25.2.1 i0).1).toNat 0) 1) (Nd.fldq (d := 1) u195 g139.1 g139.2 (by kernel_rfl)) ?_)
    have d196 := (hf181.dj (Dj.symm d169) hh167.lt)
    obtain ⟨H197, f198, q199, e200, hm201, hf202⟩ := Nd.close (P := Tryz.prog) (t := 75) false e179.wf u195 hm180 (Dj.symm d196) g139.1 g139.2 (by kernel_rfl) (by kernel_rfl) (by kernel_rfl)
    have hm201 : Nd enc_i64_u64_i64 3 H197 (.slice a71 n72 c73) (o1.set ((gt y25.2.1 i0).1).toNat ((gt o1 ((gt y25.2.1 i0).1)).1, ((gt o1 ((gt y25.2.1 i0).1)).2.1 ++ [((gt y25.2.1 i0).2.1, (gt y25.2.1 i0).2.2, (-1))]), (gt o1 ((gt y25.2.1 i0).1)).2.2)) f198 [] := hm201
    have w203 := hf202.grow3 (Inn.trans ir_ (Nat.le_refl _) w172) (Inn.trans (Inn.trans ir_ (Nat.le_refl _) w173) (Nat.le_refl _) hf181) e179.n
    refine fk_ q199 (st_anc (by kernel_rfl) (st_anc (by kernel_rfl) (st_nil))) ?_
    refine d_nil ?_
    refine k135 _ _ ?_
    refine w_draw [0, 1, 2, 3, 4, 5, 6, 7, 8, 9, 10, 11, 12, 13, 14, 15, 16, 17, 18, 19, 20, 21, 22, 23, 24, 25] (by kernel_rfl) ?_
    refine e_' (pt_ b77 0) (e_' (pt_ b77 0) (e_' (pt_ b77 0) ?_))
    have d204 := (w172.dj d187 (r81.ltF.le n188))
    have u205 := (u190.frS e200 d204)
    refine d_fl (.slice a71 n72 c73) (x := aL_ 123 (pt_ b77 0) H197) (by kernel_rfl) (u205.l_) ?_
    refine e_' (pt_ b125 1) ?_
    have d206 := (w172.dj (Dj.symm d191) (r129.ltF.le n192))
    have u207 := (u194.frS e200 d206)
    refine d_fl (i_ ((gt y25.2.1 i0).2.1)) (x := aL_ 3 (pt_ b125 1) H197) (by kernel_rfl) (u207.l_) ?_
    refine e_' (pt_ b77 0) (e_' (pt_ b77 0) (e_' (pt_ b77 0) (mr_ 123 0 (.slice a71 n72 c73) u205 (e_' (pt_ b125 1) (mr_ 3 1 (i_ ((gt y25.2.1 i0).2.1)) u207 ?_)))))
    obtain ⟨g208, r209⟩ := G_some r175
    refine hm201.mx_ 123 g208.1 g208.2 (m_' (elp (.slice a71 n72 c73) 3 ((gt y25.2.1 i0).2.1).toNat 2) (aFieldAddr Tryz.prog 138 (elp (.slice a71 n72 c73) 3 ((gt y25.2.1 i0).2.1).toNat 0) 2) (Nd.fldq (d := 2) hm201 g208.1 g208.2 (by kernel_rfl)) ?_)
    obtain ⟨u210, u211, hl212, hk213⟩ := Nd.at hm201 g208.1 g208.2
    have kd214 : KdS enc_i64_u64_i64 3 H197 u211 ((gt (o1.set ((gt y25.2.1 i0).1).toNat ((gt o1 ((gt y25.2.1 i0).1)).1, ((gt o1 ((gt y25.2.1 i0).1)).2.1 ++ [((gt y25.2.1 i0).2.1, (gt y25.2.1 i0).2.2, (-1))]), (gt o1 ((gt y25.2.1 i0).1)).2.2)) ((gt y25.2.1 i0).2.1)).2.2) f198 (.slice a71 n72 c73) 3 ((gt y25.2.1 i0).2.1).toNat 2 := hk213 true (by simp)
    obtain ⟨a215, n216, c217, rfl⟩ := kd214.sq.form
    refine m_' (.slice a215 n216 c217) (aL_ 75 (elp (.slice a71 n72 c73) 3 ((gt y25.2.1 i0).2.1).toNat 2) H197) (hl212 _ _ _ _ (by kernel_rfl)) (e_' (pt_ b125 0) (mr_ 3 0 (i_ ((gt y25.2.1 i0).1)) u207 (e_' (pt_ b125 2) (mr_ 3 2 (i_ ((gt y25.2.1 i0).2.2)) u207 ?_))))
    obtain ⟨g219, r220⟩ := G_some r209
    refine d_w ((gt y25.2.1 i0).2.2) (k := .u64) (x := (gt y25.2.1 i0).2.2) (by kernel_rfl) (wrapu64 (by have := g219; omega)) ?_
    refine e_' (.agg #[i_ ((gt y25.2.1 i0).1), .int .u64 ((gt y25.2.1 i0).2.2), i_ (-1)]) ?_
    refine d_owk (enc := enc_i64_u64_i64) (sz := 3) e200.wf [((gt y25.2.1 i0).1, (gt y25.2.1 i0).2.2, (-1))] 1 (by decide) (fun _ _ => rfl) (fun _ _ => rfl) rfl (by kernel_rfl) fun s221 f222 H223 e224 hf225 hm226 => ?_
    obtain ⟨a227, n228, c229, rfl⟩ := hm226.form
    have u231 := (hm201.ext e224)
    have u232 := (kd214.ext e224)
    obtain ⟨f233, f234, hh235, ho236, d237, hs238, hs239⟩ := Nd.borrow true u231 g208.1 g208.2 (by simp) u232 rfl
    have w240 := Inn.sub' (H := H223) hs238
    have w241 := Inn.sub' (H := H223) hs239
    have hh235 : Nd enc_i64_u64_i64 3 H223 (.slice a71 n72 c73) (o1.set ((gt y25.2.1 i0).1).toNat ((gt o1 ((gt y25.2.1 i0).1)).1, ((gt o1 ((gt y25.2.1 i0).1)).2.1 ++ [((gt y25.2.1 i0).2.1, (gt y25.2.1 i0).2.2, (-1))]), (gt o1 ((gt y25.2.1 i0).1)).2.2)) f233 [(((gt y25.2.1 i0).2.1).toNat, true)] := hh235
    obtain ⟨g242, r243⟩ := G_some r220
    obtain ⟨s244, H245, f246, q250, e247, hm248, hf249⟩ := Ow.append (P := Tryz.prog) 24 e224.wf ho236 hm226.sq (fun _ _ => rfl) (at_ := #[75, 75]) rfl rfl (by kernel_rfl) (by kernel_rfl) (by decide) (by have := g242; first | omega | (simp only [List.length_cons, List.length_nil] at this ⊢; omega) | (simp at this ⊢; omega))
    obtain ⟨a251, n252, c253, rfl⟩ := hm248.form
    have d255 := (w203.dj d187 (r81.ltF.le n188))
    have n256 := (t_ (t_ (t_ (t_ (t_ (t_ e101.n e127.n) e133.n) e156.n) e179.n) e200.n) e224.n)
    have d257 := (w241.dj d255 (r81.ltF.le n256))
    have u258 := ((u205.ext e224).frS e247 d257)
    have d259 := (w203.dj (Dj.symm d191) (r129.ltF.le n192))
    have n260 := (t_ (t_ (t_ (t_ e133.n e156.n) e179.n) e200.n) e224.n)
    have d261 := (w241.dj d259 (r129.ltF.le n260))
    have u262 := ((u207.ext e224).frS e247 d261)
    refine d_ek (.slice a251 n252 c253) (by kernel_rfl) (q250) (st_ql (y := aL_ 3 (pt_ b125 1) H245) (by kernel_rfl) (u262.l_) (st_ql (y := aL_ 123 (pt_ b77 0) H245) (by kernel_rfl) (u258.l_) (st_nil))) ?_
    have u263 := (hh235.fr e247 (Dj.symm d237))
    refine u263.mx_ 123 g208.1 g208.2 (m_' (elp (.slice a71 n72 c73) 3 ((gt y25.2.1 i0).2.1).toNat 2) (aFieldAddr Tryz.prog 138 (elp (.slice a71 n72 c73) 3 ((gt y25.2.1 i0).2.1).toNat 0) 2) (Nd.fldq (d := 2) u263 g208.1 g208.2 (by kernel_rfl)) ?_)
    have d264 := (hf249.dj (Dj.symm d237) hh235.lt)
    obtain ⟨H265, f266, q267, e268, hm269, hf270⟩ := Nd.close (P := Tryz.prog) (t := 75) true e247.wf u263 hm248 (Dj.symm d264) g208.1 g208.2 (by kernel_rfl) (by kernel_rfl) (by kernel_rfl)
    have hm269 : Nd enc_i64_u64_i64 3 H265 (.slice a71 n72 c73) ((o1.set ((gt y25.2.1 i0).1).toNat ((gt o1 ((gt y25.2.1 i0).1)).1, ((gt o1 ((gt y25.2.1 i0).1)).2.1 ++ [((gt y25.2.1 i0).2.1, (gt y25.2.1 i0).2.2, (-1))]), (gt o1 ((gt y25.2.1 i0).1)).2.2)).set ((gt y25.2.1 i0).2.1).toNat ((gt (o1.set ((gt y25.2.1 i0).1).toNat ((gt o1 ((gt y25.2.1 i0).1)).1, ((gt o1 ((gt y25.2.1 i0).1)).2.1 ++ [((gt y25.2.1 i0).2.1, (gt y25.2.1 i0).2.2, (-1))]), (gt o1 ((gt y25.2.1 i0).1)).2.2)) ((gt y25.2.1 i0).2.1)).1, (gt (o1.set ((gt y25.2.1 i0).1).toNat ((gt o1 ((gt y25.2.1 i0).1)).1, ((gt o1 ((gt y25.2.1 i0).1)).2.1 ++ [((gt y25.2.1 i0).2.1, (gt y25.2.1 i0).2.2, (-1))]), (gt o1 ((gt y25.2.1 i0).1)).2.2)) ((gt y25.2.1 i0).2.1)).2.1, ((gt (o1.set ((gt y25.2.1 i0).1).toNat ((gt o1 ((gt y25.2.1 i0).1)).1, ((gt o1 ((gt y25.2.1 i0).1)).2.1 ++ [((gt y25.2.1 i0).2.1, (gt y25.2.1 i0).2.2, (-1))]), (gt o1 ((gt y25.2.1 i0).1)).2.2)) ((gt y25.2.1 i0).2.1)).2.2 ++ [((gt y25.2.1 i0).1, (gt y25.2.1 i0).2.2, (-1))]))) f266 [] := hm269
    have w271 := hf270.grow3 (Inn.trans ir_ (Nat.le_refl _) w240) (Inn.trans (Inn.trans ir_ (Nat.le_refl _) w241) (Nat.le_refl _) hf249) e247.n
    refine fk_ q267 (st_anc (by kernel_rfl) (st_anc (by kernel_rfl) (st_nil))) ?_
    refine d_nil ?_
    refine k118 _ _ (g_' ?_)
    obtain ⟨g272, r273⟩ := G_some r243
    refine w_' ((i0 + 1)) (wrap64 (by have := g272; omega)) (q_ (i_ (i0 + 1)) (s_nil ?_))
    obtain rfl := oi_ r273
    exact k113 n108 _ _ lt_ ⟨(i0 + 1), ((o1.set ((gt y25.2.1 i0).1).toNat ((gt o1 ((gt y25.2.1 i0).1)).1, ((gt o1 ((gt y25.2.1 i0).1)).2.1 ++ [((gt y25.2.1 i0).2.1, (gt y25.2.1 i0).2.2, (-1))]), (gt o1 ((gt y25.2.1 i0).1)).2.2)).set ((gt y25.2.1 i0).2.1).toNat ((gt (o1.set ((gt y25.2.1 i0).1).toNat ((gt o1 ((gt y25.2.1 i0).1)).1, ((gt o1 ((gt y25.2.1 i0).1)).2.1 ++ [((gt y25.2.1 i0).2.1, (gt y25.2.1 i0).2.2, (-1))]), (gt o1 ((gt y25.2.1 i0).1)).2.2)) ((gt y25.2.1 i0).2.1)).1, (gt (o1.set ((gt y25.2.1 i0).1).toNat ((gt o1 ((gt y25.2.1 i0).1)).1, ((gt o1 ((gt y25.2.1 i0).1)).2.1 ++ [((gt y25.2.1 i0).2.1, (gt y25.2.1 i0).2.2, (-1))]), (gt o1 ((gt y25.2.1 i0).1)).2.2)) ((gt y25.2.1 i0).2.1)).2.1, ((gt (o1.set ((gt y25.2.1 i0).1).toNat ((gt o1 ((gt y25.2.1 i0).1)).1, ((gt o1 ((gt y25.2.1 i0).1)).2.1 ++ [((gt y25.2.1 i0).2.1, (gt y25.2.1 i0).2.2, (-1))]), (gt o1 ((gt y25.2.1 i0).1)).2.2)) ((gt y25.2.1 i0).2.1)).2.2 ++ [((gt y25.2.1 i0).1, (gt y25.2.1 i0).2.2, (-1))]))), f266, hn111, ha_, (fs_ e79.wf (fs_ e79.wf ((fs_ e79.wf (fs_ e79.wf ((fs_ e79.wf ((fs_ e79.wf (fr_ e79.wf) e101 ir_).extR e127) e133 (hb128.fresh e101.n)).extR e156) e179 (Inn.trans (Inn.trans ir_ (Nat.le_refl _) i105) n188 w173)) e200 (Inn.trans (Inn.trans ir_ (Nat.le_refl _) i105) n188 w172)).extR e224) e247 (Inn.trans (Inn.trans (Inn.trans ir_ (Nat.le_refl _) i105) n188 w203) n256 w241)) e268 (Inn.trans (Inn.trans (Inn.trans ir_ (Nat.le_refl _) i105) n188 w203) n256 w240)), hm269, (Inn.trans (Inn.trans (Inn.trans ir_ (Nat.le_refl _) i105) n188 w203) n256 w271)⟩
   have r274 := ite_f h116 hz110
   refine w_exit (th_exit (th_exit (bl_eq ?_)))
   obtain rfl := oi_ r274
   obtain rfl := it_inr hn111
   exact k96 _ _ ⟨f104, ha_, (fs_ e79.wf (fr_ e79.wf) e101 ir_), m103, (Inn.trans ir_ (Nat.le_refl _) i105)⟩
  obtain ⟨f94, hh97, e91, m93, i95⟩ := hM
  obtain ⟨β, rfl⟩ := has_ex hh97
  clear hh97
  refine k83 _ _ (sq_ fun k275 => g_' (q_ (pt_ b77 0) (q_ (pt_ b77 0) (q_ (.nilIface) (s_nil (k275 _ _ ?_))))))
  refine w_ret ?_
  refine br_ [pt_ b77 0, .nilIface] ?_
  have n276 := (t_ e19.n e33.n)
  have n277 := (t_ (t_ (t_ e19.n e33.n) e46.n) e52.n)
  have d278 := (hb80.djn hm70.lt)
  have u279 := (r81.frS e91 (Dj.symm d278))
  have n280 := (t_ (t_ (t_ (t_ (t_ e19.n e33.n) e46.n) e52.n) e68.n) e79.n)
  have n281 := (t_ (t_ (t_ (t_ e19.n e33.n) e46.n) e52.n) e68.n)
  have d282 := (i95.dj (Dj.symm d278) r81.ltF)
  obtain rfl := oi_ r89
  exact (elimP_r ⟨(.slice a71 n72 c73), f94, b77, rfl, (fs_ wf (((fs_ wf ((fs_ wf ((f0_ wf).extR e19) e33 in_).extR e46) e52 (hb47.fresh n276)).extR e68).extR e79) e91 (hf69.fresh n277)), m93, u279, (Inn.trans (hf69.fresh n277) n280 i95), (hb80.fresh n281), d282⟩)
 have r283 := ite_f h57 r27
 refine l_' (.bool true) (aBin Tryz.prog .neq 38 (.tmp 14) (.const .nilIface) (.iface t58 x59) .nilIface) (aBin_nnil (by kernel_rfl)) (s_nil (k56 _ _ ?_))
 refine wb_ true (fun _ => ?_) fun h => by cases h
 refine sq_ fun k284 => g_' (q_ (.iface t58 x59) (q_ (.pointer none) (q_ (.iface t58 x59) (s_nil (k284 _ _ ?_)))))
 refine w_ret (th_ret ?_)
 refine br_ [.pointer none, .iface t58 x59] ?_
 have n285 := (t_ e19.n e33.n)
 obtain rfl := oi_ r283
 exact (elimP_l ⟨(.iface t58 x59), f31, rfl, (fs_ wf ((fs_ wf ((f0_ wf).extR e19) e33 in_).extR e46) e52 (hb47.fresh n285)), u60, (i37.fresh e19.n)⟩)
theorem c_viaductref04_less {H : AH} {From : Int} {To : Int} {Weight : Int} {From_ : Int} {To_ : Int} {Weight_ : Int} {r : Bool}
    (wf : WF H) (hr : z_viaductref04_less From To Weight From_ To_ Weight_ = some r) :
    ACalls Tryz.prog 118 #[.agg #[i_ From, i_ To, i_ Weight], .agg #[i_ From_, i_ To_, i_ Weight_]] H fun v H' => v = .bool r /\ FrS [] H H' := by
 refine ab_ Tryz.func118 ?_
 unfold z_viaductref04_less at hr
 refine sq_ fun k1 => g_' ?_
 refine rl_ wf [i_ From, i_ To, i_ Weight] fun b2 H3 e4 hb5 r6 => ?_
 refine rl_ e4.wf [i_ From_, i_ To_, i_ Weight_] fun b8 H9 e10 hb11 r12 => ?_
 refine q_ (.bool false) (s_nil (k1 _ _ (sq_ fun k14 => g_' (q_ (pt_ b2 0) ?_))))
 have u15 := (r6.ext e10)
 refine lr_ 3 0 (i_ From) u15 (q_ (pt_ b8 0) (lr_ 3 0 (i_ From_) r12 ?_))
 refine sb_ (From < From_) (fun h16 => ?_) fun h16 => ?_
 ·have r17 := ite_t h16 hr
  refine q_ (.bool true) (n_' (n_' (n_' (n_' (n_' (n_' (n_' (n_' (n_' (n_' (n_' (n_' (q_ (.bool true) (q_ (.bool true) (s_nil (k14 _ _ ?_))))))))))))))))
  refine w_ret ?_
  refine br_ [.bool true] ?_
  obtain rfl := oi_ r17
  exact ⟨rfl, (((f0_ wf).extR e4).extR e10)⟩
 have r18 := ite_f h16 hr
 refine q_ (.bool false) (q_ (pt_ b2 0) (lr_ 3 0 (i_ From) u15 (q_ (pt_ b8 0) (lr_ 3 0 (i_ From_) r12 ?_))))
 refine sb_ (From = From_) (fun h19 => ?_) fun h19 => ?_
 ·have r20 := ite_t h19 r18
  refine q_ (.bool true) (q_ (pt_ b2 1) (lr_ 3 1 (i_ To) u15 (q_ (pt_ b8 1) (lr_ 3 1 (i_ To_) r12 (q_ (.bool (decide (To < To_))) (q_ (.bool (decide (To < To_))) (q_ (.bool (decide (To < To_))) (q_ (.bool (decide (To < To_))) (s_nil (k14 _ _ ?_))))))))))
  refine w_ret ?_
  refine br_ [.bool (decide (To < To_))] ?_
  obtain rfl := oi_ r20
  exact ⟨rfl, (((f0_ wf).extR e4).extR e10)⟩
 have r21 := ite_f h19 r18
 refine q_ (.bool false) (n_' (n_' (n_' (n_' (n_' (q_ (.bool false) (q_ (.bool false) (q_ (.bool false) (s_nil (k14 _ _ ?_))))))))))
 refine w_ret ?_
 refine br_ [.bool false] ?_
 obtain rfl := oi_ r21
 exact ⟨rfl, (((f0_ wf).extR e4).extR e10)⟩
theorem c_viaductref04_Put {H : AH} {hd_l : Value} {fp_l : Fp} {l : List (Int × Int × Int)} {From : Int} {To : Int} {Weight : Int} {r : List (Int × Int × Int)}
    (wf : WF H) (h_l : Sq enc_i64_i64_i64 3 H hd_l l fp_l) (hr : z_viaductref04_Put l From To Weight = some r) :
    ACalls Tryz.prog 99 #[hd_l, .agg #[i_ From, i_ To, i_ Weight]] H fun v H' => ∃ (s3 : Value) (f4 : Fp), v = s3 /\ FrS [] H H' /\ Ow enc_i64_i64_i64 3 H' s3 r f4 /\ Inn [] H f4 := by
 refine ab_ Tryz.func99 ?_
 unfold z_viaductref04_Put at hr
 refine sq_ fun k6 => g_' ?_
 refine rl_ wf [i_ From, i_ To, i_ Weight] fun b7 H8 e9 hb10 r11 => ?_
 refine q_ (.slice none 0 0) (s_nil (k6 _ _ (sq_ fun k13 => g_' (q_ (i_ 0) (s_nil (k13 _ _ (sq_ fun k14 => ?_)))))))
 obtain ⟨o15, hx16, r17⟩ := bs_ hr
 refine w_mid (fun α H18 => Has α [(0, hd_l), (3, pt_ b7 0), (5, i_ o15)] /\ FrS [] H8 H18) (fun _ k20 => ?_) (fun α H18 hM => ?_)
 ·refine w_block ?_
  obtain ⟨n22, hn23⟩ := loopO_iff.1 hx16
  refine w_loopn (fun n α H24 => ∃ (i0 : Int), iterO (fun zz_ => z_viaductref04_Put_l0 l From To Weight zz_) n i0 = some o15 /\ Has α [(0, hd_l), (3, pt_ b7 0), (5, i_ i0)] /\ FrS [] H8 H24) n22 ⟨0, hn23, ha_, (fr_ e9.wf)⟩ ?_
  rintro n22 α H24 ⟨i0, hi27, hh26, e25⟩ K32 k32
  obtain ⟨n28, z29, rfl, hz30, hn31⟩ := iter_succ hi27
  obtain ⟨β, rfl⟩ := has_ex hh26
  clear hh26
  replace hz30 : z_viaductref04_Put_l0 l From To Weight i0 = some z29 := hz30
  unfold z_viaductref04_Put_l0 at hz30
  refine sq_ fun k33 => sq_ fun k34 => ?_
  refine w_draw [0, 1, 2, 3, 4, 5, 6, 7, 8, 9, 10, 11] (by kernel_rfl) ?_
  refine e_' (i_ i0) (e_' (hd_l) ?_)
  have u35 := ((h_l.ext e9).fr e25 dn_)
  refine u35.mn_ 22 ?_
  refine db_ (i0 < (l.length : Int)) (fun h36 => ?_) fun h36 => ?_
  ·have r37 := ite_t h36 hz30
   refine e_' (.bool true) (e_' (hd_l) (e_' (i_ i0) ?_))
   obtain ⟨g38, r39⟩ := G_some r37
   refine u35.mx_ 22 g38 h36 (me_ 74 0 (.agg #[i_ ((gt l i0).1), i_ ((gt l i0).2.1), i_ ((gt l i0).2.2)]) u35 g38 h36 ?_)
   have u40 := (r11.frS e25 dn_)
   refine mr_ 74 0 (.agg #[i_ From, i_ To, i_ Weight]) u40 ?_
   obtain ⟨y41, hy42, r43⟩ := bs_ r39
   refine dk_ (c_viaductref04_less e25.wf hy42) ?_
   rintro _ H44 ⟨rfl, e45⟩
   refine ⟨st_nil, ?_⟩
   refine e_' (.bool y41) ?_
   refine d_nil ?_
   refine k34 _ _ ?_
   refine wb_ (y41) (fun h46 => ?_) fun h46 => ?_
   ·have r47 := ite_t h46 r43
    refine w_skip (k33 _ _ (w_block (g_' (q_ (i_ i0) ?_))))
    obtain ⟨g48, r49⟩ := G_some r47
    refine w_' ((i0 + 1)) (wrap64 (by have := g48; omega)) (q_ (i_ (i0 + 1)) (s_nil ?_))
    obtain rfl := oi_ r49
    exact k32 n28 _ _ lt_ ⟨(i0 + 1), hn31, ha_, (fs_ e9.wf (fs_ e9.wf (fr_ e9.wf) e25 in_) e45 in_)⟩
   have r50 := ite_bf h46 r43
   refine w_exit (th_exit (th_exit (bl_eq ?_)))
   obtain rfl := oi_ r50
   obtain rfl := it_inr hn31
   exact k20 _ _ ⟨ha_, (fs_ e9.wf (fs_ e9.wf (fr_ e9.wf) e25 in_) e45 in_)⟩
  have r51 := ite_f h36 hz30
  refine e_' (.bool false) (j_' (j_' (j_' (j_' (j_' (j_' (e_' (.bool false) ?_)))))))
  refine d_nil ?_
  refine k34 _ _ ?_
  refine wb_ false (fun h => by cases h) fun _ => ?_
  refine w_exit (th_exit (th_exit (bl_eq ?_)))
  obtain rfl := oi_ r51
  obtain rfl := it_inr hn31
  exact k20 _ _ ⟨ha_, (fs_ e9.wf (fr_ e9.wf) e25 in_)⟩
 obtain ⟨hh21, e19⟩ := hM
 obtain ⟨β, rfl⟩ := has_ex hh21
 clear hh21
 refine k14 _ _ (sq_ fun k52 => g_' (q_ (.slice none 0 0) (s_nil (k52 _ _ (sq_ fun k53 => g_' (q_ (.slice none 0 0) (q_ (hd_l) (q_ (i_ o15) ?_))))))))
 obtain ⟨g54, r55⟩ := G_some r17
 have u59 := ((h_l.ext e9).fr e19 dn_)
 obtain ⟨s56, q57, hs58⟩ := Sq.cut (P := Tryz.prog) u59 (t := 22) (by kernel_rfl) (lo := none) (hi := (some (i_ o15))) (l := 0) (r := o15.toNat) (rfl) (aBound_int _ (by have := g54; omega)) (by have := g54; omega) (by have := g54; omega)
 obtain ⟨a60, n61, c62, rfl⟩ := hs58.form
 refine s_ql (.slice a60 n61 c62) (by kernel_rfl) q57 ?_
 obtain ⟨g64, r65⟩ := G_some r55
 obtain ⟨s66, H67, f68, q72, e69, hm70, hf71⟩ := Ow.append (P := Tryz.prog) 24 e19.wf (Ow.nil (enc := enc_i64_i64_i64) (sz := 3) (by decide)) hs58 (fun _ _ => rfl) (at_ := #[22, 22]) rfl rfl (by kernel_rfl) (by kernel_rfl) (by decide) (by have := g64; first | omega | (simp only [List.length_cons, List.length_nil] at this ⊢; omega) | (simp at this ⊢; omega))
 obtain ⟨a73, n74, c75, rfl⟩ := hm70.form
 refine s_ek (.slice a73 n74 c75) (by kernel_rfl) (q72) ?_
 refine q_ (.slice a73 n74 c75) (s_nil (k53 _ _ (sq_ fun k77 => sq_ fun k78 => ?_)))
 obtain ⟨o79, hx80, r81⟩ := bs_ r65
 refine w_mid (fun α H82 => Has α [(0, hd_l), (3, pt_ b7 0), (5, i_ o15), (6, .slice a73 n74 c75), (49, .bool o79)] /\ H67 = H82) (fun _ k84 => ?_) (fun α H82 hM => ?_)
 ·refine w_draw [0, 1, 2, 3, 4, 5, 6, 7, 8, 9, 10, 11, 12, 13, 14, 15, 16, 17, 18, 19, 20, 21, 22, 23] (by kernel_rfl) ?_
  refine e_' (i_ o15) (e_' (hd_l) ?_)
  have u86 := (u59.fr e69 dn_)
  refine u86.mn_ 22 ?_
  refine db_ (o15 < (l.length : Int)) (fun h87 => ?_) fun h87 => ?_
  ·have r88 := ite_t h87 hx80
   refine e_' (.bool true) (e_' (hd_l) (e_' (i_ o15) ?_))
   obtain ⟨g89, r90⟩ := G_some r88
   refine u86.mx_ 22 g89 h87 (m_' (elp hd_l 3 o15.toNat 0) (aFieldAddr Tryz.prog 74 (elp hd_l 3 o15.toNat 0) 0) (Sq.fldq (d := 0) u86 g89 h87 (by kernel_rfl)) (me_ 3 0 (i_ ((gt l o15).1)) u86 g89 h87 (e_' (pt_ b7 0) ?_)))
   have u91 := ((r11.frS e19 dn_).frS e69 dn_)
   refine mr_ 3 0 (i_ From) u91 ?_
   refine db_ (((gt l o15).1) = From) (fun h92 => ?_) fun h92 => ?_
   ·have r93 := ite_t h92 r90
    refine e_' (.bool true) (e_' (.bool true) (e_' (hd_l) (e_' (i_ o15) (u86.mx_ 22 g89 h87 (m_' (elp hd_l 3 o15.toNat 1) (aFieldAddr Tryz.prog 74 (elp hd_l 3 o15.toNat 0) 1) (Sq.fldq (d := 1) u86 g89 h87 (by kernel_rfl)) (me_ 3 1 (i_ ((gt l o15).2.1)) u86 g89 h87 (e_' (pt_ b7 1) (mr_ 3 1 (i_ To) u91 (e_' (.bool (decide (((gt l o15).2.1) = To))) (e_' (.bool (decide (((gt l o15).2.1) = To))) ?_))))))))))
    refine d_nil ?_
    obtain rfl := oi_ r93
    exact k84 _ _ ⟨ha_, rfl⟩
   have r94 := ite_f h92 r90
   refine e_' (.bool false) (e_' (.bool false) (j_' (j_' (j_' (j_' (j_' (j_' (j_' (j_' (e_' (.bool false) ?_))))))))))
   refine d_nil ?_
   obtain rfl := oi_ r94
   exact k84 _ _ ⟨ha_, rfl⟩
  have r95 := ite_f h87 hx80
  refine e_' (.bool false) (j_' (j_' (j_' (j_' (j_' (j_' (j_' (j_' (e_' (.bool false) (e_' (.bool false) (j_' (j_' (j_' (j_' (j_' (j_' (j_' (j_' (e_' (.bool false) ?_)))))))))))))))))))
  refine d_nil ?_
  obtain rfl := oi_ r95
  exact k84 _ _ ⟨ha_, rfl⟩
 obtain ⟨hh85, rfl⟩ := hM
 obtain ⟨β, rfl⟩ := has_ex hh85
 clear hh85
 refine k78 _ _ ?_
 refine wb_ (o79) (fun h96 => ?_) fun h96 => ?_
 ·have r97 := ite_t h96 r81
  refine sq_ fun k98 => ?_
  refine w_draw [0, 1, 2, 3, 4, 5, 6, 7, 8, 9] (by kernel_rfl) ?_
  refine e_' (pt_ b7 2) ?_
  have u99 := ((r11.frS e19 dn_).frS e69 dn_)
  refine mr_ 3 2 (i_ Weight) u99 (e_' (hd_l) (e_' (i_ o15) ?_))
  obtain ⟨g100, r101⟩ := G_some r97
  have u102 := (u59.fr e69 dn_)
  refine u102.mx_ 22 g100.1 g100.2 (m_' (elp hd_l 3 o15.toNat 2) (aFieldAddr Tryz.prog 74 (elp hd_l 3 o15.toNat 0) 2) (Sq.fldq (d := 2) u102 g100.1 g100.2 (by kernel_rfl)) (me_ 3 2 (i_ ((gt l o15).2.2)) u102 g100.1 g100.2 (m_' (i_ (min Weight ((gt l o15).2.2))) (aMin Tryz.prog [i_ Weight, i_ ((gt l o15).2.2)]) (aMin_two _ _) (e_' (pt_ b7 2) ?_))))
  obtain ⟨H103, q104, e105, r106⟩ := rb_ 3 2 e69.wf u99 (i_ (min Weight ((gt l o15).2.2))) [i_ From, i_ To, i_ (min Weight ((gt l o15).2.2))]
  refine fk_ q104 (st_nil) ?_
  refine d_nil ?_
  refine k98 _ _ (sq_ fun k107 => g_' (q_ (.slice a73 n74 c75) (lr_ 74 0 (.agg #[i_ From, i_ To, i_ (min Weight ((gt l o15).2.2))]) r106 ?_)))
  refine s_owk (enc := enc_i64_i64_i64) (sz := 3) e105.wf [(From, To, (min Weight ((gt l o15).2.2)))] 1 (by decide) (fun _ _ => rfl) (fun _ _ => rfl) rfl (by kernel_rfl) fun s108 f109 H110 e111 hf112 hm113 => ?_
  obtain ⟨a114, n115, c116, rfl⟩ := hm113.form
  have d118 := (hf71.djn (r11.ltF.le e19.n))
  have u119 := ((hm70.fr e105 (Dj.symm d118)).ext e111)
  obtain ⟨g120, r121⟩ := G_some r101
  obtain ⟨s122, H123, f124, q128, e125, hm126, hf127⟩ := Ow.append (P := Tryz.prog) 24 e111.wf u119 hm113.sq (fun _ _ => rfl) (at_ := #[22, 22]) rfl rfl (by kernel_rfl) (by kernel_rfl) (by decide) (by have := g120; first | omega | (simp only [List.length_cons, List.length_nil] at this ⊢; omega) | (simp at this ⊢; omega))
  obtain ⟨a129, n130, c131, rfl⟩ := hm126.form
  refine s_ek (.slice a129 n130 c131) (by kernel_rfl) (q128) ?_
  refine q_ (.slice a129 n130 c131) (s_nil (k107 _ _ (sq_ fun k133 => g_' (q_ (.slice a129 n130 c131) (q_ (hd_l) (q_ (i_ o15) ?_))))))
  obtain ⟨g134, r135⟩ := G_some r121
  refine w_' ((o15 + 1)) (wrap64 (by have := g134; omega)) ?_
  obtain ⟨g136, r137⟩ := G_some r135
  have n141 := (t_ e9.n e19.n)
  have d142 := (hf71.djn (h_l.lt.le n141))
  have u143 := (((u102.fr e105 (hb10.djn h_l.lt)).ext e111).fr e125 d142)
  obtain ⟨s138, q139, hs140⟩ := Sq.cut (P := Tryz.prog) u143 (t := 22) (by kernel_rfl) (lo := (some (i_ (o15 + 1)))) (hi := none) (l := (o15 + 1).toNat) (r := l.length) (aBound_int _ (by have := g136; omega)) (rfl) (by have := g136; omega) (by have := g136; omega)
  obtain ⟨a144, n145, c146, rfl⟩ := hs140.form
  refine s_ql (.slice a144 n145 c146) (by kernel_rfl) q139 ?_
  obtain ⟨g148, r149⟩ := G_some r137
  obtain ⟨s150, H151, f152, q156, e153, hm154, hf155⟩ := Ow.append (P := Tryz.prog) 24 e125.wf hm126 hs140 (fun _ _ => rfl) (at_ := #[22, 22]) rfl rfl (by kernel_rfl) (by kernel_rfl) (by decide) (by have := g148; first | omega | (simp only [List.length_cons, List.length_nil] at this ⊢; omega) | (simp at this ⊢; omega))
  obtain ⟨a157, n158, c159, rfl⟩ := hm154.form
  refine s_ek (.slice a157 n158 c159) (by kernel_rfl) (q156) ?_
  refine q_ (.slice a157 n158 c159) (s_nil (k133 _ _ ?_))
  refine w_ret (th_ret ?_)
  refine br_ [.slice a157 n158 c159] ?_
  have n161 := (t_ (t_ (t_ (t_ e9.n e19.n) e69.n) e105.n) e111.n)
  have n162 := (t_ (t_ (t_ (t_ (t_ e9.n e19.n) e69.n) e105.n) e111.n) e125.n)
  obtain rfl := oi_ r149
  exact ⟨(.slice a157 n158 c159), f152, rfl, (fs_ wf (fs_ wf ((fs_ wf (fs_ wf (fs_ wf ((f0_ wf).extR e9) e19 in_) e69 in_) e105 (hb10.fresh (Nat.le_refl _))).extR e111) e125 (hf71.fresh n141)) e153 (Inn.trans (hf71.fresh n141) n161 hf127)), hm154, (Inn.trans (Inn.trans (hf71.fresh n141) n161 hf127) n162 hf155)⟩
 have r163 := ite_bf h96 r81
 refine w_skip (k77 _ _ (sq_ fun k164 => g_' (q_ (.slice a73 n74 c75) ?_)))
 have u165 := ((r11.frS e19 dn_).frS e69 dn_)
 refine lr_ 74 0 (.agg #[i_ From, i_ To, i_ Weight]) u165 ?_
 refine s_owk (enc := enc_i64_i64_i64) (sz := 3) e69.wf [(From, To, Weight)] 1 (by decide) (fun _ _ => rfl) (fun _ _ => rfl) rfl (by kernel_rfl) fun s166 f167 H168 e169 hf170 hm171 => ?_
 obtain ⟨a172, n173, c174, rfl⟩ := hm171.form
 have u176 := (hm70.ext e169)
 obtain ⟨g177, r178⟩ := G_some r163
 obtain ⟨s179, H180, f181, q185, e182, hm183, hf184⟩ := Ow.append (P := Tryz.prog) 24 e169.wf u176 hm171.sq (fun _ _ => rfl) (at_ := #[22, 22]) rfl rfl (by kernel_rfl) (by kernel_rfl) (by decide) (by have := g177; first | omega | (simp only [List.length_cons, List.length_nil] at this ⊢; omega) | (simp at this ⊢; omega))
 obtain ⟨a186, n187, c188, rfl⟩ := hm183.form
 refine s_ek (.slice a186 n187 c188) (by kernel_rfl) (q185) ?_
 refine q_ (.slice a186 n187 c188) (s_nil (k164 _ _ (sq_ fun k190 => g_' (q_ (.slice a186 n187 c188) (q_ (hd_l) (q_ (i_ o15) ?_))))))
 have n194 := (t_ e9.n e19.n)
 have d195 := (hf71.djn (h_l.lt.le n194))
 have u196 := (((u59.fr e69 dn_).ext e169).fr e182 d195)
 obtain ⟨s191, q192, hs193⟩ := Sq.cut (P := Tryz.prog) u196 (t := 22) (by kernel_rfl) (lo := (some (i_ o15))) (hi := none) (l := o15.toNat) (r := l.length) (aBound_int _ (by have := g54; omega)) (rfl) (by have := g54; omega) (by have := g54; omega)
 obtain ⟨a197, n198, c199, rfl⟩ := hs193.form
 refine s_ql (.slice a197 n198 c199) (by kernel_rfl) q192 ?_
 obtain ⟨g201, r202⟩ := G_some r178
 obtain ⟨s203, H204, f205, q209, e206, hm207, hf208⟩ := Ow.append (P := Tryz.prog) 24 e182.wf hm183 hs193 (fun _ _ => rfl) (at_ := #[22, 22]) rfl rfl (by kernel_rfl) (by kernel_rfl) (by decide) (by have := g201; first | omega | (simp only [List.length_cons, List.length_nil] at this ⊢; omega) | (simp at this ⊢; omega))
 obtain ⟨a210, n211, c212, rfl⟩ := hm207.form
 refine s_ek (.slice a210 n211 c212) (by kernel_rfl) (q209) ?_
 refine q_ (.slice a210 n211 c212) (s_nil (k190 _ _ ?_))
 refine w_ret ?_
 refine br_ [.slice a210 n211 c212] ?_
 have n214 := (t_ (t_ (t_ e9.n e19.n) e69.n) e169.n)
 have n215 := (t_ (t_ (t_ (t_ e9.n e19.n) e69.n) e169.n) e182.n)
 obtain rfl := oi_ r202
 exact ⟨(.slice a210 n211 c212), f205, rfl, (fs_ wf (fs_ wf ((fs_ wf (fs_ wf ((f0_ wf).extR e9) e19 in_) e69 in_).extR e169) e182 (hf71.fresh n194)) e206 (Inn.trans (hf71.fresh n194) n214 hf184)), hm207, (Inn.trans (Inn.trans (hf71.fresh n194) n214 hf184) n215 hf208)⟩
end Go.Vd

/-! (KWf2) -/

set_option maxRecDepth 100000
set_option maxHeartbeats 4000000
set_option linter.unusedVariables false
namespace Go.Vd
open Go.Proofs
attribute [local irreducible] wpSeq wpOrd aWp
theorem c_viaductref04_Of {H : AH} {hd_Arcs : Value} {fp_Arcs : Fp} {N_ : Int} {Arcs : List (Int × Int × Int)} {r : Int × List (Int × Int × Int)}
    (wf : WF H) (h_Arcs : Sq enc_i64_i64_i64 3 H hd_Arcs Arcs fp_Arcs) (hr : z_viaductref04_Of N_ Arcs = some r) :
    ACalls Tryz.prog 84 #[.agg #[i_ N_, hd_Arcs]] H fun v H' => ∃ (s3 : Value) (f4 : Fp), v = .agg #[i_ r.1, s3] /\ FrS [] H H' /\ Ow enc_i64_i64_i64 3 H' s3 r.2 f4 /\ Inn [] H f4 := by
 refine ab_ Tryz.func84 ?_
 unfold z_viaductref04_Of at hr
 refine sq_ fun k6 => g_' ?_
 refine s_rwl wf [i_ N_, hd_Arcs] (one_cons (rfl) (one_cons (h_Arcs.one1) (one_nil))) (by kernel_rfl) fun b7 H8 e9 hb10 r11 => ?_
 refine rk_ e9.wf [i_ 0, .slice none 0 0] fun b13 H14 e15 hb16 r17 => ?_
 refine s_nil (k6 _ _ (sq_ fun k19 => g_' (q_ (pt_ b7 0) ?_)))
 have u20 := (r11.ext e15)
 refine lr_ 3 0 (i_ N_) u20 (q_ (.agg #[i_ N_, .slice none 0 0]) ?_)
 refine rk_ e15.wf [i_ 0, .slice none 0 0] fun b21 H22 e23 hb24 r25 => ?_
 obtain ⟨H27, q28, e29, r30⟩ := ra_ 24 0 e23.wf r25 [i_ N_, .slice none 0 0] [i_ N_, .slice none 0 0]
 refine ek_ q28 (s_nil (k19 _ _ (sq_ fun k31 => sq_ fun k32 => g_' (q_ (pt_ b7 1) ?_))))
 have d33 := (hb24.djn (r11.ltF.le e15.n))
 have u34 := ((u20.ext e23).frS e29 d33)
 refine lr_ 22 1 (hd_Arcs) u34 ?_
 have n35 := (t_ e9.n e15.n)
 have d36 := (hb24.djn (h_Arcs.lt.le n35))
 have u37 := ((((h_Arcs.ext e9).ext e15).ext e23).fr e29 d36)
 refine u37.ln_ 22 (q_ (i_ 0) (s_nil (k32 _ _ ?_)))
 obtain ⟨o38, hx39, r40⟩ := bs_ hr
 refine w_mid (fun α H41 => ∃ (s45 : Value) (f46 : Fp), Has α [(2, pt_ b13 0), (3, pt_ b21 0)] /\ FrS [b21] H27 H41 /\ Ow enc_i64_i64_i64 3 H41 s45 o38 f46 /\ Row H41 b21 [i_ N_, s45] /\ Inn [] H27 f46) (fun _ k50 => ?_) (fun α H41 hM => ?_)
 ·refine w_block ?_
  obtain ⟨n52, hn53⟩ := loopO_iff.1 hx39
  refine w_loopn (fun n α H54 => ∃ (i0 : Int), ∃ (c1 : List (Int × Int × Int)), ∃ (s58 : Value), ∃ (f59 : Fp), iterO (fun zz_ => z_viaductref04_Of_l0 Arcs zz_.1 zz_.2) n (i0, c1) = some o38 /\ Has α [(2, pt_ b13 0), (3, pt_ b21 0), (10, hd_Arcs), (11, i_ (Arcs.length : Int)), (12, i_ i0)] /\ FrS [b21] H27 H54 /\ Ow enc_i64_i64_i64 3 H54 s58 c1 f59 /\ Row H54 b21 [i_ N_, s58] /\ Inn [] H27 f59) n52 ⟨0, [], (.slice none 0 0), [], hn53, ha_, (fr_ e29.wf), (Ow.nil (by decide)), r30, in_⟩ ?_
  rintro n52 α H54 ⟨i0, c1, s58, f59, hi64, hh63, e55, m57, m61, i62⟩ K69 k69
  obtain ⟨n65, z66, rfl, hz67, hn68⟩ := iter_succ hi64
  obtain ⟨β, rfl⟩ := has_ex hh63
  clear hh63
  replace hz67 : z_viaductref04_Of_l0 Arcs i0 c1 = some z66 := hz67
  unfold z_viaductref04_Of_l0 at hz67
  obtain ⟨a70, n71, c72, rfl⟩ := m57.form
  refine sq_ fun k73 => g_' (q_ (.bool (decide (i0 < (Arcs.length : Int)))) (s_nil (k73 _ _ (sq_ fun k74 => ?_))))
  refine wc_ (i0 < (Arcs.length : Int)) (fun h75 => ?_) fun h75 => ?_
  ·have r76 := ite_t h75 hz67
   refine w_skip (k74 _ _ (sq_ fun k77 => w_block (sq_ fun k78 => g_' ?_)))
   obtain ⟨g79, r80⟩ := G_some r76
   have u81 := (u37.fr e55 d36)
   refine u81.ix_ 22 g79 h75 (le_ 74 0 (.agg #[i_ ((gt Arcs i0).1), i_ ((gt Arcs i0).2.1), i_ ((gt Arcs i0).2.2)]) u81 g79 h75 ?_)
   refine rk_ e55.wf [i_ 0, i_ 0, i_ 0] fun b82 H83 e84 hb85 r86 => ?_
   obtain ⟨H88, q89, e90, r91⟩ := ra_ 74 0 e84.wf r86 [i_ ((gt Arcs i0).1), i_ ((gt Arcs i0).2.1), i_ ((gt Arcs i0).2.2)] [i_ ((gt Arcs i0).1), i_ ((gt Arcs i0).2.1), i_ ((gt Arcs i0).2.2)]
   refine ek_ q89 (s_nil (k78 _ _ (sq_ fun k92 => g_' (q_ (pt_ b82 0) (lr_ 3 0 (i_ ((gt Arcs i0).1)) r91 (q_ (pt_ b82 1) (lr_ 3 1 (i_ ((gt Arcs i0).2.1)) r91 (q_ (.bool (!decide (((gt Arcs i0).1) = ((gt Arcs i0).2.1)))) (s_nil (k92 _ _ ?_))))))))))
   refine w_condn (((gt Arcs i0).1) = ((gt Arcs i0).2.1)) (by kernel_rfl) rfl (fun h93 => ?_) (fun h93 => ?_)
   ·have r94 := ite_f h93 r80
    refine g_' (q_ (pt_ b21 1) ?_)
    have n95 := (t_ e29.n e55.n)
    have d96 := (hb85.djn (r25.ltF.le n95))
    have u97 := ((m61.ext e84).frS e90 d96)
    refine lr_ 22 1 (.slice a70 n71 c72) u97 (lr_ 74 0 (.agg #[i_ ((gt Arcs i0).1), i_ ((gt Arcs i0).2.1), i_ ((gt Arcs i0).2.2)]) r91 ?_)
    have u98 := ((m57.ext e84).fr e90 (hb85.djn m57.lt))
    obtain ⟨y99, hy100, r101⟩ := bs_ r94
    refine ck_ (c_viaductref04_Put e90.wf u98.sq hy100) ?_
    rintro s102 H104 ⟨_, f103, rfl, e105, m106, i107⟩
    obtain ⟨a109, n110, c111, rfl⟩ := m106.form
    refine q_ (pt_ b21 1) ?_
    have u116 := (u97.frS e105 dn_)
    obtain ⟨H112, q113, e114, r115⟩ := rb_ 22 1 e105.wf u116 (.slice a109 n110 c111) [i_ N_, .slice a109 n110 c111]
    refine ek_ q113 (s_nil (k77 _ _ (g_' ?_)))
    obtain ⟨g117, r118⟩ := G_some r101
    refine w_' ((i0 + 1)) (wrap64 (by have := g117; omega)) (q_ (i_ (i0 + 1)) (s_nil ?_))
    have n119 := (t_ (t_ (t_ e29.n e55.n) e84.n) e90.n)
    have d120 := (i107.djn (r25.ltF.le n119))
    have u121 := (m106.fr e114 (Dj.symm d120))
    have n122 := (t_ (t_ e55.n e84.n) e90.n)
    obtain rfl := oi_ r118
    exact k69 n65 _ _ lt_ ⟨(i0 + 1), y99, (.slice a109 n110 c111), f103, hn68, ha_, (fs_ e29.wf (fs_ e29.wf (fs_ e29.wf ((fs_ e29.wf (fr_ e29.wf) e55 ir_).extR e84) e90 (hb85.fresh e55.n)) e105 in_) e114 ir_), u121, r115, (i107.fresh n122)⟩
   have r123 := ite_t h93 r80
   refine w_skip (k77 _ _ (g_' ?_))
   obtain ⟨g124, r125⟩ := G_some r123
   refine w_' ((i0 + 1)) (wrap64 (by have := g124; omega)) (q_ (i_ (i0 + 1)) (s_nil ?_))
   have u126 := ((m57.ext e84).fr e90 (hb85.djn m57.lt))
   have n127 := (t_ e29.n e55.n)
   have d128 := (hb85.djn (r25.ltF.le n127))
   have u129 := ((m61.ext e84).frS e90 d128)
   obtain rfl := oi_ r125
   exact k69 n65 _ _ lt_ ⟨(i0 + 1), c1, (.slice a70 n71 c72), f59, hn68, ha_, (fs_ e29.wf ((fs_ e29.wf (fr_ e29.wf) e55 ir_).extR e84) e90 (hb85.fresh e55.n)), u126, u129, (i62.fresh (Nat.le_refl _))⟩
  have r130 := ite_f h75 hz67
  refine w_exit (th_exit (th_exit (bl_eq ?_)))
  obtain rfl := oi_ r130
  obtain rfl := it_inr hn68
  exact k50 _ _ ⟨(.slice a70 n71 c72), f59, ha_, (fs_ e29.wf (fr_ e29.wf) e55 ir_), m57, m61, (i62.fresh (Nat.le_refl _))⟩
 obtain ⟨s45, f46, hh51, e42, m44, m48, i49⟩ := hM
 obtain ⟨β, rfl⟩ := has_ex hh51
 clear hh51
 obtain ⟨a131, n132, c133, rfl⟩ := m44.form
 refine k31 _ _ (sq_ fun k134 => g_' (lr_ 24 0 (.agg #[i_ N_, .slice a131 n132 c133]) m48 ?_))
 have u139 := (((r17.ext e23).frS e29 (hb24.djn r17.ltF)).frS e42 (hb24.djn r17.ltF))
 obtain ⟨H135, q136, e137, r138⟩ := ra_ 24 0 e42.wf u139 [i_ N_, .slice a131 n132 c133] [i_ N_, .slice a131 n132 c133]
 refine ek_ q136 (s_nil (k134 _ _ ?_))
 refine w_ret ?_
 refine b_ret (vs := [.agg #[i_ N_, .slice a131 n132 c133]]) (aRes_cell (Eq.trans (b := aL_ 24 (pt_ b13 0) H135) (by kernel_rfl) (r138.l_)) (rfl)) ?_
 have n140 := (t_ e23.n e29.n)
 have d141 := (i49.djn (r17.ltF.le n140))
 have u142 := (m44.fr e137 (Dj.symm d141))
 have n143 := (t_ (t_ (t_ e9.n e15.n) e23.n) e29.n)
 obtain rfl := oi_ r40
 exact ⟨(.slice a131 n132 c133), f46, rfl, (fs_ wf (fs_ wf (fs_ wf ((((f0_ wf).extR e9).extR e15).extR e23) e29 (hb24.fresh n35)) e42 (hb24.fresh n35)) e137 (hb16.fresh e9.n)), u142, (i49.fresh n143)⟩
theorem c_viaductref04_DocOf {H : AH} {hd_Arcs : Value} {fp_Arcs : Fp} {N_ : Int} {Arcs : List (Int × Int × Int)} {r : Int × List (Int × Int × Int) × Int × List (Int × Int)}
    (wf : WF H) (h_Arcs : Sq enc_i64_i64_i64 3 H hd_Arcs Arcs fp_Arcs) (hr : z_viaductref04_DocOf N_ Arcs = some r) :
    ACalls Tryz.prog 59 #[.agg #[i_ N_, hd_Arcs]] H fun v H' => ∃ (s3 : Value) (f4 : Fp) (s7 : Value) (f8 : Fp), v = .tuple #[.agg #[i_ r.1, s3], .agg #[i_ r.2.2.1, s7]] /\ FrS [] H H' /\ Ow enc_i64_i64_i64 3 H' s3 r.2.1 f4 /\ Ow enc_i64_i64 2 H' s7 r.2.2.2 f8 /\ Inn [] H f4 /\ Inn [] H f8 /\ Dj f4 f8 := by
 refine ab_ Tryz.func59 ?_
 unfold z_viaductref04_DocOf at hr
 refine sq_ fun k12 => g_' ?_
 refine s_rwl wf [i_ N_, hd_Arcs] (one_cons (rfl) (one_cons (h_Arcs.one1) (one_nil))) (by kernel_rfl) fun b13 H14 e15 hb16 r17 => ?_
 refine rk_ e15.wf [i_ 0, .slice none 0 0] fun b19 H20 e21 hb22 r23 => ?_
 refine rk_ e21.wf [i_ 0, .slice none 0 0] fun b25 H26 e27 hb28 r29 => ?_
 refine s_nil (k12 _ _ (sq_ fun k31 => sq_ fun k32 => g_' ?_))
 have u33 := ((r17.ext e21).ext e27)
 refine lr_ 24 0 (.agg #[i_ N_, hd_Arcs]) u33 ?_
 have u34 := (((h_Arcs.ext e15).ext e21).ext e27)
 obtain ⟨y35, hy36, r37⟩ := bs_ hr
 refine ck_ (c_viaductref03_DocCheck e27.wf u34 hy36) ?_
 rintro _ H40 ⟨s38, f39, rfl, e41, m42, i43⟩
 obtain ⟨a45, n46, c47, rfl⟩ := m42.form
 refine rk_ e41.wf [i_ 0, .slice none 0 0] fun b48 H49 e50 hb51 r52 => ?_
 have u58 := (m42.ext e50)
 obtain ⟨H54, q55, e56, r57⟩ := ra_ 44 0 e50.wf r52 [i_ y35.1, .slice a45 n46 c47] [i_ y35.1, .slice a45 n46 c47]
 refine ek_ q55 (s_nil (k32 _ _ (sq_ fun k59 => g_' (lr_ 44 0 (.agg #[i_ y35.1, .slice a45 n46 c47]) r57 ?_))))
 have u60 := (u58.fr e56 (hb51.djn m42.lt))
 obtain ⟨y61, hy62, r63⟩ := bs_ r37
 refine ck_ (c_viaductref01_Err_Bad e56.wf u60.sq hy62) ?_
 rintro _ H64 ⟨rfl, e65⟩
 refine s_nil (k59 _ _ ?_)
 refine wb_ (y61) (fun h66 => ?_) fun h66 => ?_
 ·have r67 := ite_t h66 r63
  refine sq_ fun k68 => ?_
  refine w_draw [0, 1, 2, 3] (by kernel_rfl) ?_
  refine e_' (.agg #[i_ 0, .slice none 0 0]) ?_
  have u69 := (r57.frS e65 dn_)
  refine d_fl (.agg #[i_ y35.1, .slice a45 n46 c47]) (x := aL_ 44 (pt_ b48 0) H64) (by kernel_rfl) (u69.l_) ?_
  have n74 := (t_ e27.n e41.n)
  have d75 := (hb51.djn (r23.ltF.le n74))
  have u76 := (((((r23.ext e27).frS e41 dn_).ext e50).frS e56 d75).frS e65 dn_)
  obtain ⟨H70, q71, e72, r73⟩ := ra_ 24 0 e65.wf u76 [i_ 0, .slice none 0 0] [i_ 0, .slice none 0 0]
  have u77 := (u69.frS e72 (Dj.symm d75))
  refine fk_ q71 (st_ql (y := aL_ 44 (pt_ b48 0) H70) (by kernel_rfl) (u77.l_) (st_nil)) ?_
  have d82 := (hb51.djn (r29.ltF.le e41.n))
  have d83 := (hb28.djn r23.ltF)
  have u84 := (((((r29.frS e41 dn_).ext e50).frS e56 d82).frS e65 dn_).frS e72 (Dj.symm d83))
  have d85 := (i43.djn (r23.ltF.le e27.n))
  have u86 := ((u60.fr e65 dn_).fr e72 (Dj.symm d85))
  obtain ⟨H78, q79, e80, r81⟩ := ra_ 44 0 e72.wf u84 [i_ y35.1, .slice a45 n46 c47] [i_ y35.1, .slice a45 n46 c47]
  refine fk_ q79 (st_anc (by kernel_rfl) (st_nil)) ?_
  refine d_nil ?_
  refine k68 _ _ ?_
  refine w_ret (th_ret ?_)
  have u87 := (r73.frS e80 d83)
  refine b_ret (vs := [.agg #[i_ 0, .slice none 0 0], .agg #[i_ y35.1, .slice a45 n46 c47]]) (aRes_cell (Eq.trans (b := aL_ 24 (pt_ b19 0) H78) (by kernel_rfl) (u87.l_)) (aRes_cell (Eq.trans (b := aL_ 44 (pt_ b25 0) H78) (by kernel_rfl) (r81.l_)) (rfl))) ?_
  have n88 := (t_ (t_ (t_ e15.n e21.n) e27.n) e41.n)
  have n89 := (t_ e15.n e21.n)
  have d90 := (i43.djn r29.ltF)
  have u91 := (u86.fr e80 (Dj.symm d90))
  have n92 := (t_ (t_ e15.n e21.n) e27.n)
  obtain rfl := oi_ r67
  exact ⟨(.slice none 0 0), [], (.slice a45 n46 c47), f39, rfl, (fs_ wf (fs_ wf (fs_ wf (fs_ wf ((fs_ wf ((((f0_ wf).extR e15).extR e21).extR e27) e41 in_).extR e50) e56 (hb51.fresh n88)) e65 in_) e72 (hb22.fresh e15.n)) e80 (hb28.fresh n89)), (Ow.nil (by decide)), u91, in_, (i43.fresh n92), dn_⟩
 have r93 := ite_bf h66 r63
 refine w_skip (k31 _ _ (sq_ fun k94 => g_' ?_))
 have n95 := (t_ (t_ e21.n e27.n) e41.n)
 have d96 := (hb51.djn (r17.ltF.le n95))
 have u97 := ((((u33.frS e41 dn_).ext e50).frS e56 d96).frS e65 dn_)
 refine lr_ 24 0 (.agg #[i_ N_, hd_Arcs]) u97 ?_
 have n98 := (t_ (t_ (t_ e15.n e21.n) e27.n) e41.n)
 have d99 := (hb51.djn (h_Arcs.lt.le n98))
 have u100 := ((((u34.fr e41 dn_).ext e50).fr e56 d99).fr e65 dn_)
 obtain ⟨y101, hy102, r103⟩ := bs_ r93
 refine ck_ (c_viaductref04_Of e65.wf u100 hy102) ?_
 rintro _ H106 ⟨s104, f105, rfl, e107, m108, i109⟩
 obtain ⟨a111, n112, c113, rfl⟩ := m108.form
 refine q_ (.agg #[i_ 0, .slice none 0 0]) ?_
 have n118 := (t_ e27.n e41.n)
 have d119 := (hb51.djn (r23.ltF.le n118))
 have u120 := ((((((r23.ext e27).frS e41 dn_).ext e50).frS e56 d119).frS e65 dn_).frS e107 dn_)
 obtain ⟨H114, q115, e116, r117⟩ := ra_ 24 0 e107.wf u120 [i_ y101.1, .slice a111 n112 c113] [i_ y101.1, .slice a111 n112 c113]
 refine ek_ q115 ?_
 have d125 := (hb51.djn (r29.ltF.le e41.n))
 have d126 := (hb28.djn r23.ltF)
 have u127 := ((((((r29.frS e41 dn_).ext e50).frS e56 d125).frS e65 dn_).frS e107 dn_).frS e116 (Dj.symm d126))
 obtain ⟨H121, q122, e123, r124⟩ := ra_ 44 0 e116.wf u127 [i_ 0, .slice none 0 0] [i_ 0, .slice none 0 0]
 refine ek_ q122 (s_nil (k94 _ _ ?_))
 refine w_ret ?_
 have u128 := (r117.frS e123 d126)
 refine b_ret (vs := [.agg #[i_ y101.1, .slice a111 n112 c113], .agg #[i_ 0, .slice none 0 0]]) (aRes_cell (Eq.trans (b := aL_ 24 (pt_ b19 0) H121) (by kernel_rfl) (u128.l_)) (aRes_cell (Eq.trans (b := aL_ 44 (pt_ b25 0) H121) (by kernel_rfl) (r124.l_)) (rfl))) ?_
 have n129 := (t_ e15.n e21.n)
 have n130 := (t_ (t_ (t_ (t_ e27.n e41.n) e50.n) e56.n) e65.n)
 have d131 := (i109.djn (r23.ltF.le n130))
 have n132 := (t_ (t_ (t_ e41.n e50.n) e56.n) e65.n)
 have d133 := (i109.djn (r29.ltF.le n132))
 have u134 := ((m108.fr e116 (Dj.symm d131)).fr e123 (Dj.symm d133))
 have n135 := (t_ (t_ (t_ (t_ (t_ (t_ e15.n e21.n) e27.n) e41.n) e50.n) e56.n) e65.n)
 obtain rfl := oi_ r103
 exact ⟨(.slice a111 n112 c113), f105, (.slice none 0 0), [], rfl, (fs_ wf (fs_ wf (fs_ wf (fs_ wf (fs_ wf ((fs_ wf ((((f0_ wf).extR e15).extR e21).extR e27) e41 in_).extR e50) e56 (hb51.fresh n98)) e65 in_) e107 in_) e116 (hb22.fresh e15.n)) e123 (hb28.fresh n129)), u134, (Ow.nil (by decide)), (i109.fresh n135), in_, Dj.nil_r⟩
theorem c_viaductref11_New {H : AH} {hd_Arcs : Value} {fp_Arcs : Fp} {N_ : Int} {Arcs : List (Int × Int × Int)} {r : List (Bool) × List (Int × Int × Int × Int)}
    (wf : WF H) (h_Arcs : Sq enc_i64_i64_i64 3 H hd_Arcs Arcs fp_Arcs) (hr : z_viaductref11_New N_ Arcs = some r) :
    ACalls Tryz.prog 60 #[.agg #[i_ N_, hd_Arcs]] H fun v H' => ∃ (s3 : Value) (f4 : Fp) (s7 : Value) (f8 : Fp), v = .agg #[s3, s7] /\ FrS [] H H' /\ Ow encB 1 H' s3 r.1 f4 /\ Ow enc_i64_i64_u64_i64 4 H' s7 r.2 f8 /\ Inn [] H f4 /\ Inn [] H f8 /\ Dj f4 f8 := by
 refine ab_ Tryz.func60 ?_
 unfold z_viaductref11_New at hr
 refine sq_ fun k12 => g_' ?_
 refine s_rwl wf [i_ N_, hd_Arcs] (one_cons (rfl) (one_cons (h_Arcs.one1) (one_nil))) (by kernel_rfl) fun b13 H14 e15 hb16 r17 => ?_
 refine rk_ e15.wf [.slice none 0 0, .slice none 0 0] fun b19 H20 e21 hb22 r23 => ?_
 refine s_nil (k12 _ _ (sq_ fun k25 => g_' (q_ (pt_ b13 0) ?_)))
 have u26 := (r17.ext e21)
 refine lr_ 3 0 (i_ N_) u26 ?_
 obtain ⟨g27, r28⟩ := G_some hr
 refine s_mks (t := 30) (m := 1) (l := N_) (c := N_) (enc := encB) (sz := 1) e21.wf (false : Bool) (by kernel_rfl) (by decide) g27.1 (Int.le_refl _) (by omega) (by have := g27; omega) (by kernel_rfl) fun s29 f30 H31 e32 hf33 hm34 => ?_
 obtain ⟨a35, n36, c37, rfl⟩ := hm34.form
 have hm34 : Ow encB 1 H31 (.slice a35 n36 c37) (List.replicate N_.toNat (false : Bool)) f30 := hm34
 refine q_ (.agg #[.slice a35 n36 c37, .slice none 0 0]) ?_
 refine rk_ e32.wf [.slice none 0 0, .slice none 0 0] fun b39 H40 e41 hb42 r43 => ?_
 have u49 := (hm34.ext e41)
 obtain ⟨H45, q46, e47, r48⟩ := ra_ 33 0 e41.wf r43 [.slice a35 n36 c37, .slice none 0 0] [.slice a35 n36 c37, .slice none 0 0]
 refine ek_ q46 (s_nil (k25 _ _ (sq_ fun k50 => sq_ fun k51 => g_' (q_ (pt_ b39 0) (lr_ 30 0 (.slice a35 n36 c37) r48 ?_)))))
 have u52 := (u49.fr e47 (hb42.djn hm34.lt))
 refine u52.sq.ln_ 30 (q_ (i_ 0) (s_nil (k51 _ _ ?_)))
 obtain ⟨o53, hx54, r55⟩ := bs_ r28
 refine w_mid (fun α H56 => Has α [(1, pt_ b13 0), (2, pt_ b19 0), (3, pt_ b39 0)] /\ FrS f30 H45 H56 /\ Ow encB 1 H56 (.slice a35 n36 c37) o53 f30) (fun _ k60 => ?_) (fun α H56 hM => ?_)
 ·refine w_block ?_
  obtain ⟨n62, hn63⟩ := loopO_iff.1 hx54
  refine w_loopn (fun n α H64 => ∃ (i0 : Int), ∃ (o1 : List (Bool)), iterO (fun zz_ => z_viaductref11_New_l0 N_ zz_.1 zz_.2) n (i0, o1) = some o53 /\ Has α [(1, pt_ b13 0), (2, pt_ b19 0), (3, pt_ b39 0), (13, i_ ((List.replicate N_.toNat (false : Bool)).length : Int)), (14, i_ i0)] /\ FrS f30 H45 H64 /\ Ow encB 1 H64 (.slice a35 n36 c37) o1 f30) n62 ⟨0, (List.replicate N_.toNat (false : Bool)), hn63, ha_, (fr_ e47.wf), u52⟩ ?_
  rintro n62 α H64 ⟨i0, o1, hi69, hh68, e65, m67⟩ K74 k74
  obtain ⟨n70, z71, rfl, hz72, hn73⟩ := iter_succ hi69
  obtain ⟨β, rfl⟩ := has_ex hh68
  clear hh68
  replace hz72 : z_viaductref11_New_l0 N_ i0 o1 = some z71 := hz72
  unfold z_viaductref11_New_l0 at hz72
  refine sq_ fun k75 => g_' (q_ (.bool (decide (i0 < ((List.replicate N_.toNat (false : Bool)).length : Int)))) (s_nil (k75 _ _ (sq_ fun k76 => ?_))))
  refine wc_ (i0 < ((List.replicate N_.toNat (false : Bool)).length : Int)) (fun h77 => ?_) fun h77 => ?_
  ·have r78 := ite_t h77 hz72
   refine w_skip (k76 _ _ (sq_ fun k79 => w_block (sq_ fun k80 => g_' (q_ (i_ i0) (q_ (i_ i0) (s_nil (k80 _ _ (g_' (q_ (pt_ b39 0) ?_)))))))))
   have d81 := (hb42.djn hm34.lt)
   have u82 := (r48.frS e65 (Dj.symm d81))
   refine lr_ 30 0 (.slice a35 n36 c37) u82 (q_ (i_ i0) ?_)
   obtain ⟨g83, r84⟩ := G_some r78
   refine m67.sq.ix_ 30 g83.1 g83.2 ?_
   obtain ⟨H85, q86, e87, hm88⟩ := Ow.store (P := Tryz.prog) (t := 4) (off := 0) e65.wf m67 g83.1 g83.2 (.bool true) [.bool true] (by kernel_rfl) (by kernel_rfl) rfl true (Nat.le_of_ble_eq_true rfl) (by kernel_rfl)
   refine ek_ q86 (s_nil (k79 _ _ (g_' ?_)))
   obtain ⟨g89, r90⟩ := G_some r84
   refine w_' ((i0 + 1)) (wrap64 (by have := g89; omega)) (q_ (i_ (i0 + 1)) (s_nil ?_))
   obtain rfl := oi_ r90
   exact k74 n70 _ _ lt_ ⟨(i0 + 1), (o1.set i0.toNat true), hn73, ha_, (fs_ e47.wf (fs_ e47.wf (fr_ e47.wf) e65 ir_) e87 ir_), hm88⟩
  have r91 := ite_f h77 hz72
  refine w_exit (th_exit (th_exit (bl_eq ?_)))
  obtain rfl := oi_ r91
  obtain rfl := it_inr hn73
  exact k60 _ _ ⟨ha_, (fs_ e47.wf (fr_ e47.wf) e65 ir_), m67⟩
 obtain ⟨hh61, e57, m59⟩ := hM
 obtain ⟨β, rfl⟩ := has_ex hh61
 clear hh61
 refine k50 _ _ (sq_ fun k92 => sq_ fun k93 => g_' (q_ (pt_ b13 1) ?_))
 have n94 := (t_ e21.n e32.n)
 have d95 := (hb42.djn (r17.ltF.le n94))
 have d96 := (hf33.djn (r17.ltF.le e21.n))
 have u97 := ((((u26.ext e32).ext e41).frS e47 d95).frS e57 d96)
 refine lr_ 22 1 (hd_Arcs) u97 ?_
 have n98 := (t_ (t_ e15.n e21.n) e32.n)
 have d99 := (hb42.djn (h_Arcs.lt.le n98))
 have n100 := (t_ e15.n e21.n)
 have d101 := (hf33.djn (h_Arcs.lt.le n100))
 have u102 := ((((((h_Arcs.ext e15).ext e21).ext e32).ext e41).fr e47 d99).fr e57 d101)
 refine u102.ln_ 22 (q_ (i_ 0) (s_nil (k93 _ _ ?_)))
 obtain ⟨o103, hx104, r105⟩ := bs_ r55
 refine w_mid (fun α H106 => ∃ (s110 : Value) (f111 : Fp), Has α [(2, pt_ b19 0), (3, pt_ b39 0)] /\ FrS [b39] H56 H106 /\ Ow enc_i64_i64_u64_i64 4 H106 s110 o103 f111 /\ Row H106 b39 [.slice a35 n36 c37, s110] /\ Inn [] H56 f111) (fun _ k115 => ?_) (fun α H106 hM => ?_)
 ·refine w_block ?_
  obtain ⟨n117, hn118⟩ := loopO_iff.1 hx104
  have d134 := (hb42.djn hm34.lt)
  have u135 := (r48.frS e57 (Dj.symm d134))
  refine w_loopn (fun n α H119 => ∃ (i2 : Int), ∃ (o3 : List (Int × Int × Int × Int)), ∃ (s123 : Value), ∃ (f124 : Fp), iterO (fun zz_ => z_viaductref11_New_l1 Arcs zz_.1 zz_.2) n (i2, o3) = some o103 /\ Has α [(2, pt_ b19 0), (3, pt_ b39 0), (23, hd_Arcs), (24, i_ (Arcs.length : Int)), (25, i_ i2)] /\ FrS [b39] H56 H119 /\ Ow enc_i64_i64_u64_i64 4 H119 s123 o3 f124 /\ Row H119 b39 [.slice a35 n36 c37, s123] /\ Inn [] H56 f124) n117 ⟨0, [], (.slice none 0 0), [], hn118, ha_, (fr_ e57.wf), (Ow.nil (by decide)), u135, in_⟩ ?_
  rintro n117 α H119 ⟨i2, o3, s123, f124, hi129, hh128, e120, m122, m126, i127⟩ K136 k136
  obtain ⟨n130, z131, rfl, hz132, hn133⟩ := iter_succ hi129
  obtain ⟨β, rfl⟩ := has_ex hh128
  clear hh128
  replace hz132 : z_viaductref11_New_l1 Arcs i2 o3 = some z131 := hz132
  unfold z_viaductref11_New_l1 at hz132
  obtain ⟨a137, n138, c139, rfl⟩ := m122.form
  refine sq_ fun k140 => g_' (q_ (.bool (decide (i2 < (Arcs.length : Int)))) (s_nil (k140 _ _ (sq_ fun k141 => ?_))))
  refine wc_ (i2 < (Arcs.length : Int)) (fun h142 => ?_) fun h142 => ?_
  ·have r143 := ite_t h142 hz132
   refine w_skip (k141 _ _ (sq_ fun k144 => w_block (sq_ fun k145 => g_' ?_)))
   obtain ⟨g146, r147⟩ := G_some r143
   have u148 := (u102.fr e120 d99)
   refine u148.ix_ 22 g146 h142 (le_ 74 0 (.agg #[i_ ((gt Arcs i2).1), i_ ((gt Arcs i2).2.1), i_ ((gt Arcs i2).2.2)]) u148 g146 h142 ?_)
   refine rk_ e120.wf [i_ 0, i_ 0, i_ 0] fun b149 H150 e151 hb152 r153 => ?_
   obtain ⟨H155, q156, e157, r158⟩ := ra_ 74 0 e151.wf r153 [i_ ((gt Arcs i2).1), i_ ((gt Arcs i2).2.1), i_ ((gt Arcs i2).2.2)] [i_ ((gt Arcs i2).1), i_ ((gt Arcs i2).2.1), i_ ((gt Arcs i2).2.2)]
   refine ek_ q156 (s_nil (k145 _ _ (g_' (q_ (pt_ b39 1) ?_))))
   have n159 := (t_ (t_ e47.n e57.n) e120.n)
   have d160 := (hb152.djn (r43.ltF.le n159))
   have u161 := ((m126.ext e151).frS e157 d160)
   refine lr_ 31 1 (.slice a137 n138 c139) u161 (q_ (pt_ b149 0) (lr_ 3 0 (i_ ((gt Arcs i2).1)) r158 (q_ (pt_ b149 1) (lr_ 3 1 (i_ ((gt Arcs i2).2.1)) r158 (q_ (pt_ b149 2) (lr_ 3 2 (i_ ((gt Arcs i2).2.2)) r158 ?_))))))
   obtain ⟨g162, r163⟩ := G_some r147
   refine s_w ((gt Arcs i2).2.2) (k := .u64) (x := (gt Arcs i2).2.2) (by kernel_rfl) (wrapu64 g162) ?_
   refine q_ (.agg #[i_ ((gt Arcs i2).1), i_ ((gt Arcs i2).2.1), .int .u64 ((gt Arcs i2).2.2), i_ (-1)]) ?_
   refine s_owk (enc := enc_i64_i64_u64_i64) (sz := 4) e157.wf [((gt Arcs i2).1, (gt Arcs i2).2.1, (gt Arcs i2).2.2, (-1))] 1 (by decide) (fun _ _ => rfl) (fun _ _ => rfl) rfl (by kernel_rfl) fun s164 f165 H166 e167 hf168 hm169 => ?_
   obtain ⟨a170, n171, c172, rfl⟩ := hm169.form
   have u174 := (((m122.ext e151).fr e157 (hb152.djn m122.lt)).ext e167)
   obtain ⟨g175, r176⟩ := G_some r163
   obtain ⟨s177, H178, f179, q183, e180, hm181, hf182⟩ := Ow.append (P := Tryz.prog) 32 e167.wf u174 hm169.sq (fun _ _ => rfl) (at_ := #[31, 31]) rfl rfl (by kernel_rfl) (by kernel_rfl) (by decide) (by have := g175; first | omega | (simp only [List.length_cons, List.length_nil] at this ⊢; omega) | (simp at this ⊢; omega))
   obtain ⟨a184, n185, c186, rfl⟩ := hm181.form
   refine s_ek (.slice a184 n185 c186) (by kernel_rfl) (q183) ?_
   refine q_ (pt_ b39 1) ?_
   have n192 := (t_ e47.n e57.n)
   have d193 := (i127.djn (r43.ltF.le n192))
   have u194 := ((u161.ext e167).frS e180 d193)
   obtain ⟨H188, q189, e190, r191⟩ := rb_ 31 1 e180.wf u194 (.slice a184 n185 c186) [.slice a35 n36 c37, .slice a184 n185 c186]
   refine ek_ q189 (s_nil (k144 _ _ (g_' ?_)))
   obtain ⟨g195, r196⟩ := G_some r176
   refine w_' ((i2 + 1)) (wrap64 (by have := g195; omega)) (q_ (i_ (i2 + 1)) (s_nil ?_))
   have n197 := (t_ (t_ (t_ (t_ (t_ e47.n e57.n) e120.n) e151.n) e157.n) e167.n)
   have d198 := (hf182.dj d193 (r43.ltF.le n197))
   have u199 := (hm181.fr e190 (Dj.symm d198))
   have n200 := (t_ (t_ (t_ e120.n e151.n) e157.n) e167.n)
   obtain rfl := oi_ r196
   exact k136 n130 _ _ lt_ ⟨(i2 + 1), (o3 ++ [((gt Arcs i2).1, (gt Arcs i2).2.1, (gt Arcs i2).2.2, (-1))]), (.slice a184 n185 c186), f179, hn133, ha_, (fs_ e57.wf (fs_ e57.wf ((fs_ e57.wf ((fs_ e57.wf (fr_ e57.wf) e120 ir_).extR e151) e157 (hb152.fresh e120.n)).extR e167) e180 (i127.fresh (Nat.le_refl _))) e190 ir_), u199, r191, (Inn.trans (i127.fresh (Nat.le_refl _)) n200 hf182)⟩
  have r201 := ite_f h142 hz132
  refine w_exit (th_exit (th_exit (bl_eq ?_)))
  obtain rfl := oi_ r201
  obtain rfl := it_inr hn133
  exact k115 _ _ ⟨(.slice a137 n138 c139), f124, ha_, (fs_ e57.wf (fr_ e57.wf) e120 ir_), m122, m126, (i127.fresh (Nat.le_refl _))⟩
 obtain ⟨s110, f111, hh116, e107, m109, m113, i114⟩ := hM
 obtain ⟨β, rfl⟩ := has_ex hh116
 clear hh116
 obtain ⟨a202, n203, c204, rfl⟩ := m109.form
 refine k92 _ _ (sq_ fun k205 => g_' (lr_ 33 0 (.agg #[.slice a35 n36 c37, .slice a202 n203 c204]) m113 ?_))
 have d210 := (hb42.djn (r23.ltF.le e32.n))
 have u211 := (((((r23.ext e32).ext e41).frS e47 d210).frS e57 (hf33.djn r23.ltF)).frS e107 d210)
 have u212 := (m59.fr e107 (hb42.djn hm34.lt))
 obtain ⟨H206, q207, e208, r209⟩ := ra_ 33 0 e107.wf u211 [.slice a35 n36 c37, .slice a202 n203 c204] [.slice a35 n36 c37, .slice a202 n203 c204]
 refine ek_ q207 (s_nil (k205 _ _ ?_))
 refine w_ret ?_
 refine b_ret (vs := [.agg #[.slice a35 n36 c37, .slice a202 n203 c204]]) (aRes_cell (Eq.trans (b := aL_ 33 (pt_ b19 0) H206) (by kernel_rfl) (r209.l_)) (rfl)) ?_
 have d213 := (hf33.djn r23.ltF)
 have u214 := (u212.fr e208 (Dj.symm d213))
 have n215 := (t_ (t_ (t_ e32.n e41.n) e47.n) e57.n)
 have d216 := (i114.djn (r23.ltF.le n215))
 have u217 := (m109.fr e208 (Dj.symm d216))
 have n218 := (t_ (t_ (t_ (t_ (t_ e15.n e21.n) e32.n) e41.n) e47.n) e57.n)
 have n219 := (t_ (t_ e41.n e47.n) e57.n)
 have d220 := (i114.djn (hm34.lt.le n219))
 obtain rfl := oi_ r105
 exact ⟨(.slice a35 n36 c37), f30, (.slice a202 n203 c204), f111, rfl, (fs_ wf (fs_ wf (fs_ wf (fs_ wf (((((f0_ wf).extR e15).extR e21).extR e32).extR e41) e47 (hb42.fresh n98)) e57 (hf33.fresh n100)) e107 (hb42.fresh n98)) e208 (hb22.fresh e15.n)), u214, u217, (hf33.fresh n100), (i114.fresh n218), (Dj.symm d220)⟩
theorem c_viaductref11_DocNew {H : AH} {hd_Arcs : Value} {fp_Arcs : Fp} {N_ : Int} {Arcs : List (Int × Int × Int)} {r : List (Bool) × List (Int × Int × Int × Int) × Int × List (Int × Int)}
    (wf : WF H) (h_Arcs : Sq enc_i64_i64_i64 3 H hd_Arcs Arcs fp_Arcs) (hr : z_viaductref11_DocNew N_ Arcs = some r) :
    ACalls Tryz.prog 35 #[.agg #[i_ N_, hd_Arcs]] H fun v H' => ∃ (s3 : Value) (f4 : Fp) (s7 : Value) (f8 : Fp) (s11 : Value) (f12 : Fp), v = .tuple #[.agg #[s3, s7], .agg #[i_ r.2.2.1, s11]] /\ FrS [] H H' /\ Ow encB 1 H' s3 r.1 f4 /\ Ow enc_i64_i64_u64_i64 4 H' s7 r.2.1 f8 /\ Ow enc_i64_i64 2 H' s11 r.2.2.2 f12 /\ Inn [] H f4 /\ Inn [] H f8 /\ Inn [] H f12 /\ Dj f4 f8 /\ Dj f4 f12 /\ Dj f8 f12 := by
 refine ab_ Tryz.func35 ?_
 unfold z_viaductref11_DocNew at hr
 refine sq_ fun k19 => g_' ?_
 refine s_rwl wf [i_ N_, hd_Arcs] (one_cons (rfl) (one_cons (h_Arcs.one1) (one_nil))) (by kernel_rfl) fun b20 H21 e22 hb23 r24 => ?_
 refine rk_ e22.wf [.slice none 0 0, .slice none 0 0] fun b26 H27 e28 hb29 r30 => ?_
 refine rk_ e28.wf [i_ 0, .slice none 0 0] fun b32 H33 e34 hb35 r36 => ?_
 refine s_nil (k19 _ _ (sq_ fun k38 => g_' ?_))
 have u39 := ((r24.ext e28).ext e34)
 refine lr_ 24 0 (.agg #[i_ N_, hd_Arcs]) u39 ?_
 have u40 := (((h_Arcs.ext e22).ext e28).ext e34)
 obtain ⟨y41, hy42, r43⟩ := bs_ hr
 refine ck_ (c_viaductref04_DocOf e34.wf u40 hy42) ?_
 rintro _ H48 ⟨s44, f45, s46, f47, rfl, e49, m50, m51, i52, i53, d54⟩
 obtain ⟨a57, n58, c59, rfl⟩ := m50.form
 obtain ⟨a60, n61, c62, rfl⟩ := m51.form
 refine q_ (.tuple #[.agg #[i_ y41.1, .slice a57 n58 c59], .agg #[i_ y41.2.2.1, .slice a60 n61 c62]]) (q_ (.agg #[i_ y41.1, .slice a57 n58 c59]) (q_ (.agg #[i_ y41.2.2.1, .slice a60 n61 c62]) ?_))
 refine rk_ e49.wf [i_ 0, .slice none 0 0] fun b63 H64 e65 hb66 r67 => ?_
 refine rk_ e65.wf [i_ 0, .slice none 0 0] fun b69 H70 e71 hb72 r73 => ?_
 have u79 := (r67.ext e71)
 have u80 := ((m50.ext e65).ext e71)
 obtain ⟨H75, q76, e77, r78⟩ := ra_ 24 0 e71.wf u79 [i_ y41.1, .slice a57 n58 c59] [i_ y41.1, .slice a57 n58 c59]
 refine ek_ q76 ?_
 have d85 := (hb72.djn r67.ltF)
 have u86 := (r73.frS e77 (Dj.symm d85))
 have u87 := (((m51.ext e65).ext e71).fr e77 (hb66.djn m51.lt))
 obtain ⟨H81, q82, e83, r84⟩ := ra_ 44 0 e77.wf u86 [i_ y41.2.2.1, .slice a60 n61 c62] [i_ y41.2.2.1, .slice a60 n61 c62]
 refine ek_ q82 (s_nil (k38 _ _ (sq_ fun k88 => sq_ fun k89 => g_' (lr_ 44 0 (.agg #[i_ y41.2.2.1, .slice a60 n61 c62]) r84 ?_))))
 have d90 := (hb72.djn (m51.lt.le e65.n))
 have u91 := (u87.fr e83 d90)
 obtain ⟨y92, hy93, r94⟩ := bs_ r43
 refine ck_ (c_viaductref01_Err_Bad e83.wf u91.sq hy93) ?_
 rintro _ H95 ⟨rfl, e96⟩
 refine s_nil (k89 _ _ ?_)
 refine wb_ (y92) (fun h97 => ?_) fun h97 => ?_
 ·have r98 := ite_t h97 r94
  refine sq_ fun k99 => ?_
  refine w_draw [0, 1, 2, 3] (by kernel_rfl) ?_
  refine e_' (.agg #[.slice none 0 0, .slice none 0 0]) ?_
  have u100 := (r84.frS e96 dn_)
  refine d_fl (.agg #[i_ y41.2.2.1, .slice a60 n61 c62]) (x := aL_ 44 (pt_ b69 0) H95) (by kernel_rfl) (u100.l_) ?_
  have n105 := (t_ e34.n e49.n)
  have d106 := (hb66.djn (r30.ltF.le n105))
  have n107 := (t_ (t_ e34.n e49.n) e65.n)
  have d108 := (hb72.djn (r30.ltF.le n107))
  have u109 := (((((((r30.ext e34).frS e49 dn_).ext e65).ext e71).frS e77 d106).frS e83 d108).frS e96 dn_)
  obtain ⟨H101, q102, e103, r104⟩ := ra_ 33 0 e96.wf u109 [.slice none 0 0, .slice none 0 0] [.slice none 0 0, .slice none 0 0]
  have u110 := (u100.frS e103 (Dj.symm d108))
  refine fk_ q102 (st_ql (y := aL_ 44 (pt_ b69 0) H101) (by kernel_rfl) (u110.l_) (st_nil)) ?_
  have d115 := (hb66.djn (r36.ltF.le e49.n))
  have n116 := (t_ e49.n e65.n)
  have d117 := (hb72.djn (r36.ltF.le n116))
  have d118 := (hb35.djn r30.ltF)
  have u119 := (((((((r36.frS e49 dn_).ext e65).ext e71).frS e77 d115).frS e83 d117).frS e96 dn_).frS e103 (Dj.symm d118))
  have d120 := (i53.djn (r30.ltF.le e34.n))
  have u121 := ((u91.fr e96 dn_).fr e103 (Dj.symm d120))
  obtain ⟨H111, q112, e113, r114⟩ := ra_ 44 0 e103.wf u119 [i_ y41.2.2.1, .slice a60 n61 c62] [i_ y41.2.2.1, .slice a60 n61 c62]
  refine fk_ q112 (st_anc (by kernel_rfl) (st_nil)) ?_
  refine d_nil ?_
  refine k99 _ _ ?_
  refine w_ret (th_ret ?_)
  have u122 := (r104.frS e113 d118)
  refine b_ret (vs := [.agg #[.slice none 0 0, .slice none 0 0], .agg #[i_ y41.2.2.1, .slice a60 n61 c62]]) (aRes_cell (Eq.trans (b := aL_ 33 (pt_ b26 0) H111) (by kernel_rfl) (u122.l_)) (aRes_cell (Eq.trans (b := aL_ 44 (pt_ b32 0) H111) (by kernel_rfl) (r114.l_)) (rfl))) ?_
  have n123 := (t_ (t_ (t_ e22.n e28.n) e34.n) e49.n)
  have n124 := (t_ (t_ (t_ (t_ e22.n e28.n) e34.n) e49.n) e65.n)
  have n125 := (t_ e22.n e28.n)
  have d126 := (i53.djn r36.ltF)
  have u127 := (u121.fr e113 (Dj.symm d126))
  have n128 := (t_ (t_ e22.n e28.n) e34.n)
  obtain rfl := oi_ r98
  exact ⟨(.slice none 0 0), [], (.slice none 0 0), [], (.slice a60 n61 c62), f47, rfl, (fs_ wf (fs_ wf (fs_ wf (fs_ wf (fs_ wf (((fs_ wf ((((f0_ wf).extR e22).extR e28).extR e34) e49 in_).extR e65).extR e71) e77 (hb66.fresh n123)) e83 (hb72.fresh n124)) e96 in_) e103 (hb29.fresh e22.n)) e113 (hb35.fresh n125)), (Ow.nil (by decide)), (Ow.nil (by decide)), u127, in_, in_, (i53.fresh n128), dn_, dn_, dn_⟩
 have r129 := ite_bf h97 r94
 refine w_skip (k88 _ _ (sq_ fun k130 => ?_))
 refine w_draw [0, 2, 1, 3, 4] (by kernel_rfl) ?_
 have u131 := ((r78.frS e83 d85).frS e96 dn_)
 refine mr_ 24 0 (.agg #[i_ y41.1, .slice a57 n58 c59]) u131 ?_
 have u132 := (r84.frS e96 dn_)
 refine d_fl (.agg #[i_ y41.2.2.1, .slice a60 n61 c62]) (x := aL_ 44 (pt_ b69 0) H95) (by kernel_rfl) (u132.l_) ?_
 have d133 := (hb72.djn (m50.lt.le e65.n))
 have u134 := (((u80.fr e77 (hb66.djn m50.lt)).fr e83 d133).fr e96 dn_)
 obtain ⟨y135, hy136, r137⟩ := bs_ r129
 refine dk_ (c_viaductref11_New e96.wf u134.sq hy136) ?_
 rintro _ H142 ⟨s138, f139, s140, f141, rfl, e143, m144, m145, i146, i147, d148⟩
 obtain ⟨a151, n152, c153, rfl⟩ := m144.form
 obtain ⟨a154, n155, c156, rfl⟩ := m145.form
 have u157 := (u132.frS e143 dn_)
 refine ⟨st_ql (y := aL_ 44 (pt_ b69 0) H142) (by kernel_rfl) (u157.l_) (st_nil), ?_⟩
 have n162 := (t_ e34.n e49.n)
 have d163 := (hb66.djn (r30.ltF.le n162))
 have n164 := (t_ (t_ e34.n e49.n) e65.n)
 have d165 := (hb72.djn (r30.ltF.le n164))
 have u166 := ((((((((r30.ext e34).frS e49 dn_).ext e65).ext e71).frS e77 d163).frS e83 d165).frS e96 dn_).frS e143 dn_)
 obtain ⟨H158, q159, e160, r161⟩ := ra_ 33 0 e143.wf u166 [.slice a151 n152 c153, .slice a154 n155 c156] [.slice a151 n152 c153, .slice a154 n155 c156]
 have u167 := (u157.frS e160 (Dj.symm d165))
 refine fk_ q159 (st_ql (y := aL_ 44 (pt_ b69 0) H158) (by kernel_rfl) (u167.l_) (st_nil)) ?_
 have d172 := (hb66.djn (r36.ltF.le e49.n))
 have n173 := (t_ e49.n e65.n)
 have d174 := (hb72.djn (r36.ltF.le n173))
 have d175 := (hb35.djn r30.ltF)
 have u176 := ((((((((r36.frS e49 dn_).ext e65).ext e71).frS e77 d172).frS e83 d174).frS e96 dn_).frS e143 dn_).frS e160 (Dj.symm d175))
 have d177 := (i53.djn (r30.ltF.le e34.n))
 have u178 := (((u91.fr e96 dn_).fr e143 dn_).fr e160 (Dj.symm d177))
 obtain ⟨H168, q169, e170, r171⟩ := ra_ 44 0 e160.wf u176 [i_ y41.2.2.1, .slice a60 n61 c62] [i_ y41.2.2.1, .slice a60 n61 c62]
 refine fk_ q169 (st_anc (by kernel_rfl) (st_nil)) ?_
 refine d_nil ?_
 refine k130 _ _ ?_
 refine w_ret ?_
 have u179 := (r161.frS e170 d175)
 refine b_ret (vs := [.agg #[.slice a151 n152 c153, .slice a154 n155 c156], .agg #[i_ y41.2.2.1, .slice a60 n61 c62]]) (aRes_cell (Eq.trans (b := aL_ 33 (pt_ b26 0) H168) (by kernel_rfl) (u179.l_)) (aRes_cell (Eq.trans (b := aL_ 44 (pt_ b32 0) H168) (by kernel_rfl) (r171.l_)) (rfl))) ?_
 have n180 := (t_ (t_ (t_ e22.n e28.n) e34.n) e49.n)
 have n181 := (t_ (t_ (t_ (t_ e22.n e28.n) e34.n) e49.n) e65.n)
 have n182 := (t_ e22.n e28.n)
 have n183 := (t_ (t_ (t_ (t_ (t_ (t_ e34.n e49.n) e65.n) e71.n) e77.n) e83.n) e96.n)
 have d184 := (i146.djn (r30.ltF.le n183))
 have n185 := (t_ (t_ (t_ (t_ (t_ e49.n e65.n) e71.n) e77.n) e83.n) e96.n)
 have d186 := (i146.djn (r36.ltF.le n185))
 have u187 := ((m144.fr e160 (Dj.symm d184)).fr e170 (Dj.symm d186))
 have d188 := (i147.djn (r30.ltF.le n183))
 have d189 := (i147.djn (r36.ltF.le n185))
 have u190 := ((m145.fr e160 (Dj.symm d188)).fr e170 (Dj.symm d189))
 have d191 := (i53.djn r36.ltF)
 have u192 := (u178.fr e170 (Dj.symm d191))
 have n193 := (t_ (t_ (t_ (t_ (t_ (t_ (t_ (t_ e22.n e28.n) e34.n) e49.n) e65.n) e71.n) e77.n) e83.n) e96.n)
 have n194 := (t_ (t_ e22.n e28.n) e34.n)
 have n195 := (t_ (t_ (t_ (t_ e65.n e71.n) e77.n) e83.n) e96.n)
 have d196 := (i146.djn (m51.lt.le n195))
 have d197 := (i147.djn (m51.lt.le n195))
 obtain rfl := oi_ r137
 exact ⟨(.slice a151 n152 c153), f139, (.slice a154 n155 c156), f141, (.slice a60 n61 c62), f47, rfl, (fs_ wf (fs_ wf (fs_ wf (fs_ wf (fs_ wf (fs_ wf (((fs_ wf ((((f0_ wf).extR e22).extR e28).extR e34) e49 in_).extR e65).extR e71) e77 (hb66.fresh n180)) e83 (hb72.fresh n181)) e96 in_) e143 in_) e160 (hb29.fresh e22.n)) e170 (hb35.fresh n182)), u187, u190, u192, (i146.fresh n193), (i147.fresh n193), (i53.fresh n194), d148, d196, d197⟩
theorem c_overlay_Overlay_Alive {H : AH} {b_o : Nat} {hd_o_ : Value} {fp_o_ : Fp} {o_ : List (Bool × List (Int × Int × Int) × List (Int × Int × Int))} {o_2 : Int} {o_3 : Int} {v_ : Int} {r : Bool}
    (wf : WF H) (h_o_ : Nd enc_i64_u64_i64 3 H hd_o_ o_ fp_o_ []) (h_o : Row H b_o [hd_o_, i_ o_2, i_ o_3]) (hr : z_overlay_Overlay_Alive o_ o_2 o_3 v_ = some r) :
    ACalls Tryz.prog 42 #[pt_ b_o 0, i_ v_] H fun v H' => v = .bool r /\ H = H' := by
 refine ab_ Tryz.func42 ?_
 unfold z_overlay_Overlay_Alive at hr
 refine sq_ fun k1 => g_' (q_ (.bool false) (s_nil (k1 _ _ (sq_ fun k2 => g_' (q_ (pt_ b_o 0) (q_ (.bool true) (q_ (.bool true) (q_ (i_ v_) ?_))))))))
 refine sb_ (v_ ≥ 0) (fun h3 => ?_) fun h3 => ?_
 ·have r4 := ite_t h3 hr
  refine q_ (.bool true) (q_ (.bool true) (q_ (i_ v_) (q_ (pt_ b_o 0) (q_ (pt_ b_o 0) (q_ (pt_ b_o 0) (lr_ 123 0 (hd_o_) h_o (h_o_.ln_ 123 ?_)))))))
  refine sb_ (v_ < (o_.length : Int)) (fun h5 => ?_) fun h5 => ?_
  ·have r6 := ite_t h5 r4
   refine q_ (.bool true) (q_ (.bool true) (q_ (pt_ b_o 0) (q_ (pt_ b_o 0) (q_ (pt_ b_o 0) (lr_ 123 0 (hd_o_) h_o (q_ (i_ v_) ?_))))))
   obtain ⟨g7, r8⟩ := G_some r6
   refine h_o_.ix_ 123 g7 h5 (l_' (elp hd_o_ 3 v_.toNat 0) (aFieldAddr Tryz.prog 138 (elp hd_o_ 3 v_.toNat 0) 0) (Nd.fldq (d := 0) h_o_ g7 h5 (by kernel_rfl)) ?_)
   obtain ⟨u9, u10, hl11, hk12⟩ := Nd.at h_o_ g7 h5
   refine l_' (.bool ((gt o_ v_).1)) (aL_ 4 (elp hd_o_ 3 v_.toNat 0) H) (hl11 _ _ _ _ (by kernel_rfl)) (q_ (.bool (!(gt o_ v_).1)) (q_ (.bool (!(gt o_ v_).1)) (q_ (.bool (!(gt o_ v_).1)) (s_nil (k2 _ _ ?_)))))
   refine w_ret ?_
   refine br_ [.bool (!(gt o_ v_).1)] ?_
   obtain rfl := oi_ r8
   exact ⟨rfl, rfl⟩
  have r13 := ite_f h5 r4
  refine q_ (.bool false) (q_ (.bool false) (n_' (n_' (n_' (n_' (n_' (n_' (n_' (n_' (n_' (q_ (.bool false) (q_ (.bool false) (s_nil (k2 _ _ ?_))))))))))))))
  refine w_ret ?_
  refine br_ [.bool false] ?_
  obtain rfl := oi_ r13
  exact ⟨rfl, rfl⟩
 have r14 := ite_f h3 hr
 refine q_ (.bool false) (q_ (.bool false) (n_' (n_' (n_' (n_' (n_' (n_' (n_' (q_ (.bool false) (q_ (.bool false) (n_' (n_' (n_' (n_' (n_' (n_' (n_' (n_' (n_' (q_ (.bool false) (q_ (.bool false) (s_nil (k2 _ _ ?_)))))))))))))))))))))))
 refine w_ret ?_
 refine br_ [.bool false] ?_
 obtain rfl := oi_ r14
 exact ⟨rfl, rfl⟩
theorem c_overlay_find_1 {H : AH} {Node : Int} {Weight : Int} {Via : Int} {v_ : Int} {r : Int}
    (wf : WF H) (hr : z_overlay_find_1 Node Weight Via v_ = some r) :
    ACalls Tryz.prog 101 #[.agg #[i_ Node, .int .u64 Weight, i_ Via], i_ v_] H fun v H' => v = i_ r /\ FrS [] H H' := by
 refine ab_ Tryz.func101 ?_
 unfold z_overlay_find_1 at hr
 refine sq_ fun k1 => g_' ?_
 refine rl_ wf [i_ Node, .int .u64 Weight, i_ Via] fun b2 H3 e4 hb5 r6 => ?_
 refine q_ (i_ 0) (s_nil (k1 _ _ (sq_ fun k8 => g_' (q_ (pt_ b2 0) (lr_ 3 0 (i_ Node) r6 (q_ (i_ v_) (q_ (i_ (IntKind.i64.wrap (Node - v_))) (q_ (i_ (IntKind.i64.wrap (Node - v_))) (s_nil (k8 _ _ ?_))))))))))
 refine w_ret ?_
 refine br_ [i_ (IntKind.i64.wrap (Node - v_))] ?_
 obtain rfl := oi_ hr
 exact ⟨rfl, ((f0_ wf).extR e4)⟩
theorem c_slices_BinarySearchFunc {H : AH} {hd_x : Value} {fp_x : Fp} {x : List (Int × Int × Int)} {target : Int} {r : Int × Bool}
    (wf : WF H) (h_x : Sq enc_i64_u64_i64 3 H hd_x x fp_x) (hr : z_slices_BinarySearchFunc x target = some r) :
    ACalls Tryz.prog 100 #[hd_x, i_ target, .func (.func 101) #[] #[]] H fun v H' => v = .tuple #[i_ r.1, .bool r.2] /\ FrS [] H H' := by
 refine ab_ Tryz.func100 ?_
 unfold z_slices_BinarySearchFunc at hr
 refine sq_ fun k1 => g_' (q_ (i_ 0) (q_ (.bool false) (s_nil (k1 _ _ (sq_ fun k2 => g_' (q_ (hd_x) (h_x.ln_ 75 (q_ (i_ (x.length : Int)) (s_nil (k2 _ _ (sq_ fun k3 => g_' (q_ (i_ (x.length : Int)) (q_ (i_ 0) (q_ (i_ (x.length : Int)) (s_nil (k3 _ _ (sq_ fun k4 => ?_)))))))))))))))))
 obtain ⟨o5, hx6, r7⟩ := bs_ hr
 refine w_mid (fun α H8 => Has α [(0, hd_x), (1, i_ target), (2, .func (.func 101) #[] #[]), (8, i_ (x.length : Int)), (9, i_ o5)] /\ FrS [] H H8) (fun _ k10 => ?_) (fun α H8 hM => ?_)
 ·refine w_block ?_
  obtain ⟨n12, hn13⟩ := loopO_iff.1 hx6
  refine w_loopn (fun n α H14 => ∃ (j0 : Int), ∃ (i1 : Int), iterO (fun zz_ => z_slices_BinarySearchFunc_l0 x target zz_.1 zz_.2) n (j0, i1) = some o5 /\ Has α [(0, hd_x), (1, i_ target), (2, .func (.func 101) #[] #[]), (8, i_ (x.length : Int)), (9, i_ i1), (10, i_ j0)] /\ FrS [] H H14) n12 ⟨(x.length : Int), 0, hn13, ha_, (f0_ wf)⟩ ?_
  rintro n12 α H14 ⟨j0, i1, hi17, hh16, e15⟩ K22 k22
  obtain ⟨n18, z19, rfl, hz20, hn21⟩ := iter_succ hi17
  obtain ⟨β, rfl⟩ := has_ex hh16
  clear hh16
  replace hz20 : z_slices_BinarySearchFunc_l0 x target j0 i1 = some z19 := hz20
  unfold z_slices_BinarySearchFunc_l0 at hz20
  refine sq_ fun k23 => sq_ fun k24 => g_' (q_ (i_ i1) (q_ (i_ j0) (q_ (.bool (decide (i1 < j0))) (s_nil (k24 _ _ ?_)))))
  refine wc_ (i1 < j0) (fun h25 => ?_) fun h25 => ?_
  ·have r26 := ite_t h25 hz20
   refine w_skip (k23 _ _ (w_block (sq_ fun k27 => g_' (q_ (i_ i1) (q_ (i_ j0) ?_)))))
   obtain ⟨g28, r29⟩ := G_some r26
   refine w_' ((i1 + j0)) (wrap64 g28) ?_
   obtain ⟨g30, r31⟩ := G_some r29
   refine s_w ((i1 + j0)) (k := .u64) (x := (i1 + j0)) (by kernel_rfl) (wrapu64 g30) ?_
   refine l_' (.int .u64 ((i1 + j0) / 2)) (some (.int .u64 (Int.fdiv (i1 + j0) 2))) (by rw [Int.fdiv_eq_ediv_of_nonneg _ (by decide)]) ?_
   obtain ⟨g32, r33⟩ := G_some r31
   refine w_' (((i1 + j0) / 2)) (wrap64 g32) (q_ (i_ ((i1 + j0) / 2)) (s_nil (k27 _ _ (sq_ fun k34 => g_' (q_ (.func (.func 101) #[] #[]) (q_ (hd_x) (q_ (i_ ((i1 + j0) / 2)) ?_)))))))
   obtain ⟨g35, r36⟩ := G_some r33
   have u37 := (h_x.fr e15 dn_)
   refine u37.ix_ 75 g35.1 g35.2 (le_ 80 0 (.agg #[i_ ((gt x ((i1 + j0) / 2)).1), .int .u64 ((gt x ((i1 + j0) / 2)).2.1), i_ ((gt x ((i1 + j0) / 2)).2.2)]) u37 g35.1 g35.2 (q_ (i_ target) ?_))
   obtain ⟨y38, hy39, r40⟩ := bs_ r36
   refine ck_ (c_overlay_find_1 e15.wf hy39) ?_
   rintro _ H41 ⟨rfl, e42⟩
   refine q_ (.bool (decide (y38 < 0))) (s_nil (k34 _ _ ?_))
   refine wc_ (y38 < 0) (fun h43 => ?_) fun h43 => ?_
   ·have r44 := ite_t h43 r40
    refine g_' (q_ (i_ ((i1 + j0) / 2)) ?_)
    obtain ⟨g45, r46⟩ := G_some r44
    refine w_' ((((i1 + j0) / 2) + 1)) (wrap64 (by have := g45; omega)) (q_ (i_ (((i1 + j0) / 2) + 1)) (s_nil ?_))
    obtain rfl := oi_ r46
    exact k22 n18 _ _ lt_ ⟨j0, (((i1 + j0) / 2) + 1), hn21, ha_, (fs_ wf (fs_ wf (f0_ wf) e15 in_) e42 in_)⟩
   have r47 := ite_f h43 r40
   refine g_' (q_ (i_ ((i1 + j0) / 2)) (q_ (i_ ((i1 + j0) / 2)) (s_nil ?_)))
   obtain rfl := oi_ r47
   exact k22 n18 _ _ lt_ ⟨((i1 + j0) / 2), i1, hn21, ha_, (fs_ wf (fs_ wf (f0_ wf) e15 in_) e42 in_)⟩
  have r48 := ite_f h25 hz20
  refine w_exit (th_exit (th_exit (bl_eq ?_)))
  obtain rfl := oi_ r48
  obtain rfl := it_inr hn21
  exact k10 _ _ ⟨ha_, (fs_ wf (f0_ wf) e15 in_)⟩
 obtain ⟨hh11, e9⟩ := hM
 obtain ⟨β, rfl⟩ := has_ex hh11
 clear hh11
 refine k4 _ _ (sq_ fun k49 => g_' (q_ (i_ o5) (q_ (i_ o5) (q_ (i_ (x.length : Int)) ?_))))
 refine sb_ (o5 < (x.length : Int)) (fun h50 => ?_) fun h50 => ?_
 ·have r51 := ite_t h50 r7
  refine q_ (.bool true) (q_ (.func (.func 101) #[] #[]) (q_ (hd_x) (q_ (i_ o5) ?_)))
  obtain ⟨g52, r53⟩ := G_some r51
  have u54 := (h_x.fr e9 dn_)
  refine u54.ix_ 75 g52 h50 (le_ 80 0 (.agg #[i_ ((gt x o5).1), .int .u64 ((gt x o5).2.1), i_ ((gt x o5).2.2)]) u54 g52 h50 (q_ (i_ target) ?_))
  obtain ⟨y55, hy56, r57⟩ := bs_ r53
  refine ck_ (c_overlay_find_1 e9.wf hy56) ?_
  rintro _ H58 ⟨rfl, e59⟩
  refine q_ (.bool (decide (y55 = 0))) (q_ (.bool (decide (y55 = 0))) (q_ (i_ o5) (q_ (.bool (decide (y55 = 0))) (s_nil (k49 _ _ ?_)))))
  refine w_ret ?_
  refine br_ [i_ o5, .bool (decide (y55 = 0))] ?_
  obtain rfl := oi_ r57
  exact ⟨rfl, (fs_ wf (fs_ wf (f0_ wf) e9 in_) e59 in_)⟩
 have r60 := ite_f h50 r7
 refine q_ (.bool false) (n_' (n_' (n_' (n_' (n_' (n_' (n_' (n_' (q_ (.bool false) (q_ (i_ o5) (q_ (.bool false) (s_nil (k49 _ _ ?_)))))))))))))
 refine w_ret ?_
 refine br_ [i_ o5, .bool false] ?_
 obtain rfl := oi_ r60
 exact ⟨rfl, (fs_ wf (f0_ wf) e9 in_)⟩
theorem c_overlay_find {H : AH} {hd_l : Value} {fp_l : Fp} {l : List (Int × Int × Int)} {v_ : Int} {r : Int × Bool}
    (wf : WF H) (h_l : Sq enc_i64_u64_i64 3 H hd_l l fp_l) (hr : z_overlay_find l v_ = some r) :
    ACalls Tryz.prog 85 #[hd_l, i_ v_] H fun v H' => v = .tuple #[i_ r.1, .bool r.2] /\ FrS [] H H' := by
 refine ab_ Tryz.func85 ?_
 unfold z_overlay_find at hr
 refine sq_ fun k1 => g_' (q_ (i_ 0) (q_ (.bool false) (s_nil (k1 _ _ (sq_ fun k2 => g_' (q_ (hd_l) (q_ (i_ v_) ?_)))))))
 obtain ⟨y3, hy4, r5⟩ := bs_ hr
 refine ck_ (c_slices_BinarySearchFunc wf h_l hy4) ?_
 rintro _ H6 ⟨rfl, e7⟩
 refine q_ (i_ y3.1) (q_ (.bool y3.2) (q_ (i_ y3.1) (q_ (.bool y3.2) (s_nil (k2 _ _ ?_)))))
 refine w_ret ?_
 refine br_ [i_ y3.1, .bool y3.2] ?_
 obtain rfl := oi_ r5
 exact ⟨rfl, (fs_ wf (f0_ wf) e7 in_)⟩
theorem c_overlay_Overlay_Weight {H : AH} {b_o : Nat} {hd_o_ : Value} {fp_o_ : Fp} {o_ : List (Bool × List (Int × Int × Int) × List (Int × Int × Int))} {o_2 : Int} {o_3 : Int} {u : Int} {w : Int} {r : Int × Bool}
    (wf : WF H) (h_o_ : Nd enc_i64_u64_i64 3 H hd_o_ o_ fp_o_ []) (h_o : Row H b_o [hd_o_, i_ o_2, i_ o_3]) (hr : z_overlay_Overlay_Weight o_ o_2 o_3 u w = some r) :
    ACalls Tryz.prog 61 #[pt_ b_o 0, i_ u, i_ w] H fun v H' => v = .tuple #[.int .u64 r.1, .bool r.2] /\ FrS [] H H' := by
 refine ab_ Tryz.func61 ?_
 unfold z_overlay_Overlay_Weight at hr
 refine sq_ fun k1 => g_' (q_ (.int .u64 0) (q_ (.bool false) (s_nil (k1 _ _ (sq_ fun k2 => sq_ fun k3 => g_' (q_ (pt_ b_o 0) (q_ (i_ u) ?_)))))))
 obtain ⟨y4, hy5, r6⟩ := bs_ hr
 refine ck_ (c_overlay_Overlay_Alive wf h_o_ h_o hy5) ?_
 rintro _ _ ⟨rfl, rfl⟩
 refine q_ (.bool (!y4)) (s_nil (k3 _ _ ?_))
 refine wb_ ((!y4)) (fun h9 => ?_) fun h9 => ?_
 ·have r10 := ite_t h9 r6
  refine sq_ fun k11 => g_' (q_ (.int .u64 0) (q_ (.bool false) (s_nil (k11 _ _ ?_))))
  refine w_ret (th_ret ?_)
  refine br_ [.int .u64 0, .bool false] ?_
  obtain rfl := oi_ r10
  exact ⟨rfl, (f0_ wf)⟩
 have r12 := ite_bf h9 r6
 refine w_skip (k2 _ _ (sq_ fun k13 => g_' (q_ (pt_ b_o 0) (q_ (pt_ b_o 0) (q_ (pt_ b_o 0) (lr_ 123 0 (hd_o_) h_o (q_ (i_ u) ?_)))))))
 obtain ⟨g14, r15⟩ := G_some r12
 refine h_o_.ix_ 123 g14.1 g14.2 (l_' (elp hd_o_ 3 u.toNat 1) (aFieldAddr Tryz.prog 138 (elp hd_o_ 3 u.toNat 0) 1) (Nd.fldq (d := 1) h_o_ g14.1 g14.2 (by kernel_rfl)) ?_)
 obtain ⟨u16, u17, hl18, hk19⟩ := Nd.at h_o_ g14.1 g14.2
 have kd20 : KdS enc_i64_u64_i64 3 H u16 ((gt o_ u).2.1) fp_o_ hd_o_ 3 u.toNat 1 := hk19 false (by simp)
 obtain ⟨a21, n22, c23, rfl⟩ := kd20.sq.form
 refine l_' (.slice a21 n22 c23) (aL_ 75 (elp hd_o_ 3 u.toNat 1) H) (hl18 _ _ _ _ (by kernel_rfl)) (q_ (i_ w) ?_)
 obtain ⟨y25, hy26, r27⟩ := bs_ r15
 refine ck_ (c_overlay_find wf kd20.sq hy26) ?_
 rintro _ H28 ⟨rfl, e29⟩
 refine q_ (.tuple #[i_ y25.1, .bool y25.2]) (q_ (i_ y25.1) (q_ (.bool y25.2) (q_ (i_ y25.1) (q_ (.bool y25.2) (s_nil (k13 _ _ (sq_ fun k30 => sq_ fun k31 => g_' (q_ (.bool y25.2) (q_ (.bool (!y25.2)) (s_nil (k31 _ _ ?_)))))))))))
 refine wb_ ((!y25.2)) (fun h32 => ?_) fun h32 => ?_
 ·have r33 := ite_t h32 r27
  refine sq_ fun k34 => g_' (q_ (.int .u64 0) (q_ (.bool false) (s_nil (k34 _ _ ?_))))
  refine w_ret (th_ret ?_)
  refine br_ [.int .u64 0, .bool false] ?_
  obtain rfl := oi_ r33
  exact ⟨rfl, (fs_ wf (f0_ wf) e29 in_)⟩
 have r35 := ite_bf h32 r27
 refine w_skip (k30 _ _ (sq_ fun k36 => g_' (q_ (pt_ b_o 0) (q_ (pt_ b_o 0) (q_ (pt_ b_o 0) ?_)))))
 have u37 := (h_o.frS e29 dn_)
 refine lr_ 123 0 (hd_o_) u37 (q_ (i_ u) ?_)
 have u38 := (h_o_.fr e29 dn_)
 refine u38.ix_ 123 g14.1 g14.2 (l_' (elp hd_o_ 3 u.toNat 1) (aFieldAddr Tryz.prog 138 (elp hd_o_ 3 u.toNat 0) 1) (Nd.fldq (d := 1) u38 g14.1 g14.2 (by kernel_rfl)) ?_)
 obtain ⟨u39, u40, hl41, hk42⟩ := Nd.at u38 g14.1 g14.2
 have kd43 : KdS enc_i64_u64_i64 3 H28 u39 ((gt o_ u).2.1) fp_o_ hd_o_ 3 u.toNat 1 := hk42 false (by simp)
 obtain ⟨a44, n45, c46, rfl⟩ := kd43.sq.form
 refine l_' (.slice a44 n45 c46) (aL_ 75 (elp hd_o_ 3 u.toNat 1) H28) (hl41 _ _ _ _ (by kernel_rfl)) (q_ (i_ y25.1) ?_)
 obtain ⟨g48, r49⟩ := G_some r35
 refine kd43.sq.ix_ 75 g48.1 g48.2 (l_' (elp (.slice a44 n45 c46) 3 y25.1.toNat 1) (aFieldAddr Tryz.prog 80 (elp (.slice a44 n45 c46) 3 y25.1.toNat 0) 1) (Sq.fldq (d := 1) kd43.sq g48.1 g48.2 (by kernel_rfl)) (le_ 27 1 (.int .u64 ((gt ((gt o_ u).2.1) y25.1).2.1)) kd43.sq g48.1 g48.2 (q_ (.int .u64 ((gt ((gt o_ u).2.1) y25.1).2.1)) (q_ (.bool true) (s_nil (k36 _ _ ?_))))))
 refine w_ret ?_
 refine br_ [.int .u64 ((gt ((gt o_ u).2.1) y25.1).2.1), .bool true] ?_
 obtain rfl := oi_ r49
 exact ⟨rfl, (fs_ wf (f0_ wf) e29 in_)⟩
theorem c_overlay_laid {H : AH} {hd_l : Value} {fp_l : Fp} {l : List (Int × Int × Int)} {Node : Int} {Weight : Int} {Via : Int} {r : List (Int × Int × Int)}
    (wf : WF H) (h_l : Ow enc_i64_u64_i64 3 H hd_l l fp_l) (hr : z_overlay_laid l Node Weight Via = some r) :
    ACalls Tryz.prog 62 #[hd_l, .agg #[i_ Node, .int .u64 Weight, i_ Via]] H fun v H' => ∃ (s3 : Value) (f4 : Fp), v = s3 /\ FrS fp_l H H' /\ Ow enc_i64_u64_i64 3 H' s3 r f4 /\ Inn fp_l H f4 := by
 refine ab_ Tryz.func62 ?_
 unfold z_overlay_laid at hr
 refine sq_ fun k6 => g_' ?_
 refine rl_ wf [i_ Node, .int .u64 Weight, i_ Via] fun b7 H8 e9 hb10 r11 => ?_
 refine q_ (.slice none 0 0) (s_nil (k6 _ _ (sq_ fun k13 => g_' (q_ (hd_l) (q_ (pt_ b7 0) (lr_ 3 0 (i_ Node) r11 ?_))))))
 have u14 := (h_l.ext e9)
 obtain ⟨y15, hy16, r17⟩ := bs_ hr
 refine ck_ (c_overlay_find e9.wf u14.sq hy16) ?_
 rintro _ H18 ⟨rfl, e19⟩
 refine q_ (.tuple #[i_ y15.1, .bool y15.2]) (q_ (i_ y15.1) (q_ (.bool y15.2) (q_ (i_ y15.1) (q_ (.bool y15.2) (s_nil (k13 _ _ (sq_ fun k20 => sq_ fun k21 => g_' (q_ (.bool y15.2) (s_nil (k21 _ _ ?_))))))))))
 refine wb_ (y15.2) (fun h22 => ?_) fun h22 => ?_
 ·have r23 := ite_t h22 r17
  refine sq_ fun k24 => g_' (q_ (hd_l) (q_ (i_ y15.1) ?_))
  have u25 := (r11.frS e19 dn_)
  refine lr_ 80 0 (.agg #[i_ Node, .int .u64 Weight, i_ Via]) u25 ?_
  obtain ⟨g26, r27⟩ := G_some r23
  have u28 := (u14.fr e19 dn_)
  refine u28.sq.ix_ 75 g26.1 g26.2 ?_
  obtain ⟨H29, q30, e31, hm32⟩ := Ow.store (P := Tryz.prog) (t := 80) (off := 0) e19.wf u28 g26.1 g26.2 (.agg #[i_ Node, .int .u64 Weight, i_ Via]) [i_ Node, .int .u64 Weight, i_ Via] (by kernel_rfl) (by kernel_rfl) rfl (Node, Weight, Via) (Nat.le_of_ble_eq_true rfl) (by kernel_rfl)
  refine ek_ q30 (s_nil (k24 _ _ (sq_ fun k33 => g_' (q_ (hd_l) (q_ (hd_l) (s_nil (k33 _ _ ?_)))))))
  refine w_ret (th_ret ?_)
  refine br_ [hd_l] ?_
  obtain rfl := oi_ r27
  exact ⟨(hd_l), fp_l, rfl, (fs_ wf (fs_ wf ((fr_ wf).extR e9) e19 in_) e31 ir_), hm32, ir_⟩
 have r34 := ite_bf h22 r17
 refine w_skip (k20 _ _ (sq_ fun k35 => g_' (q_ (hd_l) (q_ (i_ y15.1) ?_))))
 have u36 := (r11.frS e19 dn_)
 refine lr_ 80 0 (.agg #[i_ Node, .int .u64 Weight, i_ Via]) u36 ?_
 refine s_owk (enc := enc_i64_u64_i64) (sz := 3) e19.wf [(Node, Weight, Via)] 1 (by decide) (fun _ _ => rfl) (fun _ _ => rfl) rfl (by kernel_rfl) fun s37 f38 H39 e40 hf41 hm42 => ?_
 obtain ⟨a43, n44, c45, rfl⟩ := hm42.form
 have u47 := ((u14.fr e19 dn_).ext e40)
 obtain ⟨g48, r49⟩ := G_some r34
 have n50 := (t_ e9.n e19.n)
 have d51 := (hf41.djn (h_l.lt.le n50))
 refine s_ck 86 #[hd_l, i_ y15.1, .slice a43 n44 c45] (by kernel_rfl) (a_Insert e40.wf u47 hm42 (Dj.symm d51) g48) ?_
 rintro s52 H53 ⟨f54, e55, hm56, hf57⟩
 obtain ⟨a58, n59, c60, rfl⟩ := hm56.form
 refine q_ (.slice a58 n59 c60) (s_nil (k35 _ _ ?_))
 refine w_ret ?_
 refine br_ [.slice a58 n59 c60] ?_
 have n62 := (t_ (t_ e9.n e19.n) e40.n)
 obtain rfl := oi_ r49
 exact ⟨(.slice a58 n59 c60), f54, rfl, (fs_ wf ((fs_ wf ((fr_ wf).extR e9) e19 in_).extR e40) e55 ir_), hm56, (Inn.trans ir_ n62 hf57)⟩
end Go.Vd

/-! (KWf3) -/

set_option maxRecDepth 100000
set_option maxHeartbeats 4000000
set_option linter.unusedVariables false
namespace Go.Vd
open Go.Proofs
attribute [local irreducible] wpSeq wpOrd aWp
theorem c_overlay_Overlay_Put {H : AH} {b_o : Nat} {hd_o_ : Value} {fp_o_ : Fp} {o_ : List (Bool × List (Int × Int × Int) × List (Int × Int × Int))} {o_2 : Int} {o_3 : Int} {u : Int} {w : Int} {weight : Int} {via : Int} {r : Bool × Er × List (Bool × List (Int × Int × Int) × List (Int × Int × Int)) × Int}
    (wf : WF H) (h_o_ : Nd enc_i64_u64_i64 3 H hd_o_ o_ fp_o_ []) (h_o : Row H b_o [hd_o_, i_ o_2, i_ o_3]) (dj_b_o_fp_o_ : Dj [b_o] fp_o_) (hr : z_overlay_Overlay_Put o_ o_2 o_3 u w weight via = some r) :
    ACalls Tryz.prog 36 #[pt_ b_o 0, i_ u, i_ w, .int .u64 weight, i_ via] H fun v H' => ∃ (v3 : Value) (f4 : Fp) (f7 : Fp), v = .tuple #[.bool r.1, v3] /\ FrS ([b_o] ++ fp_o_) H H' /\ Ev 78 116 H' v3 r.2.1 f4 /\ Nd enc_i64_u64_i64 3 H' hd_o_ r.2.2.1 f7 [] /\ Row H' b_o [hd_o_, i_ o_2, i_ r.2.2.2] /\ Inn [] H f4 /\ Inn fp_o_ H f7 /\ Dj f4 f7 := by
 refine ab_ Tryz.func36 ?_
 unfold z_overlay_Overlay_Put at hr
 refine sq_ fun k13 => g_' (q_ (.bool false) (q_ (.nilIface) (s_nil (k13 _ _ (sq_ fun k14 => w_block (sq_ fun k15 => g_' (q_ (pt_ b_o 0) (q_ (.bool false) (q_ (.bool false) (s_nil (k15 _ _ ?_)))))))))))
 refine wb_ false (fun h => by cases h) fun _ => ?_
 refine sq_ fun k16 => ?_
 obtain ⟨o17, hx18, r19⟩ := bs_ hr
 refine w_mid (fun α H20 => Has α [(0, pt_ b_o 0), (1, i_ u), (2, i_ w), (3, .int .u64 weight), (4, i_ via), (18, .bool o17)] /\ H = H20) (fun _ k22 => ?_) (fun α H20 hM => ?_)
 ·refine g_' (q_ (pt_ b_o 0) (q_ (i_ u) ?_))
  obtain ⟨y24, hy25, r26⟩ := bs_ hx18
  refine ck_ (c_overlay_Overlay_Alive wf h_o_ h_o hy25) ?_
  rintro _ _ ⟨rfl, rfl⟩
  by_cases h29 : y24 = true
  ·have r30 := ite_t h29 r26
   rw [h29]
   refine q_ (.bool false) (q_ (.bool false) (q_ (pt_ b_o 0) (q_ (i_ w) ?_)))
   obtain ⟨y32, hy33, r34⟩ := bs_ r30
   refine ck_ (c_overlay_Overlay_Alive wf h_o_ h_o hy33) ?_
   rintro _ _ ⟨rfl, rfl⟩
   refine q_ (.bool (!y32)) (q_ (.bool (!y32)) (q_ (.bool (!y32)) (s_nil ?_)))
   obtain rfl := oi_ r34
   exact k22 _ _ ⟨ha_, rfl⟩
  have r37 := ite_f h29 r26
  rw [nb h29]
  refine q_ (.bool true) (q_ (.bool true) (n_' (n_' (n_' (n_' (q_ (.bool true) (q_ (.bool true) (s_nil ?_))))))))
  obtain rfl := oi_ r37
  exact k22 _ _ ⟨ha_, rfl⟩
 obtain ⟨hh23, rfl⟩ := hM
 obtain ⟨β, rfl⟩ := has_ex hh23
 clear hh23
 refine k16 _ _ ?_
 refine wb_ (o17) (fun h39 => ?_) fun h39 => ?_
 ·have r40 := ite_t h39 r19
  refine sq_ fun k41 => g_' (q_ (.iface 78 (i_ 7)) (q_ (.bool false) (q_ (.iface 78 (i_ 7)) (s_nil (k41 _ _ ?_)))))
  refine w_ret (bl_ret (th_ret ?_))
  refine br_ [.bool false, .iface 78 (i_ 7)] ?_
  obtain rfl := oi_ r40
  exact ⟨(.iface 78 (i_ 7)), [], fp_o_, rfl, (fr_ wf), Ev.no, h_o_, h_o, in_, ir_, dn_⟩
 have r42 := ite_bf h39 r19
 refine sq_ fun k43 => g_' (q_ (i_ u) (q_ (i_ w) (q_ (.bool (decide (u = w))) (q_ (.bool (decide (u = w))) (s_nil (k43 _ _ ?_))))))
 refine wc_ (u = w) (fun h44 => ?_) fun h44 => ?_
 ·have r45 := ite_t h44 r42
  refine sq_ fun k46 => g_' (q_ (.iface 78 (i_ 1)) (q_ (.bool false) (q_ (.iface 78 (i_ 1)) (s_nil (k46 _ _ ?_)))))
  refine w_ret (bl_ret (th_ret ?_))
  refine br_ [.bool false, .iface 78 (i_ 1)] ?_
  obtain rfl := oi_ r45
  exact ⟨(.iface 78 (i_ 1)), [], fp_o_, rfl, (fr_ wf), Ev.no, h_o_, h_o, in_, ir_, dn_⟩
 have r47 := ite_f h44 r42
 refine sq_ fun k48 => g_' (q_ (.int .u64 weight) (q_ (.bool (decide (weight > 140737488355328))) (q_ (.bool (decide (weight > 140737488355328))) (s_nil (k48 _ _ ?_)))))
 refine wc_ (weight > 140737488355328) (fun h49 => ?_) fun h49 => ?_
 ·have r50 := ite_t h49 r47
  refine sq_ fun k51 => g_' (q_ (.iface 78 (i_ 8)) (q_ (.bool false) (q_ (.iface 78 (i_ 8)) (s_nil (k51 _ _ ?_)))))
  refine w_ret (bl_ret (th_ret ?_))
  refine br_ [.bool false, .iface 78 (i_ 8)] ?_
  obtain rfl := oi_ r50
  exact ⟨(.iface 78 (i_ 8)), [], fp_o_, rfl, (fr_ wf), Ev.no, h_o_, h_o, in_, ir_, dn_⟩
 have r52 := ite_f h49 r47
 refine sq_ fun k53 => ?_
 obtain ⟨o54, hx55, r56⟩ := bs_ r52
 refine w_mid (fun α H57 => Has α [(0, pt_ b_o 0), (1, i_ u), (2, i_ w), (3, .int .u64 weight), (4, i_ via), (39, .bool o54)] /\ H = H57) (fun _ k59 => ?_) (fun α H57 hM => ?_)
 ·refine g_' (q_ (i_ via) ?_)
  refine sb_ (via < (-1)) (fun h61 => ?_) fun h61 => ?_
  ·have r62 := ite_t h61 hx55
   refine q_ (.bool true) (n_' (n_' (n_' (n_' (n_' (n_' (n_' (q_ (.bool true) (q_ (.bool true) (n_' (n_' (n_' (n_' (n_' (n_' (n_' (n_' (n_' (n_' (n_' (n_' (n_' (q_ (.bool true) (q_ (.bool true) (s_nil ?_)))))))))))))))))))))))))
   obtain rfl := oi_ r62
   exact k59 _ _ ⟨ha_, rfl⟩
  have r63 := ite_f h61 hx55
  refine q_ (.bool false) (q_ (i_ via) (q_ (pt_ b_o 0) (q_ (pt_ b_o 0) (q_ (pt_ b_o 0) (lr_ 123 0 (hd_o_) h_o (h_o_.ln_ 123 ?_))))))
  refine sb_ (via ≥ (o_.length : Int)) (fun h64 => ?_) fun h64 => ?_
  ·have r65 := ite_t h64 r63
   refine q_ (.bool true) (q_ (.bool true) (n_' (n_' (n_' (n_' (n_' (n_' (n_' (n_' (n_' (n_' (n_' (n_' (n_' (q_ (.bool true) (q_ (.bool true) (s_nil ?_)))))))))))))))))
   obtain rfl := oi_ r65
   exact k59 _ _ ⟨ha_, rfl⟩
  have r66 := ite_f h64 r63
  refine q_ (.bool false) (q_ (.bool false) (q_ (i_ via) ?_))
  refine sb_ (via ≥ 0) (fun h67 => ?_) fun h67 => ?_
  ·have r68 := ite_t h67 r66
   refine q_ (.bool true) (q_ (pt_ b_o 0) (q_ (pt_ b_o 0) (q_ (pt_ b_o 0) (lr_ 123 0 (hd_o_) h_o (q_ (i_ via) ?_)))))
   obtain ⟨g69, r70⟩ := G_some r68
   refine h_o_.ix_ 123 g69.1 g69.2 (l_' (elp hd_o_ 3 via.toNat 0) (aFieldAddr Tryz.prog 138 (elp hd_o_ 3 via.toNat 0) 0) (Nd.fldq (d := 0) h_o_ g69.1 g69.2 (by kernel_rfl)) ?_)
   obtain ⟨u71, u72, hl73, hk74⟩ := Nd.at h_o_ g69.1 g69.2
   refine l_' (.bool ((gt o_ via).1)) (aL_ 4 (elp hd_o_ 3 via.toNat 0) H) (hl73 _ _ _ _ (by kernel_rfl)) (q_ (.bool (!(gt o_ via).1)) (q_ (.bool (!(gt o_ via).1)) (q_ (.bool (!(gt o_ via).1)) (q_ (.bool (!(gt o_ via).1)) (s_nil ?_)))))
   obtain rfl := oi_ r70
   exact k59 _ _ ⟨ha_, rfl⟩
  have r75 := ite_f h67 r66
  refine q_ (.bool false) (n_' (n_' (n_' (n_' (n_' (n_' (n_' (n_' (n_' (q_ (.bool false) (q_ (.bool false) (q_ (.bool false) (s_nil ?_)))))))))))))
  obtain rfl := oi_ r75
  exact k59 _ _ ⟨ha_, rfl⟩
 obtain ⟨hh60, rfl⟩ := hM
 obtain ⟨β, rfl⟩ := has_ex hh60
 clear hh60
 refine k53 _ _ ?_
 refine wb_ (o54) (fun h76 => ?_) fun h76 => ?_
 ·have r77 := ite_t h76 r56
  refine sq_ fun k78 => g_' (q_ (.iface 78 (i_ 1)) (q_ (.bool false) (q_ (.iface 78 (i_ 1)) (s_nil (k78 _ _ ?_)))))
  refine w_ret (bl_ret (th_ret ?_))
  refine br_ [.bool false, .iface 78 (i_ 1)] ?_
  obtain rfl := oi_ r77
  exact ⟨(.iface 78 (i_ 1)), [], fp_o_, rfl, (fr_ wf), Ev.no, h_o_, h_o, in_, ir_, dn_⟩
 have r79 := ite_bf h76 r56
 refine w_skip (k14 _ _ (sq_ fun k80 => g_' (q_ (pt_ b_o 0) (q_ (i_ u) (q_ (i_ w) ?_)))))
 obtain ⟨y81, hy82, r83⟩ := bs_ r79
 refine ck_ (c_overlay_Overlay_Weight wf h_o_ h_o hy82) ?_
 rintro _ H84 ⟨rfl, e85⟩
 refine q_ (.tuple #[.int .u64 y81.1, .bool y81.2]) (q_ (.int .u64 y81.1) (q_ (.bool y81.2) (q_ (.int .u64 y81.1) (q_ (.bool y81.2) (s_nil (k80 _ _ (sq_ fun k86 => sq_ fun k87 => ?_)))))))
 obtain ⟨o88, hx89, r90⟩ := bs_ r83
 refine w_mid (fun α H91 => Has α [(0, pt_ b_o 0), (1, i_ u), (2, i_ w), (3, .int .u64 weight), (4, i_ via), (13, .bool o88.1), (79, .bool o88.2)] /\ H84 = H91) (fun _ k93 => ?_) (fun α H91 hM => ?_)
 ·refine g_' (q_ (.bool y81.2) (q_ (.bool y81.2) ?_))
  by_cases h95 : y81.2 = true
  ·have r96 := ite_t h95 hx89
   rw [h95]
   refine q_ (.int .u64 y81.1) (q_ (.int .u64 weight) (q_ (.bool (decide (y81.1 ≤ weight))) (q_ (.bool (decide (y81.1 ≤ weight))) (s_nil ?_))))
   obtain rfl := oi_ r96
   exact k93 _ _ ⟨ha_, rfl⟩
  have r97 := ite_f h95 hx89
  rw [nb h95]
  refine n_' (n_' (n_' (q_ (.bool false) (s_nil ?_))))
  obtain rfl := oi_ r97
  exact k93 _ _ ⟨ha_, rfl⟩
 obtain ⟨hh94, rfl⟩ := hM
 obtain ⟨β, rfl⟩ := has_ex hh94
 clear hh94
 refine k87 _ _ ?_
 refine wb_ (o88.2) (fun h98 => ?_) fun h98 => ?_
 ·have r99 := ite_t h98 r90
  refine sq_ fun k100 => g_' (q_ (.bool false) (q_ (.nilIface) (s_nil (k100 _ _ ?_))))
  refine w_ret (th_ret ?_)
  refine br_ [.bool false, .nilIface] ?_
  have u101 := (h_o_.fr e85 dn_)
  have u102 := (h_o.frS e85 dn_)
  obtain rfl := oi_ r99
  exact ⟨(.nilIface), [], fp_o_, rfl, (fs_ wf (fr_ wf) e85 in_), Ev.nil, u101, u102, in_, ir_, dn_⟩
 have r103 := ite_bf h98 r90
 refine w_skip (k86 _ _ (sq_ fun k104 => sq_ fun k105 => g_' (q_ (.bool o88.1) (q_ (.bool (!o88.1)) (s_nil (k105 _ _ ?_))))))
 obtain ⟨o106, hx107, r108⟩ := bs_ r103
 refine w_mid (fun α H109 => Has α [(0, pt_ b_o 0), (1, i_ u), (2, i_ w), (3, .int .u64 weight), (4, i_ via)] /\ FrS [b_o] H84 H109 /\ Row H109 b_o [hd_o_, i_ o_2, i_ o106]) (fun _ k113 => ?_) (fun α H109 hM => ?_)
 ·refine wb_ ((!o88.1)) (fun h115 => ?_) fun h115 => ?_
  ·have r116 := ite_t h115 hx107
   refine g_' (q_ (pt_ b_o 0) (q_ (pt_ b_o 0) (q_ (pt_ b_o 2) ?_)))
   have u117 := (h_o.frS e85 dn_)
   refine lr_ 3 2 (i_ o_3) u117 ?_
   obtain ⟨g118, r119⟩ := G_some r116
   refine w_' ((o_3 + 1)) (wrap64 g118) (q_ (pt_ b_o 0) (q_ (pt_ b_o 2) ?_))
   obtain ⟨H120, q121, e122, r123⟩ := rb_ 3 2 e85.wf u117 (i_ (o_3 + 1)) [hd_o_, i_ o_2, i_ (o_3 + 1)]
   refine ek_ q121 (s_nil ?_)
   obtain rfl := oi_ r119
   exact k113 _ _ ⟨ha_, (fs_ e85.wf (fr_ e85.wf) e122 ir_), r123⟩
  have r124 := ite_bf h115 hx107
  refine w_skip ?_
  have u125 := (h_o.frS e85 dn_)
  obtain rfl := oi_ r124
  exact k113 _ _ ⟨ha_, (fr_ e85.wf), u125⟩
 obtain ⟨hh114, e110, m112⟩ := hM
 obtain ⟨β, rfl⟩ := has_ex hh114
 clear hh114
 refine k104 _ _ (sq_ fun k126 => ?_)
 refine w_draw [0, 1, 2, 3, 4, 5, 6, 7, 8, 9, 10, 11, 12, 13, 14, 15, 16, 17, 18, 19, 20] (by kernel_rfl) ?_
 refine e_' (pt_ b_o 0) (e_' (pt_ b_o 0) (e_' (pt_ b_o 0) ?_))
 refine d_fl (hd_o_) (x := aL_ 123 (pt_ b_o 0) H109) (by kernel_rfl) (m112.l_) ?_
 refine e_' (i_ u) (e_' (pt_ b_o 0) (e_' (pt_ b_o 0) (e_' (pt_ b_o 0) (mr_ 123 0 (hd_o_) m112 (e_' (i_ u) ?_)))))
 obtain ⟨g127, r128⟩ := G_some r108
 have u129 := ((h_o_.fr e85 dn_).fr e110 dj_b_o_fp_o_)
 refine u129.mx_ 123 g127.1 g127.2 (m_' (elp hd_o_ 3 u.toNat 1) (aFieldAddr Tryz.prog 138 (elp hd_o_ 3 u.toNat 0) 1) (Nd.fldq (d := 1) u129 g127.1 g127.2 (by kernel_rfl)) ?_)
 obtain ⟨u130, u131, hl132, hk133⟩ := Nd.at u129 g127.1 g127.2
 have kd134 : KdS enc_i64_u64_i64 3 H109 u130 ((gt o_ u).2.1) fp_o_ hd_o_ 3 u.toNat 1 := hk133 false (by simp)
 obtain ⟨a135, n136, c137, rfl⟩ := kd134.sq.form
 refine m_' (.slice a135 n136 c137) (aL_ 75 (elp hd_o_ 3 u.toNat 1) H109) (hl132 _ _ _ _ (by kernel_rfl)) (e_' (i_ w) (e_' (.int .u64 weight) (e_' (i_ via) (e_' (.agg #[i_ w, .int .u64 weight, i_ via]) ?_))))
 obtain ⟨f139, f140, hh141, ho142, d143, hs144, hs145⟩ := Nd.borrow false u129 g127.1 g127.2 (by simp) kd134 rfl
 have w146 := Inn.sub' (H := H109) hs144
 have w147 := Inn.sub' (H := H109) hs145
 have hh141 : Nd enc_i64_u64_i64 3 H109 hd_o_ o_ f139 [(u.toNat, false)] := hh141
 obtain ⟨y148, hy149, r150⟩ := bs_ r128
 refine dk_ (c_overlay_laid e110.wf ho142 hy149) ?_
 rintro s151 H153 ⟨_, f152, rfl, e154, m155, i156⟩
 obtain ⟨a158, n159, c160, rfl⟩ := m155.form
 have n161 := (t_ e85.n e110.n)
 have d162 := (w147.dj (Dj.symm dj_b_o_fp_o_) (h_o.ltF.le n161))
 have u163 := (m112.frS e154 d162)
 refine ⟨st_ql (y := aL_ 123 (pt_ b_o 0) H153) (by kernel_rfl) (u163.l_) (st_nil), ?_⟩
 have u164 := (hh141.fr e154 (Dj.symm d143))
 refine u164.mx_ 123 g127.1 g127.2 (m_' (elp hd_o_ 3 u.toNat 1) (aFieldAddr Tryz.prog 138 (elp hd_o_ 3 u.toNat 0) 1) (Nd.fldq (d := 1) u164 g127.1 g127.2 (by kernel_rfl)) ?_)
 have d165 := (i156.dj (Dj.symm d143) hh141.lt)
 obtain ⟨H166, f167, q168, e169, hm170, hf171⟩ := Nd.close (P := Tryz.prog) (t := 75) false e154.wf u164 m155 (Dj.symm d165) g127.1 g127.2 (by kernel_rfl) (by kernel_rfl) (by kernel_rfl)
 have hm170 : Nd enc_i64_u64_i64 3 H166 hd_o_ (o_.set u.toNat ((gt o_ u).1, y148, (gt o_ u).2.2)) f167 [] := hm170
 have w172 := hf171.grow3 (Inn.trans ir_ (Nat.le_refl _) w146) (Inn.trans (Inn.trans ir_ (Nat.le_refl _) w147) (Nat.le_refl _) i156) e154.n
 refine fk_ q168 (st_anc (by kernel_rfl) (st_nil)) ?_
 refine d_nil ?_
 refine k126 _ _ (sq_ fun k173 => ?_)
 refine w_draw [0, 1, 2, 3, 4, 5, 6, 7, 8, 9, 10, 11, 12, 13, 14, 15, 16, 17, 18, 19, 20] (by kernel_rfl) ?_
 refine e_' (pt_ b_o 0) (e_' (pt_ b_o 0) (e_' (pt_ b_o 0) ?_))
 have d174 := (w146.dj (Dj.symm dj_b_o_fp_o_) (h_o.ltF.le n161))
 have u175 := (u163.frS e169 d174)
 refine d_fl (hd_o_) (x := aL_ 123 (pt_ b_o 0) H166) (by kernel_rfl) (u175.l_) ?_
 refine e_' (i_ w) (e_' (pt_ b_o 0) (e_' (pt_ b_o 0) (e_' (pt_ b_o 0) (mr_ 123 0 (hd_o_) u175 (e_' (i_ w) ?_)))))
 obtain ⟨g176, r177⟩ := G_some r150
 refine hm170.mx_ 123 g176.1 g176.2 (m_' (elp hd_o_ 3 w.toNat 2) (aFieldAddr Tryz.prog 138 (elp hd_o_ 3 w.toNat 0) 2) (Nd.fldq (d := 2) hm170 g176.1 g176.2 (by kernel_rfl)) ?_)
 obtain ⟨u178, u179, hl180, hk181⟩ := Nd.at hm170 g176.1 g176.2
 have kd182 : KdS enc_i64_u64_i64 3 H166 u179 ((gt (o_.set u.toNat ((gt o_ u).1, y148, (gt o_ u).2.2)) w).2.2) f167 hd_o_ 3 w.toNat 2 := hk181 true (by simp)
 obtain ⟨a183, n184, c185, rfl⟩ := kd182.sq.form
 refine m_' (.slice a183 n184 c185) (aL_ 75 (elp hd_o_ 3 w.toNat 2) H166) (hl180 _ _ _ _ (by kernel_rfl)) (e_' (i_ u) (e_' (.int .u64 weight) (e_' (i_ via) (e_' (.agg #[i_ u, .int .u64 weight, i_ via]) ?_))))
 obtain ⟨f187, f188, hh189, ho190, d191, hs192, hs193⟩ := Nd.borrow true hm170 g176.1 g176.2 (by simp) kd182 rfl
 have w194 := Inn.sub' (H := H166) hs192
 have w195 := Inn.sub' (H := H166) hs193
 have hh189 : Nd enc_i64_u64_i64 3 H166 hd_o_ (o_.set u.toNat ((gt o_ u).1, y148, (gt o_ u).2.2)) f187 [(w.toNat, true)] := hh189
 obtain ⟨y196, hy197, r198⟩ := bs_ r177
 refine dk_ (c_overlay_laid e169.wf ho190 hy197) ?_
 rintro s199 H201 ⟨_, f200, rfl, e202, m203, i204⟩
 obtain ⟨a206, n207, c208, rfl⟩ := m203.form
 have d209 := (w172.dj (Dj.symm dj_b_o_fp_o_) (h_o.ltF.le n161))
 have n210 := (t_ (t_ (t_ e85.n e110.n) e154.n) e169.n)
 have d211 := (w195.dj d209 (h_o.ltF.le n210))
 have u212 := (u175.frS e202 d211)
 refine ⟨st_ql (y := aL_ 123 (pt_ b_o 0) H201) (by kernel_rfl) (u212.l_) (st_nil), ?_⟩
 have u213 := (hh189.fr e202 (Dj.symm d191))
 refine u213.mx_ 123 g176.1 g176.2 (m_' (elp hd_o_ 3 w.toNat 2) (aFieldAddr Tryz.prog 138 (elp hd_o_ 3 w.toNat 0) 2) (Nd.fldq (d := 2) u213 g176.1 g176.2 (by kernel_rfl)) ?_)
 have d214 := (i204.dj (Dj.symm d191) hh189.lt)
 obtain ⟨H215, f216, q217, e218, hm219, hf220⟩ := Nd.close (P := Tryz.prog) (t := 75) true e202.wf u213 m203 (Dj.symm d214) g176.1 g176.2 (by kernel_rfl) (by kernel_rfl) (by kernel_rfl)
 have hm219 : Nd enc_i64_u64_i64 3 H215 hd_o_ ((o_.set u.toNat ((gt o_ u).1, y148, (gt o_ u).2.2)).set w.toNat ((gt (o_.set u.toNat ((gt o_ u).1, y148, (gt o_ u).2.2)) w).1, (gt (o_.set u.toNat ((gt o_ u).1, y148, (gt o_ u).2.2)) w).2.1, y196)) f216 [] := hm219
 have w221 := hf220.grow3 (Inn.trans ir_ (Nat.le_refl _) w194) (Inn.trans (Inn.trans ir_ (Nat.le_refl _) w195) (Nat.le_refl _) i204) e202.n
 refine fk_ q217 (st_anc (by kernel_rfl) (st_nil)) ?_
 refine d_nil ?_
 refine k173 _ _ (sq_ fun k222 => g_' (q_ (.bool true) (q_ (.nilIface) (s_nil (k222 _ _ ?_)))))
 refine w_ret ?_
 refine br_ [.bool true, .nilIface] ?_
 have d223 := (w194.dj d209 (h_o.ltF.le n210))
 have u224 := (u212.frS e218 d223)
 obtain rfl := oi_ r198
 exact ⟨(.nilIface), [], f216, rfl, (fs_ wf (fs_ wf (fs_ wf (fs_ wf (fs_ wf (fs_ wf (fr_ wf) e85 in_) e110 Inn.left) e154 (Inn.trans (Inn.right ir_) n161 w147)) e169 (Inn.trans (Inn.right ir_) n161 w146)) e202 (Inn.trans (Inn.trans (Inn.right ir_) n161 w172) n210 w195)) e218 (Inn.trans (Inn.trans (Inn.right ir_) n161 w172) n210 w194)), Ev.nil, hm219, u224, in_, (Inn.trans (Inn.trans ir_ n161 w172) n210 w221), dn_⟩
theorem c_viaductref11_Lives {H : AH} {hd_Alive : Value} {fp_Alive : Fp} {hd_Arcs : Value} {fp_Arcs : Fp} {Alive : List (Bool)} {Arcs : List (Int × Int × Int × Int)} {v_ : Int} {r : Bool}
    (wf : WF H) (h_Alive : Sq encB 1 H hd_Alive Alive fp_Alive) (h_Arcs : Sq enc_i64_i64_u64_i64 4 H hd_Arcs Arcs fp_Arcs) (hr : z_viaductref11_Lives Alive Arcs v_ = some r) :
    ACalls Tryz.prog 31 #[.agg #[hd_Alive, hd_Arcs], i_ v_] H fun v H' => v = .bool r /\ FrS [] H H' := by
 refine ab_ Tryz.func31 ?_
 unfold z_viaductref11_Lives at hr
 refine sq_ fun k1 => g_' ?_
 refine s_rwl wf [hd_Alive, hd_Arcs] (one_cons (h_Alive.one1) (one_cons (h_Arcs.one1) (one_nil))) (by kernel_rfl) fun b2 H3 e4 hb5 r6 => ?_
 refine q_ (.bool false) (s_nil (k1 _ _ (sq_ fun k8 => g_' (q_ (i_ v_) ?_))))
 refine sb_ (v_ ≥ 0) (fun h9 => ?_) fun h9 => ?_
 ·have r10 := ite_t h9 hr
  refine q_ (.bool true) (q_ (i_ v_) (q_ (pt_ b2 0) (lr_ 30 0 (hd_Alive) r6 ?_)))
  have u11 := (h_Alive.ext e4)
  refine u11.ln_ 30 ?_
  refine sb_ (v_ < (Alive.length : Int)) (fun h12 => ?_) fun h12 => ?_
  ·have r13 := ite_t h12 r10
   refine q_ (.bool true) (q_ (.bool true) (q_ (pt_ b2 0) (lr_ 30 0 (hd_Alive) r6 (q_ (i_ v_) ?_))))
   obtain ⟨g14, r15⟩ := G_some r13
   refine u11.ix_ 30 g14 h12 (le_ 4 0 (.bool (gt Alive v_)) u11 g14 h12 (q_ (.bool (gt Alive v_)) (q_ (.bool (gt Alive v_)) (s_nil (k8 _ _ ?_)))))
   refine w_ret ?_
   refine br_ [.bool (gt Alive v_)] ?_
   obtain rfl := oi_ r15
   exact ⟨rfl, ((f0_ wf).extR e4)⟩
  have r16 := ite_f h12 r10
  refine q_ (.bool false) (q_ (.bool false) (n_' (n_' (n_' (n_' (n_' (q_ (.bool false) (q_ (.bool false) (s_nil (k8 _ _ ?_))))))))))
  refine w_ret ?_
  refine br_ [.bool false] ?_
  obtain rfl := oi_ r16
  exact ⟨rfl, ((f0_ wf).extR e4)⟩
 have r17 := ite_f h9 hr
 refine q_ (.bool false) (n_' (n_' (n_' (n_' (n_' (q_ (.bool false) (q_ (.bool false) (n_' (n_' (n_' (n_' (n_' (q_ (.bool false) (q_ (.bool false) (s_nil (k8 _ _ ?_))))))))))))))))
 refine w_ret ?_
 refine br_ [.bool false] ?_
 obtain rfl := oi_ r17
 exact ⟨rfl, ((f0_ wf).extR e4)⟩
theorem c_viaductref11_DocPut {H : AH} {hd_Alive : Value} {fp_Alive : Fp} {hd_Arcs : Value} {fp_Arcs : Fp} {Alive : List (Bool)} {Arcs : List (Int × Int × Int × Int)} {u : Int} {w : Int} {weight : Int} {via : Int} {r : Int}
    (wf : WF H) (h_Alive : Sq encB 1 H hd_Alive Alive fp_Alive) (h_Arcs : Sq enc_i64_i64_u64_i64 4 H hd_Arcs Arcs fp_Arcs) (hr : z_viaductref11_DocPut Alive Arcs u w weight via = some r) :
    ACalls Tryz.prog 37 #[.agg #[hd_Alive, hd_Arcs], i_ u, i_ w, .int .u64 weight, i_ via] H fun v H' => v = .agg #[i_ r, .slice none 0 0] /\ FrS [] H H' := by
 refine ab_ Tryz.func37 ?_
 unfold z_viaductref11_DocPut at hr
 refine sq_ fun k1 => g_' ?_
 refine s_rwl wf [hd_Alive, hd_Arcs] (one_cons (h_Alive.one1) (one_cons (h_Arcs.one1) (one_nil))) (by kernel_rfl) fun b2 H3 e4 hb5 r6 => ?_
 refine rk_ e4.wf [i_ 0, .slice none 0 0] fun b8 H9 e10 hb11 r12 => ?_
 refine s_nil (k1 _ _ (sq_ fun k14 => w_block (sq_ fun k15 => ?_)))
 obtain ⟨o16, hx17, r18⟩ := bs_ hr
 refine w_mid (fun α H19 => Has α [(1, i_ u), (2, i_ w), (3, .int .u64 weight), (4, i_ via), (5, pt_ b2 0), (10, pt_ b8 0), (11, .bool o16)] /\ FrS [] H9 H19) (fun _ k21 => ?_) (fun α H19 hM => ?_)
 ·refine g_' ?_
  have u23 := (r6.ext e10)
  refine lr_ 33 0 (.agg #[hd_Alive, hd_Arcs]) u23 (q_ (i_ u) ?_)
  have u24 := ((h_Alive.ext e4).ext e10)
  have u25 := ((h_Arcs.ext e4).ext e10)
  obtain ⟨y26, hy27, r28⟩ := bs_ hx17
  refine ck_ (c_viaductref11_Lives e10.wf u24 u25 hy27) ?_
  rintro _ H29 ⟨rfl, e30⟩
  by_cases h31 : y26 = true
  ·have r32 := ite_t h31 r28
   rw [h31]
   refine q_ (.bool false) (q_ (.bool false) ?_)
   have u34 := (u23.frS e30 dn_)
   refine lr_ 33 0 (.agg #[hd_Alive, hd_Arcs]) u34 (q_ (i_ w) ?_)
   have u35 := (u24.fr e30 dn_)
   have u36 := (u25.fr e30 dn_)
   obtain ⟨y37, hy38, r39⟩ := bs_ r32
   refine ck_ (c_viaductref11_Lives e30.wf u35 u36 hy38) ?_
   rintro _ H40 ⟨rfl, e41⟩
   refine q_ (.bool (!y37)) (q_ (.bool (!y37)) (q_ (.bool (!y37)) (s_nil ?_)))
   obtain rfl := oi_ r39
   exact k21 _ _ ⟨ha_, (fs_ e10.wf (fs_ e10.wf (fr_ e10.wf) e30 in_) e41 in_)⟩
  have r42 := ite_f h31 r28
  rw [nb h31]
  refine q_ (.bool true) (q_ (.bool true) (n_' (n_' (n_' (n_' (q_ (.bool true) (q_ (.bool true) (s_nil ?_))))))))
  obtain rfl := oi_ r42
  exact k21 _ _ ⟨ha_, (fs_ e10.wf (fr_ e10.wf) e30 in_)⟩
 obtain ⟨hh22, e20⟩ := hM
 obtain ⟨β, rfl⟩ := has_ex hh22
 clear hh22
 refine k15 _ _ ?_
 refine wb_ (o16) (fun h44 => ?_) fun h44 => ?_
 ·have r45 := ite_t h44 r18
  refine sq_ fun k46 => g_' ?_
  obtain ⟨y47, hy48, r49⟩ := bs_ r45
  refine ck_ (c_viaductref01_E e20.wf hy48) ?_
  rintro _ H50 ⟨rfl, e51⟩
  have u56 := ((r12.frS e20 dn_).frS e51 dn_)
  obtain ⟨H52, q53, e54, r55⟩ := ra_ 44 0 e51.wf u56 [i_ y47, .slice none 0 0] [i_ y47, .slice none 0 0]
  refine ek_ q53 (s_nil (k46 _ _ ?_))
  refine w_ret (bl_ret (th_ret ?_))
  refine b_ret (vs := [.agg #[i_ y47, .slice none 0 0]]) (aRes_cell (Eq.trans (b := aL_ 44 (pt_ b8 0) H52) (by kernel_rfl) (r55.l_)) (rfl)) ?_
  obtain rfl := oi_ r49
  exact ⟨rfl, (fs_ wf (fs_ wf (fs_ wf (((f0_ wf).extR e4).extR e10) e20 in_) e51 in_) e54 (hb11.fresh e4.n))⟩
 have r57 := ite_bf h44 r18
 refine sq_ fun k58 => g_' (q_ (i_ u) (q_ (i_ w) (q_ (.bool (decide (u = w))) (q_ (.bool (decide (u = w))) (s_nil (k58 _ _ ?_))))))
 refine wc_ (u = w) (fun h59 => ?_) fun h59 => ?_
 ·have r60 := ite_t h59 r57
  refine sq_ fun k61 => g_' ?_
  obtain ⟨y62, hy63, r64⟩ := bs_ r60
  refine ck_ (c_viaductref01_E e20.wf hy63) ?_
  rintro _ H65 ⟨rfl, e66⟩
  have u71 := ((r12.frS e20 dn_).frS e66 dn_)
  obtain ⟨H67, q68, e69, r70⟩ := ra_ 44 0 e66.wf u71 [i_ y62, .slice none 0 0] [i_ y62, .slice none 0 0]
  refine ek_ q68 (s_nil (k61 _ _ ?_))
  refine w_ret (bl_ret (th_ret ?_))
  refine b_ret (vs := [.agg #[i_ y62, .slice none 0 0]]) (aRes_cell (Eq.trans (b := aL_ 44 (pt_ b8 0) H67) (by kernel_rfl) (r70.l_)) (rfl)) ?_
  obtain rfl := oi_ r64
  exact ⟨rfl, (fs_ wf (fs_ wf (fs_ wf (((f0_ wf).extR e4).extR e10) e20 in_) e66 in_) e69 (hb11.fresh e4.n))⟩
 have r72 := ite_f h59 r57
 refine sq_ fun k73 => g_' (q_ (.int .u64 weight) (q_ (.bool (decide (weight > 140737488355328))) (q_ (.bool (decide (weight > 140737488355328))) (s_nil (k73 _ _ ?_)))))
 refine wc_ (weight > 140737488355328) (fun h74 => ?_) fun h74 => ?_
 ·have r75 := ite_t h74 r72
  refine sq_ fun k76 => g_' ?_
  obtain ⟨y77, hy78, r79⟩ := bs_ r75
  refine ck_ (c_viaductref01_E e20.wf hy78) ?_
  rintro _ H80 ⟨rfl, e81⟩
  have u86 := ((r12.frS e20 dn_).frS e81 dn_)
  obtain ⟨H82, q83, e84, r85⟩ := ra_ 44 0 e81.wf u86 [i_ y77, .slice none 0 0] [i_ y77, .slice none 0 0]
  refine ek_ q83 (s_nil (k76 _ _ ?_))
  refine w_ret (bl_ret (th_ret ?_))
  refine b_ret (vs := [.agg #[i_ y77, .slice none 0 0]]) (aRes_cell (Eq.trans (b := aL_ 44 (pt_ b8 0) H82) (by kernel_rfl) (r85.l_)) (rfl)) ?_
  obtain rfl := oi_ r79
  exact ⟨rfl, (fs_ wf (fs_ wf (fs_ wf (((f0_ wf).extR e4).extR e10) e20 in_) e81 in_) e84 (hb11.fresh e4.n))⟩
 have r87 := ite_f h74 r72
 refine sq_ fun k88 => ?_
 obtain ⟨o89, hx90, r91⟩ := bs_ r87
 refine w_mid (fun α H92 => Has α [(10, pt_ b8 0), (32, .bool o89)] /\ H19 = H92) (fun _ k94 => ?_) (fun α H92 hM => ?_)
 ·refine g_' (q_ (i_ via) ?_)
  refine s_bn (via = (-1)) (by kernel_rfl) (fun h96 => ?_) (fun h96 => ?_)
  ·have r97 := ite_t h96 hx90
   refine q_ (.bool false) (n_' (n_' (n_' (n_' (n_' (n_' (n_' (n_' (n_' (n_' (n_' (n_' (n_' (n_' (n_' (n_' (q_ (.bool false) (q_ (.bool false) (s_nil ?_)))))))))))))))))))
   obtain rfl := oi_ r97
   exact k94 _ _ ⟨ha_, rfl⟩
  have r98 := ite_f h96 hx90
  refine q_ (.bool true) (q_ (i_ via) ?_)
  refine sb_ (via < 0) (fun h99 => ?_) fun h99 => ?_
  ·have r100 := ite_t h99 r98
   refine q_ (.bool true) (n_' (n_' (n_' (n_' (n_' (q_ (.bool true) (q_ (.bool true) (n_' (n_' (n_' (n_' (n_' (q_ (.bool true) (q_ (.bool true) (q_ (.bool true) (s_nil ?_))))))))))))))))
   obtain rfl := oi_ r100
   exact k94 _ _ ⟨ha_, rfl⟩
  have r101 := ite_f h99 r98
  refine q_ (.bool false) (q_ (i_ via) (q_ (pt_ b2 0) ?_))
  have u102 := ((r6.ext e10).frS e20 dn_)
  refine lr_ 30 0 (hd_Alive) u102 ?_
  have u103 := (((h_Alive.ext e4).ext e10).fr e20 dn_)
  refine u103.ln_ 30 ?_
  refine sb_ (via ≥ (Alive.length : Int)) (fun h104 => ?_) fun h104 => ?_
  ·have r105 := ite_t h104 r101
   refine q_ (.bool true) (q_ (.bool true) (n_' (n_' (n_' (n_' (n_' (q_ (.bool true) (q_ (.bool true) (q_ (.bool true) (s_nil ?_))))))))))
   obtain rfl := oi_ r105
   exact k94 _ _ ⟨ha_, rfl⟩
  have r106 := ite_f h104 r101
  refine q_ (.bool false) (q_ (.bool false) (q_ (pt_ b2 0) (lr_ 30 0 (hd_Alive) u102 (q_ (i_ via) ?_))))
  obtain ⟨g107, r108⟩ := G_some r106
  refine u103.ix_ 30 g107.1 g107.2 (le_ 4 0 (.bool (gt Alive via)) u103 g107.1 g107.2 (q_ (.bool (gt Alive via)) (q_ (.bool (gt Alive via)) (q_ (.bool (gt Alive via)) (s_nil ?_)))))
  obtain rfl := oi_ r108
  exact k94 _ _ ⟨ha_, rfl⟩
 obtain ⟨hh95, rfl⟩ := hM
 obtain ⟨β, rfl⟩ := has_ex hh95
 clear hh95
 refine k88 _ _ ?_
 refine wb_ (o89) (fun h109 => ?_) fun h109 => ?_
 ·have r110 := ite_t h109 r91
  refine sq_ fun k111 => g_' ?_
  obtain ⟨y112, hy113, r114⟩ := bs_ r110
  refine ck_ (c_viaductref01_E e20.wf hy113) ?_
  rintro _ H115 ⟨rfl, e116⟩
  have u121 := ((r12.frS e20 dn_).frS e116 dn_)
  obtain ⟨H117, q118, e119, r120⟩ := ra_ 44 0 e116.wf u121 [i_ y112, .slice none 0 0] [i_ y112, .slice none 0 0]
  refine ek_ q118 (s_nil (k111 _ _ ?_))
  refine w_ret (bl_ret (th_ret ?_))
  refine b_ret (vs := [.agg #[i_ y112, .slice none 0 0]]) (aRes_cell (Eq.trans (b := aL_ 44 (pt_ b8 0) H117) (by kernel_rfl) (r120.l_)) (rfl)) ?_
  obtain rfl := oi_ r114
  exact ⟨rfl, (fs_ wf (fs_ wf (fs_ wf (((f0_ wf).extR e4).extR e10) e20 in_) e116 in_) e119 (hb11.fresh e4.n))⟩
 have r122 := ite_bf h109 r91
 refine w_skip (k14 _ _ (sq_ fun k123 => g_' (q_ (.agg #[i_ 0, .slice none 0 0]) ?_)))
 have u128 := (r12.frS e20 dn_)
 obtain ⟨H124, q125, e126, r127⟩ := ra_ 44 0 e20.wf u128 [i_ 0, .slice none 0 0] [i_ 0, .slice none 0 0]
 refine ek_ q125 (s_nil (k123 _ _ ?_))
 refine w_ret ?_
 refine b_ret (vs := [.agg #[i_ 0, .slice none 0 0]]) (aRes_cell (Eq.trans (b := aL_ 44 (pt_ b8 0) H124) (by kernel_rfl) (r127.l_)) (rfl)) ?_
 obtain rfl := oi_ r122
 exact ⟨rfl, (fs_ wf (fs_ wf (((f0_ wf).extR e4).extR e10) e20 in_) e126 (hb11.fresh e4.n))⟩
theorem c_viaductref11_Put {H : AH} {hd_Alive : Value} {fp_Alive : Fp} {hd_Arcs : Value} {fp_Arcs : Fp} {Alive : List (Bool)} {Arcs : List (Int × Int × Int × Int)} {From : Int} {To : Int} {Weight : Int} {Via : Int} {r : List (Int × Int × Int × Int) × Bool}
    (wf : WF H) (h_Alive : Sq encB 1 H hd_Alive Alive fp_Alive) (h_Arcs : Sq enc_i64_i64_u64_i64 4 H hd_Arcs Arcs fp_Arcs) (hr : z_viaductref11_Put Alive Arcs From To Weight Via = some r) :
    ACalls Tryz.prog 39 #[.agg #[hd_Alive, hd_Arcs], .agg #[i_ From, i_ To, .int .u64 Weight, i_ Via]] H fun v H' => ∃ (s3 : Value) (f4 : Fp), v = .tuple #[.agg #[hd_Alive, s3], .bool r.2] /\ FrS [] H H' /\ Sq enc_i64_i64_u64_i64 4 H' s3 r.1 f4 /\ Inn fp_Arcs H f4 := by
 refine ab_ Tryz.func39 ?_
 unfold z_viaductref11_Put at hr
 refine sq_ fun k6 => g_' ?_
 refine s_rwl wf [hd_Alive, hd_Arcs] (one_cons (h_Alive.one1) (one_cons (h_Arcs.one1) (one_nil))) (by kernel_rfl) fun b7 H8 e9 hb10 r11 => ?_
 refine rl_ e9.wf [i_ From, i_ To, .int .u64 Weight, i_ Via] fun b13 H14 e15 hb16 r17 => ?_
 refine rk_ e15.wf [.slice none 0 0, .slice none 0 0] fun b19 H20 e21 hb22 r23 => ?_
 refine q_ (.bool false) (s_nil (k6 _ _ (sq_ fun k25 => g_' (q_ (pt_ b7 0) ?_))))
 have u26 := ((r11.ext e15).ext e21)
 refine lr_ 30 0 (hd_Alive) u26 ?_
 have u27 := (((h_Alive.ext e9).ext e15).ext e21)
 obtain ⟨a28, n29, c30, rfl⟩ := u27.form
 refine q_ (.agg #[.slice a28 n29 c30, .slice none 0 0]) ?_
 refine rk_ e21.wf [.slice none 0 0, .slice none 0 0] fun b31 H32 e33 hb34 r35 => ?_
 have u41 := (u27.ext e33)
 obtain ⟨H37, q38, e39, r40⟩ := ra_ 33 0 e33.wf r35 [.slice a28 n29 c30, .slice none 0 0] [.slice a28 n29 c30, .slice none 0 0]
 refine ek_ q38 (s_nil (k25 _ _ (sq_ fun k42 => g_' (q_ (.bool true) (s_nil (k42 _ _ (sq_ fun k43 => sq_ fun k44 => g_' (q_ (pt_ b7 1) ?_))))))))
 have n45 := (t_ e15.n e21.n)
 have d46 := (hb34.djn (r11.ltF.le n45))
 have u47 := ((u26.ext e33).frS e39 d46)
 refine lr_ 31 1 (hd_Arcs) u47 ?_
 have n48 := (t_ (t_ e9.n e15.n) e21.n)
 have d49 := (hb34.djn (h_Arcs.lt.le n48))
 have u50 := (((((h_Arcs.ext e9).ext e15).ext e21).ext e33).fr e39 d49)
 refine u50.ln_ 31 (q_ (i_ 0) (s_nil (k44 _ _ ?_)))
 obtain ⟨z54, hx52, r53⟩ := bs_ hr
 refine w_mid (fun α H55 => ∃ o51, z54 = Sum.inr o51 /\ ∃ (s59 : Value) (f60 : Fp), Has α [(3, pt_ b13 0), (4, pt_ b19 0), (6, pt_ b31 0), (7, .bool true)] /\ FrS [b31] H37 H55 /\ Ow enc_i64_i64_u64_i64 4 H55 s59 o51 f60 /\ Row H55 b31 [.slice a28 n29 c30, s59] /\ Inn [] H37 f60) (fun _ k64 => ?_) (fun α H55 hM => ?_)
 ·refine w_block ?_
  obtain ⟨n66, hn67⟩ := loopO_iff.1 hx52
  refine w_loopn (fun n α H68 => ∃ (i0 : Int), ∃ (p1 : List (Int × Int × Int × Int)), ∃ (s72 : Value), ∃ (f73 : Fp), iterO (fun zz_ => z_viaductref11_Put_l0 Arcs From To Weight zz_.1 zz_.2) n (i0, p1) = some z54 /\ Has α [(2, pt_ b7 0), (3, pt_ b13 0), (4, pt_ b19 0), (6, pt_ b31 0), (7, .bool true), (14, hd_Arcs), (15, i_ (Arcs.length : Int)), (16, i_ i0)] /\ FrS [b31] H37 H68 /\ Ow enc_i64_i64_u64_i64 4 H68 s72 p1 f73 /\ Row H68 b31 [.slice a28 n29 c30, s72] /\ Inn [] H37 f73) n66 ⟨0, [], (.slice none 0 0), [], hn67, ha_, (fr_ e39.wf), (Ow.nil (by decide)), r40, in_⟩ ?_
  rintro n66 α H68 ⟨i0, p1, s72, f73, hi78, hh77, e69, m71, m75, i76⟩ K83 k83
  obtain ⟨n79, z80, rfl, hz81, hn82⟩ := iter_succ hi78
  obtain ⟨β, rfl⟩ := has_ex hh77
  clear hh77
  replace hz81 : z_viaductref11_Put_l0 Arcs From To Weight i0 p1 = some z80 := hz81
  unfold z_viaductref11_Put_l0 at hz81
  obtain ⟨a84, n85, c86, rfl⟩ := m71.form
  refine sq_ fun k87 => g_' (q_ (.bool (decide (i0 < (Arcs.length : Int)))) (s_nil (k87 _ _ (sq_ fun k88 => ?_))))
  refine wc_ (i0 < (Arcs.length : Int)) (fun h89 => ?_) fun h89 => ?_
  ·have r90 := ite_t h89 hz81
   refine w_skip (k88 _ _ (sq_ fun k91 => w_block (sq_ fun k92 => g_' ?_)))
   obtain ⟨g93, r94⟩ := G_some r90
   have u95 := (u50.fr e69 d49)
   refine u95.ix_ 31 g93 h89 (le_ 96 0 (.agg #[i_ ((gt Arcs i0).1), i_ ((gt Arcs i0).2.1), .int .u64 ((gt Arcs i0).2.2.1), i_ ((gt Arcs i0).2.2.2)]) u95 g93 h89 ?_)
   refine rk_ e69.wf [i_ 0, i_ 0, .int .u64 0, i_ 0] fun b96 H97 e98 hb99 r100 => ?_
   obtain ⟨H102, q103, e104, r105⟩ := ra_ 96 0 e98.wf r100 [i_ ((gt Arcs i0).1), i_ ((gt Arcs i0).2.1), .int .u64 ((gt Arcs i0).2.2.1), i_ ((gt Arcs i0).2.2.2)] [i_ ((gt Arcs i0).1), i_ ((gt Arcs i0).2.1), .int .u64 ((gt Arcs i0).2.2.1), i_ ((gt Arcs i0).2.2.2)]
   refine ek_ q103 (s_nil (k92 _ _ (sq_ fun k106 => sq_ fun k107 => ?_)))
   obtain ⟨o108, hx109, r110⟩ := bs_ r94
   refine w_mid (fun α H111 => Has α [(2, pt_ b7 0), (3, pt_ b13 0), (4, pt_ b19 0), (6, pt_ b31 0), (7, .bool true), (9, pt_ b96 0), (14, hd_Arcs), (15, i_ (Arcs.length : Int)), (16, i_ i0), (31, .bool o108)] /\ H102 = H111) (fun _ k113 => ?_) (fun α H111 hM => ?_)
   ·refine g_' (q_ (pt_ b96 0) (lr_ 3 0 (i_ ((gt Arcs i0).1)) r105 (q_ (pt_ b13 0) ?_)))
    have d115 := (hb34.djn (r17.ltF.le e21.n))
    have n116 := (t_ (t_ (t_ e21.n e33.n) e39.n) e69.n)
    have d117 := (hb99.djn (r17.ltF.le n116))
    have u118 := ((((((r17.ext e21).ext e33).frS e39 d115).frS e69 d115).ext e98).frS e104 d117)
    refine lr_ 3 0 (i_ From) u118 ?_
    refine sb_ (((gt Arcs i0).1) = From) (fun h119 => ?_) fun h119 => ?_
    ·have r120 := ite_t h119 hx109
     refine q_ (.bool true) (q_ (pt_ b96 1) (lr_ 3 1 (i_ ((gt Arcs i0).2.1)) r105 (q_ (pt_ b13 1) (lr_ 3 1 (i_ To) u118 (q_ (.bool (decide (((gt Arcs i0).2.1) = To))) (q_ (.bool (decide (((gt Arcs i0).2.1) = To))) (s_nil ?_)))))))
     obtain rfl := oi_ r120
     exact k113 _ _ ⟨ha_, rfl⟩
    have r121 := ite_f h119 hx109
    refine q_ (.bool false) (n_' (n_' (n_' (n_' (n_' (q_ (.bool false) (s_nil ?_)))))))
    obtain rfl := oi_ r121
    exact k113 _ _ ⟨ha_, rfl⟩
   obtain ⟨hh114, rfl⟩ := hM
   obtain ⟨β, rfl⟩ := has_ex hh114
   clear hh114
   refine k107 _ _ ?_
   refine wb_ (o108) (fun h122 => ?_) fun h122 => ?_
   ·have r123 := ite_t h122 r110
    refine sq_ fun k124 => sq_ fun k125 => g_' (q_ (pt_ b96 2) (lr_ 27 2 (.int .u64 ((gt Arcs i0).2.2.1)) r105 (q_ (pt_ b13 2) ?_)))
    have d126 := (hb34.djn (r17.ltF.le e21.n))
    have n127 := (t_ (t_ (t_ e21.n e33.n) e39.n) e69.n)
    have d128 := (hb99.djn (r17.ltF.le n127))
    have u129 := ((((((r17.ext e21).ext e33).frS e39 d126).frS e69 d126).ext e98).frS e104 d128)
    refine lr_ 27 2 (.int .u64 Weight) u129 (q_ (.bool (decide (((gt Arcs i0).2.2.1) ≤ Weight))) (s_nil (k125 _ _ ?_)))
    refine wc_ (((gt Arcs i0).2.2.1) ≤ Weight) (fun h130 => ?_) fun h130 => ?_
    ·have r131 := ite_t h130 r123
     refine sq_ fun k132 => g_' ?_
     have n133 := (t_ (t_ (t_ (t_ e15.n e21.n) e33.n) e39.n) e69.n)
     have d134 := (hb99.djn (r11.ltF.le n133))
     have u135 := (((u47.frS e69 d46).ext e98).frS e104 d134)
     refine lr_ 33 0 (.agg #[.slice a28 n29 c30, hd_Arcs]) u135 ?_
     have n140 := (t_ (t_ e33.n e39.n) e69.n)
     have d141 := (hb99.djn (r23.ltF.le n140))
     have u142 := (((((r23.ext e33).frS e39 (hb34.djn r23.ltF)).frS e69 (hb34.djn r23.ltF)).ext e98).frS e104 d141)
     have n143 := (t_ (t_ (t_ (t_ (t_ e9.n e15.n) e21.n) e33.n) e39.n) e69.n)
     have d144 := (hb99.djn (h_Arcs.lt.le n143))
     have u145 := ((u95.ext e98).fr e104 d144)
     have d146 := (hb34.djn (h_Alive.lt.le n48))
     have d147 := (hb99.djn (h_Alive.lt.le n143))
     have u148 := ((((u41.fr e39 d146).fr e69 d146).ext e98).fr e104 d147)
     obtain ⟨H136, q137, e138, r139⟩ := Row.store (P := Tryz.prog) (t := 33) (p := 0) e104.wf u142 (.agg #[.slice a28 n29 c30, hd_Arcs]) [.slice a28 n29 c30, hd_Arcs] (by kernel_rfl) (by kernel_rfl) (one_cons (u148.one1) (one_cons (u145.one1) (one_nil))) (Nat.le_of_ble_eq_true (by kernel_rfl)) [.slice a28 n29 c30, hd_Arcs] (by kernel_rfl)
     refine ek_ q137 (q_ (.bool false) (s_nil (k132 _ _ ?_)))
     refine w_ret (th_ret (th_ret (bl_ret (th_ret (th_ret (bl_ret (th_ret (th_ret ?_))))))))
     obtain ⟨v149, hv150, hz151⟩ := map_some r131
     subst hz151
     obtain rfl := it_inr hn82
     have hq152 := elim_inl r53
     rw [hq152] at hv150
     refine b_ret (vs := [.agg #[.slice a28 n29 c30, hd_Arcs], .bool false]) (aRes_cell (Eq.trans (b := aL_ 33 (pt_ b19 0) H136) (by kernel_rfl) (r139.l_)) (rt_ (rfl))) ?_
     have n153 := (t_ e9.n e15.n)
     have d154 := (hb22.djn (h_Arcs.lt.le n153))
     have u155 := (u145.fr e138 d154)
     obtain rfl := oi_ hv150
     exact ⟨(hd_Arcs), fp_Arcs, rfl, (fs_ wf (fs_ wf ((fs_ wf (fs_ wf (((((f0_ wf).extR e9).extR e15).extR e21).extR e33) e39 (hb34.fresh n48)) e69 (hb34.fresh n48)).extR e98) e104 (hb99.fresh n143)) e138 (hb22.fresh n153)), u155, ir_⟩
    have r156 := ite_f h130 r123
    refine w_skip (k124 _ _ ?_)
    refine w_exit (th_exit (bl_eq ?_))
    refine k91 _ _ (g_' ?_)
    obtain ⟨g157, r158⟩ := G_some r156
    refine w_' ((i0 + 1)) (wrap64 (by have := g157; omega)) (q_ (i_ (i0 + 1)) (s_nil ?_))
    have u159 := ((m71.ext e98).fr e104 (hb99.djn m71.lt))
    have n160 := (t_ e39.n e69.n)
    have d161 := (hb99.djn (r35.ltF.le n160))
    have u162 := ((m75.ext e98).frS e104 d161)
    obtain rfl := oi_ r158
    exact k83 n79 _ _ lt_ ⟨(i0 + 1), p1, (.slice a84 n85 c86), f73, hn82, ha_, (fs_ e39.wf ((fs_ e39.wf (fr_ e39.wf) e69 ir_).extR e98) e104 (hb99.fresh e69.n)), u159, u162, (i76.fresh (Nat.le_refl _))⟩
   have r163 := ite_bf h122 r110
   refine w_skip (k106 _ _ (g_' (q_ (pt_ b31 1) ?_)))
   have n164 := (t_ e39.n e69.n)
   have d165 := (hb99.djn (r35.ltF.le n164))
   have u166 := ((m75.ext e98).frS e104 d165)
   refine lr_ 31 1 (.slice a84 n85 c86) u166 (lr_ 96 0 (.agg #[i_ ((gt Arcs i0).1), i_ ((gt Arcs i0).2.1), .int .u64 ((gt Arcs i0).2.2.1), i_ ((gt Arcs i0).2.2.2)]) r105 ?_)
   refine s_owk (enc := enc_i64_i64_u64_i64) (sz := 4) e104.wf [((gt Arcs i0).1, (gt Arcs i0).2.1, (gt Arcs i0).2.2.1, (gt Arcs i0).2.2.2)] 1 (by decide) (fun _ _ => rfl) (fun _ _ => rfl) rfl (by kernel_rfl) fun s167 f168 H169 e170 hf171 hm172 => ?_
   obtain ⟨a173, n174, c175, rfl⟩ := hm172.form
   have u177 := (((m71.ext e98).fr e104 (hb99.djn m71.lt)).ext e170)
   obtain ⟨g178, r179⟩ := G_some r163
   obtain ⟨s180, H181, f182, q186, e183, hm184, hf185⟩ := Ow.append (P := Tryz.prog) 32 e170.wf u177 hm172.sq (fun _ _ => rfl) (at_ := #[31, 31]) rfl rfl (by kernel_rfl) (by kernel_rfl) (by decide) (by have := g178; first | omega | (simp only [List.length_cons, List.length_nil] at this ⊢; omega) | (simp at this ⊢; omega))
   obtain ⟨a187, n188, c189, rfl⟩ := hm184.form
   refine s_ek (.slice a187 n188 c189) (by kernel_rfl) (q186) ?_
   refine q_ (pt_ b31 1) ?_
   have d195 := (i76.djn (r35.ltF.le e39.n))
   have u196 := ((u166.ext e170).frS e183 d195)
   obtain ⟨H191, q192, e193, r194⟩ := rb_ 31 1 e183.wf u196 (.slice a187 n188 c189) [.slice a28 n29 c30, .slice a187 n188 c189]
   refine ek_ q192 (s_nil (k91 _ _ (g_' ?_)))
   obtain ⟨g197, r198⟩ := G_some r179
   refine w_' ((i0 + 1)) (wrap64 (by have := g197; omega)) (q_ (i_ (i0 + 1)) (s_nil ?_))
   have n199 := (t_ (t_ (t_ (t_ e39.n e69.n) e98.n) e104.n) e170.n)
   have d200 := (hf185.dj d195 (r35.ltF.le n199))
   have u201 := (hm184.fr e193 (Dj.symm d200))
   have n202 := (t_ (t_ (t_ e69.n e98.n) e104.n) e170.n)
   obtain rfl := oi_ r198
   exact k83 n79 _ _ lt_ ⟨(i0 + 1), (p1 ++ [((gt Arcs i0).1, (gt Arcs i0).2.1, (gt Arcs i0).2.2.1, (gt Arcs i0).2.2.2)]), (.slice a187 n188 c189), f182, hn82, ha_, (fs_ e39.wf (fs_ e39.wf ((fs_ e39.wf ((fs_ e39.wf (fr_ e39.wf) e69 ir_).extR e98) e104 (hb99.fresh e69.n)).extR e170) e183 (i76.fresh (Nat.le_refl _))) e193 ir_), u201, r194, (Inn.trans (i76.fresh (Nat.le_refl _)) n202 hf185)⟩
  have r203 := ite_f h89 hz81
  refine w_exit (th_exit (th_exit (bl_eq ?_)))
  obtain rfl := oi_ r203
  obtain rfl := it_inr hn82
  exact k64 _ _ ⟨_, rfl, (.slice a84 n85 c86), f73, ha_, (fs_ e39.wf (fr_ e39.wf) e69 ir_), m71, m75, (i76.fresh (Nat.le_refl _))⟩
 obtain ⟨o51, rfl, s59, f60, hh65, e56, m58, m62, i63⟩ := hM
 have r204 := elim_inr r53
 obtain ⟨β, rfl⟩ := has_ex hh65
 clear hh65
 obtain ⟨a205, n206, c207, rfl⟩ := m58.form
 refine k43 _ _ (sq_ fun k208 => g_' (q_ (pt_ b31 1) (lr_ 31 1 (.slice a205 n206 c207) m62 ?_)))
 have d209 := (hb34.djn (r17.ltF.le e21.n))
 have u210 := ((((r17.ext e21).ext e33).frS e39 d209).frS e56 d209)
 refine lr_ 96 0 (.agg #[i_ From, i_ To, .int .u64 Weight, i_ Via]) u210 ?_
 refine s_owk (enc := enc_i64_i64_u64_i64) (sz := 4) e56.wf [(From, To, Weight, Via)] 1 (by decide) (fun _ _ => rfl) (fun _ _ => rfl) rfl (by kernel_rfl) fun s211 f212 H213 e214 hf215 hm216 => ?_
 obtain ⟨a217, n218, c219, rfl⟩ := hm216.form
 have u221 := (m58.ext e214)
 obtain ⟨g222, r223⟩ := G_some r204
 obtain ⟨s224, H225, f226, q230, e227, hm228, hf229⟩ := Ow.append (P := Tryz.prog) 32 e214.wf u221 hm216.sq (fun _ _ => rfl) (at_ := #[31, 31]) rfl rfl (by kernel_rfl) (by kernel_rfl) (by decide) (by have := g222; first | omega | (simp only [List.length_cons, List.length_nil] at this ⊢; omega) | (simp at this ⊢; omega))
 obtain ⟨a231, n232, c233, rfl⟩ := hm228.form
 refine s_ek (.slice a231 n232 c233) (by kernel_rfl) (q230) ?_
 refine q_ (pt_ b31 1) ?_
 have d239 := (i63.djn (r35.ltF.le e39.n))
 have u240 := ((m62.ext e214).frS e227 d239)
 obtain ⟨H235, q236, e237, r238⟩ := rb_ 31 1 e227.wf u240 (.slice a231 n232 c233) [.slice a28 n29 c30, .slice a231 n232 c233]
 refine ek_ q236 (s_nil (k208 _ _ (sq_ fun k241 => g_' (lr_ 33 0 (.agg #[.slice a28 n29 c30, .slice a231 n232 c233]) r238 (q_ (.bool true) ?_)))))
 have n246 := (t_ e33.n e39.n)
 have d247 := (i63.djn (r23.ltF.le n246))
 have u248 := ((((((r23.ext e33).frS e39 (hb34.djn r23.ltF)).frS e56 (hb34.djn r23.ltF)).ext e214).frS e227 d247).frS e237 (hb34.djn r23.ltF))
 have n249 := (t_ (t_ e39.n e56.n) e214.n)
 have d250 := (hf229.dj d239 (r35.ltF.le n249))
 have u251 := (hm228.fr e237 (Dj.symm d250))
 have d252 := (hb34.djn (h_Alive.lt.le n48))
 have n253 := (t_ (t_ (t_ (t_ e9.n e15.n) e21.n) e33.n) e39.n)
 have d254 := (i63.djn (h_Alive.lt.le n253))
 have u255 := (((((u41.fr e39 d252).fr e56 d252).ext e214).fr e227 d254).fr e237 d252)
 obtain ⟨H242, q243, e244, r245⟩ := ra_ 33 0 e237.wf u248 [.slice a28 n29 c30, .slice a231 n232 c233] [.slice a28 n29 c30, .slice a231 n232 c233]
 refine ek_ q243 (q_ (.bool true) (s_nil (k241 _ _ ?_)))
 refine w_ret ?_
 refine b_ret (vs := [.agg #[.slice a28 n29 c30, .slice a231 n232 c233], .bool true]) (aRes_cell (Eq.trans (b := aL_ 33 (pt_ b19 0) H242) (by kernel_rfl) (r245.l_)) (rt_ (rfl))) ?_
 have n256 := (t_ e9.n e15.n)
 have n257 := (t_ (t_ (t_ e33.n e39.n) e56.n) e214.n)
 have d258 := (hf229.dj d247 (r23.ltF.le n257))
 have u259 := (u251.fr e244 (Dj.symm d258))
 have n260 := (t_ (t_ (t_ (t_ (t_ (t_ e9.n e15.n) e21.n) e33.n) e39.n) e56.n) e214.n)
 obtain rfl := oi_ r223
 exact ⟨(.slice a231 n232 c233), f226, rfl, (fs_ wf (fs_ wf (fs_ wf ((fs_ wf (fs_ wf (((((f0_ wf).extR e9).extR e15).extR e21).extR e33) e39 (hb34.fresh n48)) e56 (hb34.fresh n48)).extR e214) e227 (i63.fresh n253)) e237 (hb34.fresh n48)) e244 (hb22.fresh n256)), u259.sq, (Inn.trans (i63.fresh n253) n260 hf229)⟩
theorem c_overlay_without {H : AH} {hd_l : Value} {fp_l : Fp} {l : List (Int × Int × Int)} {v_ : Int} {r : List (Int × Int × Int)}
    (wf : WF H) (h_l : Ow enc_i64_u64_i64 3 H hd_l l fp_l) (hr : z_overlay_without l v_ = some r) :
    ACalls Tryz.prog 63 #[hd_l, i_ v_] H fun v H' => ∃ (s3 : Value) (f4 : Fp), v = s3 /\ FrS fp_l H H' /\ Ow enc_i64_u64_i64 3 H' s3 r f4 /\ Inn fp_l H f4 := by
 refine ab_ Tryz.func63 ?_
 unfold z_overlay_without at hr
 refine sq_ fun k6 => g_' (q_ (.slice none 0 0) (s_nil (k6 _ _ (sq_ fun k7 => g_' (q_ (hd_l) (q_ (i_ v_) ?_))))))
 obtain ⟨y8, hy9, r10⟩ := bs_ hr
 refine ck_ (c_overlay_find wf h_l.sq hy9) ?_
 rintro _ H11 ⟨rfl, e12⟩
 refine q_ (.tuple #[i_ y8.1, .bool y8.2]) (q_ (i_ y8.1) (q_ (.bool y8.2) (q_ (i_ y8.1) (q_ (.bool y8.2) (s_nil (k7 _ _ (sq_ fun k13 => sq_ fun k14 => g_' (q_ (.bool y8.2) (q_ (.bool (!y8.2)) (s_nil (k14 _ _ ?_)))))))))))
 refine wb_ ((!y8.2)) (fun h15 => ?_) fun h15 => ?_
 ·have r16 := ite_t h15 r10
  refine sq_ fun k17 => g_' (q_ (hd_l) (q_ (hd_l) (s_nil (k17 _ _ ?_))))
  refine w_ret (th_ret ?_)
  refine br_ [hd_l] ?_
  have u18 := (h_l.fr e12 dn_)
  obtain rfl := oi_ r16
  exact ⟨(hd_l), fp_l, rfl, (fs_ wf (fr_ wf) e12 in_), u18, ir_⟩
 have r19 := ite_bf h15 r10
 refine w_skip (k13 _ _ (sq_ fun k20 => g_' (q_ (hd_l) (q_ (i_ y8.1) (q_ (i_ y8.1) ?_)))))
 obtain ⟨g21, r22⟩ := G_some r19
 refine w_' ((y8.1 + 1)) (wrap64 g21) ?_
 have u23 := (h_l.fr e12 dn_)
 obtain ⟨g24, r25⟩ := G_some r22
 refine s_ck 87 #[hd_l, i_ y8.1, i_ (y8.1 + 1)] (by kernel_rfl) (a_Delete e12.wf u23 g24) ?_
 rintro s26 H27 ⟨f28, e29, hm30, hf31⟩
 obtain ⟨a32, n33, c34, rfl⟩ := hm30.form
 refine q_ (.slice a32 n33 c34) (s_nil (k20 _ _ ?_))
 refine w_ret ?_
 refine br_ [.slice a32 n33 c34] ?_
 obtain rfl := oi_ r25
 exact ⟨(.slice a32 n33 c34), f28, rfl, (fs_ wf (fs_ wf (fr_ wf) e12 in_) e29 ir_), hm30, (Inn.trans ir_ e12.n hf31)⟩
end Go.Vd

/-! (KWf4) -/

set_option maxRecDepth 100000
set_option maxHeartbeats 4000000
set_option linter.unusedVariables false
namespace Go.Vd
open Go.Proofs
attribute [local irreducible] wpSeq wpOrd aWp
theorem c_overlay_Overlay_Remove {H : AH} {b_o : Nat} {hd_o_ : Value} {fp_o_ : Fp} {o_ : List (Bool × List (Int × Int × Int) × List (Int × Int × Int))} {o_2 : Int} {o_3 : Int} {v_ : Int} {r : Er × List (Bool × List (Int × Int × Int) × List (Int × Int × Int)) × Int × Int}
    (wf : WF H) (h_o_ : Nd enc_i64_u64_i64 3 H hd_o_ o_ fp_o_ []) (h_o : Row H b_o [hd_o_, i_ o_2, i_ o_3]) (dj_fp_o__b_o : Dj fp_o_ [b_o]) (hr : z_overlay_Overlay_Remove o_ o_2 o_3 v_ = some r) :
    ACalls Tryz.prog 40 #[pt_ b_o 0, i_ v_] H fun v H' => ∃ (v3 : Value) (f4 : Fp) (f7 : Fp), v = v3 /\ FrS ([b_o] ++ fp_o_) H H' /\ Ev 78 116 H' v3 r.1 f4 /\ Nd enc_i64_u64_i64 3 H' hd_o_ r.2.1 f7 [] /\ Row H' b_o [hd_o_, i_ r.2.2.1, i_ r.2.2.2] /\ Inn [] H f4 /\ Inn fp_o_ H f7 /\ Dj f4 f7 := by
 refine ab_ Tryz.func40 ?_
 unfold z_overlay_Overlay_Remove at hr
 refine sq_ fun k13 => g_' (q_ (.nilIface) (s_nil (k13 _ _ (sq_ fun k14 => sq_ fun k15 => g_' (q_ (pt_ b_o 0) (q_ (.bool false) (s_nil (k15 _ _ ?_))))))))
 refine wb_ false (fun h => by cases h) fun _ => ?_
 refine w_skip (k14 _ _ (sq_ fun k16 => sq_ fun k17 => g_' (q_ (pt_ b_o 0) (q_ (i_ v_) ?_))))
 obtain ⟨y18, hy19, r20⟩ := bs_ hr
 refine ck_ (c_overlay_Overlay_Alive wf h_o_ h_o hy19) ?_
 rintro _ _ ⟨rfl, rfl⟩
 refine q_ (.bool (!y18)) (s_nil (k17 _ _ ?_))
 refine wb_ ((!y18)) (fun h23 => ?_) fun h23 => ?_
 ·have r24 := ite_t h23 r20
  refine sq_ fun k25 => g_' (q_ (.iface 78 (i_ 7)) (q_ (.iface 78 (i_ 7)) (s_nil (k25 _ _ ?_))))
  refine w_ret (th_ret ?_)
  refine br_ [.iface 78 (i_ 7)] ?_
  obtain rfl := oi_ r24
  exact ⟨(.iface 78 (i_ 7)), [], fp_o_, rfl, (fr_ wf), Ev.no, h_o_, h_o, in_, ir_, dn_⟩
 have r26 := ite_bf h23 r20
 refine w_skip (k16 _ _ (sq_ fun k27 => g_' (q_ (pt_ b_o 0) (q_ (pt_ b_o 0) (q_ (pt_ b_o 0) (lr_ 123 0 (hd_o_) h_o (q_ (i_ v_) ?_)))))))
 obtain ⟨g28, r29⟩ := G_some r26
 refine h_o_.ix_ 123 g28.1 g28.2 ?_
 obtain ⟨u30, u31, f32, g33, g34, hl35, hm36, ho37, ho38, d39, d40, d41, hs42, hs43, hs44⟩ := Nd.open2 h_o_ g28.1 g28.2
 have w45 := Inn.sub' (H := H) hs42
 have w46 := Inn.sub' (H := H) hs43
 have w47 := Inn.sub' (H := H) hs44
 obtain ⟨a48, n49, c50, rfl⟩ := ho37.form
 obtain ⟨a51, n52, c53, rfl⟩ := ho38.form
 refine l_' (.agg #[.bool ((gt o_ v_).1), .slice a48 n49 c50, .slice a51 n52 c53]) (aL_ 138 (elp hd_o_ 3 v_.toNat 0) H) (hl35 _ _ _ (by kernel_rfl)) ?_
 refine rk_ wf [.bool false, .slice none 0 0, .slice none 0 0] fun b56 H57 e58 hb59 r60 => ?_
 have u66 := (ho38.ext e58)
 have u67 := (ho37.ext e58)
 obtain ⟨H62, q63, e64, r65⟩ := ra_ 138 0 e58.wf r60 [.bool ((gt o_ v_).1), .slice a48 n49 c50, .slice a51 n52 c53] [.bool ((gt o_ v_).1), .slice a48 n49 c50, .slice a51 n52 c53]
 refine ek_ q63 (s_nil (k27 _ _ (sq_ fun k68 => sq_ fun k69 => g_' (q_ (pt_ b56 1) (lr_ 75 1 (.slice a48 n49 c50) r65 ?_)))))
 have u70 := (u67.fr e64 (hb59.djn ho37.lt))
 refine u70.sq.ln_ 75 (q_ (i_ 0) (s_nil (k69 _ _ ?_)))
 obtain ⟨o71, hx72, r73⟩ := bs_ r29
 refine w_mid (fun α H74 => ∃ (f78 : Fp), Has α [(0, pt_ b_o 0), (1, i_ v_), (5, pt_ b56 0)] /\ FrS f32 H62 H74 /\ Nd enc_i64_u64_i64 3 H74 hd_o_ o71 f78 [(v_.toNat, true), (v_.toNat, false)] /\ Inn f32 H62 f78) (fun _ k80 => ?_) (fun α H74 hM => ?_)
 ·refine w_block ?_
  obtain ⟨n82, hn83⟩ := loopO_iff.1 hx72
  have u96 := ((hm36.ext e58).fr e64 (hb59.djn hm36.lt))
  refine w_loopn (fun n α H84 => ∃ (o0 : List (Bool × List (Int × Int × Int) × List (Int × Int × Int))), ∃ (i1 : Int), ∃ (f88 : Fp), iterO (fun zz_ => z_overlay_Overlay_Remove_l0 o_ v_ zz_.1 zz_.2) n (o0, i1) = some o71 /\ Has α [(0, pt_ b_o 0), (1, i_ v_), (5, pt_ b56 0), (26, .slice a48 n49 c50), (27, i_ (((gt o_ v_).2.1).length : Int)), (28, i_ i1)] /\ FrS f32 H62 H84 /\ Nd enc_i64_u64_i64 3 H84 hd_o_ o0 f88 [(v_.toNat, true), (v_.toNat, false)] /\ Inn f32 H62 f88) n82 ⟨o_, 0, f32, hn83, ha_, (fr_ e64.wf), u96, ir_⟩ ?_
  rintro n82 α H84 ⟨o0, i1, f88, hi91, hh90, e85, m87, i89⟩ K97 k97
  obtain ⟨n92, z93, rfl, hz94, hn95⟩ := iter_succ hi91
  obtain ⟨β, rfl⟩ := has_ex hh90
  clear hh90
  replace hz94 : z_overlay_Overlay_Remove_l0 o_ v_ o0 i1 = some z93 := hz94
  unfold z_overlay_Overlay_Remove_l0 at hz94
  refine sq_ fun k98 => g_' (q_ (.bool (decide (i1 < (((gt o_ v_).2.1).length : Int)))) (s_nil (k98 _ _ (sq_ fun k99 => ?_))))
  refine wc_ (i1 < (((gt o_ v_).2.1).length : Int)) (fun h100 => ?_) fun h100 => ?_
  ·have r101 := ite_t h100 hz94
   refine w_skip (k99 _ _ (sq_ fun k102 => w_block (sq_ fun k103 => g_' ?_)))
   obtain ⟨g104, r105⟩ := G_some r101
   have u106 := (u70.fr e85 d39)
   refine u106.sq.ix_ 75 g104 h100 (le_ 80 0 (.agg #[i_ ((gt ((gt o_ v_).2.1) i1).1), .int .u64 ((gt ((gt o_ v_).2.1) i1).2.1), i_ ((gt ((gt o_ v_).2.1) i1).2.2)]) u106.sq g104 h100 ?_)
   refine rk_ e85.wf [i_ 0, .int .u64 0, i_ 0] fun b107 H108 e109 hb110 r111 => ?_
   obtain ⟨H113, q114, e115, r116⟩ := ra_ 80 0 e109.wf r111 [i_ ((gt ((gt o_ v_).2.1) i1).1), .int .u64 ((gt ((gt o_ v_).2.1) i1).2.1), i_ ((gt ((gt o_ v_).2.1) i1).2.2)] [i_ ((gt ((gt o_ v_).2.1) i1).1), .int .u64 ((gt ((gt o_ v_).2.1) i1).2.1), i_ ((gt ((gt o_ v_).2.1) i1).2.2)]
   refine ek_ q114 (s_nil (k103 _ _ ?_))
   refine w_draw [0, 1, 2, 3, 4, 5, 6, 7, 8, 9, 10, 11, 12, 13, 14, 15, 16, 17, 18, 19] (by kernel_rfl) ?_
   refine e_' (pt_ b_o 0) (e_' (pt_ b_o 0) (e_' (pt_ b_o 0) ?_))
   have d117 := (w45.dj dj_fp_o__b_o h_o.ltF)
   have n118 := (t_ (t_ e58.n e64.n) e85.n)
   have d119 := (hb110.djn (h_o.ltF.le n118))
   have u120 := (((((h_o.ext e58).frS e64 (hb59.djn h_o.ltF)).frS e85 d117).ext e109).frS e115 d119)
   refine d_fl (hd_o_) (x := aL_ 123 (pt_ b_o 0) H113) (by kernel_rfl) (u120.l_) ?_
   refine e_' (pt_ b107 0) ?_
   refine d_fl (i_ ((gt ((gt o_ v_).2.1) i1).1)) (x := aL_ 3 (pt_ b107 0) H113) (by kernel_rfl) (r116.l_) ?_
   refine e_' (pt_ b_o 0) (e_' (pt_ b_o 0) (e_' (pt_ b_o 0) (mr_ 123 0 (hd_o_) u120 (e_' (pt_ b107 0) (mr_ 3 0 (i_ ((gt ((gt o_ v_).2.1) i1).1)) r116 ?_)))))
   obtain ⟨g121, r122⟩ := G_some r105
   have u123 := ((m87.ext e109).fr e115 (hb110.djn m87.lt))
   refine u123.mx_ 123 g121.1 g121.2 (m_' (elp hd_o_ 3 ((gt ((gt o_ v_).2.1) i1).1).toNat 2) (aFieldAddr Tryz.prog 138 (elp hd_o_ 3 ((gt ((gt o_ v_).2.1) i1).1).toNat 0) 2) (Nd.fldq (d := 2) u123 g121.1 g121.2 (by kernel_rfl)) ?_)
   obtain ⟨g128, r129⟩ := G_some r122
   obtain ⟨u124, u125, hl126, hk127⟩ := Nd.at u123 g121.1 g121.2
   have kd130 : KdS enc_i64_u64_i64 3 H113 u125 ((gt o0 ((gt ((gt o_ v_).2.1) i1).1)).2.2) f88 hd_o_ 3 ((gt ((gt o_ v_).2.1) i1).1).toNat 2 := hk127 true (by have := g128; have := g121.1; have := g28.1; simp; omega)
   obtain ⟨a131, n132, c133, rfl⟩ := kd130.sq.form
   refine m_' (.slice a131 n132 c133) (aL_ 75 (elp hd_o_ 3 ((gt ((gt o_ v_).2.1) i1).1).toNat 2) H113) (hl126 _ _ _ _ (by kernel_rfl)) (e_' (i_ v_) ?_)
   obtain ⟨f135, f136, hh137, ho138, d139, hs140, hs141⟩ := Nd.borrow true u123 g121.1 g121.2 (by have := g128; have := g121.1; have := g28.1; simp; omega) kd130 rfl
   have w142 := Inn.sub' (H := H113) hs140
   have w143 := Inn.sub' (H := H113) hs141
   have hh137 : Nd enc_i64_u64_i64 3 H113 hd_o_ o0 f135 [(((gt ((gt o_ v_).2.1) i1).1).toNat, true), (v_.toNat, true), (v_.toNat, false)] := hh137
   obtain ⟨y144, hy145, r146⟩ := bs_ r129
   refine dk_ (c_overlay_without e115.wf ho138 hy145) ?_
   rintro s147 H149 ⟨_, f148, rfl, e150, m151, i152⟩
   obtain ⟨a154, n155, c156, rfl⟩ := m151.form
   have n157 := (t_ e58.n e64.n)
   have d158 := (i89.dj d117 (h_o.ltF.le n157))
   have n159 := (t_ (t_ (t_ (t_ e58.n e64.n) e85.n) e109.n) e115.n)
   have d160 := (w143.dj d158 (h_o.ltF.le n159))
   have u161 := (u120.frS e150 d160)
   have d162 := (hb110.djn m87.lt)
   have d163 := (w143.dj (Dj.symm d162) (r111.ltF.le e115.n))
   have u164 := (r116.frS e150 d163)
   refine ⟨st_ql (y := aL_ 3 (pt_ b107 0) H149) (by kernel_rfl) (u164.l_) (st_ql (y := aL_ 123 (pt_ b_o 0) H149) (by kernel_rfl) (u161.l_) (st_nil)), ?_⟩
   have u165 := (hh137.fr e150 (Dj.symm d139))
   refine u165.mx_ 123 g121.1 g121.2 (m_' (elp hd_o_ 3 ((gt ((gt o_ v_).2.1) i1).1).toNat 2) (aFieldAddr Tryz.prog 138 (elp hd_o_ 3 ((gt ((gt o_ v_).2.1) i1).1).toNat 0) 2) (Nd.fldq (d := 2) u165 g121.1 g121.2 (by kernel_rfl)) ?_)
   have d166 := (i152.dj (Dj.symm d139) hh137.lt)
   obtain ⟨H167, f168, q169, e170, hm171, hf172⟩ := Nd.close (P := Tryz.prog) (t := 75) true e150.wf u165 m151 (Dj.symm d166) g121.1 g121.2 (by kernel_rfl) (by kernel_rfl) (by kernel_rfl)
   have hm171 : Nd enc_i64_u64_i64 3 H167 hd_o_ (o0.set ((gt ((gt o_ v_).2.1) i1).1).toNat ((gt o0 ((gt ((gt o_ v_).2.1) i1).1)).1, (gt o0 ((gt ((gt o_ v_).2.1) i1).1)).2.1, y144)) f168 [(v_.toNat, true), (v_.toNat, false)] := hm171
   have w173 := hf172.grow3 (Inn.trans ir_ (Nat.le_refl _) w142) (Inn.trans (Inn.trans ir_ (Nat.le_refl _) w143) (Nat.le_refl _) i152) e150.n
   refine fk_ q169 (st_anc (by kernel_rfl) (st_anc (by kernel_rfl) (st_nil))) ?_
   refine d_nil ?_
   refine k102 _ _ (g_' ?_)
   obtain ⟨g174, r175⟩ := G_some r146
   refine w_' ((i1 + 1)) (wrap64 (by have := g174; omega)) (q_ (i_ (i1 + 1)) (s_nil ?_))
   have n176 := (t_ (t_ e85.n e109.n) e115.n)
   obtain rfl := oi_ r175
   exact k97 n92 _ _ lt_ ⟨(o0.set ((gt ((gt o_ v_).2.1) i1).1).toNat ((gt o0 ((gt ((gt o_ v_).2.1) i1).1)).1, (gt o0 ((gt ((gt o_ v_).2.1) i1).1)).2.1, y144)), (i1 + 1), f168, hn95, ha_, (fs_ e64.wf (fs_ e64.wf (fs_ e64.wf ((fs_ e64.wf (fr_ e64.wf) e85 ir_).extR e109) e115 (hb110.fresh e85.n)) e150 (Inn.trans (Inn.trans ir_ (Nat.le_refl _) i89) n176 w143)) e170 (Inn.trans (Inn.trans ir_ (Nat.le_refl _) i89) n176 w142)), hm171, (Inn.trans (Inn.trans ir_ (Nat.le_refl _) i89) n176 w173)⟩
  have r177 := ite_f h100 hz94
  refine w_exit (th_exit (th_exit (bl_eq ?_)))
  obtain rfl := oi_ r177
  obtain rfl := it_inr hn95
  exact k80 _ _ ⟨f88, ha_, (fs_ e64.wf (fr_ e64.wf) e85 ir_), m87, (Inn.trans ir_ (Nat.le_refl _) i89)⟩
 obtain ⟨f78, hh81, e75, m77, i79⟩ := hM
 obtain ⟨β, rfl⟩ := has_ex hh81
 clear hh81
 refine k68 _ _ (sq_ fun k178 => sq_ fun k179 => g_' (q_ (pt_ b56 2) ?_))
 have d180 := (hb59.djn hm36.lt)
 have u181 := (r65.frS e75 (Dj.symm d180))
 refine lr_ 75 2 (.slice a51 n52 c53) u181 ?_
 have u182 := ((u66.fr e64 (hb59.djn ho38.lt)).fr e75 d40)
 refine u182.sq.ln_ 75 (q_ (i_ 0) (s_nil (k179 _ _ ?_)))
 obtain ⟨o183, hx184, r185⟩ := bs_ r73
 refine w_mid (fun α H186 => ∃ (f190 : Fp), Has α [(0, pt_ b_o 0), (1, i_ v_), (5, pt_ b56 0)] /\ FrS f78 H74 H186 /\ Nd enc_i64_u64_i64 3 H186 hd_o_ o183 f190 [(v_.toNat, true), (v_.toNat, false)] /\ Inn f78 H74 f190) (fun _ k192 => ?_) (fun α H186 hM => ?_)
 ·refine w_block ?_
  obtain ⟨n194, hn195⟩ := loopO_iff.1 hx184
  refine w_loopn (fun n α H196 => ∃ (o2 : List (Bool × List (Int × Int × Int) × List (Int × Int × Int))), ∃ (i3 : Int), ∃ (f200 : Fp), iterO (fun zz_ => z_overlay_Overlay_Remove_l1 o_ v_ zz_.1 zz_.2) n (o2, i3) = some o183 /\ Has α [(0, pt_ b_o 0), (1, i_ v_), (5, pt_ b56 0), (53, .slice a51 n52 c53), (54, i_ (((gt o_ v_).2.2).length : Int)), (55, i_ i3)] /\ FrS f78 H74 H196 /\ Nd enc_i64_u64_i64 3 H196 hd_o_ o2 f200 [(v_.toNat, true), (v_.toNat, false)] /\ Inn f78 H74 f200) n194 ⟨o71, 0, f78, hn195, ha_, (fr_ e75.wf), m77, ir_⟩ ?_
  rintro n194 α H196 ⟨o2, i3, f200, hi203, hh202, e197, m199, i201⟩ K208 k208
  obtain ⟨n204, z205, rfl, hz206, hn207⟩ := iter_succ hi203
  obtain ⟨β, rfl⟩ := has_ex hh202
  clear hh202
  replace hz206 : z_overlay_Overlay_Remove_l1 o_ v_ o2 i3 = some z205 := hz206
  unfold z_overlay_Overlay_Remove_l1 at hz206
  refine sq_ fun k209 => g_' (q_ (.bool (decide (i3 < (((gt o_ v_).2.2).length : Int)))) (s_nil (k209 _ _ (sq_ fun k210 => ?_))))
  refine wc_ (i3 < (((gt o_ v_).2.2).length : Int)) (fun h211 => ?_) fun h211 => ?_
  ·have r212 := ite_t h211 hz206
   refine w_skip (k210 _ _ (sq_ fun k213 => w_block (sq_ fun k214 => g_' ?_)))
   obtain ⟨g215, r216⟩ := G_some r212
   have n217 := (t_ e58.n e64.n)
   have d218 := (i79.dj d40 (ho38.lt.le n217))
   have u219 := (u182.fr e197 d218)
   refine u219.sq.ix_ 75 g215 h211 (le_ 80 0 (.agg #[i_ ((gt ((gt o_ v_).2.2) i3).1), .int .u64 ((gt ((gt o_ v_).2.2) i3).2.1), i_ ((gt ((gt o_ v_).2.2) i3).2.2)]) u219.sq g215 h211 ?_)
   refine rk_ e197.wf [i_ 0, .int .u64 0, i_ 0] fun b220 H221 e222 hb223 r224 => ?_
   obtain ⟨H226, q227, e228, r229⟩ := ra_ 80 0 e222.wf r224 [i_ ((gt ((gt o_ v_).2.2) i3).1), .int .u64 ((gt ((gt o_ v_).2.2) i3).2.1), i_ ((gt ((gt o_ v_).2.2) i3).2.2)] [i_ ((gt ((gt o_ v_).2.2) i3).1), .int .u64 ((gt ((gt o_ v_).2.2) i3).2.1), i_ ((gt ((gt o_ v_).2.2) i3).2.2)]
   refine ek_ q227 (s_nil (k214 _ _ ?_))
   refine w_draw [0, 1, 2, 3, 4, 5, 6, 7, 8, 9, 10, 11, 12, 13, 14, 15, 16, 17, 18, 19] (by kernel_rfl) ?_
   refine e_' (pt_ b_o 0) (e_' (pt_ b_o 0) (e_' (pt_ b_o 0) ?_))
   have d230 := (w45.dj dj_fp_o__b_o h_o.ltF)
   have d231 := (i79.dj d230 (h_o.ltF.le n217))
   have n232 := (t_ (t_ (t_ e58.n e64.n) e75.n) e197.n)
   have d233 := (hb223.djn (h_o.ltF.le n232))
   have u234 := ((((((h_o.ext e58).frS e64 (hb59.djn h_o.ltF)).frS e75 d230).frS e197 d231).ext e222).frS e228 d233)
   refine d_fl (hd_o_) (x := aL_ 123 (pt_ b_o 0) H226) (by kernel_rfl) (u234.l_) ?_
   refine e_' (pt_ b220 0) ?_
   refine d_fl (i_ ((gt ((gt o_ v_).2.2) i3).1)) (x := aL_ 3 (pt_ b220 0) H226) (by kernel_rfl) (r229.l_) ?_
   refine e_' (pt_ b_o 0) (e_' (pt_ b_o 0) (e_' (pt_ b_o 0) (mr_ 123 0 (hd_o_) u234 (e_' (pt_ b220 0) (mr_ 3 0 (i_ ((gt ((gt o_ v_).2.2) i3).1)) r229 ?_)))))
   obtain ⟨g235, r236⟩ := G_some r216
   have u237 := ((m199.ext e222).fr e228 (hb223.djn m199.lt))
   refine u237.mx_ 123 g235.1 g235.2 (m_' (elp hd_o_ 3 ((gt ((gt o_ v_).2.2) i3).1).toNat 1) (aFieldAddr Tryz.prog 138 (elp hd_o_ 3 ((gt ((gt o_ v_).2.2) i3).1).toNat 0) 1) (Nd.fldq (d := 1) u237 g235.1 g235.2 (by kernel_rfl)) ?_)
   obtain ⟨g242, r243⟩ := G_some r236
   obtain ⟨u238, u239, hl240, hk241⟩ := Nd.at u237 g235.1 g235.2
   have kd244 : KdS enc_i64_u64_i64 3 H226 u238 ((gt o2 ((gt ((gt o_ v_).2.2) i3).1)).2.1) f200 hd_o_ 3 ((gt ((gt o_ v_).2.2) i3).1).toNat 1 := hk241 false (by have := g242; have := g235.1; have := g28.1; simp; omega)
   obtain ⟨a245, n246, c247, rfl⟩ := kd244.sq.form
   refine m_' (.slice a245 n246 c247) (aL_ 75 (elp hd_o_ 3 ((gt ((gt o_ v_).2.2) i3).1).toNat 1) H226) (hl240 _ _ _ _ (by kernel_rfl)) (e_' (i_ v_) ?_)
   obtain ⟨f249, f250, hh251, ho252, d253, hs254, hs255⟩ := Nd.borrow false u237 g235.1 g235.2 (by have := g242; have := g235.1; have := g28.1; simp; omega) kd244 rfl
   have w256 := Inn.sub' (H := H226) hs254
   have w257 := Inn.sub' (H := H226) hs255
   have hh251 : Nd enc_i64_u64_i64 3 H226 hd_o_ o2 f249 [(((gt ((gt o_ v_).2.2) i3).1).toNat, false), (v_.toNat, true), (v_.toNat, false)] := hh251
   obtain ⟨y258, hy259, r260⟩ := bs_ r243
   refine dk_ (c_overlay_without e228.wf ho252 hy259) ?_
   rintro s261 H263 ⟨_, f262, rfl, e264, m265, i266⟩
   obtain ⟨a268, n269, c270, rfl⟩ := m265.form
   have n271 := (t_ (t_ e58.n e64.n) e75.n)
   have d272 := (i201.dj d231 (h_o.ltF.le n271))
   have n273 := (t_ (t_ (t_ (t_ (t_ e58.n e64.n) e75.n) e197.n) e222.n) e228.n)
   have d274 := (w257.dj d272 (h_o.ltF.le n273))
   have u275 := (u234.frS e264 d274)
   have d276 := (hb223.djn m199.lt)
   have d277 := (w257.dj (Dj.symm d276) (r224.ltF.le e228.n))
   have u278 := (r229.frS e264 d277)
   refine ⟨st_ql (y := aL_ 3 (pt_ b220 0) H263) (by kernel_rfl) (u278.l_) (st_ql (y := aL_ 123 (pt_ b_o 0) H263) (by kernel_rfl) (u275.l_) (st_nil)), ?_⟩
   have u279 := (hh251.fr e264 (Dj.symm d253))
   refine u279.mx_ 123 g235.1 g235.2 (m_' (elp hd_o_ 3 ((gt ((gt o_ v_).2.2) i3).1).toNat 1) (aFieldAddr Tryz.prog 138 (elp hd_o_ 3 ((gt ((gt o_ v_).2.2) i3).1).toNat 0) 1) (Nd.fldq (d := 1) u279 g235.1 g235.2 (by kernel_rfl)) ?_)
   have d280 := (i266.dj (Dj.symm d253) hh251.lt)
   obtain ⟨H281, f282, q283, e284, hm285, hf286⟩ := Nd.close (P := Tryz.prog) (t := 75) false e264.wf u279 m265 (Dj.symm d280) g235.1 g235.2 (by kernel_rfl) (by kernel_rfl) (by kernel_rfl)
   have hm285 : Nd enc_i64_u64_i64 3 H281 hd_o_ (o2.set ((gt ((gt o_ v_).2.2) i3).1).toNat ((gt o2 ((gt ((gt o_ v_).2.2) i3).1)).1, y258, (gt o2 ((gt ((gt o_ v_).2.2) i3).1)).2.2)) f282 [(v_.toNat, true), (v_.toNat, false)] := hm285
   have w287 := hf286.grow3 (Inn.trans ir_ (Nat.le_refl _) w256) (Inn.trans (Inn.trans ir_ (Nat.le_refl _) w257) (Nat.le_refl _) i266) e264.n
   refine fk_ q283 (st_anc (by kernel_rfl) (st_anc (by kernel_rfl) (st_nil))) ?_
   refine d_nil ?_
   refine k213 _ _ (g_' ?_)
   obtain ⟨g288, r289⟩ := G_some r260
   refine w_' ((i3 + 1)) (wrap64 (by have := g288; omega)) (q_ (i_ (i3 + 1)) (s_nil ?_))
   have n290 := (t_ (t_ e197.n e222.n) e228.n)
   obtain rfl := oi_ r289
   exact k208 n204 _ _ lt_ ⟨(o2.set ((gt ((gt o_ v_).2.2) i3).1).toNat ((gt o2 ((gt ((gt o_ v_).2.2) i3).1)).1, y258, (gt o2 ((gt ((gt o_ v_).2.2) i3).1)).2.2)), (i3 + 1), f282, hn207, ha_, (fs_ e75.wf (fs_ e75.wf (fs_ e75.wf ((fs_ e75.wf (fr_ e75.wf) e197 ir_).extR e222) e228 (hb223.fresh e197.n)) e264 (Inn.trans (Inn.trans ir_ (Nat.le_refl _) i201) n290 w257)) e284 (Inn.trans (Inn.trans ir_ (Nat.le_refl _) i201) n290 w256)), hm285, (Inn.trans (Inn.trans ir_ (Nat.le_refl _) i201) n290 w287)⟩
  have r291 := ite_f h211 hz206
  refine w_exit (th_exit (th_exit (bl_eq ?_)))
  obtain rfl := oi_ r291
  obtain rfl := it_inr hn207
  exact k192 _ _ ⟨f200, ha_, (fs_ e75.wf (fr_ e75.wf) e197 ir_), m199, (Inn.trans ir_ (Nat.le_refl _) i201)⟩
 obtain ⟨f190, hh193, e187, m189, i191⟩ := hM
 obtain ⟨β, rfl⟩ := has_ex hh193
 clear hh193
 refine k178 _ _ (sq_ fun k292 => ?_)
 refine w_draw [0, 1, 2, 3, 4, 5, 6, 7, 8, 9, 10, 11, 12, 13, 14] (by kernel_rfl) ?_
 refine e_' (pt_ b_o 0) (e_' (pt_ b_o 0) (e_' (pt_ b_o 2) ?_))
 have d293 := (w45.dj dj_fp_o__b_o h_o.ltF)
 have n294 := (t_ e58.n e64.n)
 have d295 := (i79.dj d293 (h_o.ltF.le n294))
 have u296 := ((((h_o.ext e58).frS e64 (hb59.djn h_o.ltF)).frS e75 d293).frS e187 d295)
 refine mr_ 3 2 (i_ o_3) u296 (e_' (pt_ b56 1) ?_)
 have d297 := (i79.dj (Dj.symm d180) (r60.ltF.le e64.n))
 have u298 := (u181.frS e187 d297)
 refine mr_ 75 1 (.slice a48 n49 c50) u298 ?_
 have d299 := (i79.dj d39 (ho37.lt.le n294))
 have u300 := ((u70.fr e75 d39).fr e187 d299)
 refine u300.sq.mn_ 75 (e_' (pt_ b56 2) (mr_ 75 2 (.slice a51 n52 c53) u298 ?_))
 have d301 := (i79.dj d40 (ho38.lt.le n294))
 have u302 := (u182.fr e187 d301)
 refine u302.sq.mn_ 75 ?_
 obtain ⟨g303, r304⟩ := G_some r185
 refine d_w (((((gt o_ v_).2.1).length : Int) + (((gt o_ v_).2.2).length : Int))) (k := .i64) (x := ((((gt o_ v_).2.1).length : Int) + (((gt o_ v_).2.2).length : Int))) (by kernel_rfl) (wrap64 g303) ?_
 obtain ⟨g305, r306⟩ := G_some r304
 refine d_w ((o_3 - ((((gt o_ v_).2.1).length : Int) + (((gt o_ v_).2.2).length : Int)))) (k := .i64) (x := (o_3 - ((((gt o_ v_).2.1).length : Int) + (((gt o_ v_).2.2).length : Int)))) (by kernel_rfl) (wrap64 g305) ?_
 refine e_' (pt_ b_o 0) (e_' (pt_ b_o 2) ?_)
 obtain ⟨H307, q308, e309, r310⟩ := rb_ 3 2 e187.wf u296 (i_ (o_3 - ((((gt o_ v_).2.1).length : Int) + (((gt o_ v_).2.2).length : Int)))) [hd_o_, i_ o_2, i_ (o_3 - ((((gt o_ v_).2.1).length : Int) + (((gt o_ v_).2.2).length : Int)))]
 refine fk_ q308 (st_nil) ?_
 refine d_nil ?_
 refine k292 _ _ (sq_ fun k311 => g_' (q_ (pt_ b_o 0) (q_ (pt_ b_o 0) (q_ (pt_ b_o 1) (lr_ 3 1 (i_ o_2) r310 ?_)))))
 obtain ⟨g312, r313⟩ := G_some r306
 refine w_' ((o_2 - 1)) (wrap64 g312) (q_ (pt_ b_o 0) (q_ (pt_ b_o 1) ?_))
 obtain ⟨H314, q315, e316, r317⟩ := rb_ 3 1 e309.wf r310 (i_ (o_2 - 1)) [hd_o_, i_ (o_2 - 1), i_ (o_3 - ((((gt o_ v_).2.1).length : Int) + (((gt o_ v_).2.2).length : Int)))]
 refine ek_ q315 (s_nil (k311 _ _ (sq_ fun k318 => g_' (q_ (pt_ b_o 0) (q_ (pt_ b_o 0) (q_ (pt_ b_o 0) (lr_ 123 0 (hd_o_) r317 (q_ (i_ v_) (q_ (.agg #[.bool true, .slice none 0 0, .slice none 0 0]) ?_)))))))))
 obtain ⟨g319, r320⟩ := G_some r313
 have n321 := (t_ (t_ e58.n e64.n) e75.n)
 have d322 := (i191.dj d295 (h_o.ltF.le n321))
 have u323 := ((m189.fr e309 (Dj.symm d322)).fr e316 (Dj.symm d322))
 refine u323.ix_ 123 g28.1 g319 ?_
 obtain ⟨H324, q325, e326, hm327⟩ := Nd.clearAt (P := Tryz.prog) (t := 138) (v := .agg #[.bool true, .slice none 0 0, .slice none 0 0]) (b0 := true) (hol' := []) e316.wf u323 (by decide) g28.1 g319 (by kernel_rfl) (by kernel_rfl) (by simp)
 refine ek_ q325 (s_nil (k318 _ _ (sq_ fun k328 => g_' (q_ (.nilIface) (s_nil (k328 _ _ ?_))))))
 refine w_ret ?_
 refine br_ [.nilIface] ?_
 have u329 := (r317.frS e326 d322)
 obtain rfl := oi_ r320
 exact ⟨(.nilIface), [], f190, rfl, (fs_ wf (fs_ wf (fs_ wf (fs_ wf (fs_ wf (fs_ wf ((fr_ wf).extR e58) e64 (hb59.fresh (Nat.le_refl _))) e75 (Inn.trans (Inn.right ir_) (Nat.le_refl _) w45)) e187 (Inn.trans (Inn.trans (Inn.right ir_) (Nat.le_refl _) w45) n294 i79)) e309 Inn.left) e316 Inn.left) e326 (Inn.trans (Inn.trans (Inn.trans (Inn.right ir_) (Nat.le_refl _) w45) n294 i79) n321 i191)), Ev.nil, hm327, u329, in_, (Inn.trans (Inn.trans (Inn.trans ir_ (Nat.le_refl _) w45) n294 i79) n321 i191), dn_⟩
theorem c_viaductref11_Remove {H : AH} {hd_Alive : Value} {fp_Alive : Fp} {hd_Arcs : Value} {fp_Arcs : Fp} {Alive : List (Bool)} {Arcs : List (Int × Int × Int × Int)} {v_ : Int} {r : List (Bool) × List (Int × Int × Int × Int)}
    (wf : WF H) (h_Alive : Sq encB 1 H hd_Alive Alive fp_Alive) (h_Arcs : Sq enc_i64_i64_u64_i64 4 H hd_Arcs Arcs fp_Arcs) (hr : z_viaductref11_Remove Alive Arcs v_ = some r) :
    ACalls Tryz.prog 41 #[.agg #[hd_Alive, hd_Arcs], i_ v_] H fun v H' => ∃ (s3 : Value) (f4 : Fp) (s7 : Value) (f8 : Fp), v = .agg #[s3, s7] /\ FrS [] H H' /\ Ow encB 1 H' s3 r.1 f4 /\ Ow enc_i64_i64_u64_i64 4 H' s7 r.2 f8 /\ Inn [] H f4 /\ Inn [] H f8 /\ Dj f4 f8 := by
 refine ab_ Tryz.func41 ?_
 unfold z_viaductref11_Remove at hr
 refine sq_ fun k12 => g_' ?_
 refine s_rwl wf [hd_Alive, hd_Arcs] (one_cons (h_Alive.one1) (one_cons (h_Arcs.one1) (one_nil))) (by kernel_rfl) fun b13 H14 e15 hb16 r17 => ?_
 refine rk_ e15.wf [.slice none 0 0, .slice none 0 0] fun b19 H20 e21 hb22 r23 => ?_
 refine s_nil (k12 _ _ (sq_ fun k25 => g_' ?_))
 refine rk_ e21.wf [.slice none 0 0, .slice none 0 0] fun b26 H27 e28 hb29 r30 => ?_
 refine s_nil (k25 _ _ (sq_ fun k32 => g_' (q_ (pt_ b26 0) (lr_ 30 0 (.slice none 0 0) r30 (q_ (pt_ b13 0) ?_)))))
 have u33 := ((r17.ext e21).ext e28)
 refine lr_ 30 0 (hd_Alive) u33 ?_
 obtain ⟨g34, r35⟩ := G_some hr
 have u43 := (((h_Alive.ext e15).ext e21).ext e28)
 obtain ⟨s36, H37, f38, q42, e39, hm40, hf41⟩ := Ow.append (P := Tryz.prog) 1 e28.wf (Ow.nil (enc := encB) (sz := 1) (by decide)) u43 (fun _ _ => rfl) (at_ := #[30, 30]) rfl rfl (by kernel_rfl) (by kernel_rfl) (by decide) (by have := g34; first | omega | (simp only [List.length_cons, List.length_nil] at this ⊢; omega) | (simp at this ⊢; omega))
 obtain ⟨a44, n45, c46, rfl⟩ := hm40.form
 refine s_ek (.slice a44 n45 c46) (by kernel_rfl) (q42) ?_
 refine q_ (pt_ b26 0) ?_
 have u52 := (r30.frS e39 dn_)
 obtain ⟨H48, q49, e50, r51⟩ := rb_ 30 0 e39.wf u52 (.slice a44 n45 c46) [.slice a44 n45 c46, .slice none 0 0]
 refine ek_ q49 (s_nil (k32 _ _ (sq_ fun k53 => g_' (q_ (pt_ b26 0) (lr_ 30 0 (.slice a44 n45 c46) r51 (q_ (i_ v_) ?_))))))
 obtain ⟨g54, r55⟩ := G_some r35
 have d56 := (hf41.djn r30.ltF)
 have u57 := (hm40.fr e50 (Dj.symm d56))
 refine u57.sq.ix_ 30 g54.1 g54.2 ?_
 obtain ⟨H58, q59, e60, hm61⟩ := Ow.store (P := Tryz.prog) (t := 4) (off := 0) e50.wf u57 g54.1 g54.2 (.bool false) [.bool false] (by kernel_rfl) (by kernel_rfl) rfl false (Nat.le_of_ble_eq_true rfl) (by kernel_rfl)
 refine ek_ q59 (s_nil (k53 _ _ (sq_ fun k62 => sq_ fun k63 => g_' (q_ (pt_ b13 1) ?_))))
 have d64 := (hb29.djn (r17.ltF.le e21.n))
 have n65 := (t_ e21.n e28.n)
 have d66 := (hf41.djn (r17.ltF.le n65))
 have u67 := (((u33.frS e39 dn_).frS e50 d64).frS e60 d66)
 refine lr_ 31 1 (hd_Arcs) u67 ?_
 have n68 := (t_ e15.n e21.n)
 have d69 := (hb29.djn (h_Arcs.lt.le n68))
 have n70 := (t_ (t_ e15.n e21.n) e28.n)
 have d71 := (hf41.djn (h_Arcs.lt.le n70))
 have u72 := ((((((h_Arcs.ext e15).ext e21).ext e28).fr e39 dn_).fr e50 d69).fr e60 d71)
 refine u72.ln_ 31 (q_ (i_ 0) (s_nil (k63 _ _ ?_)))
 obtain ⟨o73, hx74, r75⟩ := bs_ r55
 refine w_mid (fun α H76 => ∃ (s80 : Value) (f81 : Fp), Has α [(4, pt_ b19 0), (5, pt_ b26 0)] /\ FrS [b26] H58 H76 /\ Ow enc_i64_i64_u64_i64 4 H76 s80 o73 f81 /\ Row H76 b26 [.slice a44 n45 c46, s80] /\ Inn [] H58 f81) (fun _ k85 => ?_) (fun α H76 hM => ?_)
 ·refine w_block ?_
  obtain ⟨n87, hn88⟩ := loopO_iff.1 hx74
  have u104 := (r51.frS e60 d56)
  refine w_loopn (fun n α H89 => ∃ (i0 : Int), ∃ (p1 : List (Int × Int × Int × Int)), ∃ (s93 : Value), ∃ (f94 : Fp), iterO (fun zz_ => z_viaductref11_Remove_l0 Arcs v_ zz_.1 zz_.2) n (i0, p1) = some o73 /\ Has α [(1, i_ v_), (4, pt_ b19 0), (5, pt_ b26 0), (19, hd_Arcs), (20, i_ (Arcs.length : Int)), (21, i_ i0)] /\ FrS [b26] H58 H89 /\ Ow enc_i64_i64_u64_i64 4 H89 s93 p1 f94 /\ Row H89 b26 [.slice a44 n45 c46, s93] /\ Inn [] H58 f94) n87 ⟨0, [], (.slice none 0 0), [], hn88, ha_, (fr_ e60.wf), (Ow.nil (by decide)), u104, in_⟩ ?_
  rintro n87 α H89 ⟨i0, p1, s93, f94, hi99, hh98, e90, m92, m96, i97⟩ K105 k105
  obtain ⟨n100, z101, rfl, hz102, hn103⟩ := iter_succ hi99
  obtain ⟨β, rfl⟩ := has_ex hh98
  clear hh98
  replace hz102 : z_viaductref11_Remove_l0 Arcs v_ i0 p1 = some z101 := hz102
  unfold z_viaductref11_Remove_l0 at hz102
  obtain ⟨a106, n107, c108, rfl⟩ := m92.form
  refine sq_ fun k109 => g_' (q_ (.bool (decide (i0 < (Arcs.length : Int)))) (s_nil (k109 _ _ (sq_ fun k110 => ?_))))
  refine wc_ (i0 < (Arcs.length : Int)) (fun h111 => ?_) fun h111 => ?_
  ·have r112 := ite_t h111 hz102
   refine w_skip (k110 _ _ (sq_ fun k113 => w_block (sq_ fun k114 => g_' ?_)))
   obtain ⟨g115, r116⟩ := G_some r112
   have u117 := (u72.fr e90 d69)
   refine u117.ix_ 31 g115 h111 (le_ 96 0 (.agg #[i_ ((gt Arcs i0).1), i_ ((gt Arcs i0).2.1), .int .u64 ((gt Arcs i0).2.2.1), i_ ((gt Arcs i0).2.2.2)]) u117 g115 h111 ?_)
   refine rk_ e90.wf [i_ 0, i_ 0, .int .u64 0, i_ 0] fun b118 H119 e120 hb121 r122 => ?_
   obtain ⟨H124, q125, e126, r127⟩ := ra_ 96 0 e120.wf r122 [i_ ((gt Arcs i0).1), i_ ((gt Arcs i0).2.1), .int .u64 ((gt Arcs i0).2.2.1), i_ ((gt Arcs i0).2.2.2)] [i_ ((gt Arcs i0).1), i_ ((gt Arcs i0).2.1), .int .u64 ((gt Arcs i0).2.2.1), i_ ((gt Arcs i0).2.2.2)]
   refine ek_ q125 (s_nil (k114 _ _ (sq_ fun k128 => ?_)))
   obtain ⟨o129, hx130, r131⟩ := bs_ r116
   refine w_mid (fun α H132 => Has α [(1, i_ v_), (4, pt_ b19 0), (5, pt_ b26 0), (7, pt_ b118 0), (19, hd_Arcs), (20, i_ (Arcs.length : Int)), (21, i_ i0), (34, .bool o129)] /\ H124 = H132) (fun _ k134 => ?_) (fun α H132 hM => ?_)
   ·refine g_' (q_ (pt_ b118 0) (lr_ 3 0 (i_ ((gt Arcs i0).1)) r127 (q_ (i_ v_) ?_)))
    refine s_bn (((gt Arcs i0).1) = v_) (by kernel_rfl) (fun h136 => ?_) (fun h136 => ?_)
    ·have r137 := ite_t h136 hx130
     refine q_ (.bool false) (n_' (n_' (n_' (n_' (q_ (.bool false) (s_nil ?_))))))
     obtain rfl := oi_ r137
     exact k134 _ _ ⟨ha_, rfl⟩
    have r138 := ite_f h136 hx130
    refine q_ (.bool true) (q_ (pt_ b118 1) (lr_ 3 1 (i_ ((gt Arcs i0).2.1)) r127 (q_ (i_ v_) (q_ (.bool (!decide (((gt Arcs i0).2.1) = v_))) (q_ (.bool (!decide (((gt Arcs i0).2.1) = v_))) (s_nil ?_))))))
    obtain rfl := oi_ r138
    exact k134 _ _ ⟨ha_, rfl⟩
   obtain ⟨hh135, rfl⟩ := hM
   obtain ⟨β, rfl⟩ := has_ex hh135
   clear hh135
   refine k128 _ _ ?_
   refine wb_ (o129) (fun h139 => ?_) fun h139 => ?_
   ·have r140 := ite_t h139 r131
    refine g_' (q_ (pt_ b26 1) ?_)
    have n141 := (t_ (t_ (t_ e39.n e50.n) e60.n) e90.n)
    have d142 := (hb121.djn (r30.ltF.le n141))
    have u143 := ((m96.ext e120).frS e126 d142)
    refine lr_ 31 1 (.slice a106 n107 c108) u143 (lr_ 96 0 (.agg #[i_ ((gt Arcs i0).1), i_ ((gt Arcs i0).2.1), .int .u64 ((gt Arcs i0).2.2.1), i_ ((gt Arcs i0).2.2.2)]) r127 ?_)
    refine s_owk (enc := enc_i64_i64_u64_i64) (sz := 4) e126.wf [((gt Arcs i0).1, (gt Arcs i0).2.1, (gt Arcs i0).2.2.1, (gt Arcs i0).2.2.2)] 1 (by decide) (fun _ _ => rfl) (fun _ _ => rfl) rfl (by kernel_rfl) fun s144 f145 H146 e147 hf148 hm149 => ?_
    obtain ⟨a150, n151, c152, rfl⟩ := hm149.form
    have u154 := (((m92.ext e120).fr e126 (hb121.djn m92.lt)).ext e147)
    obtain ⟨g155, r156⟩ := G_some r140
    obtain ⟨s157, H158, f159, q163, e160, hm161, hf162⟩ := Ow.append (P := Tryz.prog) 32 e147.wf u154 hm149.sq (fun _ _ => rfl) (at_ := #[31, 31]) rfl rfl (by kernel_rfl) (by kernel_rfl) (by decide) (by have := g155; first | omega | (simp only [List.length_cons, List.length_nil] at this ⊢; omega) | (simp at this ⊢; omega))
    obtain ⟨a164, n165, c166, rfl⟩ := hm161.form
    refine s_ek (.slice a164 n165 c166) (by kernel_rfl) (q163) ?_
    refine q_ (pt_ b26 1) ?_
    have n172 := (t_ (t_ e39.n e50.n) e60.n)
    have d173 := (i97.djn (r30.ltF.le n172))
    have u174 := ((u143.ext e147).frS e160 d173)
    obtain ⟨H168, q169, e170, r171⟩ := rb_ 31 1 e160.wf u174 (.slice a164 n165 c166) [.slice a44 n45 c46, .slice a164 n165 c166]
    refine ek_ q169 (s_nil (k113 _ _ (g_' ?_)))
    obtain ⟨g175, r176⟩ := G_some r156
    refine w_' ((i0 + 1)) (wrap64 (by have := g175; omega)) (q_ (i_ (i0 + 1)) (s_nil ?_))
    have n177 := (t_ (t_ (t_ (t_ (t_ (t_ e39.n e50.n) e60.n) e90.n) e120.n) e126.n) e147.n)
    have d178 := (hf162.dj d173 (r30.ltF.le n177))
    have u179 := (hm161.fr e170 (Dj.symm d178))
    have n180 := (t_ (t_ (t_ e90.n e120.n) e126.n) e147.n)
    obtain rfl := oi_ r176
    exact k105 n100 _ _ lt_ ⟨(i0 + 1), (p1 ++ [((gt Arcs i0).1, (gt Arcs i0).2.1, (gt Arcs i0).2.2.1, (gt Arcs i0).2.2.2)]), (.slice a164 n165 c166), f159, hn103, ha_, (fs_ e60.wf (fs_ e60.wf ((fs_ e60.wf ((fs_ e60.wf (fr_ e60.wf) e90 ir_).extR e120) e126 (hb121.fresh e90.n)).extR e147) e160 (i97.fresh (Nat.le_refl _))) e170 ir_), u179, r171, (Inn.trans (i97.fresh (Nat.le_refl _)) n180 hf162)⟩
   have r181 := ite_bf h139 r131
   refine w_skip (k113 _ _ (g_' ?_))
   obtain ⟨g182, r183⟩ := G_some r181
   refine w_' ((i0 + 1)) (wrap64 (by have := g182; omega)) (q_ (i_ (i0 + 1)) (s_nil ?_))
   have u184 := ((m92.ext e120).fr e126 (hb121.djn m92.lt))
   have n185 := (t_ (t_ (t_ e39.n e50.n) e60.n) e90.n)
   have d186 := (hb121.djn (r30.ltF.le n185))
   have u187 := ((m96.ext e120).frS e126 d186)
   obtain rfl := oi_ r183
   exact k105 n100 _ _ lt_ ⟨(i0 + 1), p1, (.slice a106 n107 c108), f94, hn103, ha_, (fs_ e60.wf ((fs_ e60.wf (fr_ e60.wf) e90 ir_).extR e120) e126 (hb121.fresh e90.n)), u184, u187, (i97.fresh (Nat.le_refl _))⟩
  have r188 := ite_f h111 hz102
  refine w_exit (th_exit (th_exit (bl_eq ?_)))
  obtain rfl := oi_ r188
  obtain rfl := it_inr hn103
  exact k85 _ _ ⟨(.slice a106 n107 c108), f94, ha_, (fs_ e60.wf (fr_ e60.wf) e90 ir_), m92, m96, (i97.fresh (Nat.le_refl _))⟩
 obtain ⟨s80, f81, hh86, e77, m79, m83, i84⟩ := hM
 obtain ⟨β, rfl⟩ := has_ex hh86
 clear hh86
 obtain ⟨a189, n190, c191, rfl⟩ := m79.form
 refine k62 _ _ (sq_ fun k192 => g_' (lr_ 33 0 (.agg #[.slice a44 n45 c46, .slice a189 n190 c191]) m83 ?_))
 have d197 := (hf41.djn (r23.ltF.le e28.n))
 have u198 := (((((r23.ext e28).frS e39 dn_).frS e50 (hb29.djn r23.ltF)).frS e60 d197).frS e77 (hb29.djn r23.ltF))
 have u199 := (hm61.fr e77 (Dj.symm d56))
 obtain ⟨H193, q194, e195, r196⟩ := ra_ 33 0 e77.wf u198 [.slice a44 n45 c46, .slice a189 n190 c191] [.slice a44 n45 c46, .slice a189 n190 c191]
 refine ek_ q194 (s_nil (k192 _ _ ?_))
 refine w_ret ?_
 refine b_ret (vs := [.agg #[.slice a44 n45 c46, .slice a189 n190 c191]]) (aRes_cell (Eq.trans (b := aL_ 33 (pt_ b19 0) H193) (by kernel_rfl) (r196.l_)) (rfl)) ?_
 have u200 := (u199.fr e195 (Dj.symm d197))
 have n201 := (t_ (t_ (t_ e28.n e39.n) e50.n) e60.n)
 have d202 := (i84.djn (r23.ltF.le n201))
 have u203 := (m79.fr e195 (Dj.symm d202))
 have n204 := (t_ (t_ (t_ (t_ (t_ e15.n e21.n) e28.n) e39.n) e50.n) e60.n)
 have n205 := (t_ e50.n e60.n)
 have d206 := (i84.djn (hm40.lt.le n205))
 obtain rfl := oi_ r75
 exact ⟨(.slice a44 n45 c46), f38, (.slice a189 n190 c191), f81, rfl, (fs_ wf (fs_ wf (fs_ wf (fs_ wf (fs_ wf ((((f0_ wf).extR e15).extR e21).extR e28) e39 in_) e50 (hb29.fresh n68)) e60 (hf41.fresh n70)) e77 (hb29.fresh n68)) e195 (hb22.fresh e15.n)), u200, u203, (hf41.fresh n70), (i84.fresh n204), (Dj.symm d206)⟩
end Go.Vd
