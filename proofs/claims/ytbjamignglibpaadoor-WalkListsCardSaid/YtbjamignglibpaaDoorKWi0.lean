/- The walks of the functions (printed by a program of ours). -/
import Derived.Test.YtbjamignglibpaaDoorDrG
import Derived.Test.YtbjamignglibpaaDoorIWi
set_option maxRecDepth 100000
set_option maxHeartbeats 4000000
set_option linter.unusedVariables false
namespace Go.Vd
attribute [local irreducible] wpSeq wpOrd aWp
theorem c_viaductlaw09_awake_ev : evB Go.Proofs.Tryd.prog 100000 9 #[] = some true := by kernel_rfl
theorem c_viaductlaw09_awake {H : AH} : ACalls Go.Proofs.Tryd.prog 9 #[] H fun v H' => H = H' ∧ v = .bool true :=
  (acalls_evB mixed c_viaductlaw09_awake_ev rfl H).mono fun _ _ ⟨a, b⟩ => ⟨b.symm, a⟩

theorem c_viaductref02_TwinInts {H : AH} {hd_l : Value} {fp_l : Fp} {l : List (Int)} {r : List (Int)}
    (wf : WF H) (h_l : Sq (encI .i64) 1 H hd_l l fp_l) (hr : z_viaductref02_TwinInts l = some r) :
    ACalls Go.Proofs.Tryd.prog 11 #[hd_l] H fun v H' => ∃ (s3 : Value) (f4 : Fp), v = s3 ∧ FrS [] H H' ∧ Ow (encI .i64) 1 H' s3 r f4 ∧ Inn [] H f4 := by
  refine acalls_of_body mixed Go.Proofs.Tryd.func11 rfl (Nat.le_of_ble_eq_true rfl) ?_
  unfold z_viaductref02_TwinInts at hr
  refine w_seqk fun K6 k6 => ?_
  refine w_reg (by kernel_rfl) ?_
  refine s_qk (.slice none 0 0) (by kernel_rfl) ?_
  refine s_nil ?_
  refine k6 _ _ ?_
  refine w_seqk fun K7 k7 => ?_
  refine w_reg (by kernel_rfl) ?_
  refine s_qk (.slice none 0 0) (by kernel_rfl) ?_
  refine s_nil ?_
  refine k7 _ _ ?_
  refine w_seqk fun K8 k8 => ?_
  refine w_seqk fun K9 k9 => ?_
  refine w_reg (by kernel_rfl) ?_
  refine s_qk (hd_l) (by kernel_rfl) ?_
  refine s_ql (.int .i64 (l.length : Int)) (x := aLen Go.Proofs.Tryd.prog 22 hd_l H) (by kernel_rfl) (h_l.lenb (by kernel_rfl)) ?_
  refine s_qk (.int .i64 0) (by kernel_rfl) ?_
  refine s_nil ?_
  refine k9 _ _ ?_
  obtain ⟨o10, hx11, r12⟩ := bind_some hr
  refine w_mid (fun α H13 => ∃ (s17 : Value) (f18 : Fp), Has α [(3, s17)] ∧ FrS [] H H13 ∧ Ow (encI .i64) 1 H13 s17 o10 f18 ∧ Inn [] H f18) (fun K20 k20 => ?_) (fun α H13 hM => ?_)
  · refine w_block ?_
    obtain ⟨n22, hn23⟩ := loopO_iff.1 hx11
    refine w_loopn (fun n α H24 => ∃ (m0 : List (Int)), ∃ (i1 : Int), ∃ (s28 : Value), ∃ (f29 : Fp), iterO (fun s => z_viaductref02_TwinInts_l0 l s.1 s.2) n (m0, i1) = some o10 ∧ Has α [(3, s28), (6, hd_l), (7, .int .i64 (l.length : Int)), (8, .int .i64 i1)] ∧ FrS [] H H24 ∧ Ow (encI .i64) 1 H24 s28 m0 f29 ∧ Inn [] H f29) n22 ⟨[], 0, (.slice none 0 0), [], hn23, ⟨by kernel_rfl, by kernel_rfl, by kernel_rfl, by kernel_rfl, trivial⟩, (FrS.refl (W := []) wf), (Ow.nil (by decide)), Inn.nil⟩ ?_
    rintro n22 α H24 ⟨m0, i1, s28, f29, hi32, hh31, e25, m27, i30⟩ K37 k37
    obtain ⟨n33, z34, rfl, hz35, hn36⟩ := iter_succ hi32
    obtain ⟨β, rfl⟩ := has_ex hh31
    clear hh31
    replace hz35 : z_viaductref02_TwinInts_l0 l m0 i1 = some z34 := hz35
    unfold z_viaductref02_TwinInts_l0 at hz35
    obtain ⟨a38, n39, c40, rfl⟩ := m27.form
    refine w_seqk fun K41 k41 => ?_
    refine w_reg (by kernel_rfl) ?_
    refine s_qk (.bool (decide (i1 < (l.length : Int)))) (by kernel_rfl) ?_
    refine s_nil ?_
    refine k41 _ _ ?_
    refine w_seqk fun K42 k42 => ?_
    refine w_condp (i1 < (l.length : Int)) (by kernel_rfl) rfl (fun h43 => ?_) (fun h43 => ?_)
    · have r44 := ite_t h43 hz35
      refine w_skip ?_
      refine k42 _ _ ?_
      refine w_seqk fun K45 k45 => ?_
      refine w_block ?_
      refine w_seqk fun K46 k46 => ?_
      refine w_reg (by kernel_rfl) ?_
      obtain ⟨g47, r48⟩ := G_some r44
      have u49 := (h_l.fr e25 Dj.nil_l)
      refine s_ql (elp hd_l 1 i1.toNat 0) (x := aIndexAddr Go.Proofs.Tryd.prog 22 hd_l (.int .i64 i1)) (by kernel_rfl) (u49.idxb (by kernel_rfl) g47 h43) ?_
      refine s_ql (.int .i64 (gt l i1)) (x := aLoad Go.Proofs.Tryd.prog 3 (elp hd_l 1 i1.toNat 0) H24) (by kernel_rfl) (u49.ld g47 h43 (by kernel_rfl)) ?_
      refine s_qk (.int .i64 (gt l i1)) (by kernel_rfl) ?_
      refine s_nil ?_
      refine k46 _ _ ?_
      refine w_reg (by kernel_rfl) ?_
      refine s_qk (.slice a38 n39 c40) (by kernel_rfl) ?_
      refine s_qk (.int .i64 (gt l i1)) (by kernel_rfl) ?_
      refine s_owk (enc := (encI .i64)) (sz := 1) e25.wf [(gt l i1)] 1 (by decide) (fun _ _ => rfl) (fun _ _ => rfl) rfl (by kernel_rfl) fun s50 f51 H52 e53 hf54 hm55 => ?_
      obtain ⟨a56, n57, c58, rfl⟩ := hm55.form
      have u60 := (m27.ext e53)
      obtain ⟨g61, r62⟩ := G_some r48
      obtain ⟨s63, H64, f65, q69, e66, hm67, hf68⟩ := Ow.append (P := Go.Proofs.Tryd.prog) 8 e53.wf u60 hm55.sq (fun _ _ => rfl) (at_ := #[22, 22]) rfl rfl (by kernel_rfl) (by kernel_rfl) (by decide) (by have := g61; first | omega | (simp only [List.length_cons, List.length_nil] at this ⊢; omega) | (simp at this ⊢; omega))
      obtain ⟨a70, n71, c72, rfl⟩ := hm67.form
      refine s_ek (.slice a70 n71 c72) (by kernel_rfl) (q69) ?_
      refine s_qk (.slice a70 n71 c72) (by kernel_rfl) ?_
      refine s_nil ?_
      refine k45 _ _ ?_
      refine w_reg (by kernel_rfl) ?_
      obtain ⟨g74, r75⟩ := G_some r62
      refine s_w ((i1 + 1)) (k := .i64) (x := (i1 + 1)) (by kernel_rfl) (wrap64 (by have := g74; omega)) ?_
      refine s_qk (.int .i64 (i1 + 1)) (by kernel_rfl) ?_
      refine s_nil ?_
      obtain rfl := Option.some.inj r75
      exact k37 n33 _ _ (Nat.lt_succ_self _) ⟨(m0 ++ [(gt l i1)]), (i1 + 1), (.slice a70 n71 c72), f65, hn36, ⟨by kernel_rfl, by kernel_rfl, by kernel_rfl, by kernel_rfl, trivial⟩, (FrS.step wf ((FrS.step wf (FrS.refl (W := []) wf) e25 Inn.nil).extR e53) e66 (i30.fresh (Nat.le_refl _))), hm67, (Inn.trans (i30.fresh (Nat.le_refl _)) (Nat.le_trans e25.next e53.next) hf68)⟩
    · have r76 := ite_f h43 hz35
      refine w_exit (th_exit (th_exit (bl_eq ?_)))
      obtain rfl := Option.some.inj r76
      obtain rfl := it_inr hn36
      exact k20 _ _ ⟨(.slice a38 n39 c40), f29, ⟨by kernel_rfl, trivial⟩, (FrS.step wf (FrS.refl (W := []) wf) e25 Inn.nil), m27, (i30.fresh (Nat.le_refl _))⟩
  · obtain ⟨s17, f18, hh21, e14, m16, i19⟩ := hM
    obtain ⟨β, rfl⟩ := has_ex hh21
    clear hh21
    obtain ⟨a77, n78, c79, rfl⟩ := m16.form
    refine k8 _ _ ?_
    refine w_seqk fun K80 k80 => ?_
    refine w_reg (by kernel_rfl) ?_
    refine s_qk (.slice a77 n78 c79) (by kernel_rfl) ?_
    refine s_qk (.slice a77 n78 c79) (by kernel_rfl) ?_
    refine s_nil ?_
    refine k80 _ _ ?_
    refine w_ret ?_
    refine b_ret (fn := Go.Proofs.Tryd.f11) (vs := [.slice a77 n78 c79]) (aRes_tmp (by kernel_rfl) (rfl)) ?_
    obtain rfl := Option.some.inj r12
    exact ⟨(.slice a77 n78 c79), f18, rfl, (FrS.step wf (FrS.refl (W := []) wf) e14 Inn.nil), m16, (i19.fresh (Nat.le_refl _))⟩

theorem c_slices_Grow {H : AH} {n_ : Int} {r : List (Int)}
    (wf : WF H) (hr : z_slices_Grow n_ = some r) :
    ACalls Go.Proofs.Tryd.prog 68 #[.slice none 0 0, .int .i64 n_] H fun v H' => ∃ (s3 : Value) (f4 : Fp), v = s3 ∧ FrS [] H H' ∧ Ow (encI .i64) 1 H' s3 r f4 ∧ Inn [] H f4 := by
  refine acalls_of_body mixed Go.Proofs.Tryd.func68 rfl (Nat.le_of_ble_eq_true rfl) ?_
  unfold z_slices_Grow at hr
  refine w_seqk fun K6 k6 => ?_
  refine w_reg (by kernel_rfl) ?_
  refine s_qk (.slice none 0 0) (by kernel_rfl) ?_
  refine s_nil ?_
  refine k6 _ _ ?_
  refine w_seqk fun K7 k7 => ?_
  refine w_seqk fun K8 k8 => ?_
  refine w_reg (by kernel_rfl) ?_
  refine s_qk (.int .i64 n_) (by kernel_rfl) ?_
  refine s_qk (.bool (decide (n_ < 0))) (by kernel_rfl) ?_
  refine s_nil ?_
  refine k8 _ _ ?_
  refine w_condp (n_ < 0) (by kernel_rfl) rfl (fun h9 => ?_) (fun h9 => ?_)
  · have r10 := ite_t h9 hr
    refine w_reg (by kernel_rfl) ?_
    refine s_qk (.iface 9 (.string ⟨#[99, 97, 110, 110, 111, 116, 32, 98, 101, 32, 110, 101, 103, 97, 116, 105, 118, 101]⟩)) (by kernel_rfl) ?_
    exact (no_none r10).elim
  · have r11 := ite_f h9 hr
    refine w_skip ?_
    refine k7 _ _ ?_
    refine w_seqk fun K12 k12 => ?_
    refine w_seqk fun K13 k13 => ?_
    refine w_reg (by kernel_rfl) ?_
    refine s_qk (.int .i64 n_) (by kernel_rfl) ?_
    refine s_qk (.slice none 0 0) (by kernel_rfl) ?_
    refine s_qk (.int .i64 0) (by kernel_rfl) ?_
    refine s_qk (.slice none 0 0) (by kernel_rfl) ?_
    refine s_qk (.int .i64 0) (by kernel_rfl) ?_
    refine s_qk (.int .i64 0) (by kernel_rfl) ?_
    obtain ⟨g14, r15⟩ := G_some r11
    refine s_w ((n_ - 0)) (k := .i64) (x := (n_ - 0)) (by kernel_rfl) (wrap64 g14) ?_
    refine s_qk (.int .i64 (n_ - 0)) (by kernel_rfl) ?_
    refine s_nil ?_
    refine k13 _ _ ?_
    refine w_seqk fun K16 k16 => ?_
    refine w_reg (by kernel_rfl) ?_
    refine s_qk (.int .i64 (n_ - 0)) (by kernel_rfl) ?_
    refine s_qk (.bool (decide ((n_ - 0) > 0))) (by kernel_rfl) ?_
    refine s_nil ?_
    refine k16 _ _ ?_
    refine w_condp ((n_ - 0) > 0) (by kernel_rfl) rfl (fun h17 => ?_) (fun h17 => ?_)
    · have r18 := ite_t h17 r15
      refine w_reg (by kernel_rfl) ?_
      refine s_qk (.slice none 0 0) (by kernel_rfl) ?_
      refine s_qk (.slice none 0 0) (by kernel_rfl) ?_
      refine s_qk (.int .i64 0) (by kernel_rfl) ?_
      refine s_qk (.slice none 0 0) (by kernel_rfl) ?_
      refine s_qk (.int .i64 (n_ - 0)) (by kernel_rfl) ?_
      obtain ⟨g19, r20⟩ := G_some r18
      have q27_ := g19
      obtain ⟨s21, H22, f23, q27, e24, hm25, hf26⟩ := Ow.appendZ (P := Go.Proofs.Tryd.prog) (m := 8) (k := .i64) (k1 := .i64) (n := (n_ - 0)) (at_ := #[22, 3]) (0 : Int) wf (Ow.nil (enc := (encI .i64)) (sz := 1) (by decide)) rfl rfl (by kernel_rfl) (by kernel_rfl) (by decide) q27_.1 (by omega) (by have := q27_; omega) (by have := q27_; first | omega | (simp only [List.length_nil] at this ⊢; omega))
      obtain ⟨a28, n29, c30, rfl⟩ := hm25.form
      refine s_ek (.slice a28 n29 c30) (by kernel_rfl) (q27) ?_
      refine s_qk (.slice none 0 0) (by kernel_rfl) ?_
      refine s_qk (.int .i64 0) (by kernel_rfl) ?_
      obtain ⟨g32, r33⟩ := G_some r20
      obtain ⟨s34, q35, hs36⟩ := Ow.head (P := Go.Proofs.Tryd.prog) hm25 (t := 22) (by kernel_rfl) (hi := (some (.int .i64 0))) (r := (0 : Int).toNat) (aBound_int _ (by have := g32; omega)) (by have := g32; omega)
      obtain ⟨a37, n38, c39, rfl⟩ := hs36.form
      refine s_ql (.slice a37 n38 c39) (by kernel_rfl) q35 ?_
      refine s_qk (.slice a37 n38 c39) (by kernel_rfl) ?_
      refine s_nil ?_
      refine k12 _ _ ?_
      refine w_seqk fun K41 k41 => ?_
      refine w_reg (by kernel_rfl) ?_
      refine s_qk (.slice a37 n38 c39) (by kernel_rfl) ?_
      refine s_qk (.slice a37 n38 c39) (by kernel_rfl) ?_
      refine s_nil ?_
      refine k41 _ _ ?_
      refine w_ret ?_
      refine b_ret (fn := Go.Proofs.Tryd.f68) (vs := [.slice a37 n38 c39]) (aRes_tmp (by kernel_rfl) (rfl)) ?_
      obtain rfl := Option.some.inj r33
      exact ⟨(.slice a37 n38 c39), f23, rfl, (FrS.step wf (FrS.refl (W := []) wf) e24 Inn.nil), hs36, (hf26.fresh (Nat.le_refl _))⟩
    · have r42 := ite_f h17 r15
      refine w_skip ?_
      refine k12 _ _ ?_
      refine w_seqk fun K43 k43 => ?_
      refine w_reg (by kernel_rfl) ?_
      refine s_qk (.slice none 0 0) (by kernel_rfl) ?_
      refine s_qk (.slice none 0 0) (by kernel_rfl) ?_
      refine s_nil ?_
      refine k43 _ _ ?_
      refine w_ret ?_
      refine b_ret (fn := Go.Proofs.Tryd.f68) (vs := [.slice none 0 0]) (aRes_tmp (by kernel_rfl) (rfl)) ?_
      obtain rfl := Option.some.inj r42
      exact ⟨(.slice none 0 0), [], rfl, (FrS.refl (W := []) wf), (Ow.nil (by decide)), Inn.nil⟩

theorem c_slices_Concat {H : AH} {b_slices : Nat} {hd_slices_ : Value} {fp_slices_ : Fp} {hd_slices_2 : Value} {fp_slices_2 : Fp} {slices_ : List (Int)} {slices_2 : List (Int)} {r : List (Int)}
    (wf : WF H) (h_slices_ : Sq (encI .i64) 1 H hd_slices_ slices_ fp_slices_) (h_slices_2 : Sq (encI .i64) 1 H hd_slices_2 slices_2 fp_slices_2) (h_slices : Row H b_slices [hd_slices_, hd_slices_2]) (hr : z_slices_Concat slices_ slices_2 = some r) :
    ACalls Go.Proofs.Tryd.prog 43 #[.slice (some ⟨b_slices, 0, none⟩) 2 2] H fun v H' => ∃ (s3 : Value) (f4 : Fp), v = s3 ∧ FrS [] H H' ∧ Ow (encI .i64) 1 H' s3 r f4 ∧ Inn [] H f4 := by
  refine acalls_of_body mixed Go.Proofs.Tryd.func43 rfl (Nat.le_of_ble_eq_true rfl) ?_
  unfold z_slices_Concat at hr
  refine w_seqk fun K6 k6 => ?_
  refine w_reg (by kernel_rfl) ?_
  refine s_qk (.slice none 0 0) (by kernel_rfl) ?_
  refine s_nil ?_
  refine k6 _ _ ?_
  refine w_seqk fun K7 k7 => ?_
  refine w_reg (by kernel_rfl) ?_
  refine s_qk (.int .i64 0) (by kernel_rfl) ?_
  refine s_nil ?_
  refine k7 _ _ ?_
  refine w_seqk fun K8 k8 => ?_
  refine w_seqk fun K9 k9 => ?_
  refine w_reg (by kernel_rfl) ?_
  refine s_qk (.slice (some ⟨b_slices, 0, none⟩) 2 2) (by kernel_rfl) ?_
  refine s_qk (.int .i64 2) (by kernel_rfl) ?_
  refine s_qk (.int .i64 0) (by kernel_rfl) ?_
  refine s_nil ?_
  refine k9 _ _ ?_
  refine w_block ?_
  refine w_unroll ?_
  refine w_seqk fun K10 k10 => ?_
  refine w_reg (by kernel_rfl) ?_
  refine s_qk (.bool true) (by kernel_rfl) ?_
  refine s_nil ?_
  refine k10 _ _ ?_
  refine w_seqk fun K11 k11 => ?_
  refine w_cond true (by kernel_rfl) rfl (fun _ => ?_) (fun h => by cases h)
  refine w_skip ?_
  refine k11 _ _ ?_
  refine w_seqk fun K12 k12 => ?_
  refine w_block ?_
  refine w_seqk fun K13 k13 => ?_
  refine w_reg (by kernel_rfl) ?_
  refine s_qk (.pointer (some ⟨b_slices, 0, none⟩)) (by kernel_rfl) ?_
  refine s_ql (hd_slices_) (x := aLoad Go.Proofs.Tryd.prog 22 (.pointer (some ⟨b_slices, 0, none⟩)) H) (by kernel_rfl) (h_slices.ld (by kernel_rfl)) ?_
  refine s_qk (hd_slices_) (by kernel_rfl) ?_
  refine s_nil ?_
  refine k13 _ _ ?_
  refine w_seqk fun K14 k14 => ?_
  refine w_reg (by kernel_rfl) ?_
  refine s_qk (.int .i64 0) (by kernel_rfl) ?_
  refine s_qk (hd_slices_) (by kernel_rfl) ?_
  refine s_ql (.int .i64 (slices_.length : Int)) (x := aLen Go.Proofs.Tryd.prog 22 hd_slices_ H) (by kernel_rfl) (h_slices_.lenb (by kernel_rfl)) ?_
  obtain ⟨g15, r16⟩ := G_some hr
  refine s_w ((0 + (slices_.length : Int))) (k := .i64) (x := (0 + (slices_.length : Int))) (by kernel_rfl) (wrap64 g15) ?_
  refine s_qk (.int .i64 (0 + (slices_.length : Int))) (by kernel_rfl) ?_
  refine s_nil ?_
  refine k14 _ _ ?_
  refine w_seqk fun K17 k17 => ?_
  refine w_reg (by kernel_rfl) ?_
  refine s_qk (.int .i64 (0 + (slices_.length : Int))) (by kernel_rfl) ?_
  refine s_qk (.bool (decide ((0 + (slices_.length : Int)) < 0))) (by kernel_rfl) ?_
  refine s_nil ?_
  refine k17 _ _ ?_
  refine w_condp ((0 + (slices_.length : Int)) < 0) (by kernel_rfl) rfl (fun h18 => ?_) (fun h18 => ?_)
  · have r19 := ite_t h18 r16
    refine w_reg (by kernel_rfl) ?_
    refine s_qk (.iface 9 (.string ⟨#[108, 101, 110, 32, 111, 117, 116, 32, 111, 102, 32, 114, 97, 110, 103, 101]⟩)) (by kernel_rfl) ?_
    exact (no_none r19).elim
  · have r20 := ite_f h18 r16
    refine w_skip ?_
    refine k12 _ _ ?_
    refine w_reg (by kernel_rfl) ?_
    refine s_qk (.int .i64 1) (by kernel_rfl) ?_
    refine s_qk (.int .i64 1) (by kernel_rfl) ?_
    refine s_nil ?_
    refine w_unroll ?_
    refine w_seqk fun K21 k21 => ?_
    refine w_reg (by kernel_rfl) ?_
    refine s_qk (.bool true) (by kernel_rfl) ?_
    refine s_nil ?_
    refine k21 _ _ ?_
    refine w_seqk fun K22 k22 => ?_
    refine w_cond true (by kernel_rfl) rfl (fun _ => ?_) (fun h => by cases h)
    refine w_skip ?_
    refine k22 _ _ ?_
    refine w_seqk fun K23 k23 => ?_
    refine w_block ?_
    refine w_seqk fun K24 k24 => ?_
    refine w_reg (by kernel_rfl) ?_
    refine s_qk (.pointer (some ⟨b_slices, 1, none⟩)) (by kernel_rfl) ?_
    refine s_ql (hd_slices_2) (x := aLoad Go.Proofs.Tryd.prog 22 (.pointer (some ⟨b_slices, 1, none⟩)) H) (by kernel_rfl) (h_slices.ld (by kernel_rfl)) ?_
    refine s_qk (hd_slices_2) (by kernel_rfl) ?_
    refine s_nil ?_
    refine k24 _ _ ?_
    refine w_seqk fun K25 k25 => ?_
    refine w_reg (by kernel_rfl) ?_
    refine s_qk (.int .i64 (0 + (slices_.length : Int))) (by kernel_rfl) ?_
    refine s_qk (hd_slices_2) (by kernel_rfl) ?_
    refine s_ql (.int .i64 (slices_2.length : Int)) (x := aLen Go.Proofs.Tryd.prog 22 hd_slices_2 H) (by kernel_rfl) (h_slices_2.lenb (by kernel_rfl)) ?_
    obtain ⟨g26, r27⟩ := G_some r20
    refine s_w (((0 + (slices_.length : Int)) + (slices_2.length : Int))) (k := .i64) (x := ((0 + (slices_.length : Int)) + (slices_2.length : Int))) (by kernel_rfl) (wrap64 g26) ?_
    refine s_qk (.int .i64 ((0 + (slices_.length : Int)) + (slices_2.length : Int))) (by kernel_rfl) ?_
    refine s_nil ?_
    refine k25 _ _ ?_
    refine w_seqk fun K28 k28 => ?_
    refine w_reg (by kernel_rfl) ?_
    refine s_qk (.int .i64 ((0 + (slices_.length : Int)) + (slices_2.length : Int))) (by kernel_rfl) ?_
    refine s_qk (.bool (decide (((0 + (slices_.length : Int)) + (slices_2.length : Int)) < 0))) (by kernel_rfl) ?_
    refine s_nil ?_
    refine k28 _ _ ?_
    refine w_condp (((0 + (slices_.length : Int)) + (slices_2.length : Int)) < 0) (by kernel_rfl) rfl (fun h29 => ?_) (fun h29 => ?_)
    · have r30 := ite_t h29 r27
      refine w_reg (by kernel_rfl) ?_
      refine s_qk (.iface 9 (.string ⟨#[108, 101, 110, 32, 111, 117, 116, 32, 111, 102, 32, 114, 97, 110, 103, 101]⟩)) (by kernel_rfl) ?_
      exact (no_none r30).elim
    · have r31 := ite_f h29 r27
      refine w_skip ?_
      refine k23 _ _ ?_
      refine w_reg (by kernel_rfl) ?_
      refine s_qk (.int .i64 2) (by kernel_rfl) ?_
      refine s_qk (.int .i64 2) (by kernel_rfl) ?_
      refine s_nil ?_
      refine w_unroll ?_
      refine w_seqk fun K32 k32 => ?_
      refine w_reg (by kernel_rfl) ?_
      refine s_qk (.bool false) (by kernel_rfl) ?_
      refine s_nil ?_
      refine k32 _ _ ?_
      refine w_seqk fun K33 k33 => ?_
      refine w_cond false (by kernel_rfl) rfl (fun h => by cases h) (fun _ => ?_)
      refine w_exit (th_exit (th_exit (bl_eq ?_)))
      refine k8 _ _ ?_
      refine w_seqk fun K34 k34 => ?_
      refine w_reg (by kernel_rfl) ?_
      refine s_qk (.int .i64 ((0 + (slices_.length : Int)) + (slices_2.length : Int))) (by kernel_rfl) ?_
      obtain ⟨y35, hy36, r37⟩ := bind_some r31
      refine s_ck 68 #[.slice none 0 0, .int .i64 ((0 + (slices_.length : Int)) + (slices_2.length : Int))] (by kernel_rfl) (c_slices_Grow wf hy36) ?_
      rintro s38 H40 ⟨_, f39, rfl, e41, m42, i43⟩
      obtain ⟨a45, n46, c47, rfl⟩ := m42.form
      refine s_qk (.slice a45 n46 c47) (by kernel_rfl) ?_
      refine s_nil ?_
      refine k34 _ _ ?_
      refine w_seqk fun K48 k48 => ?_
      refine w_seqk fun K49 k49 => ?_
      refine w_reg (by kernel_rfl) ?_
      refine s_qk (.slice (some ⟨b_slices, 0, none⟩) 2 2) (by kernel_rfl) ?_
      refine s_qk (.int .i64 2) (by kernel_rfl) ?_
      refine s_qk (.int .i64 0) (by kernel_rfl) ?_
      refine s_nil ?_
      refine k49 _ _ ?_
      refine w_block ?_
      refine w_unroll ?_
      refine w_seqk fun K50 k50 => ?_
      refine w_reg (by kernel_rfl) ?_
      refine s_qk (.bool true) (by kernel_rfl) ?_
      refine s_nil ?_
      refine k50 _ _ ?_
      refine w_seqk fun K51 k51 => ?_
      refine w_cond true (by kernel_rfl) rfl (fun _ => ?_) (fun h => by cases h)
      refine w_skip ?_
      refine k51 _ _ ?_
      refine w_seqk fun K52 k52 => ?_
      refine w_block ?_
      refine w_seqk fun K53 k53 => ?_
      refine w_reg (by kernel_rfl) ?_
      refine s_qk (.pointer (some ⟨b_slices, 0, none⟩)) (by kernel_rfl) ?_
      have u54 := (h_slices.frS e41 Dj.nil_l)
      refine s_ql (hd_slices_) (x := aLoad Go.Proofs.Tryd.prog 22 (.pointer (some ⟨b_slices, 0, none⟩)) H40) (by kernel_rfl) (u54.ld (by kernel_rfl)) ?_
      refine s_qk (hd_slices_) (by kernel_rfl) ?_
      refine s_nil ?_
      refine k53 _ _ ?_
      refine w_reg (by kernel_rfl) ?_
      refine s_qk (.slice a45 n46 c47) (by kernel_rfl) ?_
      refine s_qk (hd_slices_) (by kernel_rfl) ?_
      obtain ⟨g55, r56⟩ := G_some r37
      have u64 := (h_slices_.fr e41 Dj.nil_l)
      obtain ⟨s57, H58, f59, q63, e60, hm61, hf62⟩ := Ow.append (P := Go.Proofs.Tryd.prog) 8 e41.wf m42 u64 (fun _ _ => rfl) (at_ := #[22, 22]) rfl rfl (by kernel_rfl) (by kernel_rfl) (by decide) (by have := g55; first | omega | (simp only [List.length_cons, List.length_nil] at this ⊢; omega) | (simp at this ⊢; omega))
      obtain ⟨a65, n66, c67, rfl⟩ := hm61.form
      refine s_ek (.slice a65 n66 c67) (by kernel_rfl) (q63) ?_
      refine s_qk (.slice a65 n66 c67) (by kernel_rfl) ?_
      refine s_nil ?_
      refine k52 _ _ ?_
      refine w_reg (by kernel_rfl) ?_
      refine s_qk (.int .i64 1) (by kernel_rfl) ?_
      refine s_qk (.int .i64 1) (by kernel_rfl) ?_
      refine s_nil ?_
      refine w_unroll ?_
      refine w_seqk fun K69 k69 => ?_
      refine w_reg (by kernel_rfl) ?_
      refine s_qk (.bool true) (by kernel_rfl) ?_
      refine s_nil ?_
      refine k69 _ _ ?_
      refine w_seqk fun K70 k70 => ?_
      refine w_cond true (by kernel_rfl) rfl (fun _ => ?_) (fun h => by cases h)
      refine w_skip ?_
      refine k70 _ _ ?_
      refine w_seqk fun K71 k71 => ?_
      refine w_block ?_
      refine w_seqk fun K72 k72 => ?_
      refine w_reg (by kernel_rfl) ?_
      refine s_qk (.pointer (some ⟨b_slices, 1, none⟩)) (by kernel_rfl) ?_
      have u73 := (u54.frS e60 (i43.djn h_slices.ltF))
      refine s_ql (hd_slices_2) (x := aLoad Go.Proofs.Tryd.prog 22 (.pointer (some ⟨b_slices, 1, none⟩)) H58) (by kernel_rfl) (u73.ld (by kernel_rfl)) ?_
      refine s_qk (hd_slices_2) (by kernel_rfl) ?_
      refine s_nil ?_
      refine k72 _ _ ?_
      refine w_reg (by kernel_rfl) ?_
      refine s_qk (.slice a65 n66 c67) (by kernel_rfl) ?_
      refine s_qk (hd_slices_2) (by kernel_rfl) ?_
      obtain ⟨g74, r75⟩ := G_some r56
      have u83 := ((h_slices_2.fr e41 Dj.nil_l).fr e60 (i43.djn h_slices_2.lt))
      obtain ⟨s76, H77, f78, q82, e79, hm80, hf81⟩ := Ow.append (P := Go.Proofs.Tryd.prog) 8 e60.wf hm61 u83 (fun _ _ => rfl) (at_ := #[22, 22]) rfl rfl (by kernel_rfl) (by kernel_rfl) (by decide) (by have := g74; first | omega | (simp only [List.length_cons, List.length_nil] at this ⊢; omega) | (simp at this ⊢; omega))
      obtain ⟨a84, n85, c86, rfl⟩ := hm80.form
      refine s_ek (.slice a84 n85 c86) (by kernel_rfl) (q82) ?_
      refine s_qk (.slice a84 n85 c86) (by kernel_rfl) ?_
      refine s_nil ?_
      refine k71 _ _ ?_
      refine w_reg (by kernel_rfl) ?_
      refine s_qk (.int .i64 2) (by kernel_rfl) ?_
      refine s_qk (.int .i64 2) (by kernel_rfl) ?_
      refine s_nil ?_
      refine w_unroll ?_
      refine w_seqk fun K88 k88 => ?_
      refine w_reg (by kernel_rfl) ?_
      refine s_qk (.bool false) (by kernel_rfl) ?_
      refine s_nil ?_
      refine k88 _ _ ?_
      refine w_seqk fun K89 k89 => ?_
      refine w_cond false (by kernel_rfl) rfl (fun h => by cases h) (fun _ => ?_)
      refine w_exit (th_exit (th_exit (bl_eq ?_)))
      refine k48 _ _ ?_
      refine w_seqk fun K90 k90 => ?_
      refine w_reg (by kernel_rfl) ?_
      refine s_qk (.slice a84 n85 c86) (by kernel_rfl) ?_
      refine s_qk (.slice a84 n85 c86) (by kernel_rfl) ?_
      refine s_nil ?_
      refine k90 _ _ ?_
      refine w_ret ?_
      refine b_ret (fn := Go.Proofs.Tryd.f43) (vs := [.slice a84 n85 c86]) (aRes_tmp (by kernel_rfl) (rfl)) ?_
      obtain rfl := Option.some.inj r75
      exact ⟨(.slice a84 n85 c86), f78, rfl, (FrS.step wf (FrS.step wf (FrS.step wf (FrS.refl (W := []) wf) e41 Inn.nil) e60 (i43.fresh (Nat.le_refl _))) e79 (Inn.trans (i43.fresh (Nat.le_refl _)) e41.next hf62)), hm80, (Inn.trans (Inn.trans (i43.fresh (Nat.le_refl _)) e41.next hf62) (Nat.le_trans e41.next e60.next) hf81)⟩

theorem c_walk_Join {H : AH} {hd_a : Value} {fp_a : Fp} {hd_b : Value} {fp_b : Fp} {a : List (Int)} {b : List (Int)} {r : List (Int) × Er}
    (wf : WF H) (h_a : Sq (encI .i64) 1 H hd_a a fp_a) (h_b : Sq (encI .i64) 1 H hd_b b fp_b) (hr : z_walk_Join a b = some r) :
    ACalls Go.Proofs.Tryd.prog 10 #[hd_a, hd_b] H fun v H' => ∃ (s3 : Value) (f4 : Fp) (v7 : Value) (f8 : Fp), v = .tuple #[s3, v7] ∧ FrS [] H H' ∧ Ow (encI .i64) 1 H' s3 r.1 f4 ∧ Ev 80 86 H' v7 r.2 f8 ∧ Inn [] H f4 ∧ Inn [] H f8 ∧ Dj f4 f8 := by
  refine acalls_of_body mixed Go.Proofs.Tryd.func10 rfl (Nat.le_of_ble_eq_true rfl) ?_
  unfold z_walk_Join at hr
  refine w_seqk fun K12 k12 => ?_
  refine w_reg (by kernel_rfl) ?_
  refine s_qk (.slice none 0 0) (by kernel_rfl) ?_
  refine s_qk (.nilIface) (by kernel_rfl) ?_
  refine s_nil ?_
  refine k12 _ _ ?_
  refine w_seqk fun K13 k13 => ?_
  refine w_reg (by kernel_rfl) ?_
  refine s_qk (.nilIface) (by kernel_rfl) ?_
  refine s_nil ?_
  refine k13 _ _ ?_
  refine w_seqk fun K14 k14 => ?_
  refine w_block ?_
  refine w_seqk fun K15 k15 => ?_
  obtain ⟨o16, hx17, r18⟩ := bind_some hr
  refine w_mid (fun α H19 => Has α [(0, hd_a), (1, hd_b), (6, .nilIface), (7, .bool o16)] ∧ H = H19) (fun K21 k21 => ?_) (fun α H19 hM => ?_)
  · refine w_reg (by kernel_rfl) ?_
    refine s_qk (hd_a) (by kernel_rfl) ?_
    refine s_ql (.int .i64 (a.length : Int)) (x := aLen Go.Proofs.Tryd.prog 22 hd_a H) (by kernel_rfl) (h_a.lenb (by kernel_rfl)) ?_
    refine s_b ((a.length : Int) = 0) (by kernel_rfl) (fun h23 => ?_) (fun h23 => ?_)
    · have r24 := ite_t h23 hx17
      refine s_qk (.bool true) (by kernel_rfl) ?_
      refine s_no (by kernel_rfl) ?_
      refine s_no (by kernel_rfl) ?_
      refine s_no (by kernel_rfl) ?_
      refine s_qk (.bool true) (by kernel_rfl) ?_
      refine s_qk (.bool true) (by kernel_rfl) ?_
      refine s_nil ?_
      obtain rfl := Option.some.inj r24
      exact k21 _ _ ⟨⟨by kernel_rfl, by kernel_rfl, by kernel_rfl, by kernel_rfl, trivial⟩, rfl⟩
    · have r25 := ite_f h23 hx17
      refine s_qk (.bool false) (by kernel_rfl) ?_
      refine s_qk (hd_b) (by kernel_rfl) ?_
      refine s_ql (.int .i64 (b.length : Int)) (x := aLen Go.Proofs.Tryd.prog 22 hd_b H) (by kernel_rfl) (h_b.lenb (by kernel_rfl)) ?_
      refine s_qk (.bool (decide ((b.length : Int) = 0))) (by kernel_rfl) ?_
      refine s_qk (.bool (decide ((b.length : Int) = 0))) (by kernel_rfl) ?_
      refine s_qk (.bool (decide ((b.length : Int) = 0))) (by kernel_rfl) ?_
      refine s_nil ?_
      obtain rfl := Option.some.inj r25
      exact k21 _ _ ⟨⟨by kernel_rfl, by kernel_rfl, by kernel_rfl, by kernel_rfl, trivial⟩, rfl⟩
  · obtain ⟨hh22, rfl⟩ := hM
    obtain ⟨β, rfl⟩ := has_ex hh22
    clear hh22
    refine k15 _ _ ?_
    obtain ⟨o26, hx27, r28⟩ := bind_some r18
    refine w_mid (fun α H29 => ∃ (v33 : Value) (f34 : Fp), Has α [(0, hd_a), (1, hd_b), (6, v33)] ∧ H = H29 ∧ Ev 80 86 H29 v33 o26 f34 ∧ Inn [] H f34) (fun K36 k36 => ?_) (fun α H29 hM => ?_)
    · refine w_cond (o16) (by kernel_rfl) rfl (fun h38 => ?_) (fun h38 => ?_)
      · have r39 := ite_t h38 hx27
        refine w_reg (by kernel_rfl) ?_
        refine s_qk (.iface 80 (.int .i64 5)) (by kernel_rfl) ?_
        refine s_qk (.iface 80 (.int .i64 5)) (by kernel_rfl) ?_
        refine s_nil ?_
        obtain rfl := Option.some.inj r39
        exact k36 _ _ ⟨(.iface 80 (.int .i64 5)), [], ⟨by kernel_rfl, by kernel_rfl, by kernel_rfl, trivial⟩, rfl, Ev.no, Inn.nil⟩
      · have r40 := ite_bf h38 hx27
        refine w_seqk fun K41 k41 => ?_
        refine w_draw [0, 1, 2, 3, 4, 5, 6, 7, 8, 9, 10] (by kernel_rfl) ?_
        refine d_qk (hd_a) (by kernel_rfl) ?_
        refine d_qk (hd_a) (by kernel_rfl) ?_
        refine d_ql (.int .i64 (a.length : Int)) (x := aLen Go.Proofs.Tryd.prog 22 hd_a H) (by kernel_rfl) (h_a.lenb (by kernel_rfl)) ?_
        obtain ⟨g42, r43⟩ := G_some r40
        refine d_w (((a.length : Int) - 1)) (k := .i64) (x := ((a.length : Int) - 1)) (by kernel_rfl) (wrap64 g42) ?_
        obtain ⟨g44, r45⟩ := G_some r43
        refine d_ql (elp hd_a 1 ((a.length : Int) - 1).toNat 0) (x := aIndexAddr Go.Proofs.Tryd.prog 22 hd_a (.int .i64 ((a.length : Int) - 1))) (by kernel_rfl) (h_a.idxb (by kernel_rfl) g44.1 g44.2) ?_
        refine d_ql (.int .i64 (gt a ((a.length : Int) - 1))) (x := aLoad Go.Proofs.Tryd.prog 3 (elp hd_a 1 ((a.length : Int) - 1).toNat 0) H) (by kernel_rfl) (h_a.ld g44.1 g44.2 (by kernel_rfl)) ?_
        refine d_qk (hd_b) (by kernel_rfl) ?_
        obtain ⟨g46, r47⟩ := G_some r45
        refine d_ql (elp hd_b 1 (0 : Int).toNat 0) (x := aIndexAddr Go.Proofs.Tryd.prog 22 hd_b (.int .i64 0)) (by kernel_rfl) (h_b.idxb (by kernel_rfl) (by decide) g46) ?_
        refine d_ql (.int .i64 (gt b 0)) (x := aLoad Go.Proofs.Tryd.prog 3 (elp hd_b 1 (0 : Int).toNat 0) H) (by kernel_rfl) (h_b.ld (by decide) g46 (by kernel_rfl)) ?_
        refine d_qk (.bool (!decide ((gt a ((a.length : Int) - 1)) = (gt b 0)))) (by kernel_rfl) ?_
        refine d_qk (.bool (!decide ((gt a ((a.length : Int) - 1)) = (gt b 0)))) (by kernel_rfl) ?_
        refine d_nil ?_
        refine k41 _ _ ?_
        refine w_condn ((gt a ((a.length : Int) - 1)) = (gt b 0)) (by kernel_rfl) rfl (fun h48 => ?_) (fun h48 => ?_)
        · have r49 := ite_f h48 r47
          refine w_reg (by kernel_rfl) ?_
          refine s_qk (.iface 80 (.int .i64 16)) (by kernel_rfl) ?_
          refine s_qk (.iface 80 (.int .i64 16)) (by kernel_rfl) ?_
          refine s_nil ?_
          obtain rfl := Option.some.inj r49
          exact k36 _ _ ⟨(.iface 80 (.int .i64 16)), [], ⟨by kernel_rfl, by kernel_rfl, by kernel_rfl, trivial⟩, rfl, Ev.no, Inn.nil⟩
        · have r50 := ite_t h48 r47
          refine w_skip ?_
          obtain rfl := Option.some.inj r50
          exact k36 _ _ ⟨(.nilIface), [], ⟨by kernel_rfl, by kernel_rfl, by kernel_rfl, trivial⟩, rfl, Ev.nil, Inn.nil⟩
    · obtain ⟨v33, f34, hh37, rfl, m32, i35⟩ := hM
      obtain ⟨β, rfl⟩ := has_ex hh37
      clear hh37
      refine k14 _ _ ?_
      refine w_seqk fun K51 k51 => ?_
      refine w_seqk fun K52 k52 => ?_
      refine w_reg (by kernel_rfl) ?_
      refine s_qk (v33) (by kernel_rfl) ?_
      rcases (m32).cases with ⟨h53, rfl⟩ | ⟨h53, t54, x55, rfl⟩
      · have r56 := ite_t h53 r28
        refine s_qk (.bool false) (by kernel_rfl) ?_
        refine s_nil ?_
        refine k52 _ _ ?_
        refine w_cond false (by kernel_rfl) rfl (fun h => by cases h) (fun _ => ?_)
        refine w_skip ?_
        refine k51 _ _ ?_
        refine w_seqk fun K57 k57 => ?_
        refine w_reg (by kernel_rfl) ?_
        refine s_qk (hd_a) (by kernel_rfl) ?_
        refine s_qk (hd_b) (by kernel_rfl) ?_
        obtain ⟨g58, r59⟩ := G_some r56
        obtain ⟨s60, q61, hs62⟩ := Sq.cut (P := Go.Proofs.Tryd.prog) h_b (t := 22) (by kernel_rfl) (lo := (some (.int .i64 1))) (hi := none) (l := (1 : Int).toNat) (r := b.length) (aBound_int _ (by have := g58; omega)) (rfl) (by have := g58; omega) (by have := g58; omega)
        obtain ⟨a63, n64, c65, rfl⟩ := hs62.form
        refine s_ql (.slice a63 n64 c65) (by kernel_rfl) q61 ?_
        obtain ⟨a67, n68, c69, rfl⟩ := h_a.form
        refine s_lsl wf [.slice a67 n68 c69, .slice a63 n64 c65] 2 (one_cons (h_a.one1) (one_cons (hs62.one1) (one_nil))) (by kernel_rfl) fun b70 H71 e72 hb73 r74 => ?_
        have u76 := (h_a.ext e72)
        have u77 := (hs62.ext e72)
        obtain ⟨y78, hy79, r80⟩ := bind_some r59
        refine s_ck 43 #[.slice (some ⟨b70, 0, none⟩) 2 2] (by kernel_rfl) (c_slices_Concat e72.wf u76 u77 r74 hy79) ?_
        rintro s81 H83 ⟨_, f82, rfl, e84, m85, i86⟩
        obtain ⟨a88, n89, c90, rfl⟩ := m85.form
        refine s_qk (.slice a88 n89 c90) (by kernel_rfl) ?_
        refine s_qk (.nilIface) (by kernel_rfl) ?_
        refine s_nil ?_
        refine k57 _ _ ?_
        refine w_ret ?_
        refine b_ret (fn := Go.Proofs.Tryd.f10) (vs := [.slice a88 n89 c90, .nilIface]) (aRes_tmp (by kernel_rfl) (aRes_tmp (by kernel_rfl) (rfl))) ?_
        obtain rfl := Option.some.inj r80
        exact ⟨(.slice a88 n89 c90), f82, (.nilIface), [], rfl, (FrS.step wf ((FrS.refl (W := []) wf).extR e72) e84 Inn.nil), m85, Ev.nil, (i86.fresh e72.next), Inn.nil, Dj.nil_r⟩
      · have r91 := ite_f h53 r28
        refine s_ql (.bool true) (x := aBin Go.Proofs.Tryd.prog .neq 25 (.tmp 29) (.const .nilIface) (.iface t54 x55) .nilIface) (by kernel_rfl) (aBin_nnil (by kernel_rfl)) ?_
        refine s_nil ?_
        refine k52 _ _ ?_
        refine w_cond true (by kernel_rfl) rfl (fun _ => ?_) (fun h => by cases h)
        refine w_seqk fun K92 k92 => ?_
        refine w_reg (by kernel_rfl) ?_
        refine s_qk (.iface t54 x55) (by kernel_rfl) ?_
        refine s_qk (.slice none 0 0) (by kernel_rfl) ?_
        refine s_qk (.iface t54 x55) (by kernel_rfl) ?_
        refine s_nil ?_
        refine k92 _ _ ?_
        refine w_ret (th_ret ?_)
        refine b_ret (fn := Go.Proofs.Tryd.f10) (vs := [.slice none 0 0, .iface t54 x55]) (aRes_tmp (by kernel_rfl) (aRes_tmp (by kernel_rfl) (rfl))) ?_
        obtain rfl := Option.some.inj r91
        exact ⟨(.slice none 0 0), [], (.iface t54 x55), f34, rfl, (FrS.refl (W := []) wf), (Ow.nil (by decide)), m32, Inn.nil, (i35.fresh (Nat.le_refl _)), Dj.nil_l⟩

theorem c_viaductref01_E {H : AH} {n_ : Int} {r : Int}
    (wf : WF H) (hr : z_viaductref01_E n_ = some r) :
    ACalls Go.Proofs.Tryd.prog 41 #[.int .i64 n_] H fun v H' => v = .agg #[.int .i64 r, .slice none 0 0] ∧ FrS [] H H' := by
  refine acalls_of_body mixed Go.Proofs.Tryd.func41 rfl (Nat.le_of_ble_eq_true rfl) ?_
  unfold z_viaductref01_E at hr
  refine w_seqk fun K1 k1 => ?_
  refine w_reg (by kernel_rfl) ?_
  refine s_rwk wf [.int .i64 0, .slice none 0 0] (by kernel_rfl) fun b2 H3 e4 hb5 r6 => ?_
  refine s_nil ?_
  refine k1 _ _ ?_
  refine w_seqk fun K8 k8 => ?_
  refine w_reg (by kernel_rfl) ?_
  refine s_qk (.int .i64 n_) (by kernel_rfl) ?_
  refine s_qk (.agg #[.int .i64 n_, .slice none 0 0]) (by kernel_rfl) ?_
  obtain ⟨H9, q10, e11, r12⟩ := Row.store (P := Go.Proofs.Tryd.prog) (t := 31) (p := 0) e4.wf r6 (.agg #[.int .i64 n_, .slice none 0 0]) [.int .i64 n_, .slice none 0 0] (by kernel_rfl) (by kernel_rfl) (one_cons (rfl) (one_cons (rfl) (one_nil))) (Nat.le_of_ble_eq_true (by kernel_rfl)) [.int .i64 n_, .slice none 0 0] (by kernel_rfl)
  refine s_ek (undef) (by kernel_rfl) (map_ok q10) ?_
  refine s_nil ?_
  refine k8 _ _ ?_
  refine w_ret ?_
  refine b_ret (fn := Go.Proofs.Tryd.f41) (vs := [.agg #[.int .i64 n_, .slice none 0 0]]) (aRes_cell (Eq.trans (b := aLoad Go.Proofs.Tryd.prog 31 (.pointer (some ⟨b2, 0, none⟩)) H9) (by kernel_rfl) (r12.ld (by kernel_rfl))) (rfl)) ?_
  obtain rfl := Option.some.inj hr
  exact ⟨rfl, (FrS.step wf ((FrS.refl (W := []) wf).extR e4) e11 (hb5.fresh (Nat.le_refl _)))⟩

theorem c_viaductref09_DocJoin {H : AH} {hd_a : Value} {fp_a : Fp} {hd_b : Value} {fp_b : Fp} {a : List (Int)} {b : List (Int)} {r : List (Int) × Int}
    (wf : WF H) (h_a : Sq (encI .i64) 1 H hd_a a fp_a) (h_b : Sq (encI .i64) 1 H hd_b b fp_b) (hr : z_viaductref09_DocJoin a b = some r) :
    ACalls Go.Proofs.Tryd.prog 12 #[hd_a, hd_b] H fun v H' => ∃ (s3 : Value) (f4 : Fp), v = .tuple #[s3, .agg #[.int .i64 r.2, .slice none 0 0]] ∧ FrS [] H H' ∧ Ow (encI .i64) 1 H' s3 r.1 f4 ∧ Inn [] H f4 := by
  refine acalls_of_body mixed Go.Proofs.Tryd.func12 rfl (Nat.le_of_ble_eq_true rfl) ?_
  unfold z_viaductref09_DocJoin at hr
  refine w_seqk fun K6 k6 => ?_
  refine w_reg (by kernel_rfl) ?_
  refine s_qk (.slice none 0 0) (by kernel_rfl) ?_
  refine s_rwk wf [.int .i64 0, .slice none 0 0] (by kernel_rfl) fun b7 H8 e9 hb10 r11 => ?_
  refine s_nil ?_
  refine k6 _ _ ?_
  refine w_seqk fun K13 k13 => ?_
  refine w_block ?_
  refine w_seqk fun K14 k14 => ?_
  obtain ⟨o15, hx16, r17⟩ := bind_some hr
  refine w_mid (fun α H18 => Has α [(0, hd_a), (1, hd_b), (5, .pointer (some ⟨b7, 0, none⟩)), (7, .bool o15)] ∧ H8 = H18) (fun K20 k20 => ?_) (fun α H18 hM => ?_)
  · refine w_reg (by kernel_rfl) ?_
    refine s_qk (hd_a) (by kernel_rfl) ?_
    have u22 := (h_a.ext e9)
    refine s_ql (.int .i64 (a.length : Int)) (x := aLen Go.Proofs.Tryd.prog 22 hd_a H8) (by kernel_rfl) (u22.lenb (by kernel_rfl)) ?_
    refine s_b ((a.length : Int) = 0) (by kernel_rfl) (fun h23 => ?_) (fun h23 => ?_)
    · have r24 := ite_t h23 hx16
      refine s_qk (.bool true) (by kernel_rfl) ?_
      refine s_no (by kernel_rfl) ?_
      refine s_no (by kernel_rfl) ?_
      refine s_no (by kernel_rfl) ?_
      refine s_qk (.bool true) (by kernel_rfl) ?_
      refine s_qk (.bool true) (by kernel_rfl) ?_
      refine s_nil ?_
      obtain rfl := Option.some.inj r24
      exact k20 _ _ ⟨⟨by kernel_rfl, by kernel_rfl, by kernel_rfl, by kernel_rfl, trivial⟩, rfl⟩
    · have r25 := ite_f h23 hx16
      refine s_qk (.bool false) (by kernel_rfl) ?_
      refine s_qk (hd_b) (by kernel_rfl) ?_
      have u26 := (h_b.ext e9)
      refine s_ql (.int .i64 (b.length : Int)) (x := aLen Go.Proofs.Tryd.prog 22 hd_b H8) (by kernel_rfl) (u26.lenb (by kernel_rfl)) ?_
      refine s_qk (.bool (decide ((b.length : Int) = 0))) (by kernel_rfl) ?_
      refine s_qk (.bool (decide ((b.length : Int) = 0))) (by kernel_rfl) ?_
      refine s_qk (.bool (decide ((b.length : Int) = 0))) (by kernel_rfl) ?_
      refine s_nil ?_
      obtain rfl := Option.some.inj r25
      exact k20 _ _ ⟨⟨by kernel_rfl, by kernel_rfl, by kernel_rfl, by kernel_rfl, trivial⟩, rfl⟩
  · obtain ⟨hh21, rfl⟩ := hM
    obtain ⟨β, rfl⟩ := has_ex hh21
    clear hh21
    refine k14 _ _ ?_
    refine w_cond (o15) (by kernel_rfl) rfl (fun h27 => ?_) (fun h27 => ?_)
    · have r28 := ite_t h27 r17
      refine w_seqk fun K29 k29 => ?_
      refine w_reg (by kernel_rfl) ?_
      obtain ⟨y30, hy31, r32⟩ := bind_some r28
      refine s_ck 41 #[.int .i64 5] (by kernel_rfl) (c_viaductref01_E e9.wf hy31) ?_
      rintro _ H33 ⟨rfl, e34⟩
      refine s_qk (.slice none 0 0) (by kernel_rfl) ?_
      have u39 := (r11.frS e34 Dj.nil_l)
      obtain ⟨H35, q36, e37, r38⟩ := Row.store (P := Go.Proofs.Tryd.prog) (t := 31) (p := 0) e34.wf u39 (.agg #[.int .i64 y30, .slice none 0 0]) [.int .i64 y30, .slice none 0 0] (by kernel_rfl) (by kernel_rfl) (one_cons (rfl) (one_cons (rfl) (one_nil))) (Nat.le_of_ble_eq_true (by kernel_rfl)) [.int .i64 y30, .slice none 0 0] (by kernel_rfl)
      refine s_ek (undef) (by kernel_rfl) (map_ok q36) ?_
      refine s_nil ?_
      refine k29 _ _ ?_
      refine w_ret (bl_ret (th_ret ?_))
      refine b_ret (fn := Go.Proofs.Tryd.f12) (vs := [.slice none 0 0, .agg #[.int .i64 y30, .slice none 0 0]]) (aRes_tmp (by kernel_rfl) (aRes_cell (Eq.trans (b := aLoad Go.Proofs.Tryd.prog 31 (.pointer (some ⟨b7, 0, none⟩)) H35) (by kernel_rfl) (r38.ld (by kernel_rfl))) (rfl))) ?_
      obtain rfl := Option.some.inj r32
      exact ⟨(.slice none 0 0), [], rfl, (FrS.step wf (FrS.step wf ((FrS.refl (W := []) wf).extR e9) e34 Inn.nil) e37 (hb10.fresh (Nat.le_refl _))), (Ow.nil (by decide)), Inn.nil⟩
    · have r40 := ite_bf h27 r17
      refine w_seqk fun K41 k41 => ?_
      refine w_draw [0, 1, 2, 3, 4, 5, 6, 7, 8, 9, 10] (by kernel_rfl) ?_
      refine d_qk (hd_a) (by kernel_rfl) ?_
      refine d_qk (hd_a) (by kernel_rfl) ?_
      have u42 := (h_a.ext e9)
      refine d_ql (.int .i64 (a.length : Int)) (x := aLen Go.Proofs.Tryd.prog 22 hd_a H8) (by kernel_rfl) (u42.lenb (by kernel_rfl)) ?_
      obtain ⟨g43, r44⟩ := G_some r40
      refine d_w (((a.length : Int) - 1)) (k := .i64) (x := ((a.length : Int) - 1)) (by kernel_rfl) (wrap64 g43) ?_
      obtain ⟨g45, r46⟩ := G_some r44
      refine d_ql (elp hd_a 1 ((a.length : Int) - 1).toNat 0) (x := aIndexAddr Go.Proofs.Tryd.prog 22 hd_a (.int .i64 ((a.length : Int) - 1))) (by kernel_rfl) (u42.idxb (by kernel_rfl) g45.1 g45.2) ?_
      refine d_ql (.int .i64 (gt a ((a.length : Int) - 1))) (x := aLoad Go.Proofs.Tryd.prog 3 (elp hd_a 1 ((a.length : Int) - 1).toNat 0) H8) (by kernel_rfl) (u42.ld g45.1 g45.2 (by kernel_rfl)) ?_
      refine d_qk (hd_b) (by kernel_rfl) ?_
      obtain ⟨g47, r48⟩ := G_some r46
      have u49 := (h_b.ext e9)
      refine d_ql (elp hd_b 1 (0 : Int).toNat 0) (x := aIndexAddr Go.Proofs.Tryd.prog 22 hd_b (.int .i64 0)) (by kernel_rfl) (u49.idxb (by kernel_rfl) (by decide) g47) ?_
      refine d_ql (.int .i64 (gt b 0)) (x := aLoad Go.Proofs.Tryd.prog 3 (elp hd_b 1 (0 : Int).toNat 0) H8) (by kernel_rfl) (u49.ld (by decide) g47 (by kernel_rfl)) ?_
      refine d_qk (.bool (!decide ((gt a ((a.length : Int) - 1)) = (gt b 0)))) (by kernel_rfl) ?_
      refine d_qk (.bool (!decide ((gt a ((a.length : Int) - 1)) = (gt b 0)))) (by kernel_rfl) ?_
      refine d_nil ?_
      refine k41 _ _ ?_
      refine w_condn ((gt a ((a.length : Int) - 1)) = (gt b 0)) (by kernel_rfl) rfl (fun h50 => ?_) (fun h50 => ?_)
      · have r51 := ite_f h50 r48
        refine w_seqk fun K52 k52 => ?_
        refine w_reg (by kernel_rfl) ?_
        obtain ⟨y53, hy54, r55⟩ := bind_some r51
        refine s_ck 41 #[.int .i64 16] (by kernel_rfl) (c_viaductref01_E e9.wf hy54) ?_
        rintro _ H56 ⟨rfl, e57⟩
        refine s_qk (.slice none 0 0) (by kernel_rfl) ?_
        have u62 := (r11.frS e57 Dj.nil_l)
        obtain ⟨H58, q59, e60, r61⟩ := Row.store (P := Go.Proofs.Tryd.prog) (t := 31) (p := 0) e57.wf u62 (.agg #[.int .i64 y53, .slice none 0 0]) [.int .i64 y53, .slice none 0 0] (by kernel_rfl) (by kernel_rfl) (one_cons (rfl) (one_cons (rfl) (one_nil))) (Nat.le_of_ble_eq_true (by kernel_rfl)) [.int .i64 y53, .slice none 0 0] (by kernel_rfl)
        refine s_ek (undef) (by kernel_rfl) (map_ok q59) ?_
        refine s_nil ?_
        refine k52 _ _ ?_
        refine w_ret (bl_ret (th_ret ?_))
        refine b_ret (fn := Go.Proofs.Tryd.f12) (vs := [.slice none 0 0, .agg #[.int .i64 y53, .slice none 0 0]]) (aRes_tmp (by kernel_rfl) (aRes_cell (Eq.trans (b := aLoad Go.Proofs.Tryd.prog 31 (.pointer (some ⟨b7, 0, none⟩)) H58) (by kernel_rfl) (r61.ld (by kernel_rfl))) (rfl))) ?_
        obtain rfl := Option.some.inj r55
        exact ⟨(.slice none 0 0), [], rfl, (FrS.step wf (FrS.step wf ((FrS.refl (W := []) wf).extR e9) e57 Inn.nil) e60 (hb10.fresh (Nat.le_refl _))), (Ow.nil (by decide)), Inn.nil⟩
      · have r63 := ite_t h50 r48
        refine w_skip ?_
        refine k13 _ _ ?_
        refine w_seqk fun K64 k64 => ?_
        refine w_reg (by kernel_rfl) ?_
        refine s_qk (hd_a) (by kernel_rfl) ?_
        obtain ⟨y65, hy66, r67⟩ := bind_some r63
        refine s_ck 11 #[hd_a] (by kernel_rfl) (c_viaductref02_TwinInts e9.wf u42 hy66) ?_
        rintro s68 H70 ⟨_, f69, rfl, e71, m72, i73⟩
        obtain ⟨a75, n76, c77, rfl⟩ := m72.form
        refine s_qk (.slice a75 n76 c77) (by kernel_rfl) ?_
        refine s_nil ?_
        refine k64 _ _ ?_
        refine w_seqk fun K78 k78 => ?_
        refine w_reg (by kernel_rfl) ?_
        refine s_qk (.slice a75 n76 c77) (by kernel_rfl) ?_
        refine s_qk (hd_b) (by kernel_rfl) ?_
        obtain ⟨g79, r80⟩ := G_some r67
        have u84 := (u49.fr e71 Dj.nil_l)
        obtain ⟨s81, q82, hs83⟩ := Sq.cut (P := Go.Proofs.Tryd.prog) u84 (t := 22) (by kernel_rfl) (lo := (some (.int .i64 1))) (hi := none) (l := (1 : Int).toNat) (r := b.length) (aBound_int _ (by have := g79; omega)) (rfl) (by have := g79; omega) (by have := g79; omega)
        obtain ⟨a85, n86, c87, rfl⟩ := hs83.form
        refine s_ql (.slice a85 n86 c87) (by kernel_rfl) q82 ?_
        obtain ⟨g89, r90⟩ := G_some r80
        obtain ⟨s91, H92, f93, q97, e94, hm95, hf96⟩ := Ow.append (P := Go.Proofs.Tryd.prog) 8 e71.wf m72 hs83 (fun _ _ => rfl) (at_ := #[22, 22]) rfl rfl (by kernel_rfl) (by kernel_rfl) (by decide) (by have := g89; first | omega | (simp only [List.length_cons, List.length_nil] at this ⊢; omega) | (simp at this ⊢; omega))
        obtain ⟨a98, n99, c100, rfl⟩ := hm95.form
        refine s_ek (.slice a98 n99 c100) (by kernel_rfl) (q97) ?_
        refine s_qk (.agg #[.int .i64 0, .slice none 0 0]) (by kernel_rfl) ?_
        refine s_qk (.slice a98 n99 c100) (by kernel_rfl) ?_
        have u106 := ((r11.frS e71 Dj.nil_l).frS e94 (i73.djn r11.ltF))
        obtain ⟨H102, q103, e104, r105⟩ := Row.store (P := Go.Proofs.Tryd.prog) (t := 31) (p := 0) e94.wf u106 (.agg #[.int .i64 0, .slice none 0 0]) [.int .i64 0, .slice none 0 0] (by kernel_rfl) (by kernel_rfl) (one_cons (rfl) (one_cons (rfl) (one_nil))) (Nat.le_of_ble_eq_true (by kernel_rfl)) [.int .i64 0, .slice none 0 0] (by kernel_rfl)
        refine s_ek (undef) (by kernel_rfl) (map_ok q103) ?_
        refine s_nil ?_
        refine k78 _ _ ?_
        refine w_ret ?_
        refine b_ret (fn := Go.Proofs.Tryd.f12) (vs := [.slice a98 n99 c100, .agg #[.int .i64 0, .slice none 0 0]]) (aRes_tmp (by kernel_rfl) (aRes_cell (Eq.trans (b := aLoad Go.Proofs.Tryd.prog 31 (.pointer (some ⟨b7, 0, none⟩)) H102) (by kernel_rfl) (r105.ld (by kernel_rfl))) (rfl))) ?_
        have u107 := (hm95.fr e104 (Dj.symm (hf96.dj (i73.djn r11.ltF) (r11.ltF.le e71.next))))
        obtain rfl := Option.some.inj r90
        exact ⟨(.slice a98 n99 c100), f93, rfl, (FrS.step wf (FrS.step wf (FrS.step wf ((FrS.refl (W := []) wf).extR e9) e71 Inn.nil) e94 (i73.fresh e9.next)) e104 (hb10.fresh (Nat.le_refl _))), u107, (Inn.trans (i73.fresh e9.next) (Nat.le_trans e9.next e71.next) hf96)⟩

theorem c_viaductref02_SameInts {H : AH} {hd_a : Value} {fp_a : Fp} {hd_b : Value} {fp_b : Fp} {a : List (Int)} {b : List (Int)} {r : Bool}
    (wf : WF H) (h_a : Sq (encI .i64) 1 H hd_a a fp_a) (h_b : Sq (encI .i64) 1 H hd_b b fp_b) (hr : z_viaductref02_SameInts a b = some r) :
    ACalls Go.Proofs.Tryd.prog 13 #[hd_a, hd_b] H fun v H' => v = .bool r ∧ H = H' := by
  refine acalls_of_body mixed Go.Proofs.Tryd.func13 rfl (Nat.le_of_ble_eq_true rfl) ?_
  unfold z_viaductref02_SameInts at hr
  refine w_seqk fun K1 k1 => ?_
  refine w_reg (by kernel_rfl) ?_
  refine s_qk (.bool false) (by kernel_rfl) ?_
  refine s_nil ?_
  refine k1 _ _ ?_
  refine w_seqk fun K2 k2 => ?_
  refine w_seqk fun K3 k3 => ?_
  refine w_reg (by kernel_rfl) ?_
  refine s_qk (hd_a) (by kernel_rfl) ?_
  refine s_ql (.int .i64 (a.length : Int)) (x := aLen Go.Proofs.Tryd.prog 22 hd_a H) (by kernel_rfl) (h_a.lenb (by kernel_rfl)) ?_
  refine s_qk (hd_b) (by kernel_rfl) ?_
  refine s_ql (.int .i64 (b.length : Int)) (x := aLen Go.Proofs.Tryd.prog 22 hd_b H) (by kernel_rfl) (h_b.lenb (by kernel_rfl)) ?_
  refine s_qk (.bool (!decide ((a.length : Int) = (b.length : Int)))) (by kernel_rfl) ?_
  refine s_nil ?_
  refine k3 _ _ ?_
  refine w_condn ((a.length : Int) = (b.length : Int)) (by kernel_rfl) rfl (fun h4 => ?_) (fun h4 => ?_)
  · have r5 := ite_f h4 hr
    refine w_seqk fun K6 k6 => ?_
    refine w_reg (by kernel_rfl) ?_
    refine s_qk (.bool false) (by kernel_rfl) ?_
    refine s_nil ?_
    refine k6 _ _ ?_
    refine w_ret (th_ret ?_)
    refine b_ret (fn := Go.Proofs.Tryd.f13) (vs := [.bool false]) (aRes_tmp (by kernel_rfl) (rfl)) ?_
    obtain rfl := Option.some.inj r5
    exact ⟨rfl, rfl⟩
  · have r7 := ite_t h4 hr
    refine w_skip ?_
    refine k2 _ _ ?_
    refine w_seqk fun K8 k8 => ?_
    refine w_seqk fun K9 k9 => ?_
    refine w_reg (by kernel_rfl) ?_
    refine s_qk (hd_a) (by kernel_rfl) ?_
    refine s_ql (.int .i64 (a.length : Int)) (x := aLen Go.Proofs.Tryd.prog 22 hd_a H) (by kernel_rfl) (h_a.lenb (by kernel_rfl)) ?_
    refine s_qk (.int .i64 0) (by kernel_rfl) ?_
    refine s_nil ?_
    refine k9 _ _ ?_
    obtain ⟨z13, hx11, r12⟩ := bind_some r7
    refine w_mid (fun α H14 => ∃ o10, z13 = Sum.inr o10 ∧ Has α [] ∧ H = H14) (fun K16 k16 => ?_) (fun α H14 hM => ?_)
    · refine w_block ?_
      obtain ⟨n18, hn19⟩ := loopO_iff.1 hx11
      refine w_loopn (fun n α H20 => ∃ (i0 : Int), iterO (fun s => z_viaductref02_SameInts_l0 a b s) n i0 = some z13 ∧ Has α [(0, hd_a), (1, hd_b), (12, .int .i64 (a.length : Int)), (13, .int .i64 i0)] ∧ H = H20) n18 ⟨0, hn19, ⟨by kernel_rfl, by kernel_rfl, by kernel_rfl, by kernel_rfl, trivial⟩, rfl⟩ ?_
      rintro n18 α H20 ⟨i0, hi23, hh22, rfl⟩ K28 k28
      obtain ⟨n24, z25, rfl, hz26, hn27⟩ := iter_succ hi23
      obtain ⟨β, rfl⟩ := has_ex hh22
      clear hh22
      replace hz26 : z_viaductref02_SameInts_l0 a b i0 = some z25 := hz26
      unfold z_viaductref02_SameInts_l0 at hz26
      refine w_seqk fun K29 k29 => ?_
      refine w_reg (by kernel_rfl) ?_
      refine s_qk (.bool (decide (i0 < (a.length : Int)))) (by kernel_rfl) ?_
      refine s_nil ?_
      refine k29 _ _ ?_
      refine w_seqk fun K30 k30 => ?_
      refine w_condp (i0 < (a.length : Int)) (by kernel_rfl) rfl (fun h31 => ?_) (fun h31 => ?_)
      · have r32 := ite_t h31 hz26
        refine w_skip ?_
        refine k30 _ _ ?_
        refine w_seqk fun K33 k33 => ?_
        refine w_block ?_
        refine w_seqk fun K34 k34 => ?_
        refine w_reg (by kernel_rfl) ?_
        refine s_qk (.int .i64 i0) (by kernel_rfl) ?_
        refine s_qk (.int .i64 i0) (by kernel_rfl) ?_
        refine s_nil ?_
        refine k34 _ _ ?_
        refine w_seqk fun K35 k35 => ?_
        refine w_draw [0, 1, 2, 3, 4, 5, 6, 7, 8] (by kernel_rfl) ?_
        refine d_qk (hd_a) (by kernel_rfl) ?_
        refine d_qk (.int .i64 i0) (by kernel_rfl) ?_
        obtain ⟨g36, r37⟩ := G_some r32
        refine d_ql (elp hd_a 1 i0.toNat 0) (x := aIndexAddr Go.Proofs.Tryd.prog 22 hd_a (.int .i64 i0)) (by kernel_rfl) (h_a.idxb (by kernel_rfl) g36 h31) ?_
        refine d_ql (.int .i64 (gt a i0)) (x := aLoad Go.Proofs.Tryd.prog 3 (elp hd_a 1 i0.toNat 0) H) (by kernel_rfl) (h_a.ld g36 h31 (by kernel_rfl)) ?_
        refine d_qk (hd_b) (by kernel_rfl) ?_
        refine d_qk (.int .i64 i0) (by kernel_rfl) ?_
        obtain ⟨g38, r39⟩ := G_some r37
        refine d_ql (elp hd_b 1 i0.toNat 0) (x := aIndexAddr Go.Proofs.Tryd.prog 22 hd_b (.int .i64 i0)) (by kernel_rfl) (h_b.idxb (by kernel_rfl) g36 g38) ?_
        refine d_ql (.int .i64 (gt b i0)) (x := aLoad Go.Proofs.Tryd.prog 3 (elp hd_b 1 i0.toNat 0) H) (by kernel_rfl) (h_b.ld g36 g38 (by kernel_rfl)) ?_
        refine d_qk (.bool (!decide ((gt a i0) = (gt b i0)))) (by kernel_rfl) ?_
        refine d_nil ?_
        refine k35 _ _ ?_
        refine w_condn ((gt a i0) = (gt b i0)) (by kernel_rfl) rfl (fun h40 => ?_) (fun h40 => ?_)
        · have r41 := ite_f h40 r39
          refine w_seqk fun K42 k42 => ?_
          refine w_reg (by kernel_rfl) ?_
          refine s_qk (.bool false) (by kernel_rfl) ?_
          refine s_nil ?_
          refine k42 _ _ ?_
          refine w_ret (bl_ret (th_ret (th_ret (bl_ret (th_ret (th_ret ?_))))))
          obtain ⟨v43, hv44, hz45⟩ := map_some r41
          subst hz45
          obtain rfl := it_inr hn27
          have hq46 := elim_inl r12
          rw [hq46] at hv44
          refine b_ret (fn := Go.Proofs.Tryd.f13) (vs := [.bool false]) (aRes_tmp (by kernel_rfl) (rfl)) ?_
          obtain rfl := Option.some.inj hv44
          exact ⟨rfl, rfl⟩
        · have r47 := ite_t h40 r39
          refine w_skip ?_
          refine k33 _ _ ?_
          refine w_reg (by kernel_rfl) ?_
          obtain ⟨g48, r49⟩ := G_some r47
          refine s_w ((i0 + 1)) (k := .i64) (x := (i0 + 1)) (by kernel_rfl) (wrap64 (by have := g48; omega)) ?_
          refine s_qk (.int .i64 (i0 + 1)) (by kernel_rfl) ?_
          refine s_nil ?_
          obtain rfl := Option.some.inj r49
          exact k28 n24 _ _ (Nat.lt_succ_self _) ⟨(i0 + 1), hn27, ⟨by kernel_rfl, by kernel_rfl, by kernel_rfl, by kernel_rfl, trivial⟩, rfl⟩
      · have r50 := ite_f h31 hz26
        refine w_exit (th_exit (th_exit (bl_eq ?_)))
        obtain rfl := Option.some.inj r50
        obtain rfl := it_inr hn27
        exact k16 _ _ ⟨_, rfl, trivial, rfl⟩
    · obtain ⟨o10, rfl, hh17, rfl⟩ := hM
      have r51 := elim_inr r12
      obtain ⟨β, rfl⟩ := has_ex hh17
      clear hh17
      refine k8 _ _ ?_
      refine w_seqk fun K52 k52 => ?_
      refine w_reg (by kernel_rfl) ?_
      refine s_qk (.bool true) (by kernel_rfl) ?_
      refine s_nil ?_
      refine k52 _ _ ?_
      refine w_ret ?_
      refine b_ret (fn := Go.Proofs.Tryd.f13) (vs := [.bool true]) (aRes_tmp (by kernel_rfl) (rfl)) ?_
      obtain rfl := Option.some.inj r51
      exact ⟨rfl, rfl⟩

theorem c_viaductref01_Err_Bad {H : AH} {hd_Places : Value} {fp_Places : Fp} {Code : Int} {Places : List (Int × Int)} {r : Bool}
    (wf : WF H) (h_Places : Sq enc_i64_i64 2 H hd_Places Places fp_Places) (hr : z_viaductref01_Err_Bad Code Places = some r) :
    ACalls Go.Proofs.Tryd.prog 24 #[.agg #[.int .i64 Code, hd_Places]] H fun v H' => v = .bool r ∧ FrS [] H H' := by
  refine acalls_of_body mixed Go.Proofs.Tryd.func24 rfl (Nat.le_of_ble_eq_true rfl) ?_
  unfold z_viaductref01_Err_Bad at hr
  refine w_seqk fun K1 k1 => ?_
  refine w_reg (by kernel_rfl) ?_
  refine s_rwl wf [.int .i64 Code, hd_Places] (one_cons (rfl) (one_cons (h_Places.one1) (one_nil))) (by kernel_rfl) fun b2 H3 e4 hb5 r6 => ?_
  refine s_qk (.bool false) (by kernel_rfl) ?_
  refine s_nil ?_
  refine k1 _ _ ?_
  refine w_seqk fun K8 k8 => ?_
  refine w_reg (by kernel_rfl) ?_
  refine s_qk (.pointer (some ⟨b2, 0, none⟩)) (by kernel_rfl) ?_
  refine s_ql (.int .i64 Code) (x := aLoad Go.Proofs.Tryd.prog 3 (.pointer (some ⟨b2, 0, none⟩)) H3) (by kernel_rfl) (r6.ld (by kernel_rfl)) ?_
  refine s_bn (Code = 0) (by kernel_rfl) (fun h9 => ?_) (fun h9 => ?_)
  · have r10 := ite_t h9 hr
    refine s_qk (.bool false) (by kernel_rfl) ?_
    refine s_qk (.pointer (some ⟨b2, 1, none⟩)) (by kernel_rfl) ?_
    refine s_ql (hd_Places) (x := aLoad Go.Proofs.Tryd.prog 29 (.pointer (some ⟨b2, 1, none⟩)) H3) (by kernel_rfl) (r6.ld (by kernel_rfl)) ?_
    have u11 := (h_Places.ext e4)
    refine s_ql (.int .i64 (Places.length : Int)) (x := aLen Go.Proofs.Tryd.prog 29 hd_Places H3) (by kernel_rfl) (u11.lenb (by kernel_rfl)) ?_
    refine s_qk (.bool (decide ((Places.length : Int) > 0))) (by kernel_rfl) ?_
    refine s_qk (.bool (decide ((Places.length : Int) > 0))) (by kernel_rfl) ?_
    refine s_qk (.bool (decide ((Places.length : Int) > 0))) (by kernel_rfl) ?_
    refine s_nil ?_
    refine k8 _ _ ?_
    refine w_ret ?_
    refine b_ret (fn := Go.Proofs.Tryd.f24) (vs := [.bool (decide ((Places.length : Int) > 0))]) (aRes_tmp (by kernel_rfl) (rfl)) ?_
    obtain rfl := Option.some.inj r10
    exact ⟨rfl, ((FrS.refl (W := []) wf).extR e4)⟩
  · have r12 := ite_f h9 hr
    refine s_qk (.bool true) (by kernel_rfl) ?_
    refine s_no (by kernel_rfl) ?_
    refine s_no (by kernel_rfl) ?_
    refine s_no (by kernel_rfl) ?_
    refine s_no (by kernel_rfl) ?_
    refine s_qk (.bool true) (by kernel_rfl) ?_
    refine s_qk (.bool true) (by kernel_rfl) ?_
    refine s_nil ?_
    refine k8 _ _ ?_
    refine w_ret ?_
    refine b_ret (fn := Go.Proofs.Tryd.f24) (vs := [.bool true]) (aRes_tmp (by kernel_rfl) (rfl)) ?_
    obtain rfl := Option.some.inj r12
    exact ⟨rfl, ((FrS.refl (W := []) wf).extR e4)⟩

theorem c_viaductseen_Same {H : AH} {ev_err : Value} {fp_err : Fp} {hd_Places : Value} {fp_Places : Fp} {err : Er} {Code : Int} {Places : List (Int × Int)} {r : Bool}
    (wf : WF H) (h_err : Ev 80 86 H ev_err err fp_err) (h_Places : Sq enc_i64_i64 2 H hd_Places Places fp_Places) (hr : z_viaductseen_Same err Code Places = some r) :
    ACalls Go.Proofs.Tryd.prog 14 #[ev_err, .agg #[.int .i64 Code, hd_Places]] H fun v H' => v = .bool r ∧ FrS [] H H' := by
  refine acalls_of_body mixed Go.Proofs.Tryd.func14 rfl (Nat.le_of_ble_eq_true rfl) ?_
  unfold z_viaductseen_Same at hr
  refine w_seqk fun K1 k1 => ?_
  refine w_reg (by kernel_rfl) ?_
  refine s_rwl wf [.int .i64 Code, hd_Places] (one_cons (rfl) (one_cons (h_Places.one1) (one_nil))) (by kernel_rfl) fun b2 H3 e4 hb5 r6 => ?_
  refine s_qk (.bool false) (by kernel_rfl) ?_
  refine s_nil ?_
  refine k1 _ _ ?_
  refine w_seqk fun K8 k8 => ?_
  refine w_seqk fun K9 k9 => ?_
  refine w_reg (by kernel_rfl) ?_
  refine s_ql (.agg #[.int .i64 Code, hd_Places]) (x := aLoad Go.Proofs.Tryd.prog 31 (.pointer (some ⟨b2, 0, none⟩)) H3) (by kernel_rfl) (r6.ld (by kernel_rfl)) ?_
  have u10 := (h_Places.ext e4)
  obtain ⟨y11, hy12, r13⟩ := bind_some hr
  refine s_ck 24 #[.agg #[.int .i64 Code, hd_Places]] (by kernel_rfl) (c_viaductref01_Err_Bad e4.wf u10 hy12) ?_
  rintro _ H14 ⟨rfl, e15⟩
  refine s_qk (.bool (!y11)) (by kernel_rfl) ?_
  refine s_nil ?_
  refine k9 _ _ ?_
  refine w_cond ((!y11)) (by kernel_rfl) rfl (fun h16 => ?_) (fun h16 => ?_)
  · have r17 := ite_t h16 r13
    refine w_seqk fun K18 k18 => ?_
    refine w_reg (by kernel_rfl) ?_
    refine s_qk (ev_err) (by kernel_rfl) ?_
    have u22 := ((h_err.ext e4).fr e15 Dj.nil_l)
    rcases (u22).cases with ⟨h19, rfl⟩ | ⟨h19, t20, x21, rfl⟩
    · have r23 := ite_t h19 r17
      refine s_qk (.bool true) (by kernel_rfl) ?_
      refine s_qk (.bool true) (by kernel_rfl) ?_
      refine s_nil ?_
      refine k18 _ _ ?_
      refine w_ret (th_ret ?_)
      refine b_ret (fn := Go.Proofs.Tryd.f14) (vs := [.bool true]) (aRes_tmp (by kernel_rfl) (rfl)) ?_
      obtain rfl := Option.some.inj r23
      exact ⟨rfl, (FrS.step wf ((FrS.refl (W := []) wf).extR e4) e15 Inn.nil)⟩
    · have r24 := ite_f h19 r17
      refine s_ql (.bool false) (x := aBin Go.Proofs.Tryd.prog .eql 25 (.tmp 15) (.const .nilIface) (.iface t20 x21) .nilIface) (by kernel_rfl) (aBin_nil (by kernel_rfl)) ?_
      refine s_qk (.bool false) (by kernel_rfl) ?_
      refine s_nil ?_
      refine k18 _ _ ?_
      refine w_ret (th_ret ?_)
      refine b_ret (fn := Go.Proofs.Tryd.f14) (vs := [.bool false]) (aRes_tmp (by kernel_rfl) (rfl)) ?_
      obtain rfl := Option.some.inj r24
      exact ⟨rfl, (FrS.step wf ((FrS.refl (W := []) wf).extR e4) e15 Inn.nil)⟩
  · have r25 := ite_bf h16 r13
    refine w_skip ?_
    refine k8 _ _ ?_
    refine w_seqk fun K26 k26 => ?_
    refine w_seqk fun K27 k27 => ?_
    refine w_reg (by kernel_rfl) ?_
    refine s_qk (ev_err) (by kernel_rfl) ?_
    have u31 := ((h_err.ext e4).fr e15 Dj.nil_l)
    rcases (u31).cases with ⟨h28, rfl⟩ | ⟨h28, t29, x30, rfl⟩
    · have r32 := ite_t h28 r25
      refine s_qk (.bool true) (by kernel_rfl) ?_
      refine s_nil ?_
      refine k27 _ _ ?_
      refine w_cond true (by kernel_rfl) rfl (fun _ => ?_) (fun h => by cases h)
      refine w_seqk fun K33 k33 => ?_
      refine w_reg (by kernel_rfl) ?_
      refine s_qk (.bool false) (by kernel_rfl) ?_
      refine s_nil ?_
      refine k33 _ _ ?_
      refine w_ret (th_ret ?_)
      refine b_ret (fn := Go.Proofs.Tryd.f14) (vs := [.bool false]) (aRes_tmp (by kernel_rfl) (rfl)) ?_
      obtain rfl := Option.some.inj r32
      exact ⟨rfl, (FrS.step wf ((FrS.refl (W := []) wf).extR e4) e15 Inn.nil)⟩
    · have r34 := ite_f h28 r25
      refine s_ql (.bool false) (x := aBin Go.Proofs.Tryd.prog .eql 25 (.tmp 17) (.const .nilIface) (.iface t29 x30) .nilIface) (by kernel_rfl) (aBin_nil (by kernel_rfl)) ?_
      refine s_nil ?_
      refine k27 _ _ ?_
      refine w_cond false (by kernel_rfl) rfl (fun h => by cases h) (fun _ => ?_)
      refine w_skip ?_
      refine k26 _ _ ?_
      refine w_seqk fun K35 k35 => ?_
      refine w_reg (by kernel_rfl) ?_
      refine s_qk (.iface t29 x30) (by kernel_rfl) ?_
      refine s_qk (.iface t29 x30) (by kernel_rfl) ?_
      refine s_nil ?_
      refine k35 _ _ ?_
      refine w_seqk fun K36 k36 => ?_
      refine w_seqk fun K37 k37 => ?_
      refine w_reg (by kernel_rfl) ?_
      refine s_qk (.pointer (some ⟨b2, 1, none⟩)) (by kernel_rfl) ?_
      have u38 := (r6.frS e15 Dj.nil_l)
      refine s_ql (hd_Places) (x := aLoad Go.Proofs.Tryd.prog 29 (.pointer (some ⟨b2, 1, none⟩)) H14) (by kernel_rfl) (u38.ld (by kernel_rfl)) ?_
      have u39 := (u10.fr e15 Dj.nil_l)
      refine s_ql (.int .i64 (Places.length : Int)) (x := aLen Go.Proofs.Tryd.prog 29 hd_Places H14) (by kernel_rfl) (u39.lenb (by kernel_rfl)) ?_
      refine s_qk (.int .i64 0) (by kernel_rfl) ?_
      refine s_nil ?_
      refine k37 _ _ ?_
      obtain ⟨z43, hx41, r42⟩ := bind_some r34
      refine w_mid (fun α H44 => ∃ o40, z43 = Sum.inr o40 ∧ ∃ (v48 : Value), Has α [(0, .iface t29 x30), (3, .pointer (some ⟨b2, 0, none⟩)), (5, v48)] ∧ FrS [] H14 H44 ∧ Ev 80 86 H44 v48 o40 fp_err) (fun K49 k49 => ?_) (fun α H44 hM => ?_)
      · refine w_block ?_
        obtain ⟨n51, hn52⟩ := loopO_iff.1 hx41
        refine w_loopn (fun n α H53 => ∃ (i0 : Int), ∃ (e1 : Er), ∃ (v57 : Value), iterO (fun s => z_viaductseen_Same_l0 Places s.1 s.2) n (i0, e1) = some z43 ∧ Has α [(0, .iface t29 x30), (3, .pointer (some ⟨b2, 0, none⟩)), (5, v57), (21, hd_Places), (22, .int .i64 (Places.length : Int)), (23, .int .i64 i0)] ∧ FrS [] H14 H53 ∧ Ev 80 86 H53 v57 e1 fp_err) n51 ⟨0, err, (.iface t29 x30), hn52, ⟨by kernel_rfl, by kernel_rfl, by kernel_rfl, by kernel_rfl, by kernel_rfl, by kernel_rfl, trivial⟩, (FrS.refl (W := []) e15.wf), u31⟩ ?_
        rintro n51 α H53 ⟨i0, e1, v57, hi59, hh58, e54, m56⟩ K64 k64
        obtain ⟨n60, z61, rfl, hz62, hn63⟩ := iter_succ hi59
        obtain ⟨β, rfl⟩ := has_ex hh58
        clear hh58
        replace hz62 : z_viaductseen_Same_l0 Places i0 e1 = some z61 := hz62
        unfold z_viaductseen_Same_l0 at hz62
        refine w_seqk fun K65 k65 => ?_
        refine w_reg (by kernel_rfl) ?_
        refine s_qk (.bool (decide (i0 < (Places.length : Int)))) (by kernel_rfl) ?_
        refine s_nil ?_
        refine k65 _ _ ?_
        refine w_seqk fun K66 k66 => ?_
        refine w_condp (i0 < (Places.length : Int)) (by kernel_rfl) rfl (fun h67 => ?_) (fun h67 => ?_)
        · have r68 := ite_t h67 hz62
          refine w_skip ?_
          refine k66 _ _ ?_
          refine w_seqk fun K69 k69 => ?_
          refine w_block ?_
          refine w_seqk fun K70 k70 => ?_
          refine w_reg (by kernel_rfl) ?_
          obtain ⟨g71, r72⟩ := G_some r68
          have u73 := (u39.fr e54 Dj.nil_l)
          refine s_ql (elp hd_Places 2 i0.toNat 0) (x := aIndexAddr Go.Proofs.Tryd.prog 29 hd_Places (.int .i64 i0)) (by kernel_rfl) (u73.idxb (by kernel_rfl) g71 h67) ?_
          refine s_ql (.agg #[.int .i64 ((gt Places i0).1), .int .i64 ((gt Places i0).2)]) (x := aLoad Go.Proofs.Tryd.prog 85 (elp hd_Places 2 i0.toNat 0) H53) (by kernel_rfl) (u73.ld g71 h67 (by kernel_rfl)) ?_
          refine s_rwk e54.wf [.int .i64 0, .int .i64 0] (by kernel_rfl) fun b74 H75 e76 hb77 r78 => ?_
          obtain ⟨H80, q81, e82, r83⟩ := Row.store (P := Go.Proofs.Tryd.prog) (t := 85) (p := 0) e76.wf r78 (.agg #[.int .i64 ((gt Places i0).1), .int .i64 ((gt Places i0).2)]) [.int .i64 ((gt Places i0).1), .int .i64 ((gt Places i0).2)] (by kernel_rfl) (by kernel_rfl) (one_cons (rfl) (one_cons (rfl) (one_nil))) (Nat.le_of_ble_eq_true (by kernel_rfl)) [.int .i64 ((gt Places i0).1), .int .i64 ((gt Places i0).2)] (by kernel_rfl)
          refine s_ek (undef) (by kernel_rfl) (map_ok q81) ?_
          refine s_nil ?_
          refine k70 _ _ ?_
          refine w_seqk fun K84 k84 => ?_
          refine w_reg (by kernel_rfl) ?_
          refine s_rwk e82.wf [.pointer none] (by kernel_rfl) fun b85 H86 e87 hb88 r89 => ?_
          refine s_nil ?_
          refine k84 _ _ ?_
          refine w_seqk fun K91 k91 => ?_
          refine w_seqk fun K92 k92 => ?_
          refine w_draw [0, 1, 2, 3, 4, 5, 6, 7, 8, 9, 10, 11, 12, 13, 14, 15] (by kernel_rfl) ?_
          refine d_qk (v57) (by kernel_rfl) ?_
          refine d_qk (.iface 88 (.pointer (some ⟨b85, 0, none⟩))) (by kernel_rfl) ?_
          by_cases h93 : Er.isAt e1 = true
          · have r94 := ite_t h93 r72
            have u103 := (((m56.ext e76).fr e82 (hb77.djn (h_err.lt.le (Nat.le_trans (Nat.le_trans e4.next e15.next) e54.next)))).ext e87)
            refine d_ck 44 #[v57, .iface 88 (.pointer (some ⟨b85, 0, none⟩))] (by kernel_rfl) (a_asF_at e87.wf r89 (hb88.djn (h_err.lt.le (Nat.le_trans (Nat.le_trans (Nat.le_trans (Nat.le_trans e4.next e15.next) e54.next) e76.next) e82.next))) u103 h93) ?_
            rintro _ H95 ⟨rfl, e96, b98, u99, -, i100, r97, r101, v102⟩
            refine ⟨st_nil, ?_⟩
            refine d_qk (.bool false) (by kernel_rfl) ?_
            refine d_qk (.bool false) (by kernel_rfl) ?_
            refine d_ql (.pointer (some ⟨b98, 0, none⟩)) (x := aLoad Go.Proofs.Tryd.prog 86 (.pointer (some ⟨b85, 0, none⟩)) H95) (by kernel_rfl) (r97.ld (by kernel_rfl)) ?_
            refine d_qk (.bool false) (by kernel_rfl) ?_
            refine d_qk (.bool false) (by kernel_rfl) ?_
            refine d_qk (.bool false) (by kernel_rfl) ?_
            refine d_ql (.pointer (some ⟨b98, 0, none⟩)) (x := aLoad Go.Proofs.Tryd.prog 86 (.pointer (some ⟨b85, 0, none⟩)) H95) (by kernel_rfl) (r97.ld (by kernel_rfl)) ?_
            refine d_qk (.pointer (some ⟨b98, 0, none⟩)) (by kernel_rfl) ?_
            refine d_qk (.pointer (some ⟨b98, 0, none⟩)) (by kernel_rfl) ?_
            refine d_ql (.agg #[.int .i64 (Er.fk e1), .int .i64 (Er.fi e1)]) (x := aLoad Go.Proofs.Tryd.prog 85 (.pointer (some ⟨b98, 0, none⟩)) H95) (by kernel_rfl) (r101.ld (by kernel_rfl)) ?_
            have u106 := ((r83.ext e87).frS e96 (hb88.djn (r78.ltF.le e82.next)))
            refine d_ql (.agg #[.int .i64 ((gt Places i0).1), .int .i64 ((gt Places i0).2)]) (x := aLoad Go.Proofs.Tryd.prog 85 (.pointer (some ⟨b74, 0, none⟩)) H95) (by kernel_rfl) (u106.ld (by kernel_rfl)) ?_
            refine d_ql (.bool (!decide ((Er.fk e1) = ((gt Places i0).1) ∧ (Er.fi e1) = ((gt Places i0).2)))) (x := aBin Go.Proofs.Tryd.prog .neq 85 (.tmp 39) (.tmp 40) (.agg #[.int .i64 (Er.fk e1), .int .i64 (Er.fi e1)]) (.agg #[.int .i64 ((gt Places i0).1), .int .i64 ((gt Places i0).2)])) (by kernel_rfl) (aBin_place _ _ _ _ _ _) ?_
            refine d_qk (.bool (!decide ((Er.fk e1) = ((gt Places i0).1) ∧ (Er.fi e1) = ((gt Places i0).2)))) (by kernel_rfl) ?_
            refine d_nil ?_
            refine k92 _ _ ?_
            refine w_condn ((Er.fk e1) = ((gt Places i0).1) ∧ (Er.fi e1) = ((gt Places i0).2)) (by kernel_rfl) rfl (fun h107 => ?_) (fun h107 => ?_)
            · have r108 := ite_f h107 r94
              refine w_seqk fun K109 k109 => ?_
              refine w_reg (by kernel_rfl) ?_
              refine s_qk (.bool false) (by kernel_rfl) ?_
              refine s_nil ?_
              refine k109 _ _ ?_
              refine w_ret (th_ret (bl_ret (th_ret (th_ret (bl_ret (th_ret (th_ret ?_)))))))
              obtain ⟨v110, hv111, hz112⟩ := map_some r108
              subst hz112
              obtain rfl := it_inr hn63
              have hq113 := elim_inl r42
              rw [hq113] at hv111
              refine b_ret (fn := Go.Proofs.Tryd.f14) (vs := [.bool false]) (aRes_tmp (by kernel_rfl) (rfl)) ?_
              obtain rfl := Option.some.inj hv111
              exact ⟨rfl, (FrS.step wf ((FrS.step wf ((FrS.step wf (FrS.step wf ((FrS.refl (W := []) wf).extR e4) e15 Inn.nil) e54 Inn.nil).extR e76) e82 (hb77.fresh (Nat.le_trans (Nat.le_trans e4.next e15.next) e54.next))).extR e87) e96 (hb88.fresh (Nat.le_trans (Nat.le_trans (Nat.le_trans (Nat.le_trans e4.next e15.next) e54.next) e76.next) e82.next)))⟩
            · have r114 := ite_t h107 r94
              refine w_skip ?_
              refine k91 _ _ ?_
              refine w_reg (by kernel_rfl) ?_
              refine s_ql (.pointer (some ⟨b98, 0, none⟩)) (x := aLoad Go.Proofs.Tryd.prog 86 (.pointer (some ⟨b85, 0, none⟩)) H95) (by kernel_rfl) (r97.ld (by kernel_rfl)) ?_
              refine s_qk (.pointer (some ⟨b98, 0, none⟩)) (by kernel_rfl) ?_
              refine s_qk (.pointer (some ⟨b98, 2, none⟩)) (by kernel_rfl) ?_
              refine s_ql (u99) (x := aLoad Go.Proofs.Tryd.prog 25 (.pointer (some ⟨b98, 2, none⟩)) H95) (by kernel_rfl) (r101.ld (by kernel_rfl)) ?_
              refine s_qk (u99) (by kernel_rfl) ?_
              refine s_nil ?_
              refine k69 _ _ ?_
              refine w_reg (by kernel_rfl) ?_
              obtain ⟨g115, r116⟩ := G_some r114
              refine s_w ((i0 + 1)) (k := .i64) (x := (i0 + 1)) (by kernel_rfl) (wrap64 (by have := g115; omega)) ?_
              refine s_qk (.int .i64 (i0 + 1)) (by kernel_rfl) ?_
              refine s_nil ?_
              obtain rfl := Option.some.inj r116
              exact k64 n60 _ _ (Nat.lt_succ_self _) ⟨(i0 + 1), (Er.fe e1), (u99), hn63, ⟨by kernel_rfl, by kernel_rfl, by kernel_rfl, by kernel_rfl, by kernel_rfl, by kernel_rfl, trivial⟩, (FrS.step e15.wf ((FrS.step e15.wf ((FrS.step e15.wf (FrS.refl (W := []) e15.wf) e54 Inn.nil).extR e76) e82 (hb77.fresh e54.next)).extR e87) e96 (hb88.fresh (Nat.le_trans (Nat.le_trans e54.next e76.next) e82.next))), v102⟩
          · have r117 := ite_f h93 r72
            have u118 := (((m56.ext e76).fr e82 (hb77.djn (h_err.lt.le (Nat.le_trans (Nat.le_trans e4.next e15.next) e54.next)))).ext e87)
            refine d_ck 44 #[v57, .iface 88 (.pointer (some ⟨b85, 0, none⟩))] (by kernel_rfl) (a_asF_no r89 u118 h93) ?_
            rintro _ _ ⟨rfl, rfl⟩
            refine ⟨st_nil, ?_⟩
            refine d_qk (.bool true) (by kernel_rfl) ?_
            refine d_qk (.bool true) (by kernel_rfl) ?_
            refine d_idle (by kernel_rfl) ?_
            refine d_idle (by kernel_rfl) ?_
            refine d_qk (.bool true) (by kernel_rfl) ?_
            refine d_qk (.bool true) (by kernel_rfl) ?_
            refine d_idle (by kernel_rfl) ?_
            refine d_idle (by kernel_rfl) ?_
            refine d_idle (by kernel_rfl) ?_
            refine d_idle (by kernel_rfl) ?_
            refine d_idle (by kernel_rfl) ?_
            refine d_idle (by kernel_rfl) ?_
            refine d_qk (.bool true) (by kernel_rfl) ?_
            refine d_nil ?_
            refine k92 _ _ ?_
            refine w_cond true (by kernel_rfl) rfl (fun _ => ?_) (fun h => by cases h)
            refine w_seqk fun K119 k119 => ?_
            refine w_reg (by kernel_rfl) ?_
            refine s_qk (.bool false) (by kernel_rfl) ?_
            refine s_nil ?_
            refine k119 _ _ ?_
            refine w_ret (th_ret (bl_ret (th_ret (th_ret (bl_ret (th_ret (th_ret ?_)))))))
            obtain ⟨v120, hv121, hz122⟩ := map_some r117
            subst hz122
            obtain rfl := it_inr hn63
            have hq123 := elim_inl r42
            rw [hq123] at hv121
            refine b_ret (fn := Go.Proofs.Tryd.f14) (vs := [.bool false]) (aRes_tmp (by kernel_rfl) (rfl)) ?_
            obtain rfl := Option.some.inj hv121
            exact ⟨rfl, ((FrS.step wf ((FrS.step wf (FrS.step wf ((FrS.refl (W := []) wf).extR e4) e15 Inn.nil) e54 Inn.nil).extR e76) e82 (hb77.fresh (Nat.le_trans (Nat.le_trans e4.next e15.next) e54.next))).extR e87)⟩
        · have r124 := ite_f h67 hz62
          refine w_exit (th_exit (th_exit (bl_eq ?_)))
          obtain rfl := Option.some.inj r124
          obtain rfl := it_inr hn63
          exact k49 _ _ ⟨_, rfl, (v57), ⟨by kernel_rfl, by kernel_rfl, by kernel_rfl, trivial⟩, (FrS.step e15.wf (FrS.refl (W := []) e15.wf) e54 Inn.nil), m56⟩
      · obtain ⟨o40, rfl, v48, hh50, e45, m47⟩ := hM
        have r125 := elim_inr r42
        obtain ⟨β, rfl⟩ := has_ex hh50
        clear hh50
        refine k36 _ _ ?_
        refine w_seqk fun K126 k126 => ?_
        refine w_reg (by kernel_rfl) ?_
        refine s_rwk e45.wf [.pointer none] (by kernel_rfl) fun b127 H128 e129 hb130 r131 => ?_
        refine s_nil ?_
        refine k126 _ _ ?_
        refine w_seqk fun K133 k133 => ?_
        refine w_seqk fun K134 k134 => ?_
        refine w_reg (by kernel_rfl) ?_
        refine s_qk (v48) (by kernel_rfl) ?_
        refine s_qk (.iface 88 (.pointer (some ⟨b127, 0, none⟩))) (by kernel_rfl) ?_
        by_cases h135 : Er.isAt o40 = true
        · have r136 := ite_t h135 r125
          have u145 := (m47.ext e129)
          refine s_ck 44 #[v48, .iface 88 (.pointer (some ⟨b127, 0, none⟩))] (by kernel_rfl) (a_asF_at e129.wf r131 (hb130.djn (h_err.lt.le (Nat.le_trans (Nat.le_trans e4.next e15.next) e45.next))) u145 h135) ?_
          rintro _ H137 ⟨rfl, e138, b140, u141, -, i142, r139, r143, v144⟩
          refine s_nil ?_
          refine k134 _ _ ?_
          refine w_cond true (by kernel_rfl) rfl (fun _ => ?_) (fun h => by cases h)
          refine w_seqk fun K148 k148 => ?_
          refine w_reg (by kernel_rfl) ?_
          refine s_qk (.bool false) (by kernel_rfl) ?_
          refine s_nil ?_
          refine k148 _ _ ?_
          refine w_ret (th_ret ?_)
          refine b_ret (fn := Go.Proofs.Tryd.f14) (vs := [.bool false]) (aRes_tmp (by kernel_rfl) (rfl)) ?_
          obtain rfl := Option.some.inj r136
          exact ⟨rfl, (FrS.step wf ((FrS.step wf (FrS.step wf ((FrS.refl (W := []) wf).extR e4) e15 Inn.nil) e45 Inn.nil).extR e129) e138 (hb130.fresh (Nat.le_trans (Nat.le_trans e4.next e15.next) e45.next)))⟩
        · have r149 := ite_f h135 r125
          have u150 := (m47.ext e129)
          refine s_ck 44 #[v48, .iface 88 (.pointer (some ⟨b127, 0, none⟩))] (by kernel_rfl) (a_asF_no r131 u150 h135) ?_
          rintro _ _ ⟨rfl, rfl⟩
          refine s_nil ?_
          refine k134 _ _ ?_
          refine w_cond false (by kernel_rfl) rfl (fun h => by cases h) (fun _ => ?_)
          refine w_skip ?_
          refine k133 _ _ ?_
          refine w_seqk fun K151 k151 => ?_
          refine w_reg (by kernel_rfl) ?_
          refine s_rwk e129.wf [.int .i64 0] (by kernel_rfl) fun b152 H153 e154 hb155 r156 => ?_
          refine s_nil ?_
          refine k151 _ _ ?_
          refine w_seqk fun K158 k158 => ?_
          refine w_seqk fun K159 k159 => ?_
          obtain ⟨o160, hx161, r162⟩ := bind_some r149
          refine w_mid (fun α H163 => Has α [(0, .iface t29 x30), (3, .pointer (some ⟨b2, 0, none⟩)), (60, .bool o160)] ∧ FrS [b152] H153 H163) (fun K165 k165 => ?_) (fun α H163 hM => ?_)
          · refine w_reg (by kernel_rfl) ?_
            refine s_qk (.iface t29 x30) (by kernel_rfl) ?_
            refine s_qk (.iface 91 (.pointer (some ⟨b152, 0, none⟩))) (by kernel_rfl) ?_
            by_cases h167 : (Er.num err).isSome = true
            · have r168 := ite_t h167 hx161
              have u172 := (((u31.fr e45 Dj.nil_l).ext e129).ext e154)
              refine s_ck 44 #[.iface t29 x30, .iface 91 (.pointer (some ⟨b152, 0, none⟩))] (by kernel_rfl) (a_asN_y e154.wf r156 u172 h28 h167) ?_
              rintro _ H169 ⟨rfl, e170, r171⟩
              refine s_qk (.bool false) (by kernel_rfl) ?_
              refine s_qk (.bool false) (by kernel_rfl) ?_
              refine s_ql (.int .i64 ((Er.num err).getD 0)) (x := aLoad Go.Proofs.Tryd.prog 80 (.pointer (some ⟨b152, 0, none⟩)) H169) (by kernel_rfl) (r171.ld (by kernel_rfl)) ?_
              refine s_qk (.pointer (some ⟨b2, 0, none⟩)) (by kernel_rfl) ?_
              have u173 := ((((u38.frS e45 Dj.nil_l).ext e129).ext e154).frS e170 (hb155.djn (r6.ltF.le (Nat.le_trans (Nat.le_trans e15.next e45.next) e129.next))))
              refine s_ql (.int .i64 Code) (x := aLoad Go.Proofs.Tryd.prog 3 (.pointer (some ⟨b2, 0, none⟩)) H169) (by kernel_rfl) (u173.ld (by kernel_rfl)) ?_
              refine s_qk (.bool (!decide (((Er.num err).getD 0) = Code))) (by kernel_rfl) ?_
              refine s_qk (.bool (!decide (((Er.num err).getD 0) = Code))) (by kernel_rfl) ?_
              refine s_nil ?_
              obtain rfl := Option.some.inj r168
              exact k165 _ _ ⟨⟨by kernel_rfl, by kernel_rfl, by kernel_rfl, trivial⟩, (FrS.step e154.wf (FrS.refl (W := [b152]) e154.wf) e170 Inn.refl')⟩
            · have r174 := ite_f h167 hx161
              have u178 := (((u31.fr e45 Dj.nil_l).ext e129).ext e154)
              refine s_ck 44 #[.iface t29 x30, .iface 91 (.pointer (some ⟨b152, 0, none⟩))] (by kernel_rfl) (a_asN_n e154.wf r156 u178 h28 h167) ?_
              rintro _ H175 ⟨rfl, e176, r177⟩
              refine s_qk (.bool true) (by kernel_rfl) ?_
              refine s_qk (.bool true) (by kernel_rfl) ?_
              refine s_no (by kernel_rfl) ?_
              refine s_no (by kernel_rfl) ?_
              refine s_no (by kernel_rfl) ?_
              refine s_no (by kernel_rfl) ?_
              refine s_qk (.bool true) (by kernel_rfl) ?_
              refine s_nil ?_
              obtain rfl := Option.some.inj r174
              exact k165 _ _ ⟨⟨by kernel_rfl, by kernel_rfl, by kernel_rfl, trivial⟩, (FrS.step e154.wf (FrS.refl (W := [b152]) e154.wf) e176 Inn.refl')⟩
          · obtain ⟨hh166, e164⟩ := hM
            obtain ⟨β, rfl⟩ := has_ex hh166
            clear hh166
            refine k159 _ _ ?_
            refine w_cond (o160) (by kernel_rfl) rfl (fun h179 => ?_) (fun h179 => ?_)
            · have r180 := ite_t h179 r162
              refine w_seqk fun K181 k181 => ?_
              refine w_reg (by kernel_rfl) ?_
              refine s_qk (.bool false) (by kernel_rfl) ?_
              refine s_nil ?_
              refine k181 _ _ ?_
              refine w_ret (th_ret ?_)
              refine b_ret (fn := Go.Proofs.Tryd.f14) (vs := [.bool false]) (aRes_tmp (by kernel_rfl) (rfl)) ?_
              obtain rfl := Option.some.inj r180
              exact ⟨rfl, (FrS.step wf (((FrS.step wf (FrS.step wf ((FrS.refl (W := []) wf).extR e4) e15 Inn.nil) e45 Inn.nil).extR e129).extR e154) e164 (hb155.fresh (Nat.le_trans (Nat.le_trans (Nat.le_trans e4.next e15.next) e45.next) e129.next)))⟩
            · have r182 := ite_bf h179 r162
              refine w_skip ?_
              refine k158 _ _ ?_
              refine w_seqk fun K183 k183 => ?_
              refine w_seqk fun K184 k184 => ?_
              refine w_reg (by kernel_rfl) ?_
              refine s_qk (.int .i64 1) (by kernel_rfl) ?_
              refine s_nil ?_
              refine k184 _ _ ?_
              obtain ⟨z188, hx186, r187⟩ := bind_some r182
              refine w_mid (fun α H189 => ∃ o185, z188 = Sum.inr o185 ∧ Has α [] ∧ H163 = H189) (fun K191 k191 => ?_) (fun α H189 hM => ?_)
              · refine w_block ?_
                obtain ⟨n193, hn194⟩ := loopO_iff.1 hx186
                refine w_loopn (fun n α H195 => ∃ (i2 : Int), iterO (fun s => z_viaductseen_Same_l1 err Code s) n i2 = some z188 ∧ Has α [(0, .iface t29 x30), (3, .pointer (some ⟨b2, 0, none⟩)), (11, .int .i64 i2)] ∧ H163 = H195) n193 ⟨1, hn194, ⟨by kernel_rfl, by kernel_rfl, by kernel_rfl, trivial⟩, rfl⟩ ?_
                rintro n193 α H195 ⟨i2, hi198, hh197, rfl⟩ K203 k203
                obtain ⟨n199, z200, rfl, hz201, hn202⟩ := iter_succ hi198
                obtain ⟨β, rfl⟩ := has_ex hh197
                clear hh197
                replace hz201 : z_viaductseen_Same_l1 err Code i2 = some z200 := hz201
                unfold z_viaductseen_Same_l1 at hz201
                refine w_seqk fun K204 k204 => ?_
                refine w_seqk fun K205 k205 => ?_
                refine w_reg (by kernel_rfl) ?_
                refine s_qk (.int .i64 i2) (by kernel_rfl) ?_
                refine s_qk (.bool (decide (i2 ≤ 20))) (by kernel_rfl) ?_
                refine s_nil ?_
                refine k205 _ _ ?_
                refine w_condp (i2 ≤ 20) (by kernel_rfl) rfl (fun h206 => ?_) (fun h206 => ?_)
                · have r207 := ite_t h206 hz201
                  refine w_skip ?_
                  refine k204 _ _ ?_
                  refine w_seqk fun K208 k208 => ?_
                  refine w_block ?_
                  refine w_seqk fun K209 k209 => ?_
                  refine w_draw [0, 1, 2, 4, 5, 6, 7, 3, 8] (by kernel_rfl) ?_
                  refine d_qk (.iface t29 x30) (by kernel_rfl) ?_
                  refine d_qk (.int .i64 i2) (by kernel_rfl) ?_
                  refine d_qk (.iface 80 (.int .i64 i2)) (by kernel_rfl) ?_
                  refine d_qk (.int .i64 i2) (by kernel_rfl) ?_
                  refine d_qk (.pointer (some ⟨b2, 0, none⟩)) (by kernel_rfl) ?_
                  have u210 := ((((u38.frS e45 Dj.nil_l).ext e129).ext e154).frS e164 (hb155.djn (r6.ltF.le (Nat.le_trans (Nat.le_trans e15.next e45.next) e129.next))))
                  refine d_fl (.int .i64 Code) (x := aLoad Go.Proofs.Tryd.prog 3 (.pointer (some ⟨b2, 0, none⟩)) H163) (by kernel_rfl) (u210.ld (by kernel_rfl)) ?_
                  refine d_qk (.bool (decide (i2 = Code))) (by kernel_rfl) ?_
                  have u211 := ((((u31.fr e45 Dj.nil_l).ext e129).ext e154).fr e164 (hb155.djn (h_err.lt.le (Nat.le_trans (Nat.le_trans (Nat.le_trans e4.next e15.next) e45.next) e129.next))))
                  refine d_ck 45 #[.iface t29 x30, .iface 80 (.int .i64 i2)] (by kernel_rfl) (a_isN u211 h28) ?_
                  rintro _ _ ⟨rfl, rfl⟩
                  refine ⟨st_ql (y := aLoad Go.Proofs.Tryd.prog 3 (.pointer (some ⟨b2, 0, none⟩)) H163) (by kernel_rfl) (u210.ld (by kernel_rfl)) (st_nil), ?_⟩
                  refine d_qk (.bool (!decide ((decide (Er.num err = some i2)) = (decide (i2 = Code))))) (by kernel_rfl) ?_
                  refine d_nil ?_
                  refine k209 _ _ ?_
                  refine w_condn ((decide (Er.num err = some i2)) = (decide (i2 = Code))) (by kernel_rfl) rfl (fun h212 => ?_) (fun h212 => ?_)
                  · have r213 := ite_f h212 r207
                    refine w_seqk fun K214 k214 => ?_
                    refine w_reg (by kernel_rfl) ?_
                    refine s_qk (.bool false) (by kernel_rfl) ?_
                    refine s_nil ?_
                    refine k214 _ _ ?_
                    refine w_ret (bl_ret (th_ret (th_ret (bl_ret (th_ret (th_ret ?_))))))
                    obtain ⟨v215, hv216, hz217⟩ := map_some r213
                    subst hz217
                    obtain rfl := it_inr hn202
                    have hq218 := elim_inl r187
                    rw [hq218] at hv216
                    refine b_ret (fn := Go.Proofs.Tryd.f14) (vs := [.bool false]) (aRes_tmp (by kernel_rfl) (rfl)) ?_
                    obtain rfl := Option.some.inj hv216
                    exact ⟨rfl, (FrS.step wf (((FrS.step wf (FrS.step wf ((FrS.refl (W := []) wf).extR e4) e15 Inn.nil) e45 Inn.nil).extR e129).extR e154) e164 (hb155.fresh (Nat.le_trans (Nat.le_trans (Nat.le_trans e4.next e15.next) e45.next) e129.next)))⟩
                  · have r219 := ite_t h212 r207
                    refine w_skip ?_
                    refine k208 _ _ ?_
                    refine w_reg (by kernel_rfl) ?_
                    refine s_qk (.int .i64 i2) (by kernel_rfl) ?_
                    obtain ⟨g220, r221⟩ := G_some r219
                    refine s_w ((i2 + 1)) (k := .i64) (x := (i2 + 1)) (by kernel_rfl) (wrap64 g220) ?_
                    refine s_qk (.int .i64 (i2 + 1)) (by kernel_rfl) ?_
                    refine s_nil ?_
                    obtain rfl := Option.some.inj r221
                    exact k203 n199 _ _ (Nat.lt_succ_self _) ⟨(i2 + 1), hn202, ⟨by kernel_rfl, by kernel_rfl, by kernel_rfl, trivial⟩, rfl⟩
                · have r222 := ite_f h206 hz201
                  refine w_exit (th_exit (th_exit (bl_eq ?_)))
                  obtain rfl := Option.some.inj r222
                  obtain rfl := it_inr hn202
                  exact k191 _ _ ⟨_, rfl, trivial, rfl⟩
              · obtain ⟨o185, rfl, hh192, rfl⟩ := hM
                have r223 := elim_inr r187
                obtain ⟨β, rfl⟩ := has_ex hh192
                clear hh192
                refine k183 _ _ ?_
                refine w_seqk fun K224 k224 => ?_
                refine w_reg (by kernel_rfl) ?_
                refine s_qk (.bool true) (by kernel_rfl) ?_
                refine s_nil ?_
                refine k224 _ _ ?_
                refine w_ret ?_
                refine b_ret (fn := Go.Proofs.Tryd.f14) (vs := [.bool true]) (aRes_tmp (by kernel_rfl) (rfl)) ?_
                obtain rfl := Option.some.inj r223
                exact ⟨rfl, (FrS.step wf (((FrS.step wf (FrS.step wf ((FrS.refl (W := []) wf).extR e4) e15 Inn.nil) e45 Inn.nil).extR e129).extR e154) e164 (hb155.fresh (Nat.le_trans (Nat.le_trans (Nat.le_trans e4.next e15.next) e45.next) e129.next)))⟩

theorem c_walk_Simple {H : AH} {hd_list : Value} {fp_list : Fp} {list : List (Int)} {r : List (Int)}
    (wf : WF H) (h_list : Sq (encI .i64) 1 H hd_list list fp_list) (hr : z_walk_Simple list = some r) :
    ACalls Go.Proofs.Tryd.prog 15 #[hd_list] H fun v H' => ∃ (s3 : Value) (f4 : Fp), v = s3 ∧ FrS [] H H' ∧ Ow (encI .i64) 1 H' s3 r f4 ∧ Inn [] H f4 := by
  refine acalls_of_body mixed Go.Proofs.Tryd.func15 rfl (Nat.le_of_ble_eq_true rfl) ?_
  unfold z_walk_Simple at hr
  refine w_seqk fun K6 k6 => ?_
  refine w_reg (by kernel_rfl) ?_
  refine s_qk (.slice none 0 0) (by kernel_rfl) ?_
  refine s_nil ?_
  refine k6 _ _ ?_
  refine w_seqk fun K7 k7 => ?_
  refine w_reg (by kernel_rfl) ?_
  refine s_mp .i64 .i64 wf (by kernel_rfl) fun b8 H9 e10 hb11 mp12 => ?_
  refine s_qk (.map (some b8)) (by kernel_rfl) ?_
  refine s_nil ?_
  refine k7 _ _ ?_
  refine w_seqk fun K14 k14 => ?_
  refine w_reg (by kernel_rfl) ?_
  refine s_qk (.slice none 0 0) (by kernel_rfl) ?_
  refine s_nil ?_
  refine k14 _ _ ?_
  refine w_seqk fun K15 k15 => ?_
  refine w_seqk fun K16 k16 => ?_
  refine w_reg (by kernel_rfl) ?_
  refine s_qk (hd_list) (by kernel_rfl) ?_
  have u17 := (h_list.ext e10)
  refine s_ql (.int .i64 (list.length : Int)) (x := aLen Go.Proofs.Tryd.prog 22 hd_list H9) (by kernel_rfl) (u17.lenb (by kernel_rfl)) ?_
  refine s_qk (.int .i64 0) (by kernel_rfl) ?_
  refine s_nil ?_
  refine k16 _ _ ?_
  obtain ⟨o18, hx19, r20⟩ := bind_some hr
  refine w_mid (fun α H21 => ∃ (s25 : Value) (f26 : Fp), Has α [(4, s25)] ∧ FrS [b8] H9 H21 ∧ Ow (encI .i64) 1 H21 s25 o18 f26 ∧ Inn [] H9 f26) (fun K28 k28 => ?_) (fun α H21 hM => ?_)
  · refine w_block ?_
    obtain ⟨n30, hn31⟩ := loopO_iff.1 hx19
    refine w_loopn (fun n α H32 => ∃ (i0 : Int), ∃ (at1 : Int → Option Int), ∃ (s2 : List (Int)), ∃ (s38 : Value), ∃ (f39 : Fp), iterO (fun s => z_walk_Simple_l0 list s.1 s.2.1 s.2.2) n (i0, at1, s2) = some o18 ∧ Has α [(3, .map (some b8)), (4, s38), (11, hd_list), (12, .int .i64 (list.length : Int)), (13, .int .i64 i0)] ∧ FrS [b8] H9 H32 ∧ Mp .i64 .i64 H32 b8 at1 ∧ Ow (encI .i64) 1 H32 s38 s2 f39 ∧ Inn [] H9 f39) n30 ⟨0, (fun _ => none), [], (.slice none 0 0), [], hn31, ⟨by kernel_rfl, by kernel_rfl, by kernel_rfl, by kernel_rfl, by kernel_rfl, trivial⟩, (FrS.refl (W := [b8]) e10.wf), mp12, (Ow.nil (by decide)), Inn.nil⟩ ?_
    rintro n30 α H32 ⟨i0, at1, s2, s38, f39, hi42, hh41, e33, m35, m37, i40⟩ K47 k47
    obtain ⟨n43, z44, rfl, hz45, hn46⟩ := iter_succ hi42
    obtain ⟨β, rfl⟩ := has_ex hh41
    clear hh41
    replace hz45 : z_walk_Simple_l0 list i0 at1 s2 = some z44 := hz45
    unfold z_walk_Simple_l0 at hz45
    obtain ⟨a48, n49, c50, rfl⟩ := m37.form
    refine w_seqk fun K51 k51 => ?_
    refine w_reg (by kernel_rfl) ?_
    refine s_qk (.bool (decide (i0 < (list.length : Int)))) (by kernel_rfl) ?_
    refine s_nil ?_
    refine k51 _ _ ?_
    refine w_seqk fun K52 k52 => ?_
    refine w_condp (i0 < (list.length : Int)) (by kernel_rfl) rfl (fun h53 => ?_) (fun h53 => ?_)
    · have r54 := ite_t h53 hz45
      refine w_skip ?_
      refine k52 _ _ ?_
      refine w_seqk fun K55 k55 => ?_
      refine w_block ?_
      refine w_seqk fun K56 k56 => ?_
      refine w_reg (by kernel_rfl) ?_
      obtain ⟨g57, r58⟩ := G_some r54
      have u59 := (u17.fr e33 (hb11.djn h_list.lt))
      refine s_ql (elp hd_list 1 i0.toNat 0) (x := aIndexAddr Go.Proofs.Tryd.prog 22 hd_list (.int .i64 i0)) (by kernel_rfl) (u59.idxb (by kernel_rfl) g57 h53) ?_
      refine s_ql (.int .i64 (gt list i0)) (x := aLoad Go.Proofs.Tryd.prog 3 (elp hd_list 1 i0.toNat 0) H32) (by kernel_rfl) (u59.ld g57 h53 (by kernel_rfl)) ?_
      refine s_qk (.int .i64 (gt list i0)) (by kernel_rfl) ?_
      refine s_nil ?_
      refine k56 _ _ ?_
      refine w_seqk fun K60 k60 => ?_
      refine w_reg (by kernel_rfl) ?_
      refine s_qk (.map (some b8)) (by kernel_rfl) ?_
      refine s_qk (.int .i64 (gt list i0)) (by kernel_rfl) ?_
      refine s_ql (.int .i64 ((at1 (gt list i0)).getD 0)) (x := aLookup Go.Proofs.Tryd.prog 93 (.map (some b8)) (.int .i64 (gt list i0)) false H32) (by kernel_rfl) (m35.look (by kernel_rfl) _) ?_
      refine s_qk (.int .i64 ((at1 (gt list i0)).getD 0)) (by kernel_rfl) ?_
      refine s_nil ?_
      refine k60 _ _ ?_
      refine w_seqk fun K61 k61 => ?_
      refine w_seqk fun K62 k62 => ?_
      refine w_reg (by kernel_rfl) ?_
      refine s_qk (.int .i64 ((at1 (gt list i0)).getD 0)) (by kernel_rfl) ?_
      refine s_qk (.bool (decide (((at1 (gt list i0)).getD 0) = 0))) (by kernel_rfl) ?_
      refine s_nil ?_
      refine k62 _ _ ?_
      refine w_condp (((at1 (gt list i0)).getD 0) = 0) (by kernel_rfl) rfl (fun h63 => ?_) (fun h63 => ?_)
      · have r64 := ite_t h63 r58
        refine w_seqk fun K65 k65 => ?_
        refine w_reg (by kernel_rfl) ?_
        refine s_qk (.slice a48 n49 c50) (by kernel_rfl) ?_
        refine s_qk (.int .i64 (gt list i0)) (by kernel_rfl) ?_
        refine s_owk (enc := (encI .i64)) (sz := 1) e33.wf [(gt list i0)] 1 (by decide) (fun _ _ => rfl) (fun _ _ => rfl) rfl (by kernel_rfl) fun s66 f67 H68 e69 hf70 hm71 => ?_
        obtain ⟨a72, n73, c74, rfl⟩ := hm71.form
        have u76 := (m37.ext e69)
        obtain ⟨g77, r78⟩ := G_some r64
        obtain ⟨s79, H80, f81, q85, e82, hm83, hf84⟩ := Ow.append (P := Go.Proofs.Tryd.prog) 8 e69.wf u76 hm71.sq (fun _ _ => rfl) (at_ := #[22, 22]) rfl rfl (by kernel_rfl) (by kernel_rfl) (by decide) (by have := g77; first | omega | (simp only [List.length_cons, List.length_nil] at this ⊢; omega) | (simp at this ⊢; omega))
        obtain ⟨a86, n87, c88, rfl⟩ := hm83.form
        refine s_ek (.slice a86 n87 c88) (by kernel_rfl) (q85) ?_
        refine s_qk (.slice a86 n87 c88) (by kernel_rfl) ?_
        refine s_nil ?_
        refine k65 _ _ ?_
        refine w_seqk fun K90 k90 => ?_
        refine w_reg (by kernel_rfl) ?_
        refine s_qk (.map (some b8)) (by kernel_rfl) ?_
        refine s_qk (.int .i64 (gt list i0)) (by kernel_rfl) ?_
        refine s_qk (.slice a86 n87 c88) (by kernel_rfl) ?_
        refine s_ql (.int .i64 ((s2 ++ [(gt list i0)]).length : Int)) (x := aLen Go.Proofs.Tryd.prog 22 (.slice a86 n87 c88) H80) (by kernel_rfl) (hm83.sq.lenb (by kernel_rfl)) ?_
        have u95 := ((m35.ext e69).frS e82 (i40.djn mp12.ltF))
        obtain ⟨H91, q93, e92, mp94⟩ := u95.put (P := Go.Proofs.Tryd.prog) e82.wf (t := 93) (by kernel_rfl) (gt list i0) ((s2 ++ [(gt list i0)]).length : Int)
        have e96 := e92.frS (W := [b8]) (List.mem_singleton.2 rfl)
        refine s_ek (undef) (by kernel_rfl) (map_ok q93) ?_
        refine s_nil ?_
        refine k90 _ _ ?_
        refine w_exit (th_exit (bl_eq ?_))
        refine k55 _ _ ?_
        refine w_reg (by kernel_rfl) ?_
        obtain ⟨g97, r98⟩ := G_some r78
        refine s_w ((i0 + 1)) (k := .i64) (x := (i0 + 1)) (by kernel_rfl) (wrap64 (by have := g97; omega)) ?_
        refine s_qk (.int .i64 (i0 + 1)) (by kernel_rfl) ?_
        refine s_nil ?_
        have u99 := (hm83.fr e96 (Dj.symm (hf84.dj (i40.djn mp12.ltF) (mp12.ltF.le (Nat.le_trans e33.next e69.next)))))
        obtain rfl := Option.some.inj r98
        exact k47 n43 _ _ (Nat.lt_succ_self _) ⟨(i0 + 1), (fun x => if x = (gt list i0) then some ((s2 ++ [(gt list i0)]).length : Int) else at1 x), (s2 ++ [(gt list i0)]), (.slice a86 n87 c88), f81, hn46, ⟨by kernel_rfl, by kernel_rfl, by kernel_rfl, by kernel_rfl, by kernel_rfl, trivial⟩, (FrS.step e10.wf (FrS.step e10.wf ((FrS.step e10.wf (FrS.refl (W := [b8]) e10.wf) e33 Inn.refl').extR e69) e82 (i40.fresh (Nat.le_refl _))) e96 Inn.refl'), mp94, u99, (Inn.trans (i40.fresh (Nat.le_refl _)) (Nat.le_trans e33.next e69.next) hf84)⟩
      · have r100 := ite_f h63 r58
        refine w_skip ?_
        refine k61 _ _ ?_
        refine w_seqk fun K101 k101 => ?_
        refine w_seqk fun K102 k102 => ?_
        refine w_reg (by kernel_rfl) ?_
        refine s_qk (.slice a48 n49 c50) (by kernel_rfl) ?_
        refine s_qk (.int .i64 ((at1 (gt list i0)).getD 0)) (by kernel_rfl) ?_
        obtain ⟨g103, r104⟩ := G_some r100
        obtain ⟨s105, q106, hs107⟩ := Sq.cut (P := Go.Proofs.Tryd.prog) m37.sq (t := 22) (by kernel_rfl) (lo := (some (.int .i64 ((at1 (gt list i0)).getD 0)))) (hi := none) (l := ((at1 (gt list i0)).getD 0).toNat) (r := s2.length) (aBound_int _ (by have := g103; omega)) (rfl) (by have := g103; omega) (by have := g103; omega)
        obtain ⟨a108, n109, c110, rfl⟩ := hs107.form
        refine s_ql (.slice a108 n109 c110) (by kernel_rfl) q106 ?_
        refine s_ql (.int .i64 (((s2.take s2.length).drop ((at1 (gt list i0)).getD 0).toNat).length : Int)) (x := aLen Go.Proofs.Tryd.prog 22 (.slice a108 n109 c110) H32) (by kernel_rfl) (hs107.lenb (by kernel_rfl)) ?_
        refine s_qk (.int .i64 0) (by kernel_rfl) ?_
        refine s_nil ?_
        refine k102 _ _ ?_
        obtain ⟨o112, hx113, r114⟩ := bind_some r104
        refine w_mid (fun α H115 => Has α [(3, .map (some b8)), (4, .slice a48 n49 c50), (7, .int .i64 ((at1 (gt list i0)).getD 0)), (11, hd_list), (12, .int .i64 (list.length : Int)), (13, .int .i64 i0)] ∧ FrS [b8] H32 H115 ∧ Mp .i64 .i64 H115 b8 o112) (fun K119 k119 => ?_) (fun α H115 hM => ?_)
        · refine w_block ?_
          obtain ⟨n121, hn122⟩ := loopO_iff.1 hx113
          refine w_loopn (fun n α H123 => ∃ (at3 : Int → Option Int), ∃ (i4 : Int), iterO (fun s => z_walk_Simple_l1 list i0 at1 s2 s.1 s.2) n (at3, i4) = some o112 ∧ Has α [(3, .map (some b8)), (4, .slice a48 n49 c50), (7, .int .i64 ((at1 (gt list i0)).getD 0)), (11, hd_list), (12, .int .i64 (list.length : Int)), (13, .int .i64 i0), (32, .slice a108 n109 c110), (33, .int .i64 (((s2.take s2.length).drop ((at1 (gt list i0)).getD 0).toNat).length : Int)), (34, .int .i64 i4)] ∧ FrS [b8] H32 H123 ∧ Mp .i64 .i64 H123 b8 at3) n121 ⟨at1, 0, hn122, ⟨by kernel_rfl, by kernel_rfl, by kernel_rfl, by kernel_rfl, by kernel_rfl, by kernel_rfl, by kernel_rfl, by kernel_rfl, by kernel_rfl, trivial⟩, (FrS.refl (W := [b8]) e33.wf), m35⟩ ?_
          rintro n121 α H123 ⟨at3, i4, hi128, hh127, e124, m126⟩ K133 k133
          obtain ⟨n129, z130, rfl, hz131, hn132⟩ := iter_succ hi128
          obtain ⟨β, rfl⟩ := has_ex hh127
          clear hh127
          replace hz131 : z_walk_Simple_l1 list i0 at1 s2 at3 i4 = some z130 := hz131
          unfold z_walk_Simple_l1 at hz131
          refine w_seqk fun K134 k134 => ?_
          refine w_reg (by kernel_rfl) ?_
          refine s_qk (.bool (decide (i4 < (((s2.take s2.length).drop ((at1 (gt list i0)).getD 0).toNat).length : Int)))) (by kernel_rfl) ?_
          refine s_nil ?_
          refine k134 _ _ ?_
          refine w_seqk fun K135 k135 => ?_
          refine w_condp (i4 < (((s2.take s2.length).drop ((at1 (gt list i0)).getD 0).toNat).length : Int)) (by kernel_rfl) rfl (fun h136 => ?_) (fun h136 => ?_)
          · have r137 := ite_t h136 hz131
            refine w_skip ?_
            refine k135 _ _ ?_
            refine w_seqk fun K138 k138 => ?_
            refine w_block ?_
            refine w_seqk fun K139 k139 => ?_
            refine w_reg (by kernel_rfl) ?_
            obtain ⟨g140, r141⟩ := G_some r137
            have u142 := (hs107.fr e124 (Dj.symm (i40.djn mp12.ltF)))
            refine s_ql (elp (.slice a108 n109 c110) 1 i4.toNat 0) (x := aIndexAddr Go.Proofs.Tryd.prog 22 (.slice a108 n109 c110) (.int .i64 i4)) (by kernel_rfl) (u142.idxb (by kernel_rfl) g140 h136) ?_
            refine s_ql (.int .i64 (gt ((s2.take s2.length).drop ((at1 (gt list i0)).getD 0).toNat) i4)) (x := aLoad Go.Proofs.Tryd.prog 3 (elp (.slice a108 n109 c110) 1 i4.toNat 0) H123) (by kernel_rfl) (u142.ld g140 h136 (by kernel_rfl)) ?_
            refine s_qk (.int .i64 (gt ((s2.take s2.length).drop ((at1 (gt list i0)).getD 0).toNat) i4)) (by kernel_rfl) ?_
            refine s_nil ?_
            refine k139 _ _ ?_
            refine w_reg (by kernel_rfl) ?_
            refine s_qk (.map (some b8)) (by kernel_rfl) ?_
            refine s_qk (.int .i64 (gt ((s2.take s2.length).drop ((at1 (gt list i0)).getD 0).toNat) i4)) (by kernel_rfl) ?_
            obtain ⟨H143, q146, e144, mp145⟩ := m126.del (P := Go.Proofs.Tryd.prog) e124.wf (t := 93) (by kernel_rfl) (at_ := #[93, 3]) rfl (gt ((s2.take s2.length).drop ((at1 (gt list i0)).getD 0).toNat) i4)
            have e147 := e144.frS (W := [b8]) (List.mem_singleton.2 rfl)
            refine s_ek (.tuple #[]) (by kernel_rfl) (map_ok q146) ?_
            refine s_nil ?_
            refine k138 _ _ ?_
            refine w_reg (by kernel_rfl) ?_
            obtain ⟨g148, r149⟩ := G_some r141
            refine s_w ((i4 + 1)) (k := .i64) (x := (i4 + 1)) (by kernel_rfl) (wrap64 (by have := g148; omega)) ?_
            refine s_qk (.int .i64 (i4 + 1)) (by kernel_rfl) ?_
            refine s_nil ?_
            obtain rfl := Option.some.inj r149
            exact k133 n129 _ _ (Nat.lt_succ_self _) ⟨(fun x => if x = (gt ((s2.take s2.length).drop ((at1 (gt list i0)).getD 0).toNat) i4) then none else at3 x), (i4 + 1), hn132, ⟨by kernel_rfl, by kernel_rfl, by kernel_rfl, by kernel_rfl, by kernel_rfl, by kernel_rfl, by kernel_rfl, by kernel_rfl, by kernel_rfl, trivial⟩, (FrS.step e33.wf (FrS.step e33.wf (FrS.refl (W := [b8]) e33.wf) e124 Inn.refl') e147 Inn.refl'), mp145⟩
          · have r150 := ite_f h136 hz131
            refine w_exit (th_exit (th_exit (bl_eq ?_)))
            obtain rfl := Option.some.inj r150
            obtain rfl := it_inr hn132
            exact k119 _ _ ⟨⟨by kernel_rfl, by kernel_rfl, by kernel_rfl, by kernel_rfl, by kernel_rfl, by kernel_rfl, trivial⟩, (FrS.step e33.wf (FrS.refl (W := [b8]) e33.wf) e124 Inn.refl'), m126⟩
        · obtain ⟨hh120, e116, m118⟩ := hM
          obtain ⟨β, rfl⟩ := has_ex hh120
          clear hh120
          refine k101 _ _ ?_
          refine w_reg (by kernel_rfl) ?_
          refine s_qk (.slice a48 n49 c50) (by kernel_rfl) ?_
          refine s_qk (.int .i64 ((at1 (gt list i0)).getD 0)) (by kernel_rfl) ?_
          have u154 := (m37.fr e116 (Dj.symm (i40.djn mp12.ltF)))
          obtain ⟨s151, q152, hs153⟩ := Ow.head (P := Go.Proofs.Tryd.prog) u154 (t := 22) (by kernel_rfl) (hi := (some (.int .i64 ((at1 (gt list i0)).getD 0)))) (r := ((at1 (gt list i0)).getD 0).toNat) (aBound_int _ (by have := g103; omega)) (by have := g103; omega)
          obtain ⟨a155, n156, c157, rfl⟩ := hs153.form
          refine s_ql (.slice a155 n156 c157) (by kernel_rfl) q152 ?_
          refine s_qk (.slice a155 n156 c157) (by kernel_rfl) ?_
          refine s_nil ?_
          refine k55 _ _ ?_
          refine w_reg (by kernel_rfl) ?_
          obtain ⟨g159, r160⟩ := G_some r114
          refine s_w ((i0 + 1)) (k := .i64) (x := (i0 + 1)) (by kernel_rfl) (wrap64 (by have := g159; omega)) ?_
          refine s_qk (.int .i64 (i0 + 1)) (by kernel_rfl) ?_
          refine s_nil ?_
          obtain rfl := Option.some.inj r160
          exact k47 n43 _ _ (Nat.lt_succ_self _) ⟨(i0 + 1), o112, (s2.take ((at1 (gt list i0)).getD 0).toNat), (.slice a155 n156 c157), f39, hn46, ⟨by kernel_rfl, by kernel_rfl, by kernel_rfl, by kernel_rfl, by kernel_rfl, trivial⟩, (FrS.step e10.wf (FrS.step e10.wf (FrS.refl (W := [b8]) e10.wf) e33 Inn.refl') e116 Inn.refl'), m118, hs153, (i40.fresh (Nat.le_refl _))⟩
    · have r161 := ite_f h53 hz45
      refine w_exit (th_exit (th_exit (bl_eq ?_)))
      obtain rfl := Option.some.inj r161
      obtain rfl := it_inr hn46
      exact k28 _ _ ⟨(.slice a48 n49 c50), f39, ⟨by kernel_rfl, trivial⟩, (FrS.step e10.wf (FrS.refl (W := [b8]) e10.wf) e33 Inn.refl'), m37, (i40.fresh (Nat.le_refl _))⟩
  · obtain ⟨s25, f26, hh29, e22, m24, i27⟩ := hM
    obtain ⟨β, rfl⟩ := has_ex hh29
    clear hh29
    obtain ⟨a162, n163, c164, rfl⟩ := m24.form
    refine k15 _ _ ?_
    refine w_seqk fun K165 k165 => ?_
    refine w_reg (by kernel_rfl) ?_
    refine s_qk (.slice a162 n163 c164) (by kernel_rfl) ?_
    refine s_qk (.slice a162 n163 c164) (by kernel_rfl) ?_
    refine s_nil ?_
    refine k165 _ _ ?_
    refine w_ret ?_
    refine b_ret (fn := Go.Proofs.Tryd.f15) (vs := [.slice a162 n163 c164]) (aRes_tmp (by kernel_rfl) (rfl)) ?_
    obtain rfl := Option.some.inj r20
    exact ⟨(.slice a162 n163 c164), f26, rfl, (FrS.step wf ((FrS.refl (W := []) wf).extR e10) e22 (hb11.fresh (Nat.le_refl _))), m24, (i27.fresh e10.next)⟩


end Go.Vd
