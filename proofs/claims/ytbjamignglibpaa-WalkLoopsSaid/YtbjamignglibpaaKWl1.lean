/- The walks of the functions (printed by a program of ours). -/
import Derived.Test.YtbjamignglibpaaVeC
import Derived.Test.YtbjamignglibpaaIWl
import Derived.Test.YtbjamignglibpaaKWl0
set_option maxRecDepth 100000
set_option maxHeartbeats 4000000
set_option linter.unusedVariables false
namespace Go.Vd
attribute [local irreducible] wpSeq wpOrd aWp
theorem c_viaductref05_Twin {H : AH} {hd_First : Value} {fp_First : Fp} {hd_To : Value} {fp_To : Fp} {hd_Weight : Value} {fp_Weight : Fp} {First : List (Int)} {To : List (Int)} {Weight : List (Int)} {r : List (Int) × List (Int) × List (Int)}
    (wf : WF H) (h_First : Sq (encI .i64) 1 H hd_First First fp_First) (h_To : Sq (encI .i64) 1 H hd_To To fp_To) (h_Weight : Sq (encI .i64) 1 H hd_Weight Weight fp_Weight) (hr : z_viaductref05_Twin First To Weight = some r) :
    ACalls Go.Proofs.Try.prog 44 #[.agg #[hd_First, hd_To, hd_Weight]] H fun v H' => ∃ (s3 : Value) (f4 : Fp) (s7 : Value) (f8 : Fp) (s11 : Value) (f12 : Fp), v = .agg #[s3, s7, s11] ∧ FrS [] H H' ∧ Ow (encI .i64) 1 H' s3 r.1 f4 ∧ Ow (encI .i64) 1 H' s7 r.2.1 f8 ∧ Ow (encI .i64) 1 H' s11 r.2.2 f12 ∧ Inn [] H f4 ∧ Inn [] H f8 ∧ Inn [] H f12 ∧ Dj f4 f8 ∧ Dj f4 f12 ∧ Dj f8 f12 := by
  refine acalls_of_body mixed Go.Proofs.Try.func44 rfl (Nat.le_of_ble_eq_true rfl) ?_
  unfold z_viaductref05_Twin at hr
  refine w_seqk fun K19 k19 => ?_
  refine w_reg (by kernel_rfl) ?_
  refine s_rwl wf [hd_First, hd_To, hd_Weight] (one_cons (h_First.one1) (one_cons (h_To.one1) (one_cons (h_Weight.one1) (one_nil)))) (by kernel_rfl) fun b20 H21 e22 hb23 r24 => ?_
  refine s_rwk e22.wf [.slice none 0 0, .slice none 0 0, .slice none 0 0] (by kernel_rfl) fun b26 H27 e28 hb29 r30 => ?_
  refine s_nil ?_
  refine k19 _ _ ?_
  refine w_seqk fun K32 k32 => ?_
  refine w_draw [0, 1, 3, 4, 6, 7, 2, 5, 8, 9, 10] (by kernel_rfl) ?_
  refine d_qk (.pointer (some ⟨b20, 0, none⟩)) (by kernel_rfl) ?_
  have u33 := (r24.ext e28)
  refine d_ql (hd_First) (x := aLoad Go.Proofs.Try.prog 22 (.pointer (some ⟨b20, 0, none⟩)) H27) (by kernel_rfl) (u33.ld (by kernel_rfl)) ?_
  refine d_qk (.pointer (some ⟨b20, 1, none⟩)) (by kernel_rfl) ?_
  refine d_fl (hd_To) (x := aLoad Go.Proofs.Try.prog 22 (.pointer (some ⟨b20, 1, none⟩)) H27) (by kernel_rfl) (u33.ld (by kernel_rfl)) ?_
  refine d_qk (.pointer (some ⟨b20, 2, none⟩)) (by kernel_rfl) ?_
  refine d_fl (hd_Weight) (x := aLoad Go.Proofs.Try.prog 22 (.pointer (some ⟨b20, 2, none⟩)) H27) (by kernel_rfl) (u33.ld (by kernel_rfl)) ?_
  have u34 := ((h_First.ext e22).ext e28)
  obtain ⟨y35, hy36, r37⟩ := bind_some hr
  refine d_ck 11 #[hd_First] (by kernel_rfl) (c_viaductref02_TwinInts e28.wf u34 hy36) ?_
  rintro s38 H40 ⟨_, f39, rfl, e41, m42, i43⟩
  obtain ⟨a45, n46, c47, rfl⟩ := m42.form
  have u48 := (u33.frS e41 Dj.nil_l)
  refine ⟨st_ql (y := aLoad Go.Proofs.Try.prog 22 (.pointer (some ⟨b20, 2, none⟩)) H40) (by kernel_rfl) (u48.ld (by kernel_rfl)) (st_ql (y := aLoad Go.Proofs.Try.prog 22 (.pointer (some ⟨b20, 1, none⟩)) H40) (by kernel_rfl) (u48.ld (by kernel_rfl)) (st_nil)), ?_⟩
  have u49 := (((h_To.ext e22).ext e28).fr e41 Dj.nil_l)
  obtain ⟨y50, hy51, r52⟩ := bind_some r37
  refine d_ck 11 #[hd_To] (by kernel_rfl) (c_viaductref02_TwinInts e41.wf u49 hy51) ?_
  rintro s53 H55 ⟨_, f54, rfl, e56, m57, i58⟩
  obtain ⟨a60, n61, c62, rfl⟩ := m57.form
  have u63 := (u48.frS e56 Dj.nil_l)
  refine ⟨st_ql (y := aLoad Go.Proofs.Try.prog 22 (.pointer (some ⟨b20, 2, none⟩)) H55) (by kernel_rfl) (u63.ld (by kernel_rfl)) (st_anc (by kernel_rfl) (st_nil)), ?_⟩
  have u64 := ((((h_Weight.ext e22).ext e28).fr e41 Dj.nil_l).fr e56 Dj.nil_l)
  obtain ⟨y65, hy66, r67⟩ := bind_some r52
  refine d_ck 11 #[hd_Weight] (by kernel_rfl) (c_viaductref02_TwinInts e56.wf u64 hy66) ?_
  rintro s68 H70 ⟨_, f69, rfl, e71, m72, i73⟩
  obtain ⟨a75, n76, c77, rfl⟩ := m72.form
  refine ⟨st_anc (by kernel_rfl) (st_anc (by kernel_rfl) (st_nil)), ?_⟩
  refine d_qk (.agg #[.slice a45 n46 c47, .slice a60 n61 c62, .slice a75 n76 c77]) (by kernel_rfl) ?_
  have u82 := (((r30.frS e41 Dj.nil_l).frS e56 Dj.nil_l).frS e71 Dj.nil_l)
  have u83 := (m57.fr e71 Dj.nil_l)
  have u84 := ((m42.fr e56 Dj.nil_l).fr e71 Dj.nil_l)
  obtain ⟨H78, q79, e80, r81⟩ := Row.store (P := Go.Proofs.Try.prog) (t := 24) (p := 0) e71.wf u82 (.agg #[.slice a45 n46 c47, .slice a60 n61 c62, .slice a75 n76 c77]) [.slice a45 n46 c47, .slice a60 n61 c62, .slice a75 n76 c77] (by kernel_rfl) (by kernel_rfl) (one_cons (u84.one1) (one_cons (u83.one1) (one_cons (m72.one1) (one_nil)))) (Nat.le_of_ble_eq_true (by kernel_rfl)) [.slice a45 n46 c47, .slice a60 n61 c62, .slice a75 n76 c77] (by kernel_rfl)
  refine d_ek (undef) (by kernel_rfl) (map_ok q79) (st_anc (by kernel_rfl) (st_anc (by kernel_rfl) (st_nil))) ?_
  refine d_nil ?_
  refine k32 _ _ ?_
  refine w_ret ?_
  refine b_ret (fn := Go.Proofs.Try.f44) (vs := [.agg #[.slice a45 n46 c47, .slice a60 n61 c62, .slice a75 n76 c77]]) (aRes_cell (Eq.trans (b := aLoad Go.Proofs.Try.prog 24 (.pointer (some ⟨b26, 0, none⟩)) H78) (by kernel_rfl) (r81.ld (by kernel_rfl))) (rfl)) ?_
  have u85 := (u84.fr e80 (Dj.symm (i43.djn r30.ltF)))
  have u86 := (u83.fr e80 (Dj.symm (i58.djn (r30.ltF.le e41.next))))
  have u87 := (m72.fr e80 (Dj.symm (i73.djn (r30.ltF.le (Nat.le_trans e41.next e56.next)))))
  obtain rfl := Option.some.inj r67
  exact ⟨(.slice a45 n46 c47), f39, (.slice a60 n61 c62), f54, (.slice a75 n76 c77), f69, rfl, (FrS.step wf (FrS.step wf (FrS.step wf (FrS.step wf (((FrS.refl (W := []) wf).extR e22).extR e28) e41 Inn.nil) e56 Inn.nil) e71 Inn.nil) e80 (hb29.fresh e22.next)), u85, u86, u87, (i43.fresh (Nat.le_trans e22.next e28.next)), (i58.fresh (Nat.le_trans (Nat.le_trans e22.next e28.next) e41.next)), (i73.fresh (Nat.le_trans (Nat.le_trans (Nat.le_trans e22.next e28.next) e41.next) e56.next)), (Dj.symm (i58.djn m42.lt)), (Dj.symm (i73.djn (m42.lt.le e56.next))), (Dj.symm (i73.djn m57.lt))⟩

theorem c_viaductlaw09_of {H : AH} {hd_First : Value} {fp_First : Fp} {hd_To : Value} {fp_To : Fp} {hd_Weight : Value} {fp_Weight : Fp} {First : List (Int)} {To : List (Int)} {Weight : List (Int)} {r : List (Int) × List (Int) × List (Int)}
    (wf : WF H) (h_First : Sq (encI .i64) 1 H hd_First First fp_First) (h_To : Sq (encI .i64) 1 H hd_To To fp_To) (h_Weight : Sq (encI .i64) 1 H hd_Weight Weight fp_Weight) (hr : z_viaductlaw09_of First To Weight = some r) :
    ACalls Go.Proofs.Try.prog 14 #[.agg #[hd_First, hd_To, hd_Weight]] H fun v H' => ∃ (s3 : Value) (f4 : Fp) (s7 : Value) (f8 : Fp) (s11 : Value) (f12 : Fp), v = .agg #[s3, s7, s11] ∧ FrS [] H H' ∧ Ow (encI .i64) 1 H' s3 r.1 f4 ∧ Ow (encI .i64) 1 H' s7 r.2.1 f8 ∧ Ow (encI .i64) 1 H' s11 r.2.2 f12 ∧ Inn [] H f4 ∧ Inn [] H f8 ∧ Inn [] H f12 ∧ Dj f4 f8 ∧ Dj f4 f12 ∧ Dj f8 f12 := by
  refine acalls_of_body mixed Go.Proofs.Try.func14 rfl (Nat.le_of_ble_eq_true rfl) ?_
  unfold z_viaductlaw09_of at hr
  refine w_seqk fun K19 k19 => ?_
  refine w_reg (by kernel_rfl) ?_
  refine s_rwl wf [hd_First, hd_To, hd_Weight] (one_cons (h_First.one1) (one_cons (h_To.one1) (one_cons (h_Weight.one1) (one_nil)))) (by kernel_rfl) fun b20 H21 e22 hb23 r24 => ?_
  refine s_rwk e22.wf [.slice none 0 0, .slice none 0 0, .slice none 0 0] (by kernel_rfl) fun b26 H27 e28 hb29 r30 => ?_
  refine s_nil ?_
  refine k19 _ _ ?_
  refine w_seqk fun K32 k32 => ?_
  refine w_reg (by kernel_rfl) ?_
  have u33 := (r24.ext e28)
  refine s_ql (.agg #[hd_First, hd_To, hd_Weight]) (x := aLoad Go.Proofs.Try.prog 24 (.pointer (some ⟨b20, 0, none⟩)) H27) (by kernel_rfl) (u33.ld (by kernel_rfl)) ?_
  have u34 := ((h_First.ext e22).ext e28)
  have u35 := ((h_To.ext e22).ext e28)
  have u36 := ((h_Weight.ext e22).ext e28)
  obtain ⟨y37, hy38, r39⟩ := bind_some hr
  refine s_ck 44 #[.agg #[hd_First, hd_To, hd_Weight]] (by kernel_rfl) (c_viaductref05_Twin e28.wf u34 u35 u36 hy38) ?_
  rintro _ H46 ⟨s40, f41, s42, f43, s44, f45, rfl, e47, m48, m49, m50, i51, i52, i53, d54, d55, d56⟩
  obtain ⟨a60, n61, c62, rfl⟩ := m48.form
  obtain ⟨a63, n64, c65, rfl⟩ := m49.form
  obtain ⟨a66, n67, c68, rfl⟩ := m50.form
  refine s_rwk e47.wf [.slice none 0 0, .slice none 0 0, .slice none 0 0] (by kernel_rfl) fun b69 H70 e71 hb72 r73 => ?_
  have u79 := (m50.ext e71)
  have u80 := (m49.ext e71)
  have u81 := (m48.ext e71)
  obtain ⟨H75, q76, e77, r78⟩ := Row.store (P := Go.Proofs.Try.prog) (t := 24) (p := 0) e71.wf r73 (.agg #[.slice a60 n61 c62, .slice a63 n64 c65, .slice a66 n67 c68]) [.slice a60 n61 c62, .slice a63 n64 c65, .slice a66 n67 c68] (by kernel_rfl) (by kernel_rfl) (one_cons (u81.one1) (one_cons (u80.one1) (one_cons (u79.one1) (one_nil)))) (Nat.le_of_ble_eq_true (by kernel_rfl)) [.slice a60 n61 c62, .slice a63 n64 c65, .slice a66 n67 c68] (by kernel_rfl)
  refine s_ek (undef) (by kernel_rfl) (map_ok q76) ?_
  refine s_nil ?_
  refine k32 _ _ ?_
  refine w_seqk fun K82 k82 => ?_
  refine w_reg (by kernel_rfl) ?_
  refine s_qk (.pointer (some ⟨b69, 0, none⟩)) (by kernel_rfl) ?_
  refine s_ql (.slice a60 n61 c62) (x := aLoad Go.Proofs.Try.prog 22 (.pointer (some ⟨b69, 0, none⟩)) H75) (by kernel_rfl) (r78.ld (by kernel_rfl)) ?_
  refine s_qk (.pointer (some ⟨b69, 1, none⟩)) (by kernel_rfl) ?_
  refine s_ql (.slice a63 n64 c65) (x := aLoad Go.Proofs.Try.prog 22 (.pointer (some ⟨b69, 1, none⟩)) H75) (by kernel_rfl) (r78.ld (by kernel_rfl)) ?_
  refine s_qk (.pointer (some ⟨b69, 2, none⟩)) (by kernel_rfl) ?_
  refine s_ql (.slice a66 n67 c68) (x := aLoad Go.Proofs.Try.prog 22 (.pointer (some ⟨b69, 2, none⟩)) H75) (by kernel_rfl) (r78.ld (by kernel_rfl)) ?_
  refine s_qk (.agg #[.slice a60 n61 c62, .slice a63 n64 c65, .slice a66 n67 c68]) (by kernel_rfl) ?_
  have u87 := (((r30.frS e47 Dj.nil_l).ext e71).frS e77 (hb72.djn (r30.ltF.le e47.next)))
  have u88 := (u79.fr e77 (hb72.djn m50.lt))
  have u89 := (u80.fr e77 (hb72.djn m49.lt))
  have u90 := (u81.fr e77 (hb72.djn m48.lt))
  obtain ⟨H83, q84, e85, r86⟩ := Row.store (P := Go.Proofs.Try.prog) (t := 34) (p := 0) e77.wf u87 (.agg #[.slice a60 n61 c62, .slice a63 n64 c65, .slice a66 n67 c68]) [.slice a60 n61 c62, .slice a63 n64 c65, .slice a66 n67 c68] (by kernel_rfl) (by kernel_rfl) (one_cons (u90.one1) (one_cons (u89.one1) (one_cons (u88.one1) (one_nil)))) (Nat.le_of_ble_eq_true (by kernel_rfl)) [.slice a60 n61 c62, .slice a63 n64 c65, .slice a66 n67 c68] (by kernel_rfl)
  refine s_ek (undef) (by kernel_rfl) (map_ok q84) ?_
  refine s_nil ?_
  refine k82 _ _ ?_
  refine w_ret ?_
  refine b_ret (fn := Go.Proofs.Try.f14) (vs := [.agg #[.slice a60 n61 c62, .slice a63 n64 c65, .slice a66 n67 c68]]) (aRes_cell (Eq.trans (b := aLoad Go.Proofs.Try.prog 34 (.pointer (some ⟨b26, 0, none⟩)) H83) (by kernel_rfl) (r86.ld (by kernel_rfl))) (rfl)) ?_
  have u91 := (u90.fr e85 (Dj.symm (i51.djn r30.ltF)))
  have u92 := (u89.fr e85 (Dj.symm (i52.djn r30.ltF)))
  have u93 := (u88.fr e85 (Dj.symm (i53.djn r30.ltF)))
  obtain rfl := Option.some.inj r39
  exact ⟨(.slice a60 n61 c62), f41, (.slice a63 n64 c65), f43, (.slice a66 n67 c68), f45, rfl, (FrS.step wf (FrS.step wf ((FrS.step wf (((FrS.refl (W := []) wf).extR e22).extR e28) e47 Inn.nil).extR e71) e77 (hb72.fresh (Nat.le_trans (Nat.le_trans e22.next e28.next) e47.next))) e85 (hb29.fresh e22.next)), u91, u92, u93, (i51.fresh (Nat.le_trans e22.next e28.next)), (i52.fresh (Nat.le_trans e22.next e28.next)), (i53.fresh (Nat.le_trans e22.next e28.next)), d54, d55, d56⟩

theorem c_csr_Csr_nodes {H : AH} {hd_First : Value} {fp_First : Fp} {hd_To : Value} {fp_To : Fp} {hd_Weight : Value} {fp_Weight : Fp} {First : List (Int)} {To : List (Int)} {Weight : List (Int)} {r : Int}
    (wf : WF H) (h_First : Sq (encI .i64) 1 H hd_First First fp_First) (h_To : Sq (encI .i64) 1 H hd_To To fp_To) (h_Weight : Sq (encI .i64) 1 H hd_Weight Weight fp_Weight) (hr : z_csr_Csr_nodes First To Weight = some r) :
    ACalls Go.Proofs.Try.prog 67 #[.agg #[hd_First, hd_To, hd_Weight]] H fun v H' => v = .int .i64 r ∧ FrS [] H H' := by
  refine acalls_of_body mixed Go.Proofs.Try.func67 rfl (Nat.le_of_ble_eq_true rfl) ?_
  unfold z_csr_Csr_nodes at hr
  refine w_seqk fun K1 k1 => ?_
  refine w_reg (by kernel_rfl) ?_
  refine s_rwl wf [hd_First, hd_To, hd_Weight] (one_cons (h_First.one1) (one_cons (h_To.one1) (one_cons (h_Weight.one1) (one_nil)))) (by kernel_rfl) fun b2 H3 e4 hb5 r6 => ?_
  refine s_qk (.int .i64 0) (by kernel_rfl) ?_
  refine s_nil ?_
  refine k1 _ _ ?_
  refine w_seqk fun K8 k8 => ?_
  refine w_reg (by kernel_rfl) ?_
  refine s_qk (.pointer (some ⟨b2, 0, none⟩)) (by kernel_rfl) ?_
  refine s_ql (hd_First) (x := aLoad Go.Proofs.Try.prog 22 (.pointer (some ⟨b2, 0, none⟩)) H3) (by kernel_rfl) (r6.ld (by kernel_rfl)) ?_
  have u9 := (h_First.ext e4)
  refine s_ql (.int .i64 (First.length : Int)) (x := aLen Go.Proofs.Try.prog 22 hd_First H3) (by kernel_rfl) (u9.lenb (by kernel_rfl)) ?_
  obtain ⟨g10, r11⟩ := G_some hr
  refine s_w (((First.length : Int) - 1)) (k := .i64) (x := ((First.length : Int) - 1)) (by kernel_rfl) (wrap64 g10) ?_
  refine s_qk (.int .i64 ((First.length : Int) - 1)) (by kernel_rfl) ?_
  refine s_nil ?_
  refine k8 _ _ ?_
  refine w_ret ?_
  refine b_ret (fn := Go.Proofs.Try.f67) (vs := [.int .i64 ((First.length : Int) - 1)]) (aRes_tmp (by kernel_rfl) (rfl)) ?_
  obtain rfl := Option.some.inj r11
  exact ⟨rfl, ((FrS.refl (W := []) wf).extR e4)⟩

theorem c_fault_At {H : AH} {ev_err : Value} {fp_err : Fp} {kind : Int} {at_ : Int} {err : Er} {r : Er}
    (wf : WF H) (h_err : Ev 82 123 H ev_err err fp_err) (hr : z_fault_At kind at_ err = some r) :
    ACalls Go.Proofs.Try.prog 42 #[.int .i64 kind, .int .i64 at_, ev_err] H fun v H' => ∃ (v3 : Value) (f4 : Fp), v = v3 ∧ FrS [] H H' ∧ Ev 82 123 H' v3 r f4 ∧ Inn fp_err H f4 := by
  refine acalls_of_body mixed Go.Proofs.Try.func42 rfl (Nat.le_of_ble_eq_true rfl) ?_
  unfold z_fault_At at hr
  refine w_seqk fun K6 k6 => ?_
  refine w_reg (by kernel_rfl) ?_
  refine s_qk (.nilIface) (by kernel_rfl) ?_
  refine s_nil ?_
  refine k6 _ _ ?_
  refine w_seqk fun K7 k7 => ?_
  refine w_seqk fun K8 k8 => ?_
  refine w_reg (by kernel_rfl) ?_
  refine s_qk (ev_err) (by kernel_rfl) ?_
  rcases (h_err).cases with ⟨h9, rfl⟩ | ⟨h9, t10, x11, rfl⟩
  · have r12 := ite_t h9 hr
    refine s_qk (.bool true) (by kernel_rfl) ?_
    refine s_nil ?_
    refine k8 _ _ ?_
    refine w_cond true (by kernel_rfl) rfl (fun _ => ?_) (fun h => by cases h)
    refine w_seqk fun K13 k13 => ?_
    refine w_reg (by kernel_rfl) ?_
    refine s_qk (.nilIface) (by kernel_rfl) ?_
    refine s_nil ?_
    refine k13 _ _ ?_
    refine w_ret (th_ret ?_)
    refine b_ret (fn := Go.Proofs.Try.f42) (vs := [.nilIface]) (aRes_tmp (by kernel_rfl) (rfl)) ?_
    obtain rfl := Option.some.inj r12
    exact ⟨(.nilIface), [], rfl, (FrS.refl (W := []) wf), Ev.nil, Inn.nil⟩
  · have r14 := ite_f h9 hr
    refine s_ql (.bool false) (x := aBin Go.Proofs.Try.prog .eql 31 (.tmp 7) (.const .nilIface) (.iface t10 x11) .nilIface) (by kernel_rfl) (aBin_nil (by kernel_rfl)) ?_
    refine s_nil ?_
    refine k8 _ _ ?_
    refine w_cond false (by kernel_rfl) rfl (fun h => by cases h) (fun _ => ?_)
    refine w_skip ?_
    refine k7 _ _ ?_
    refine w_seqk fun K15 k15 => ?_
    refine w_reg (by kernel_rfl) ?_
    refine s_qk (.int .i64 kind) (by kernel_rfl) ?_
    refine s_qk (.int .i64 at_) (by kernel_rfl) ?_
    refine s_qk (.agg #[.int .i64 kind, .int .i64 at_]) (by kernel_rfl) ?_
    refine s_qk (.iface t10 x11) (by kernel_rfl) ?_
    refine s_qk (.agg #[.int .i64 kind, .int .i64 at_, .iface t10 x11]) (by kernel_rfl) ?_
    refine s_rwl wf [.int .i64 kind, .int .i64 at_, .iface t10 x11] (one_cons (rfl) (one_cons (rfl) (one_cons (h_err.one1) (one_nil)))) (by kernel_rfl) fun b16 H17 e18 hb19 r20 => ?_
    have u22 := (h_err.ext e18)
    obtain ⟨fq23, he24, hi25⟩ := Ev.at r20 u22 hb19
    refine s_qk (.iface 123 (.pointer (some ⟨b16, 0, none⟩))) (by kernel_rfl) ?_
    refine s_qk (.iface 123 (.pointer (some ⟨b16, 0, none⟩))) (by kernel_rfl) ?_
    refine s_nil ?_
    refine k15 _ _ ?_
    refine w_ret ?_
    refine b_ret (fn := Go.Proofs.Try.f42) (vs := [.iface 123 (.pointer (some ⟨b16, 0, none⟩))]) (aRes_tmp (by kernel_rfl) (rfl)) ?_
    obtain rfl := Option.some.inj r14
    exact ⟨(.iface 123 (.pointer (some ⟨b16, 0, none⟩))), fq23, rfl, ((FrS.refl (W := []) wf).extR e18), he24, (Inn.trans Inn.refl' (Nat.le_refl _) hi25)⟩

theorem c_csr_Csr_arc {H : AH} {hd_First : Value} {fp_First : Fp} {hd_To : Value} {fp_To : Fp} {hd_Weight : Value} {fp_Weight : Fp} {First : List (Int)} {To : List (Int)} {Weight : List (Int)} {v_ : Int} {i : Int} {r : Er}
    (wf : WF H) (h_First : Sq (encI .i64) 1 H hd_First First fp_First) (h_To : Sq (encI .i64) 1 H hd_To To fp_To) (h_Weight : Sq (encI .i64) 1 H hd_Weight Weight fp_Weight) (hr : z_csr_Csr_arc First To Weight v_ i = some r) :
    ACalls Go.Proofs.Try.prog 68 #[.agg #[hd_First, hd_To, hd_Weight], .int .i64 v_, .int .i64 i] H fun v H' => ∃ (v3 : Value) (f4 : Fp), v = v3 ∧ FrS [] H H' ∧ Ev 82 123 H' v3 r f4 ∧ Inn [] H f4 := by
  refine acalls_of_body mixed Go.Proofs.Try.func68 rfl (Nat.le_of_ble_eq_true rfl) ?_
  unfold z_csr_Csr_arc at hr
  refine w_seqk fun K6 k6 => ?_
  refine w_reg (by kernel_rfl) ?_
  refine s_rwl wf [hd_First, hd_To, hd_Weight] (one_cons (h_First.one1) (one_cons (h_To.one1) (one_cons (h_Weight.one1) (one_nil)))) (by kernel_rfl) fun b7 H8 e9 hb10 r11 => ?_
  refine s_qk (.nilIface) (by kernel_rfl) ?_
  refine s_nil ?_
  refine k6 _ _ ?_
  refine w_seqk fun K13 k13 => ?_
  refine w_reg (by kernel_rfl) ?_
  refine s_qk (.pointer (some ⟨b7, 1, none⟩)) (by kernel_rfl) ?_
  refine s_ql (hd_To) (x := aLoad Go.Proofs.Try.prog 22 (.pointer (some ⟨b7, 1, none⟩)) H8) (by kernel_rfl) (r11.ld (by kernel_rfl)) ?_
  refine s_qk (.int .i64 i) (by kernel_rfl) ?_
  obtain ⟨g14, r15⟩ := G_some hr
  have u16 := (h_To.ext e9)
  refine s_ql (elp hd_To 1 i.toNat 0) (x := aIndexAddr Go.Proofs.Try.prog 22 hd_To (.int .i64 i)) (by kernel_rfl) (u16.idxb (by kernel_rfl) g14.1 g14.2) ?_
  refine s_ql (.int .i64 (gt To i)) (x := aLoad Go.Proofs.Try.prog 3 (elp hd_To 1 i.toNat 0) H8) (by kernel_rfl) (u16.ld g14.1 g14.2 (by kernel_rfl)) ?_
  refine s_qk (.int .i64 (gt To i)) (by kernel_rfl) ?_
  refine s_nil ?_
  refine k13 _ _ ?_
  refine w_seqk fun K17 k17 => ?_
  refine w_block ?_
  refine w_seqk fun K18 k18 => ?_
  obtain ⟨o19, hx20, r21⟩ := bind_some r15
  refine w_mid (fun α H22 => Has α [(1, .int .i64 v_), (2, .int .i64 i), (3, .pointer (some ⟨b7, 0, none⟩)), (7, .int .i64 (gt To i)), (13, .bool o19)] ∧ FrS [] H8 H22) (fun K24 k24 => ?_) (fun α H22 hM => ?_)
  · refine w_reg (by kernel_rfl) ?_
    refine s_qk (.int .i64 (gt To i)) (by kernel_rfl) ?_
    refine s_b ((gt To i) < 0) (by kernel_rfl) (fun h26 => ?_) (fun h26 => ?_)
    · have r27 := ite_t h26 hx20
      refine s_qk (.bool true) (by kernel_rfl) ?_
      refine s_no (by kernel_rfl) ?_
      refine s_no (by kernel_rfl) ?_
      refine s_no (by kernel_rfl) ?_
      refine s_no (by kernel_rfl) ?_
      refine s_qk (.bool true) (by kernel_rfl) ?_
      refine s_qk (.bool true) (by kernel_rfl) ?_
      refine s_nil ?_
      obtain rfl := Option.some.inj r27
      exact k24 _ _ ⟨⟨by kernel_rfl, by kernel_rfl, by kernel_rfl, by kernel_rfl, by kernel_rfl, trivial⟩, (FrS.refl (W := []) e9.wf)⟩
    · have r28 := ite_f h26 hx20
      refine s_qk (.bool false) (by kernel_rfl) ?_
      refine s_qk (.int .i64 (gt To i)) (by kernel_rfl) ?_
      refine s_ql (.agg #[hd_First, hd_To, hd_Weight]) (x := aLoad Go.Proofs.Try.prog 34 (.pointer (some ⟨b7, 0, none⟩)) H8) (by kernel_rfl) (r11.ld (by kernel_rfl)) ?_
      have u29 := (h_First.ext e9)
      have u30 := (h_Weight.ext e9)
      obtain ⟨y31, hy32, r33⟩ := bind_some r28
      refine s_ck 67 #[.agg #[hd_First, hd_To, hd_Weight]] (by kernel_rfl) (c_csr_Csr_nodes e9.wf u29 u16 u30 hy32) ?_
      rintro _ H34 ⟨rfl, e35⟩
      refine s_qk (.bool (decide ((gt To i) ≥ y31))) (by kernel_rfl) ?_
      refine s_qk (.bool (decide ((gt To i) ≥ y31))) (by kernel_rfl) ?_
      refine s_qk (.bool (decide ((gt To i) ≥ y31))) (by kernel_rfl) ?_
      refine s_nil ?_
      obtain rfl := Option.some.inj r33
      exact k24 _ _ ⟨⟨by kernel_rfl, by kernel_rfl, by kernel_rfl, by kernel_rfl, by kernel_rfl, trivial⟩, (FrS.step e9.wf (FrS.refl (W := []) e9.wf) e35 Inn.nil)⟩
  · obtain ⟨hh25, e23⟩ := hM
    obtain ⟨β, rfl⟩ := has_ex hh25
    clear hh25
    refine k18 _ _ ?_
    refine w_cond (o19) (by kernel_rfl) rfl (fun h36 => ?_) (fun h36 => ?_)
    · have r37 := ite_t h36 r21
      refine w_seqk fun K38 k38 => ?_
      refine w_reg (by kernel_rfl) ?_
      refine s_qk (.iface 82 (.int .i64 7)) (by kernel_rfl) ?_
      refine s_qk (.iface 82 (.int .i64 7)) (by kernel_rfl) ?_
      refine s_nil ?_
      refine k38 _ _ ?_
      refine w_ret (bl_ret (th_ret ?_))
      refine b_ret (fn := Go.Proofs.Try.f68) (vs := [.iface 82 (.int .i64 7)]) (aRes_tmp (by kernel_rfl) (rfl)) ?_
      obtain rfl := Option.some.inj r37
      exact ⟨(.iface 82 (.int .i64 7)), [], rfl, (FrS.step wf ((FrS.refl (W := []) wf).extR e9) e23 Inn.nil), Ev.no, Inn.nil⟩
    · have r39 := ite_bf h36 r21
      refine w_seqk fun K40 k40 => ?_
      obtain ⟨o41, hx42, r43⟩ := bind_some r39
      refine w_mid (fun α H44 => Has α [(2, .int .i64 i), (3, .pointer (some ⟨b7, 0, none⟩)), (23, .bool o41)] ∧ H22 = H44) (fun K46 k46 => ?_) (fun α H44 hM => ?_)
      · refine w_reg (by kernel_rfl) ?_
        refine s_qk (.int .i64 (gt To i)) (by kernel_rfl) ?_
        refine s_qk (.int .i64 v_) (by kernel_rfl) ?_
        refine s_b ((gt To i) = v_) (by kernel_rfl) (fun h48 => ?_) (fun h48 => ?_)
        · have r49 := ite_t h48 hx42
          refine s_qk (.bool true) (by kernel_rfl) ?_
          refine s_no (by kernel_rfl) ?_
          refine s_no (by kernel_rfl) ?_
          refine s_no (by kernel_rfl) ?_
          refine s_no (by kernel_rfl) ?_
          refine s_no (by kernel_rfl) ?_
          refine s_no (by kernel_rfl) ?_
          refine s_no (by kernel_rfl) ?_
          refine s_no (by kernel_rfl) ?_
          refine s_no (by kernel_rfl) ?_
          refine s_no (by kernel_rfl) ?_
          refine s_no (by kernel_rfl) ?_
          refine s_no (by kernel_rfl) ?_
          refine s_no (by kernel_rfl) ?_
          refine s_no (by kernel_rfl) ?_
          refine s_no (by kernel_rfl) ?_
          refine s_no (by kernel_rfl) ?_
          refine s_no (by kernel_rfl) ?_
          refine s_qk (.bool true) (by kernel_rfl) ?_
          refine s_qk (.bool true) (by kernel_rfl) ?_
          refine s_nil ?_
          obtain rfl := Option.some.inj r49
          exact k46 _ _ ⟨⟨by kernel_rfl, by kernel_rfl, by kernel_rfl, trivial⟩, rfl⟩
        · have r50 := ite_f h48 hx42
          refine s_qk (.bool false) (by kernel_rfl) ?_
          refine s_qk (.int .i64 i) (by kernel_rfl) ?_
          refine s_qk (.pointer (some ⟨b7, 0, none⟩)) (by kernel_rfl) ?_
          have u51 := (r11.frS e23 Dj.nil_l)
          refine s_ql (hd_First) (x := aLoad Go.Proofs.Try.prog 22 (.pointer (some ⟨b7, 0, none⟩)) H22) (by kernel_rfl) (u51.ld (by kernel_rfl)) ?_
          refine s_qk (.int .i64 v_) (by kernel_rfl) ?_
          obtain ⟨g52, r53⟩ := G_some r50
          have u54 := ((h_First.ext e9).fr e23 Dj.nil_l)
          refine s_ql (elp hd_First 1 v_.toNat 0) (x := aIndexAddr Go.Proofs.Try.prog 22 hd_First (.int .i64 v_)) (by kernel_rfl) (u54.idxb (by kernel_rfl) g52.1 g52.2) ?_
          refine s_ql (.int .i64 (gt First v_)) (x := aLoad Go.Proofs.Try.prog 3 (elp hd_First 1 v_.toNat 0) H22) (by kernel_rfl) (u54.ld g52.1 g52.2 (by kernel_rfl)) ?_
          refine s_b (i > (gt First v_)) (by kernel_rfl) (fun h55 => ?_) (fun h55 => ?_)
          · have r56 := ite_t h55 r53
            refine s_qk (.bool true) (by kernel_rfl) ?_
            refine s_qk (.int .i64 (gt To i)) (by kernel_rfl) ?_
            refine s_qk (.pointer (some ⟨b7, 1, none⟩)) (by kernel_rfl) ?_
            refine s_ql (hd_To) (x := aLoad Go.Proofs.Try.prog 22 (.pointer (some ⟨b7, 1, none⟩)) H22) (by kernel_rfl) (u51.ld (by kernel_rfl)) ?_
            refine s_qk (.int .i64 i) (by kernel_rfl) ?_
            obtain ⟨g57, r58⟩ := G_some r56
            refine s_w ((i - 1)) (k := .i64) (x := (i - 1)) (by kernel_rfl) (wrap64 g57) ?_
            obtain ⟨g59, r60⟩ := G_some r58
            have u61 := (u16.fr e23 Dj.nil_l)
            refine s_ql (elp hd_To 1 (i - 1).toNat 0) (x := aIndexAddr Go.Proofs.Try.prog 22 hd_To (.int .i64 (i - 1))) (by kernel_rfl) (u61.idxb (by kernel_rfl) g59.1 g59.2) ?_
            refine s_ql (.int .i64 (gt To (i - 1))) (x := aLoad Go.Proofs.Try.prog 3 (elp hd_To 1 (i - 1).toNat 0) H22) (by kernel_rfl) (u61.ld g59.1 g59.2 (by kernel_rfl)) ?_
            refine s_qk (.bool (decide ((gt To i) ≤ (gt To (i - 1))))) (by kernel_rfl) ?_
            refine s_qk (.bool (decide ((gt To i) ≤ (gt To (i - 1))))) (by kernel_rfl) ?_
            refine s_qk (.bool (decide ((gt To i) ≤ (gt To (i - 1))))) (by kernel_rfl) ?_
            refine s_qk (.bool (decide ((gt To i) ≤ (gt To (i - 1))))) (by kernel_rfl) ?_
            refine s_nil ?_
            obtain rfl := Option.some.inj r60
            exact k46 _ _ ⟨⟨by kernel_rfl, by kernel_rfl, by kernel_rfl, trivial⟩, rfl⟩
          · have r62 := ite_f h55 r53
            refine s_qk (.bool false) (by kernel_rfl) ?_
            refine s_no (by kernel_rfl) ?_
            refine s_no (by kernel_rfl) ?_
            refine s_no (by kernel_rfl) ?_
            refine s_no (by kernel_rfl) ?_
            refine s_no (by kernel_rfl) ?_
            refine s_no (by kernel_rfl) ?_
            refine s_no (by kernel_rfl) ?_
            refine s_no (by kernel_rfl) ?_
            refine s_qk (.bool false) (by kernel_rfl) ?_
            refine s_qk (.bool false) (by kernel_rfl) ?_
            refine s_qk (.bool false) (by kernel_rfl) ?_
            refine s_nil ?_
            obtain rfl := Option.some.inj r62
            exact k46 _ _ ⟨⟨by kernel_rfl, by kernel_rfl, by kernel_rfl, trivial⟩, rfl⟩
      · obtain ⟨hh47, rfl⟩ := hM
        obtain ⟨β, rfl⟩ := has_ex hh47
        clear hh47
        refine k40 _ _ ?_
        refine w_cond (o41) (by kernel_rfl) rfl (fun h63 => ?_) (fun h63 => ?_)
        · have r64 := ite_t h63 r43
          refine w_seqk fun K65 k65 => ?_
          refine w_reg (by kernel_rfl) ?_
          refine s_qk (.iface 82 (.int .i64 14)) (by kernel_rfl) ?_
          refine s_qk (.iface 82 (.int .i64 14)) (by kernel_rfl) ?_
          refine s_nil ?_
          refine k65 _ _ ?_
          refine w_ret (bl_ret (th_ret ?_))
          refine b_ret (fn := Go.Proofs.Try.f68) (vs := [.iface 82 (.int .i64 14)]) (aRes_tmp (by kernel_rfl) (rfl)) ?_
          obtain rfl := Option.some.inj r64
          exact ⟨(.iface 82 (.int .i64 14)), [], rfl, (FrS.step wf ((FrS.refl (W := []) wf).extR e9) e23 Inn.nil), Ev.no, Inn.nil⟩
        · have r66 := ite_bf h63 r43
          refine w_seqk fun K67 k67 => ?_
          refine w_reg (by kernel_rfl) ?_
          refine s_qk (.pointer (some ⟨b7, 2, none⟩)) (by kernel_rfl) ?_
          have u68 := (r11.frS e23 Dj.nil_l)
          refine s_ql (hd_Weight) (x := aLoad Go.Proofs.Try.prog 22 (.pointer (some ⟨b7, 2, none⟩)) H22) (by kernel_rfl) (u68.ld (by kernel_rfl)) ?_
          refine s_qk (.int .i64 i) (by kernel_rfl) ?_
          obtain ⟨g69, r70⟩ := G_some r66
          have u71 := ((h_Weight.ext e9).fr e23 Dj.nil_l)
          refine s_ql (elp hd_Weight 1 i.toNat 0) (x := aIndexAddr Go.Proofs.Try.prog 22 hd_Weight (.int .i64 i)) (by kernel_rfl) (u71.idxb (by kernel_rfl) g14.1 g69) ?_
          refine s_ql (.int .i64 (gt Weight i)) (x := aLoad Go.Proofs.Try.prog 3 (elp hd_Weight 1 i.toNat 0) H22) (by kernel_rfl) (u71.ld g14.1 g69 (by kernel_rfl)) ?_
          refine s_b ((gt Weight i) < 0) (by kernel_rfl) (fun h72 => ?_) (fun h72 => ?_)
          · have r73 := ite_t h72 r70
            refine s_qk (.bool true) (by kernel_rfl) ?_
            refine s_no (by kernel_rfl) ?_
            refine s_no (by kernel_rfl) ?_
            refine s_no (by kernel_rfl) ?_
            refine s_no (by kernel_rfl) ?_
            refine s_no (by kernel_rfl) ?_
            refine s_no (by kernel_rfl) ?_
            refine s_qk (.bool true) (by kernel_rfl) ?_
            refine s_qk (.bool true) (by kernel_rfl) ?_
            refine s_nil ?_
            refine k67 _ _ ?_
            refine w_cond true (by kernel_rfl) rfl (fun _ => ?_) (fun h => by cases h)
            refine w_seqk fun K74 k74 => ?_
            refine w_reg (by kernel_rfl) ?_
            refine s_qk (.iface 82 (.int .i64 8)) (by kernel_rfl) ?_
            refine s_qk (.iface 82 (.int .i64 8)) (by kernel_rfl) ?_
            refine s_nil ?_
            refine k74 _ _ ?_
            refine w_ret (bl_ret (th_ret ?_))
            refine b_ret (fn := Go.Proofs.Try.f68) (vs := [.iface 82 (.int .i64 8)]) (aRes_tmp (by kernel_rfl) (rfl)) ?_
            obtain rfl := Option.some.inj r73
            exact ⟨(.iface 82 (.int .i64 8)), [], rfl, (FrS.step wf ((FrS.refl (W := []) wf).extR e9) e23 Inn.nil), Ev.no, Inn.nil⟩
          · have r75 := ite_f h72 r70
            refine s_qk (.bool false) (by kernel_rfl) ?_
            refine s_qk (.pointer (some ⟨b7, 2, none⟩)) (by kernel_rfl) ?_
            refine s_ql (hd_Weight) (x := aLoad Go.Proofs.Try.prog 22 (.pointer (some ⟨b7, 2, none⟩)) H22) (by kernel_rfl) (u68.ld (by kernel_rfl)) ?_
            refine s_qk (.int .i64 i) (by kernel_rfl) ?_
            refine s_ql (elp hd_Weight 1 i.toNat 0) (x := aIndexAddr Go.Proofs.Try.prog 22 hd_Weight (.int .i64 i)) (by kernel_rfl) (u71.idxb (by kernel_rfl) g14.1 g69) ?_
            refine s_ql (.int .i64 (gt Weight i)) (x := aLoad Go.Proofs.Try.prog 3 (elp hd_Weight 1 i.toNat 0) H22) (by kernel_rfl) (u71.ld g14.1 g69 (by kernel_rfl)) ?_
            refine s_qk (.bool (decide ((gt Weight i) > 2147483647))) (by kernel_rfl) ?_
            refine s_qk (.bool (decide ((gt Weight i) > 2147483647))) (by kernel_rfl) ?_
            refine s_qk (.bool (decide ((gt Weight i) > 2147483647))) (by kernel_rfl) ?_
            refine s_nil ?_
            refine k67 _ _ ?_
            refine w_condp ((gt Weight i) > 2147483647) (by kernel_rfl) rfl (fun h76 => ?_) (fun h76 => ?_)
            · have r77 := ite_t h76 r75
              refine w_seqk fun K78 k78 => ?_
              refine w_reg (by kernel_rfl) ?_
              refine s_qk (.iface 82 (.int .i64 8)) (by kernel_rfl) ?_
              refine s_qk (.iface 82 (.int .i64 8)) (by kernel_rfl) ?_
              refine s_nil ?_
              refine k78 _ _ ?_
              refine w_ret (bl_ret (th_ret ?_))
              refine b_ret (fn := Go.Proofs.Try.f68) (vs := [.iface 82 (.int .i64 8)]) (aRes_tmp (by kernel_rfl) (rfl)) ?_
              obtain rfl := Option.some.inj r77
              exact ⟨(.iface 82 (.int .i64 8)), [], rfl, (FrS.step wf ((FrS.refl (W := []) wf).extR e9) e23 Inn.nil), Ev.no, Inn.nil⟩
            · have r79 := ite_f h76 r75
              refine w_skip ?_
              refine k17 _ _ ?_
              refine w_seqk fun K80 k80 => ?_
              refine w_reg (by kernel_rfl) ?_
              refine s_qk (.nilIface) (by kernel_rfl) ?_
              refine s_nil ?_
              refine k80 _ _ ?_
              refine w_ret ?_
              refine b_ret (fn := Go.Proofs.Try.f68) (vs := [.nilIface]) (aRes_tmp (by kernel_rfl) (rfl)) ?_
              obtain rfl := Option.some.inj r79
              exact ⟨(.nilIface), [], rfl, (FrS.step wf ((FrS.refl (W := []) wf).extR e9) e23 Inn.nil), Ev.nil, Inn.nil⟩

theorem c_csr_Check {H : AH} {hd_First : Value} {fp_First : Fp} {hd_To : Value} {fp_To : Fp} {hd_Weight : Value} {fp_Weight : Fp} {First : List (Int)} {To : List (Int)} {Weight : List (Int)} {r : Er}
    (wf : WF H) (h_First : Sq (encI .i64) 1 H hd_First First fp_First) (h_To : Sq (encI .i64) 1 H hd_To To fp_To) (h_Weight : Sq (encI .i64) 1 H hd_Weight Weight fp_Weight) (hr : z_csr_Check First To Weight = some r) :
    ACalls Go.Proofs.Try.prog 41 #[.agg #[hd_First, hd_To, hd_Weight]] H fun v H' => ∃ (v3 : Value) (f4 : Fp), v = v3 ∧ FrS [] H H' ∧ Ev 82 123 H' v3 r f4 ∧ Inn [] H f4 := by
  refine acalls_of_body mixed Go.Proofs.Try.func41 rfl (Nat.le_of_ble_eq_true rfl) ?_
  unfold z_csr_Check at hr
  refine w_seqk fun K6 k6 => ?_
  refine w_reg (by kernel_rfl) ?_
  refine s_rwl wf [hd_First, hd_To, hd_Weight] (one_cons (h_First.one1) (one_cons (h_To.one1) (one_cons (h_Weight.one1) (one_nil)))) (by kernel_rfl) fun b7 H8 e9 hb10 r11 => ?_
  refine s_qk (.nilIface) (by kernel_rfl) ?_
  refine s_nil ?_
  refine k6 _ _ ?_
  refine w_seqk fun K13 k13 => ?_
  refine w_reg (by kernel_rfl) ?_
  refine s_ql (.agg #[hd_First, hd_To, hd_Weight]) (x := aLoad Go.Proofs.Try.prog 34 (.pointer (some ⟨b7, 0, none⟩)) H8) (by kernel_rfl) (r11.ld (by kernel_rfl)) ?_
  have u14 := (h_First.ext e9)
  have u15 := (h_To.ext e9)
  have u16 := (h_Weight.ext e9)
  obtain ⟨y17, hy18, r19⟩ := bind_some hr
  refine s_ck 67 #[.agg #[hd_First, hd_To, hd_Weight]] (by kernel_rfl) (c_csr_Csr_nodes e9.wf u14 u15 u16 hy18) ?_
  rintro _ H20 ⟨rfl, e21⟩
  refine s_qk (.int .i64 y17) (by kernel_rfl) ?_
  refine s_nil ?_
  refine k13 _ _ ?_
  refine w_seqk fun K22 k22 => ?_
  refine w_block ?_
  refine w_seqk fun K23 k23 => ?_
  obtain ⟨o24, hx25, r26⟩ := bind_some r19
  refine w_mid (fun α H27 => Has α [(1, .pointer (some ⟨b7, 0, none⟩)), (3, .int .i64 y17), (10, .bool o24)] ∧ H20 = H27) (fun K29 k29 => ?_) (fun α H27 hM => ?_)
  · refine w_draw [0, 1, 2, 3, 4, 5, 6, 7, 8, 9, 10, 11, 12, 13, 14, 15, 16, 17, 18, 19, 20, 21, 22, 23, 24, 25, 26, 27, 28, 29] (by kernel_rfl) ?_
    refine d_qk (.int .i64 y17) (by kernel_rfl) ?_
    refine d_b (y17 < 0) (by kernel_rfl) (fun h31 => ?_) (fun h31 => ?_)
    · have r32 := ite_t h31 hx25
      refine d_qk (.bool true) (by kernel_rfl) ?_
      refine d_idle (by kernel_rfl) ?_
      refine d_idle (by kernel_rfl) ?_
      refine d_idle (by kernel_rfl) ?_
      refine d_idle (by kernel_rfl) ?_
      refine d_idle (by kernel_rfl) ?_
      refine d_qk (.bool true) (by kernel_rfl) ?_
      refine d_qk (.bool true) (by kernel_rfl) ?_
      refine d_idle (by kernel_rfl) ?_
      refine d_idle (by kernel_rfl) ?_
      refine d_idle (by kernel_rfl) ?_
      refine d_idle (by kernel_rfl) ?_
      refine d_idle (by kernel_rfl) ?_
      refine d_idle (by kernel_rfl) ?_
      refine d_idle (by kernel_rfl) ?_
      refine d_idle (by kernel_rfl) ?_
      refine d_idle (by kernel_rfl) ?_
      refine d_qk (.bool true) (by kernel_rfl) ?_
      refine d_qk (.bool true) (by kernel_rfl) ?_
      refine d_idle (by kernel_rfl) ?_
      refine d_idle (by kernel_rfl) ?_
      refine d_idle (by kernel_rfl) ?_
      refine d_idle (by kernel_rfl) ?_
      refine d_idle (by kernel_rfl) ?_
      refine d_idle (by kernel_rfl) ?_
      refine d_idle (by kernel_rfl) ?_
      refine d_qk (.bool true) (by kernel_rfl) ?_
      refine d_qk (.bool true) (by kernel_rfl) ?_
      refine d_nil ?_
      obtain rfl := Option.some.inj r32
      exact k29 _ _ ⟨⟨by kernel_rfl, by kernel_rfl, by kernel_rfl, trivial⟩, rfl⟩
    · have r33 := ite_f h31 hx25
      refine d_qk (.bool false) (by kernel_rfl) ?_
      refine d_qk (.pointer (some ⟨b7, 0, none⟩)) (by kernel_rfl) ?_
      have u34 := (r11.frS e21 Dj.nil_l)
      refine d_ql (hd_First) (x := aLoad Go.Proofs.Try.prog 22 (.pointer (some ⟨b7, 0, none⟩)) H20) (by kernel_rfl) (u34.ld (by kernel_rfl)) ?_
      obtain ⟨g35, r36⟩ := G_some r33
      have u37 := (u14.fr e21 Dj.nil_l)
      refine d_ql (elp hd_First 1 (0 : Int).toNat 0) (x := aIndexAddr Go.Proofs.Try.prog 22 hd_First (.int .i64 0)) (by kernel_rfl) (u37.idxb (by kernel_rfl) (by decide) g35) ?_
      refine d_ql (.int .i64 (gt First 0)) (x := aLoad Go.Proofs.Try.prog 3 (elp hd_First 1 (0 : Int).toNat 0) H20) (by kernel_rfl) (u37.ld (by decide) g35 (by kernel_rfl)) ?_
      refine d_bn ((gt First 0) = 0) (by kernel_rfl) (fun h38 => ?_) (fun h38 => ?_)
      · have r39 := ite_t h38 r36
        refine d_qk (.bool false) (by kernel_rfl) ?_
        refine d_qk (.bool false) (by kernel_rfl) ?_
        refine d_qk (.pointer (some ⟨b7, 0, none⟩)) (by kernel_rfl) ?_
        refine d_ql (hd_First) (x := aLoad Go.Proofs.Try.prog 22 (.pointer (some ⟨b7, 0, none⟩)) H20) (by kernel_rfl) (u34.ld (by kernel_rfl)) ?_
        refine d_qk (.int .i64 y17) (by kernel_rfl) ?_
        obtain ⟨g40, r41⟩ := G_some r39
        refine d_ql (elp hd_First 1 y17.toNat 0) (x := aIndexAddr Go.Proofs.Try.prog 22 hd_First (.int .i64 y17)) (by kernel_rfl) (u37.idxb (by kernel_rfl) g40.1 g40.2) ?_
        refine d_ql (.int .i64 (gt First y17)) (x := aLoad Go.Proofs.Try.prog 3 (elp hd_First 1 y17.toNat 0) H20) (by kernel_rfl) (u37.ld g40.1 g40.2 (by kernel_rfl)) ?_
        refine d_qk (.pointer (some ⟨b7, 1, none⟩)) (by kernel_rfl) ?_
        refine d_ql (hd_To) (x := aLoad Go.Proofs.Try.prog 22 (.pointer (some ⟨b7, 1, none⟩)) H20) (by kernel_rfl) (u34.ld (by kernel_rfl)) ?_
        have u42 := (u15.fr e21 Dj.nil_l)
        refine d_ql (.int .i64 (To.length : Int)) (x := aLen Go.Proofs.Try.prog 22 hd_To H20) (by kernel_rfl) (u42.lenb (by kernel_rfl)) ?_
        refine d_bn ((gt First y17) = (To.length : Int)) (by kernel_rfl) (fun h43 => ?_) (fun h43 => ?_)
        · have r44 := ite_t h43 r41
          refine d_qk (.bool false) (by kernel_rfl) ?_
          refine d_qk (.bool false) (by kernel_rfl) ?_
          refine d_qk (.pointer (some ⟨b7, 1, none⟩)) (by kernel_rfl) ?_
          refine d_ql (hd_To) (x := aLoad Go.Proofs.Try.prog 22 (.pointer (some ⟨b7, 1, none⟩)) H20) (by kernel_rfl) (u34.ld (by kernel_rfl)) ?_
          refine d_ql (.int .i64 (To.length : Int)) (x := aLen Go.Proofs.Try.prog 22 hd_To H20) (by kernel_rfl) (u42.lenb (by kernel_rfl)) ?_
          refine d_qk (.pointer (some ⟨b7, 2, none⟩)) (by kernel_rfl) ?_
          refine d_ql (hd_Weight) (x := aLoad Go.Proofs.Try.prog 22 (.pointer (some ⟨b7, 2, none⟩)) H20) (by kernel_rfl) (u34.ld (by kernel_rfl)) ?_
          have u45 := (u16.fr e21 Dj.nil_l)
          refine d_ql (.int .i64 (Weight.length : Int)) (x := aLen Go.Proofs.Try.prog 22 hd_Weight H20) (by kernel_rfl) (u45.lenb (by kernel_rfl)) ?_
          refine d_qk (.bool (!decide ((To.length : Int) = (Weight.length : Int)))) (by kernel_rfl) ?_
          refine d_qk (.bool (!decide ((To.length : Int) = (Weight.length : Int)))) (by kernel_rfl) ?_
          refine d_qk (.bool (!decide ((To.length : Int) = (Weight.length : Int)))) (by kernel_rfl) ?_
          refine d_nil ?_
          obtain rfl := Option.some.inj r44
          exact k29 _ _ ⟨⟨by kernel_rfl, by kernel_rfl, by kernel_rfl, trivial⟩, rfl⟩
        · have r46 := ite_f h43 r41
          refine d_qk (.bool true) (by kernel_rfl) ?_
          refine d_qk (.bool true) (by kernel_rfl) ?_
          refine d_idle (by kernel_rfl) ?_
          refine d_idle (by kernel_rfl) ?_
          refine d_idle (by kernel_rfl) ?_
          refine d_idle (by kernel_rfl) ?_
          refine d_idle (by kernel_rfl) ?_
          refine d_idle (by kernel_rfl) ?_
          refine d_idle (by kernel_rfl) ?_
          refine d_qk (.bool true) (by kernel_rfl) ?_
          refine d_qk (.bool true) (by kernel_rfl) ?_
          refine d_nil ?_
          obtain rfl := Option.some.inj r46
          exact k29 _ _ ⟨⟨by kernel_rfl, by kernel_rfl, by kernel_rfl, trivial⟩, rfl⟩
      · have r47 := ite_f h38 r36
        refine d_qk (.bool true) (by kernel_rfl) ?_
        refine d_qk (.bool true) (by kernel_rfl) ?_
        refine d_idle (by kernel_rfl) ?_
        refine d_idle (by kernel_rfl) ?_
        refine d_idle (by kernel_rfl) ?_
        refine d_idle (by kernel_rfl) ?_
        refine d_idle (by kernel_rfl) ?_
        refine d_idle (by kernel_rfl) ?_
        refine d_idle (by kernel_rfl) ?_
        refine d_idle (by kernel_rfl) ?_
        refine d_idle (by kernel_rfl) ?_
        refine d_qk (.bool true) (by kernel_rfl) ?_
        refine d_qk (.bool true) (by kernel_rfl) ?_
        refine d_idle (by kernel_rfl) ?_
        refine d_idle (by kernel_rfl) ?_
        refine d_idle (by kernel_rfl) ?_
        refine d_idle (by kernel_rfl) ?_
        refine d_idle (by kernel_rfl) ?_
        refine d_idle (by kernel_rfl) ?_
        refine d_idle (by kernel_rfl) ?_
        refine d_qk (.bool true) (by kernel_rfl) ?_
        refine d_qk (.bool true) (by kernel_rfl) ?_
        refine d_nil ?_
        obtain rfl := Option.some.inj r47
        exact k29 _ _ ⟨⟨by kernel_rfl, by kernel_rfl, by kernel_rfl, trivial⟩, rfl⟩
  · obtain ⟨hh30, rfl⟩ := hM
    obtain ⟨β, rfl⟩ := has_ex hh30
    clear hh30
    refine k23 _ _ ?_
    refine w_cond (o24) (by kernel_rfl) rfl (fun h48 => ?_) (fun h48 => ?_)
    · have r49 := ite_t h48 r26
      refine w_seqk fun K50 k50 => ?_
      refine w_reg (by kernel_rfl) ?_
      refine s_qk (.iface 82 (.int .i64 14)) (by kernel_rfl) ?_
      refine s_qk (.iface 82 (.int .i64 14)) (by kernel_rfl) ?_
      refine s_nil ?_
      refine k50 _ _ ?_
      refine w_ret (bl_ret (th_ret ?_))
      refine b_ret (fn := Go.Proofs.Try.f41) (vs := [.iface 82 (.int .i64 14)]) (aRes_tmp (by kernel_rfl) (rfl)) ?_
      obtain rfl := Option.some.inj r49
      exact ⟨(.iface 82 (.int .i64 14)), [], rfl, (FrS.step wf ((FrS.refl (W := []) wf).extR e9) e21 Inn.nil), Ev.no, Inn.nil⟩
    · have r51 := ite_bf h48 r26
      refine w_seqk fun K52 k52 => ?_
      obtain ⟨o53, hx54, r55⟩ := bind_some r51
      refine w_mid (fun α H56 => Has α [(1, .pointer (some ⟨b7, 0, none⟩)), (3, .int .i64 y17), (41, .bool o53)] ∧ H20 = H56) (fun K58 k58 => ?_) (fun α H56 hM => ?_)
      · refine w_reg (by kernel_rfl) ?_
        refine s_qk (.int .i64 y17) (by kernel_rfl) ?_
        refine s_b (y17 > 65536) (by kernel_rfl) (fun h60 => ?_) (fun h60 => ?_)
        · have r61 := ite_t h60 hx54
          refine s_qk (.bool true) (by kernel_rfl) ?_
          refine s_no (by kernel_rfl) ?_
          refine s_no (by kernel_rfl) ?_
          refine s_no (by kernel_rfl) ?_
          refine s_no (by kernel_rfl) ?_
          refine s_qk (.bool true) (by kernel_rfl) ?_
          refine s_qk (.bool true) (by kernel_rfl) ?_
          refine s_nil ?_
          obtain rfl := Option.some.inj r61
          exact k58 _ _ ⟨⟨by kernel_rfl, by kernel_rfl, by kernel_rfl, trivial⟩, rfl⟩
        · have r62 := ite_f h60 hx54
          refine s_qk (.bool false) (by kernel_rfl) ?_
          refine s_qk (.pointer (some ⟨b7, 1, none⟩)) (by kernel_rfl) ?_
          have u63 := (r11.frS e21 Dj.nil_l)
          refine s_ql (hd_To) (x := aLoad Go.Proofs.Try.prog 22 (.pointer (some ⟨b7, 1, none⟩)) H20) (by kernel_rfl) (u63.ld (by kernel_rfl)) ?_
          have u64 := (u15.fr e21 Dj.nil_l)
          refine s_ql (.int .i64 (To.length : Int)) (x := aLen Go.Proofs.Try.prog 22 hd_To H20) (by kernel_rfl) (u64.lenb (by kernel_rfl)) ?_
          refine s_qk (.bool (decide ((To.length : Int) > 262144))) (by kernel_rfl) ?_
          refine s_qk (.bool (decide ((To.length : Int) > 262144))) (by kernel_rfl) ?_
          refine s_qk (.bool (decide ((To.length : Int) > 262144))) (by kernel_rfl) ?_
          refine s_nil ?_
          obtain rfl := Option.some.inj r62
          exact k58 _ _ ⟨⟨by kernel_rfl, by kernel_rfl, by kernel_rfl, trivial⟩, rfl⟩
      · obtain ⟨hh59, rfl⟩ := hM
        obtain ⟨β, rfl⟩ := has_ex hh59
        clear hh59
        refine k52 _ _ ?_
        refine w_cond (o53) (by kernel_rfl) rfl (fun h65 => ?_) (fun h65 => ?_)
        · have r66 := ite_t h65 r55
          refine w_seqk fun K67 k67 => ?_
          refine w_reg (by kernel_rfl) ?_
          refine s_qk (.iface 82 (.int .i64 9)) (by kernel_rfl) ?_
          refine s_qk (.iface 82 (.int .i64 9)) (by kernel_rfl) ?_
          refine s_nil ?_
          refine k67 _ _ ?_
          refine w_ret (bl_ret (th_ret ?_))
          refine b_ret (fn := Go.Proofs.Try.f41) (vs := [.iface 82 (.int .i64 9)]) (aRes_tmp (by kernel_rfl) (rfl)) ?_
          obtain rfl := Option.some.inj r66
          exact ⟨(.iface 82 (.int .i64 9)), [], rfl, (FrS.step wf ((FrS.refl (W := []) wf).extR e9) e21 Inn.nil), Ev.no, Inn.nil⟩
        · have r68 := ite_bf h65 r55
          refine w_skip ?_
          refine k22 _ _ ?_
          refine w_seqk fun K69 k69 => ?_
          refine w_seqk fun K70 k70 => ?_
          refine w_reg (by kernel_rfl) ?_
          refine s_qk (.int .i64 y17) (by kernel_rfl) ?_
          refine s_qk (.int .i64 0) (by kernel_rfl) ?_
          refine s_nil ?_
          refine k70 _ _ ?_
          obtain ⟨z74, hx72, r73⟩ := bind_some r68
          refine w_mid (fun α H75 => ∃ o71, z74 = Sum.inr o71 ∧ Has α [(1, .pointer (some ⟨b7, 0, none⟩)), (3, .int .i64 y17)] ∧ H20 = H75) (fun K77 k77 => ?_) (fun α H75 hM => ?_)
          · refine w_block ?_
            obtain ⟨n79, hn80⟩ := loopO_iff.1 hx72
            refine w_loopn (fun n α H81 => ∃ (i0 : Int), iterO (fun s => z_csr_Check_l0 First y17 s) n i0 = some z74 ∧ Has α [(1, .pointer (some ⟨b7, 0, none⟩)), (3, .int .i64 y17), (51, .int .i64 y17), (52, .int .i64 i0)] ∧ H20 = H81) n79 ⟨0, hn80, ⟨by kernel_rfl, by kernel_rfl, by kernel_rfl, by kernel_rfl, trivial⟩, rfl⟩ ?_
            rintro n79 α H81 ⟨i0, hi84, hh83, rfl⟩ K89 k89
            obtain ⟨n85, z86, rfl, hz87, hn88⟩ := iter_succ hi84
            obtain ⟨β, rfl⟩ := has_ex hh83
            clear hh83
            replace hz87 : z_csr_Check_l0 First y17 i0 = some z86 := hz87
            unfold z_csr_Check_l0 at hz87
            refine w_seqk fun K90 k90 => ?_
            refine w_reg (by kernel_rfl) ?_
            refine s_qk (.bool (decide (i0 < y17))) (by kernel_rfl) ?_
            refine s_nil ?_
            refine k90 _ _ ?_
            refine w_seqk fun K91 k91 => ?_
            refine w_condp (i0 < y17) (by kernel_rfl) rfl (fun h92 => ?_) (fun h92 => ?_)
            · have r93 := ite_t h92 hz87
              refine w_skip ?_
              refine k91 _ _ ?_
              refine w_seqk fun K94 k94 => ?_
              refine w_block ?_
              refine w_seqk fun K95 k95 => ?_
              refine w_reg (by kernel_rfl) ?_
              refine s_qk (.int .i64 i0) (by kernel_rfl) ?_
              refine s_qk (.int .i64 i0) (by kernel_rfl) ?_
              refine s_nil ?_
              refine k95 _ _ ?_
              refine w_seqk fun K96 k96 => ?_
              refine w_draw [0, 1, 2, 3, 4, 5, 6, 7, 8, 9, 10, 11] (by kernel_rfl) ?_
              refine d_qk (.pointer (some ⟨b7, 0, none⟩)) (by kernel_rfl) ?_
              have u97 := (r11.frS e21 Dj.nil_l)
              refine d_ql (hd_First) (x := aLoad Go.Proofs.Try.prog 22 (.pointer (some ⟨b7, 0, none⟩)) H20) (by kernel_rfl) (u97.ld (by kernel_rfl)) ?_
              refine d_qk (.int .i64 i0) (by kernel_rfl) ?_
              obtain ⟨g98, r99⟩ := G_some r93
              refine d_w ((i0 + 1)) (k := .i64) (x := (i0 + 1)) (by kernel_rfl) (wrap64 g98) ?_
              obtain ⟨g100, r101⟩ := G_some r99
              have u102 := (u14.fr e21 Dj.nil_l)
              refine d_ql (elp hd_First 1 (i0 + 1).toNat 0) (x := aIndexAddr Go.Proofs.Try.prog 22 hd_First (.int .i64 (i0 + 1))) (by kernel_rfl) (u102.idxb (by kernel_rfl) g100.1 g100.2) ?_
              refine d_ql (.int .i64 (gt First (i0 + 1))) (x := aLoad Go.Proofs.Try.prog 3 (elp hd_First 1 (i0 + 1).toNat 0) H20) (by kernel_rfl) (u102.ld g100.1 g100.2 (by kernel_rfl)) ?_
              refine d_qk (.pointer (some ⟨b7, 0, none⟩)) (by kernel_rfl) ?_
              refine d_ql (hd_First) (x := aLoad Go.Proofs.Try.prog 22 (.pointer (some ⟨b7, 0, none⟩)) H20) (by kernel_rfl) (u97.ld (by kernel_rfl)) ?_
              refine d_qk (.int .i64 i0) (by kernel_rfl) ?_
              obtain ⟨g103, r104⟩ := G_some r101
              refine d_ql (elp hd_First 1 i0.toNat 0) (x := aIndexAddr Go.Proofs.Try.prog 22 hd_First (.int .i64 i0)) (by kernel_rfl) (u102.idxb (by kernel_rfl) g103.1 g103.2) ?_
              refine d_ql (.int .i64 (gt First i0)) (x := aLoad Go.Proofs.Try.prog 3 (elp hd_First 1 i0.toNat 0) H20) (by kernel_rfl) (u102.ld g103.1 g103.2 (by kernel_rfl)) ?_
              refine d_qk (.bool (decide ((gt First (i0 + 1)) < (gt First i0)))) (by kernel_rfl) ?_
              refine d_nil ?_
              refine k96 _ _ ?_
              refine w_condp ((gt First (i0 + 1)) < (gt First i0)) (by kernel_rfl) rfl (fun h105 => ?_) (fun h105 => ?_)
              · have r106 := ite_t h105 r104
                refine w_seqk fun K107 k107 => ?_
                refine w_reg (by kernel_rfl) ?_
                refine s_qk (.int .i64 i0) (by kernel_rfl) ?_
                refine s_qk (.iface 82 (.int .i64 14)) (by kernel_rfl) ?_
                obtain ⟨y108, hy109, r110⟩ := bind_some r106
                refine s_ck 42 #[.int .i64 3, .int .i64 i0, .iface 82 (.int .i64 14)] (by kernel_rfl) (c_fault_At e21.wf (Ev.no (tf := 123)) hy109) ?_
                rintro v111 H113 ⟨_, f112, rfl, e114, m115, i116⟩
                refine s_qk (v111) (by kernel_rfl) ?_
                refine s_nil ?_
                refine k107 _ _ ?_
                refine w_ret (bl_ret (th_ret (th_ret (bl_ret (th_ret (th_ret ?_))))))
                obtain ⟨v118, hv119, hz120⟩ := map_some r110
                subst hz120
                obtain rfl := it_inr hn88
                have hq121 := elim_inl r73
                rw [hq121] at hv119
                refine b_ret (fn := Go.Proofs.Try.f41) (vs := [v111]) (aRes_tmp (by kernel_rfl) (rfl)) ?_
                obtain rfl := Option.some.inj hv119
                exact ⟨(v111), f112, rfl, (FrS.step wf (FrS.step wf ((FrS.refl (W := []) wf).extR e9) e21 Inn.nil) e114 Inn.nil), m115, (i116.fresh (Nat.le_trans e9.next e21.next))⟩
              · have r122 := ite_f h105 r104
                refine w_skip ?_
                refine k94 _ _ ?_
                refine w_reg (by kernel_rfl) ?_
                obtain ⟨g123, r124⟩ := G_some r122
                refine s_w ((i0 + 1)) (k := .i64) (x := (i0 + 1)) (by kernel_rfl) (wrap64 (by have := g123; omega)) ?_
                refine s_qk (.int .i64 (i0 + 1)) (by kernel_rfl) ?_
                refine s_nil ?_
                obtain rfl := Option.some.inj r124
                exact k89 n85 _ _ (Nat.lt_succ_self _) ⟨(i0 + 1), hn88, ⟨by kernel_rfl, by kernel_rfl, by kernel_rfl, by kernel_rfl, trivial⟩, rfl⟩
            · have r125 := ite_f h92 hz87
              refine w_exit (th_exit (th_exit (bl_eq ?_)))
              obtain rfl := Option.some.inj r125
              obtain rfl := it_inr hn88
              exact k77 _ _ ⟨_, rfl, ⟨by kernel_rfl, by kernel_rfl, trivial⟩, rfl⟩
          · obtain ⟨o71, rfl, hh78, rfl⟩ := hM
            have r126 := elim_inr r73
            obtain ⟨β, rfl⟩ := has_ex hh78
            clear hh78
            refine k69 _ _ ?_
            refine w_seqk fun K127 k127 => ?_
            refine w_seqk fun K128 k128 => ?_
            refine w_reg (by kernel_rfl) ?_
            refine s_qk (.int .i64 y17) (by kernel_rfl) ?_
            refine s_qk (.int .i64 0) (by kernel_rfl) ?_
            refine s_nil ?_
            refine k128 _ _ ?_
            obtain ⟨z132, hx130, r131⟩ := bind_some r126
            refine w_mid (fun α H133 => ∃ o129, z132 = Sum.inr o129 ∧ Has α [] ∧ FrS [] H20 H133) (fun K135 k135 => ?_) (fun α H133 hM => ?_)
            · refine w_block ?_
              obtain ⟨n137, hn138⟩ := loopO_iff.1 hx130
              refine w_loopn (fun n α H139 => ∃ (i2 : Int), iterO (fun s => z_csr_Check_l1 First To Weight y17 s) n i2 = some z132 ∧ Has α [(1, .pointer (some ⟨b7, 0, none⟩)), (71, .int .i64 y17), (72, .int .i64 i2)] ∧ FrS [] H20 H139) n137 ⟨0, hn138, ⟨by kernel_rfl, by kernel_rfl, by kernel_rfl, trivial⟩, (FrS.refl (W := []) e21.wf)⟩ ?_
              rintro n137 α H139 ⟨i2, hi142, hh141, e140⟩ K147 k147
              obtain ⟨n143, z144, rfl, hz145, hn146⟩ := iter_succ hi142
              obtain ⟨β, rfl⟩ := has_ex hh141
              clear hh141
              replace hz145 : z_csr_Check_l1 First To Weight y17 i2 = some z144 := hz145
              unfold z_csr_Check_l1 at hz145
              refine w_seqk fun K148 k148 => ?_
              refine w_reg (by kernel_rfl) ?_
              refine s_qk (.bool (decide (i2 < y17))) (by kernel_rfl) ?_
              refine s_nil ?_
              refine k148 _ _ ?_
              refine w_seqk fun K149 k149 => ?_
              refine w_condp (i2 < y17) (by kernel_rfl) rfl (fun h150 => ?_) (fun h150 => ?_)
              · have r151 := ite_t h150 hz145
                refine w_skip ?_
                refine k149 _ _ ?_
                refine w_seqk fun K152 k152 => ?_
                refine w_block ?_
                refine w_seqk fun K153 k153 => ?_
                refine w_reg (by kernel_rfl) ?_
                refine s_qk (.int .i64 i2) (by kernel_rfl) ?_
                refine s_qk (.int .i64 i2) (by kernel_rfl) ?_
                refine s_nil ?_
                refine k153 _ _ ?_
                refine w_seqk fun K154 k154 => ?_
                refine w_reg (by kernel_rfl) ?_
                refine s_qk (.pointer (some ⟨b7, 0, none⟩)) (by kernel_rfl) ?_
                have u155 := ((r11.frS e21 Dj.nil_l).frS e140 Dj.nil_l)
                refine s_ql (hd_First) (x := aLoad Go.Proofs.Try.prog 22 (.pointer (some ⟨b7, 0, none⟩)) H139) (by kernel_rfl) (u155.ld (by kernel_rfl)) ?_
                refine s_qk (.int .i64 i2) (by kernel_rfl) ?_
                obtain ⟨g156, r157⟩ := G_some r151
                have u158 := ((u14.fr e21 Dj.nil_l).fr e140 Dj.nil_l)
                refine s_ql (elp hd_First 1 i2.toNat 0) (x := aIndexAddr Go.Proofs.Try.prog 22 hd_First (.int .i64 i2)) (by kernel_rfl) (u158.idxb (by kernel_rfl) g156.1 g156.2) ?_
                refine s_ql (.int .i64 (gt First i2)) (x := aLoad Go.Proofs.Try.prog 3 (elp hd_First 1 i2.toNat 0) H139) (by kernel_rfl) (u158.ld g156.1 g156.2 (by kernel_rfl)) ?_
                refine s_qk (.int .i64 (gt First i2)) (by kernel_rfl) ?_
                refine s_nil ?_
                refine k154 _ _ ?_
                obtain ⟨z162, hx160, r161⟩ := bind_some r157
                refine w_mid (fun α H163 => ∃ o159, z162 = Sum.inr o159 ∧ Has α [(1, .pointer (some ⟨b7, 0, none⟩)), (71, .int .i64 y17), (72, .int .i64 i2)] ∧ FrS [] H139 H163) (fun K165 k165 => ?_) (fun α H163 hM => ?_)
                · refine w_block ?_
                  obtain ⟨n167, hn168⟩ := loopO_iff.1 hx160
                  refine w_loopn (fun n α H169 => ∃ (i1 : Int), iterO (fun s => z_csr_Check_l2 First To Weight i2 s) n i1 = some z162 ∧ Has α [(1, .pointer (some ⟨b7, 0, none⟩)), (5, .int .i64 i2), (6, .int .i64 i1), (71, .int .i64 y17), (72, .int .i64 i2)] ∧ FrS [] H139 H169) n167 ⟨(gt First i2), hn168, ⟨by kernel_rfl, by kernel_rfl, by kernel_rfl, by kernel_rfl, by kernel_rfl, trivial⟩, (FrS.refl (W := []) e140.wf)⟩ ?_
                  rintro n167 α H169 ⟨i1, hi172, hh171, e170⟩ K177 k177
                  obtain ⟨n173, z174, rfl, hz175, hn176⟩ := iter_succ hi172
                  obtain ⟨β, rfl⟩ := has_ex hh171
                  clear hh171
                  replace hz175 : z_csr_Check_l2 First To Weight i2 i1 = some z174 := hz175
                  unfold z_csr_Check_l2 at hz175
                  refine w_seqk fun K178 k178 => ?_
                  refine w_seqk fun K179 k179 => ?_
                  refine w_reg (by kernel_rfl) ?_
                  refine s_qk (.int .i64 i1) (by kernel_rfl) ?_
                  refine s_qk (.pointer (some ⟨b7, 0, none⟩)) (by kernel_rfl) ?_
                  have u180 := (u155.frS e170 Dj.nil_l)
                  refine s_ql (hd_First) (x := aLoad Go.Proofs.Try.prog 22 (.pointer (some ⟨b7, 0, none⟩)) H169) (by kernel_rfl) (u180.ld (by kernel_rfl)) ?_
                  refine s_qk (.int .i64 i2) (by kernel_rfl) ?_
                  obtain ⟨g181, r182⟩ := G_some hz175
                  refine s_w ((i2 + 1)) (k := .i64) (x := (i2 + 1)) (by kernel_rfl) (wrap64 (by have := g181; omega)) ?_
                  obtain ⟨g183, r184⟩ := G_some r182
                  have u185 := (u158.fr e170 Dj.nil_l)
                  refine s_ql (elp hd_First 1 (i2 + 1).toNat 0) (x := aIndexAddr Go.Proofs.Try.prog 22 hd_First (.int .i64 (i2 + 1))) (by kernel_rfl) (u185.idxb (by kernel_rfl) g183.1 g183.2) ?_
                  refine s_ql (.int .i64 (gt First (i2 + 1))) (x := aLoad Go.Proofs.Try.prog 3 (elp hd_First 1 (i2 + 1).toNat 0) H169) (by kernel_rfl) (u185.ld g183.1 g183.2 (by kernel_rfl)) ?_
                  refine s_qk (.bool (decide (i1 < (gt First (i2 + 1))))) (by kernel_rfl) ?_
                  refine s_nil ?_
                  refine k179 _ _ ?_
                  refine w_condp (i1 < (gt First (i2 + 1))) (by kernel_rfl) rfl (fun h186 => ?_) (fun h186 => ?_)
                  · have r187 := ite_t h186 r184
                    refine w_skip ?_
                    refine k178 _ _ ?_
                    refine w_seqk fun K188 k188 => ?_
                    refine w_block ?_
                    refine w_seqk fun K189 k189 => ?_
                    refine w_reg (by kernel_rfl) ?_
                    refine s_ql (.agg #[hd_First, hd_To, hd_Weight]) (x := aLoad Go.Proofs.Try.prog 34 (.pointer (some ⟨b7, 0, none⟩)) H169) (by kernel_rfl) (u180.ld (by kernel_rfl)) ?_
                    refine s_qk (.int .i64 i2) (by kernel_rfl) ?_
                    refine s_qk (.int .i64 i1) (by kernel_rfl) ?_
                    have u190 := (((u15.fr e21 Dj.nil_l).fr e140 Dj.nil_l).fr e170 Dj.nil_l)
                    have u191 := (((u16.fr e21 Dj.nil_l).fr e140 Dj.nil_l).fr e170 Dj.nil_l)
                    obtain ⟨y192, hy193, r194⟩ := bind_some r187
                    refine s_ck 68 #[.agg #[hd_First, hd_To, hd_Weight], .int .i64 i2, .int .i64 i1] (by kernel_rfl) (c_csr_Csr_arc e170.wf u185 u190 u191 hy193) ?_
                    rintro v195 H197 ⟨_, f196, rfl, e198, m199, i200⟩
                    refine s_qk (v195) (by kernel_rfl) ?_
                    refine s_nil ?_
                    refine k189 _ _ ?_
                    refine w_seqk fun K202 k202 => ?_
                    refine w_reg (by kernel_rfl) ?_
                    refine s_qk (v195) (by kernel_rfl) ?_
                    rcases (m199).cases with ⟨h203, rfl⟩ | ⟨h203, t204, x205, rfl⟩
                    · have r206 := ite_t h203 r194
                      refine s_qk (.bool false) (by kernel_rfl) ?_
                      refine s_nil ?_
                      refine k202 _ _ ?_
                      refine w_cond false (by kernel_rfl) rfl (fun h => by cases h) (fun _ => ?_)
                      refine w_skip ?_
                      refine k188 _ _ ?_
                      refine w_reg (by kernel_rfl) ?_
                      refine s_qk (.int .i64 i1) (by kernel_rfl) ?_
                      obtain ⟨g207, r208⟩ := G_some r206
                      refine s_w ((i1 + 1)) (k := .i64) (x := (i1 + 1)) (by kernel_rfl) (wrap64 g207) ?_
                      refine s_qk (.int .i64 (i1 + 1)) (by kernel_rfl) ?_
                      refine s_nil ?_
                      obtain rfl := Option.some.inj r208
                      exact k177 n173 _ _ (Nat.lt_succ_self _) ⟨(i1 + 1), hn176, ⟨by kernel_rfl, by kernel_rfl, by kernel_rfl, by kernel_rfl, by kernel_rfl, trivial⟩, (FrS.step e140.wf (FrS.step e140.wf (FrS.refl (W := []) e140.wf) e170 Inn.nil) e198 Inn.nil)⟩
                    · have r209 := ite_f h203 r194
                      refine s_ql (.bool true) (x := aBin Go.Proofs.Try.prog .neq 31 (.tmp 94) (.const .nilIface) (.iface t204 x205) .nilIface) (by kernel_rfl) (aBin_nnil (by kernel_rfl)) ?_
                      refine s_nil ?_
                      refine k202 _ _ ?_
                      refine w_cond true (by kernel_rfl) rfl (fun _ => ?_) (fun h => by cases h)
                      refine w_seqk fun K210 k210 => ?_
                      refine w_reg (by kernel_rfl) ?_
                      refine s_qk (.int .i64 i1) (by kernel_rfl) ?_
                      refine s_qk (.iface t204 x205) (by kernel_rfl) ?_
                      obtain ⟨y211, hy212, r213⟩ := bind_some r209
                      refine s_ck 42 #[.int .i64 4, .int .i64 i1, .iface t204 x205] (by kernel_rfl) (c_fault_At e198.wf m199 hy212) ?_
                      rintro v214 H216 ⟨_, f215, rfl, e217, m218, i219⟩
                      refine s_qk (v214) (by kernel_rfl) ?_
                      refine s_nil ?_
                      refine k210 _ _ ?_
                      refine w_ret (bl_ret (th_ret (th_ret (bl_ret (th_ret (bl_ret (th_ret (th_ret (bl_ret (th_ret (th_ret ?_)))))))))))
                      obtain ⟨v221, hv222, hz223⟩ := map_some r213
                      subst hz223
                      obtain rfl := it_inr hn176
                      have hq224 := elim_inl r161
                      rw [hq224] at hv222
                      obtain ⟨v225, hv226, hz227⟩ := map_some hv222
                      subst hz227
                      obtain rfl := it_inr hn146
                      have hq228 := elim_inl r131
                      rw [hq228] at hv226
                      refine b_ret (fn := Go.Proofs.Try.f41) (vs := [v214]) (aRes_tmp (by kernel_rfl) (rfl)) ?_
                      obtain rfl := Option.some.inj hv226
                      exact ⟨(v214), f215, rfl, (FrS.step wf (FrS.step wf (FrS.step wf (FrS.step wf (FrS.step wf ((FrS.refl (W := []) wf).extR e9) e21 Inn.nil) e140 Inn.nil) e170 Inn.nil) e198 Inn.nil) e217 Inn.nil), m218, (Inn.trans (i200.fresh (Nat.le_trans (Nat.le_trans (Nat.le_trans e9.next e21.next) e140.next) e170.next)) (Nat.le_trans (Nat.le_trans (Nat.le_trans (Nat.le_trans e9.next e21.next) e140.next) e170.next) e198.next) i219)⟩
                  · have r229 := ite_f h186 r184
                    refine w_exit (th_exit (th_exit (bl_eq ?_)))
                    obtain rfl := Option.some.inj r229
                    obtain rfl := it_inr hn176
                    exact k165 _ _ ⟨_, rfl, ⟨by kernel_rfl, by kernel_rfl, by kernel_rfl, trivial⟩, (FrS.step e140.wf (FrS.refl (W := []) e140.wf) e170 Inn.nil)⟩
                · obtain ⟨o159, rfl, hh166, e164⟩ := hM
                  have r230 := elim_inr r161
                  obtain ⟨β, rfl⟩ := has_ex hh166
                  clear hh166
                  refine k152 _ _ ?_
                  refine w_reg (by kernel_rfl) ?_
                  obtain ⟨g231, r232⟩ := G_some r230
                  refine s_w ((i2 + 1)) (k := .i64) (x := (i2 + 1)) (by kernel_rfl) (wrap64 (by have := g231; omega)) ?_
                  refine s_qk (.int .i64 (i2 + 1)) (by kernel_rfl) ?_
                  refine s_nil ?_
                  obtain rfl := Option.some.inj r232
                  exact k147 n143 _ _ (Nat.lt_succ_self _) ⟨(i2 + 1), hn146, ⟨by kernel_rfl, by kernel_rfl, by kernel_rfl, trivial⟩, (FrS.step e21.wf (FrS.step e21.wf (FrS.refl (W := []) e21.wf) e140 Inn.nil) e164 Inn.nil)⟩
              · have r233 := ite_f h150 hz145
                refine w_exit (th_exit (th_exit (bl_eq ?_)))
                obtain rfl := Option.some.inj r233
                obtain rfl := it_inr hn146
                exact k135 _ _ ⟨_, rfl, trivial, (FrS.step e21.wf (FrS.refl (W := []) e21.wf) e140 Inn.nil)⟩
            · obtain ⟨o129, rfl, hh136, e134⟩ := hM
              have r234 := elim_inr r131
              obtain ⟨β, rfl⟩ := has_ex hh136
              clear hh136
              refine k127 _ _ ?_
              refine w_seqk fun K235 k235 => ?_
              refine w_reg (by kernel_rfl) ?_
              refine s_qk (.nilIface) (by kernel_rfl) ?_
              refine s_nil ?_
              refine k235 _ _ ?_
              refine w_ret ?_
              refine b_ret (fn := Go.Proofs.Try.f41) (vs := [.nilIface]) (aRes_tmp (by kernel_rfl) (rfl)) ?_
              obtain rfl := Option.some.inj r234
              exact ⟨(.nilIface), [], rfl, (FrS.step wf (FrS.step wf ((FrS.refl (W := []) wf).extR e9) e21 Inn.nil) e134 Inn.nil), Ev.nil, Inn.nil⟩

theorem c_cmp_isNaN {H : AH} {x : Int} {r : Bool}
    (wf : WF H) (hr : z_cmp_isNaN x = some r) :
    ACalls Go.Proofs.Try.prog 95 #[.int .i64 x] H fun v H' => v = .bool r ∧ H = H' := by
  refine acalls_of_body mixed Go.Proofs.Try.func95 rfl (Nat.le_of_ble_eq_true rfl) ?_
  unfold z_cmp_isNaN at hr
  refine w_seqk fun K1 k1 => ?_
  refine w_reg (by kernel_rfl) ?_
  refine s_qk (.bool false) (by kernel_rfl) ?_
  refine s_nil ?_
  refine k1 _ _ ?_
  refine w_seqk fun K2 k2 => ?_
  refine w_reg (by kernel_rfl) ?_
  refine s_qk (.int .i64 x) (by kernel_rfl) ?_
  refine s_qk (.int .i64 x) (by kernel_rfl) ?_
  refine s_qk (.bool (!decide (x = x))) (by kernel_rfl) ?_
  refine s_qk (.bool (!decide (x = x))) (by kernel_rfl) ?_
  refine s_nil ?_
  refine k2 _ _ ?_
  refine w_ret ?_
  refine b_ret (fn := Go.Proofs.Try.f95) (vs := [.bool (!decide (x = x))]) (aRes_tmp (by kernel_rfl) (rfl)) ?_
  obtain rfl := Option.some.inj hr
  exact ⟨rfl, rfl⟩

theorem c_cmp_Less {H : AH} {x : Int} {y : Int} {r : Bool}
    (wf : WF H) (hr : z_cmp_Less x y = some r) :
    ACalls Go.Proofs.Try.prog 84 #[.int .i64 x, .int .i64 y] H fun v H' => v = .bool r ∧ H = H' := by
  refine acalls_of_body mixed Go.Proofs.Try.func84 rfl (Nat.le_of_ble_eq_true rfl) ?_
  unfold z_cmp_Less at hr
  refine w_seqk fun K1 k1 => ?_
  refine w_reg (by kernel_rfl) ?_
  refine s_qk (.bool false) (by kernel_rfl) ?_
  refine s_nil ?_
  refine k1 _ _ ?_
  refine w_seqk fun K2 k2 => ?_
  refine w_reg (by kernel_rfl) ?_
  refine s_qk (.int .i64 x) (by kernel_rfl) ?_
  obtain ⟨y3, hy4, r5⟩ := bind_some hr
  refine s_ck 95 #[.int .i64 x] (by kernel_rfl) (c_cmp_isNaN wf hy4) ?_
  rintro _ _ ⟨rfl, rfl⟩
  by_cases h8 : y3 = true
  · have r9 := ite_t h8 r5
    rw [h8]
    refine s_qk (.bool true) (by kernel_rfl) ?_
    refine s_qk (.int .i64 y) (by kernel_rfl) ?_
    obtain ⟨y11, hy12, r13⟩ := bind_some r9
    refine s_ck 95 #[.int .i64 y] (by kernel_rfl) (c_cmp_isNaN wf hy12) ?_
    rintro _ _ ⟨rfl, rfl⟩
    by_cases h16 : y11 = true
    · have r17 := ite_t h16 r13
      rw [h16]
      refine s_qk (.bool false) (by kernel_rfl) ?_
      refine s_qk (.bool false) (by kernel_rfl) ?_
      refine s_qk (.bool false) (by kernel_rfl) ?_
      refine s_qk (.int .i64 x) (by kernel_rfl) ?_
      refine s_qk (.int .i64 y) (by kernel_rfl) ?_
      refine s_qk (.bool (decide (x < y))) (by kernel_rfl) ?_
      refine s_qk (.bool (decide (x < y))) (by kernel_rfl) ?_
      refine s_qk (.bool (decide (x < y))) (by kernel_rfl) ?_
      refine s_nil ?_
      refine k2 _ _ ?_
      refine w_ret ?_
      refine b_ret (fn := Go.Proofs.Try.f84) (vs := [.bool (decide (x < y))]) (aRes_tmp (by kernel_rfl) (rfl)) ?_
      obtain rfl := Option.some.inj r17
      exact ⟨rfl, rfl⟩
    · have r19 := ite_f h16 r13
      rw [nb h16]
      refine s_qk (.bool true) (by kernel_rfl) ?_
      refine s_qk (.bool true) (by kernel_rfl) ?_
      refine s_qk (.bool true) (by kernel_rfl) ?_
      refine s_no (by kernel_rfl) ?_
      refine s_no (by kernel_rfl) ?_
      refine s_no (by kernel_rfl) ?_
      refine s_qk (.bool true) (by kernel_rfl) ?_
      refine s_qk (.bool true) (by kernel_rfl) ?_
      refine s_nil ?_
      refine k2 _ _ ?_
      refine w_ret ?_
      refine b_ret (fn := Go.Proofs.Try.f84) (vs := [.bool true]) (aRes_tmp (by kernel_rfl) (rfl)) ?_
      obtain rfl := Option.some.inj r19
      exact ⟨rfl, rfl⟩
  · have r21 := ite_f h8 r5
    rw [nb h8]
    refine s_qk (.bool false) (by kernel_rfl) ?_
    refine s_no (by kernel_rfl) ?_
    refine s_no (by kernel_rfl) ?_
    refine s_no (by kernel_rfl) ?_
    refine s_qk (.bool false) (by kernel_rfl) ?_
    refine s_qk (.bool false) (by kernel_rfl) ?_
    refine s_qk (.int .i64 x) (by kernel_rfl) ?_
    refine s_qk (.int .i64 y) (by kernel_rfl) ?_
    refine s_qk (.bool (decide (x < y))) (by kernel_rfl) ?_
    refine s_qk (.bool (decide (x < y))) (by kernel_rfl) ?_
    refine s_qk (.bool (decide (x < y))) (by kernel_rfl) ?_
    refine s_nil ?_
    refine k2 _ _ ?_
    refine w_ret ?_
    refine b_ret (fn := Go.Proofs.Try.f84) (vs := [.bool (decide (x < y))]) (aRes_tmp (by kernel_rfl) (rfl)) ?_
    obtain rfl := Option.some.inj r21
    exact ⟨rfl, rfl⟩

theorem c_slices_isNaN {H : AH} {x : Int} {r : Bool}
    (wf : WF H) (hr : z_slices_isNaN x = some r) :
    ACalls Go.Proofs.Try.prog 85 #[.int .i64 x] H fun v H' => v = .bool r ∧ H = H' := by
  refine acalls_of_body mixed Go.Proofs.Try.func85 rfl (Nat.le_of_ble_eq_true rfl) ?_
  unfold z_slices_isNaN at hr
  refine w_seqk fun K1 k1 => ?_
  refine w_reg (by kernel_rfl) ?_
  refine s_qk (.bool false) (by kernel_rfl) ?_
  refine s_nil ?_
  refine k1 _ _ ?_
  refine w_seqk fun K2 k2 => ?_
  refine w_reg (by kernel_rfl) ?_
  refine s_qk (.int .i64 x) (by kernel_rfl) ?_
  refine s_qk (.int .i64 x) (by kernel_rfl) ?_
  refine s_qk (.bool (!decide (x = x))) (by kernel_rfl) ?_
  refine s_qk (.bool (!decide (x = x))) (by kernel_rfl) ?_
  refine s_nil ?_
  refine k2 _ _ ?_
  refine w_ret ?_
  refine b_ret (fn := Go.Proofs.Try.f85) (vs := [.bool (!decide (x = x))]) (aRes_tmp (by kernel_rfl) (rfl)) ?_
  obtain rfl := Option.some.inj hr
  exact ⟨rfl, rfl⟩

theorem c_slices_BinarySearch {H : AH} {hd_x : Value} {fp_x : Fp} {x : List (Int)} {target : Int} {r : Int × Bool}
    (wf : WF H) (h_x : Sq (encI .i64) 1 H hd_x x fp_x) (hr : z_slices_BinarySearch x target = some r) :
    ACalls Go.Proofs.Try.prog 69 #[hd_x, .int .i64 target] H fun v H' => v = .tuple #[.int .i64 r.1, .bool r.2] ∧ H = H' := by
  refine acalls_of_body mixed Go.Proofs.Try.func69 rfl (Nat.le_of_ble_eq_true rfl) ?_
  unfold z_slices_BinarySearch at hr
  refine w_seqk fun K1 k1 => ?_
  refine w_reg (by kernel_rfl) ?_
  refine s_qk (.int .i64 0) (by kernel_rfl) ?_
  refine s_qk (.bool false) (by kernel_rfl) ?_
  refine s_nil ?_
  refine k1 _ _ ?_
  refine w_seqk fun K2 k2 => ?_
  refine w_reg (by kernel_rfl) ?_
  refine s_qk (hd_x) (by kernel_rfl) ?_
  refine s_ql (.int .i64 (x.length : Int)) (x := aLen Go.Proofs.Try.prog 22 hd_x H) (by kernel_rfl) (h_x.lenb (by kernel_rfl)) ?_
  refine s_qk (.int .i64 (x.length : Int)) (by kernel_rfl) ?_
  refine s_nil ?_
  refine k2 _ _ ?_
  refine w_seqk fun K3 k3 => ?_
  refine w_reg (by kernel_rfl) ?_
  refine s_qk (.int .i64 (x.length : Int)) (by kernel_rfl) ?_
  refine s_qk (.int .i64 0) (by kernel_rfl) ?_
  refine s_qk (.int .i64 (x.length : Int)) (by kernel_rfl) ?_
  refine s_nil ?_
  refine k3 _ _ ?_
  refine w_seqk fun K4 k4 => ?_
  obtain ⟨o5, hx6, r7⟩ := bind_some hr
  refine w_mid (fun α H8 => Has α [(0, hd_x), (1, .int .i64 target), (6, .int .i64 (x.length : Int)), (7, .int .i64 o5)] ∧ H = H8) (fun K10 k10 => ?_) (fun α H8 hM => ?_)
  · refine w_block ?_
    obtain ⟨n12, hn13⟩ := loopO_iff.1 hx6
    refine w_loopn (fun n α H14 => ∃ (i0 : Int), ∃ (j1 : Int), iterO (fun s => z_slices_BinarySearch_l0 x target s.1 s.2) n (i0, j1) = some o5 ∧ Has α [(0, hd_x), (1, .int .i64 target), (6, .int .i64 (x.length : Int)), (7, .int .i64 i0), (8, .int .i64 j1)] ∧ H = H14) n12 ⟨0, (x.length : Int), hn13, ⟨by kernel_rfl, by kernel_rfl, by kernel_rfl, by kernel_rfl, by kernel_rfl, trivial⟩, rfl⟩ ?_
    rintro n12 α H14 ⟨i0, j1, hi17, hh16, rfl⟩ K22 k22
    obtain ⟨n18, z19, rfl, hz20, hn21⟩ := iter_succ hi17
    obtain ⟨β, rfl⟩ := has_ex hh16
    clear hh16
    replace hz20 : z_slices_BinarySearch_l0 x target i0 j1 = some z19 := hz20
    unfold z_slices_BinarySearch_l0 at hz20
    refine w_seqk fun K23 k23 => ?_
    refine w_seqk fun K24 k24 => ?_
    refine w_reg (by kernel_rfl) ?_
    refine s_qk (.int .i64 i0) (by kernel_rfl) ?_
    refine s_qk (.int .i64 j1) (by kernel_rfl) ?_
    refine s_qk (.bool (decide (i0 < j1))) (by kernel_rfl) ?_
    refine s_nil ?_
    refine k24 _ _ ?_
    refine w_condp (i0 < j1) (by kernel_rfl) rfl (fun h25 => ?_) (fun h25 => ?_)
    · have r26 := ite_t h25 hz20
      refine w_skip ?_
      refine k23 _ _ ?_
      refine w_block ?_
      refine w_seqk fun K27 k27 => ?_
      refine w_reg (by kernel_rfl) ?_
      refine s_qk (.int .i64 i0) (by kernel_rfl) ?_
      refine s_qk (.int .i64 j1) (by kernel_rfl) ?_
      obtain ⟨g28, r29⟩ := G_some r26
      refine s_w ((i0 + j1)) (k := .i64) (x := (i0 + j1)) (by kernel_rfl) (wrap64 g28) ?_
      obtain ⟨g30, r31⟩ := G_some r29
      refine s_w ((i0 + j1)) (k := .u64) (x := (i0 + j1)) (by kernel_rfl) (wrapu64 g30) ?_
      refine s_ql (.int .u64 ((i0 + j1) / 2)) (x := some (.int .u64 (Int.fdiv (i0 + j1) 2))) (by kernel_rfl) (by rw [Int.fdiv_eq_ediv_of_nonneg _ (by decide)]) ?_
      obtain ⟨g32, r33⟩ := G_some r31
      refine s_w (((i0 + j1) / 2)) (k := .i64) (x := ((i0 + j1) / 2)) (by kernel_rfl) (wrap64 g32) ?_
      refine s_qk (.int .i64 ((i0 + j1) / 2)) (by kernel_rfl) ?_
      refine s_nil ?_
      refine k27 _ _ ?_
      refine w_seqk fun K34 k34 => ?_
      refine w_reg (by kernel_rfl) ?_
      refine s_qk (hd_x) (by kernel_rfl) ?_
      refine s_qk (.int .i64 ((i0 + j1) / 2)) (by kernel_rfl) ?_
      obtain ⟨g35, r36⟩ := G_some r33
      refine s_ql (elp hd_x 1 ((i0 + j1) / 2).toNat 0) (x := aIndexAddr Go.Proofs.Try.prog 22 hd_x (.int .i64 ((i0 + j1) / 2))) (by kernel_rfl) (h_x.idxb (by kernel_rfl) g35.1 g35.2) ?_
      refine s_ql (.int .i64 (gt x ((i0 + j1) / 2))) (x := aLoad Go.Proofs.Try.prog 3 (elp hd_x 1 ((i0 + j1) / 2).toNat 0) H) (by kernel_rfl) (h_x.ld g35.1 g35.2 (by kernel_rfl)) ?_
      refine s_qk (.int .i64 target) (by kernel_rfl) ?_
      obtain ⟨y37, hy38, r39⟩ := bind_some r36
      refine s_ck 84 #[.int .i64 (gt x ((i0 + j1) / 2)), .int .i64 target] (by kernel_rfl) (c_cmp_Less wf hy38) ?_
      rintro _ _ ⟨rfl, rfl⟩
      refine s_nil ?_
      refine k34 _ _ ?_
      refine w_cond (y37) (by kernel_rfl) rfl (fun h42 => ?_) (fun h42 => ?_)
      · have r43 := ite_t h42 r39
        refine w_reg (by kernel_rfl) ?_
        refine s_qk (.int .i64 ((i0 + j1) / 2)) (by kernel_rfl) ?_
        obtain ⟨g44, r45⟩ := G_some r43
        refine s_w ((((i0 + j1) / 2) + 1)) (k := .i64) (x := (((i0 + j1) / 2) + 1)) (by kernel_rfl) (wrap64 (by have := g44; omega)) ?_
        refine s_qk (.int .i64 (((i0 + j1) / 2) + 1)) (by kernel_rfl) ?_
        refine s_nil ?_
        obtain rfl := Option.some.inj r45
        exact k22 n18 _ _ (Nat.lt_succ_self _) ⟨(((i0 + j1) / 2) + 1), j1, hn21, ⟨by kernel_rfl, by kernel_rfl, by kernel_rfl, by kernel_rfl, by kernel_rfl, trivial⟩, rfl⟩
      · have r46 := ite_bf h42 r39
        refine w_reg (by kernel_rfl) ?_
        refine s_qk (.int .i64 ((i0 + j1) / 2)) (by kernel_rfl) ?_
        refine s_qk (.int .i64 ((i0 + j1) / 2)) (by kernel_rfl) ?_
        refine s_nil ?_
        obtain rfl := Option.some.inj r46
        exact k22 n18 _ _ (Nat.lt_succ_self _) ⟨i0, ((i0 + j1) / 2), hn21, ⟨by kernel_rfl, by kernel_rfl, by kernel_rfl, by kernel_rfl, by kernel_rfl, trivial⟩, rfl⟩
    · have r47 := ite_f h25 hz20
      refine w_exit (th_exit (th_exit (bl_eq ?_)))
      obtain rfl := Option.some.inj r47
      obtain rfl := it_inr hn21
      exact k10 _ _ ⟨⟨by kernel_rfl, by kernel_rfl, by kernel_rfl, by kernel_rfl, trivial⟩, rfl⟩
  · obtain ⟨hh11, rfl⟩ := hM
    obtain ⟨β, rfl⟩ := has_ex hh11
    clear hh11
    refine k4 _ _ ?_
    refine w_seqk fun K48 k48 => ?_
    refine w_reg (by kernel_rfl) ?_
    refine s_qk (.int .i64 o5) (by kernel_rfl) ?_
    refine s_qk (.int .i64 o5) (by kernel_rfl) ?_
    refine s_qk (.int .i64 (x.length : Int)) (by kernel_rfl) ?_
    refine s_b (o5 < (x.length : Int)) (by kernel_rfl) (fun h49 => ?_) (fun h49 => ?_)
    · have r50 := ite_t h49 r7
      refine s_qk (.bool true) (by kernel_rfl) ?_
      refine s_qk (hd_x) (by kernel_rfl) ?_
      refine s_qk (.int .i64 o5) (by kernel_rfl) ?_
      obtain ⟨g51, r52⟩ := G_some r50
      refine s_ql (elp hd_x 1 o5.toNat 0) (x := aIndexAddr Go.Proofs.Try.prog 22 hd_x (.int .i64 o5)) (by kernel_rfl) (h_x.idxb (by kernel_rfl) g51 h49) ?_
      refine s_ql (.int .i64 (gt x o5)) (x := aLoad Go.Proofs.Try.prog 3 (elp hd_x 1 o5.toNat 0) H) (by kernel_rfl) (h_x.ld g51 h49 (by kernel_rfl)) ?_
      refine s_qk (.int .i64 target) (by kernel_rfl) ?_
      refine s_b ((gt x o5) = target) (by kernel_rfl) (fun h53 => ?_) (fun h53 => ?_)
      · have r54 := ite_t h53 r52
        refine s_qk (.bool true) (by kernel_rfl) ?_
        refine s_no (by kernel_rfl) ?_
        refine s_no (by kernel_rfl) ?_
        refine s_no (by kernel_rfl) ?_
        refine s_no (by kernel_rfl) ?_
        refine s_no (by kernel_rfl) ?_
        refine s_no (by kernel_rfl) ?_
        refine s_no (by kernel_rfl) ?_
        refine s_no (by kernel_rfl) ?_
        refine s_no (by kernel_rfl) ?_
        refine s_qk (.bool true) (by kernel_rfl) ?_
        refine s_qk (.bool true) (by kernel_rfl) ?_
        refine s_qk (.int .i64 o5) (by kernel_rfl) ?_
        refine s_qk (.bool true) (by kernel_rfl) ?_
        refine s_nil ?_
        refine k48 _ _ ?_
        refine w_ret ?_
        refine b_ret (fn := Go.Proofs.Try.f69) (vs := [.int .i64 o5, .bool true]) (aRes_tmp (by kernel_rfl) (aRes_tmp (by kernel_rfl) (rfl))) ?_
        obtain rfl := Option.some.inj r54
        exact ⟨rfl, rfl⟩
      · have r55 := ite_f h53 r52
        refine s_qk (.bool false) (by kernel_rfl) ?_
        refine s_qk (hd_x) (by kernel_rfl) ?_
        refine s_qk (.int .i64 o5) (by kernel_rfl) ?_
        refine s_ql (elp hd_x 1 o5.toNat 0) (x := aIndexAddr Go.Proofs.Try.prog 22 hd_x (.int .i64 o5)) (by kernel_rfl) (h_x.idxb (by kernel_rfl) g51 h49) ?_
        refine s_ql (.int .i64 (gt x o5)) (x := aLoad Go.Proofs.Try.prog 3 (elp hd_x 1 o5.toNat 0) H) (by kernel_rfl) (h_x.ld g51 h49 (by kernel_rfl)) ?_
        obtain ⟨y56, hy57, r58⟩ := bind_some r55
        refine s_ck 85 #[.int .i64 (gt x o5)] (by kernel_rfl) (c_slices_isNaN wf hy57) ?_
        rintro _ _ ⟨rfl, rfl⟩
        by_cases h61 : y56 = true
        · have r62 := ite_t h61 r58
          rw [h61]
          refine s_qk (.bool true) (by kernel_rfl) ?_
          refine s_qk (.int .i64 target) (by kernel_rfl) ?_
          obtain ⟨y64, hy65, r66⟩ := bind_some r62
          refine s_ck 85 #[.int .i64 target] (by kernel_rfl) (c_slices_isNaN wf hy65) ?_
          rintro _ _ ⟨rfl, rfl⟩
          refine s_qk (.bool y64) (by kernel_rfl) ?_
          refine s_qk (.bool y64) (by kernel_rfl) ?_
          refine s_qk (.bool y64) (by kernel_rfl) ?_
          refine s_qk (.int .i64 o5) (by kernel_rfl) ?_
          refine s_qk (.bool y64) (by kernel_rfl) ?_
          refine s_nil ?_
          refine k48 _ _ ?_
          refine w_ret ?_
          refine b_ret (fn := Go.Proofs.Try.f69) (vs := [.int .i64 o5, .bool y64]) (aRes_tmp (by kernel_rfl) (aRes_tmp (by kernel_rfl) (rfl))) ?_
          obtain rfl := Option.some.inj r66
          exact ⟨rfl, rfl⟩
        · have r69 := ite_f h61 r58
          rw [nb h61]
          refine s_qk (.bool false) (by kernel_rfl) ?_
          refine s_no (by kernel_rfl) ?_
          refine s_no (by kernel_rfl) ?_
          refine s_qk (.bool false) (by kernel_rfl) ?_
          refine s_qk (.bool false) (by kernel_rfl) ?_
          refine s_qk (.bool false) (by kernel_rfl) ?_
          refine s_qk (.int .i64 o5) (by kernel_rfl) ?_
          refine s_qk (.bool false) (by kernel_rfl) ?_
          refine s_nil ?_
          refine k48 _ _ ?_
          refine w_ret ?_
          refine b_ret (fn := Go.Proofs.Try.f69) (vs := [.int .i64 o5, .bool false]) (aRes_tmp (by kernel_rfl) (aRes_tmp (by kernel_rfl) (rfl))) ?_
          obtain rfl := Option.some.inj r69
          exact ⟨rfl, rfl⟩
    · have r71 := ite_f h49 r7
      refine s_qk (.bool false) (by kernel_rfl) ?_
      refine s_no (by kernel_rfl) ?_
      refine s_no (by kernel_rfl) ?_
      refine s_no (by kernel_rfl) ?_
      refine s_no (by kernel_rfl) ?_
      refine s_no (by kernel_rfl) ?_
      refine s_no (by kernel_rfl) ?_
      refine s_no (by kernel_rfl) ?_
      refine s_no (by kernel_rfl) ?_
      refine s_no (by kernel_rfl) ?_
      refine s_no (by kernel_rfl) ?_
      refine s_no (by kernel_rfl) ?_
      refine s_no (by kernel_rfl) ?_
      refine s_no (by kernel_rfl) ?_
      refine s_no (by kernel_rfl) ?_
      refine s_no (by kernel_rfl) ?_
      refine s_no (by kernel_rfl) ?_
      refine s_no (by kernel_rfl) ?_
      refine s_qk (.bool false) (by kernel_rfl) ?_
      refine s_qk (.int .i64 o5) (by kernel_rfl) ?_
      refine s_qk (.bool false) (by kernel_rfl) ?_
      refine s_nil ?_
      refine k48 _ _ ?_
      refine w_ret ?_
      refine b_ret (fn := Go.Proofs.Try.f69) (vs := [.int .i64 o5, .bool false]) (aRes_tmp (by kernel_rfl) (aRes_tmp (by kernel_rfl) (rfl))) ?_
      obtain rfl := Option.some.inj r71
      exact ⟨rfl, rfl⟩

theorem c_walk_arc {H : AH} {hd_First : Value} {fp_First : Fp} {hd_To : Value} {fp_To : Fp} {hd_Weight : Value} {fp_Weight : Fp} {First : List (Int)} {To : List (Int)} {Weight : List (Int)} {v_ : Int} {w : Int} {r : Int × Er}
    (wf : WF H) (h_First : Sq (encI .i64) 1 H hd_First First fp_First) (h_To : Sq (encI .i64) 1 H hd_To To fp_To) (h_Weight : Sq (encI .i64) 1 H hd_Weight Weight fp_Weight) (hr : z_walk_arc First To Weight v_ w = some r) :
    ACalls Go.Proofs.Try.prog 43 #[.agg #[hd_First, hd_To, hd_Weight], .int .i64 v_, .int .i64 w] H fun v H' => ∃ (v3 : Value) (f4 : Fp), v = .tuple #[.int .i64 r.1, v3] ∧ FrS [] H H' ∧ Ev 82 123 H' v3 r.2 f4 ∧ Inn [] H f4 := by
  refine acalls_of_body mixed Go.Proofs.Try.func43 rfl (Nat.le_of_ble_eq_true rfl) ?_
  unfold z_walk_arc at hr
  refine w_seqk fun K6 k6 => ?_
  refine w_reg (by kernel_rfl) ?_
  refine s_rwl wf [hd_First, hd_To, hd_Weight] (one_cons (h_First.one1) (one_cons (h_To.one1) (one_cons (h_Weight.one1) (one_nil)))) (by kernel_rfl) fun b7 H8 e9 hb10 r11 => ?_
  refine s_qk (.int .i64 0) (by kernel_rfl) ?_
  refine s_qk (.nilIface) (by kernel_rfl) ?_
  refine s_nil ?_
  refine k6 _ _ ?_
  refine w_seqk fun K13 k13 => ?_
  refine w_draw [0, 1, 2, 3, 4, 5, 6, 7, 8, 9, 10, 11, 12, 13, 14] (by kernel_rfl) ?_
  refine d_qk (.pointer (some ⟨b7, 1, none⟩)) (by kernel_rfl) ?_
  refine d_ql (hd_To) (x := aLoad Go.Proofs.Try.prog 22 (.pointer (some ⟨b7, 1, none⟩)) H8) (by kernel_rfl) (r11.ld (by kernel_rfl)) ?_
  refine d_qk (.pointer (some ⟨b7, 0, none⟩)) (by kernel_rfl) ?_
  refine d_ql (hd_First) (x := aLoad Go.Proofs.Try.prog 22 (.pointer (some ⟨b7, 0, none⟩)) H8) (by kernel_rfl) (r11.ld (by kernel_rfl)) ?_
  refine d_qk (.int .i64 v_) (by kernel_rfl) ?_
  obtain ⟨g14, r15⟩ := G_some hr
  have u16 := (h_First.ext e9)
  refine d_ql (elp hd_First 1 v_.toNat 0) (x := aIndexAddr Go.Proofs.Try.prog 22 hd_First (.int .i64 v_)) (by kernel_rfl) (u16.idxb (by kernel_rfl) g14.1 g14.2) ?_
  refine d_ql (.int .i64 (gt First v_)) (x := aLoad Go.Proofs.Try.prog 3 (elp hd_First 1 v_.toNat 0) H8) (by kernel_rfl) (u16.ld g14.1 g14.2 (by kernel_rfl)) ?_
  refine d_qk (.pointer (some ⟨b7, 0, none⟩)) (by kernel_rfl) ?_
  refine d_ql (hd_First) (x := aLoad Go.Proofs.Try.prog 22 (.pointer (some ⟨b7, 0, none⟩)) H8) (by kernel_rfl) (r11.ld (by kernel_rfl)) ?_
  refine d_qk (.int .i64 v_) (by kernel_rfl) ?_
  obtain ⟨g17, r18⟩ := G_some r15
  refine d_w ((v_ + 1)) (k := .i64) (x := (v_ + 1)) (by kernel_rfl) (wrap64 (by have := g17; omega)) ?_
  obtain ⟨g19, r20⟩ := G_some r18
  refine d_ql (elp hd_First 1 (v_ + 1).toNat 0) (x := aIndexAddr Go.Proofs.Try.prog 22 hd_First (.int .i64 (v_ + 1))) (by kernel_rfl) (u16.idxb (by kernel_rfl) g19.1 g19.2) ?_
  refine d_ql (.int .i64 (gt First (v_ + 1))) (x := aLoad Go.Proofs.Try.prog 3 (elp hd_First 1 (v_ + 1).toNat 0) H8) (by kernel_rfl) (u16.ld g19.1 g19.2 (by kernel_rfl)) ?_
  obtain ⟨g21, r22⟩ := G_some r20
  have u26 := (h_To.ext e9)
  obtain ⟨s23, q24, hs25⟩ := Sq.cut (P := Go.Proofs.Try.prog) u26 (t := 22) (by kernel_rfl) (lo := (some (.int .i64 (gt First v_)))) (hi := (some (.int .i64 (gt First (v_ + 1))))) (l := (gt First v_).toNat) (r := (gt First (v_ + 1)).toNat) (aBound_int _ (by have := g21; omega)) (aBound_int _ (by have := g21; omega)) (by have := g21; omega) (by have := g21; omega)
  obtain ⟨a27, n28, c29, rfl⟩ := hs25.form
  refine d_ql (.slice a27 n28 c29) (by kernel_rfl) q24 ?_
  refine d_qk (.slice a27 n28 c29) (by kernel_rfl) ?_
  refine d_nil ?_
  refine k13 _ _ ?_
  refine w_seqk fun K31 k31 => ?_
  refine w_reg (by kernel_rfl) ?_
  refine s_qk (.slice a27 n28 c29) (by kernel_rfl) ?_
  refine s_qk (.int .i64 w) (by kernel_rfl) ?_
  obtain ⟨y32, hy33, r34⟩ := bind_some r22
  refine s_ck 69 #[.slice a27 n28 c29, .int .i64 w] (by kernel_rfl) (c_slices_BinarySearch e9.wf hs25 hy33) ?_
  rintro _ _ ⟨rfl, rfl⟩
  refine s_qk (.tuple #[.int .i64 y32.1, .bool y32.2]) (by kernel_rfl) ?_
  refine s_qk (.int .i64 y32.1) (by kernel_rfl) ?_
  refine s_qk (.bool y32.2) (by kernel_rfl) ?_
  refine s_qk (.int .i64 y32.1) (by kernel_rfl) ?_
  refine s_qk (.bool y32.2) (by kernel_rfl) ?_
  refine s_nil ?_
  refine k31 _ _ ?_
  refine w_seqk fun K37 k37 => ?_
  refine w_seqk fun K38 k38 => ?_
  refine w_reg (by kernel_rfl) ?_
  refine s_qk (.bool y32.2) (by kernel_rfl) ?_
  refine s_qk (.bool (!y32.2)) (by kernel_rfl) ?_
  refine s_nil ?_
  refine k38 _ _ ?_
  refine w_cond ((!y32.2)) (by kernel_rfl) rfl (fun h39 => ?_) (fun h39 => ?_)
  · have r40 := ite_t h39 r34
    refine w_seqk fun K41 k41 => ?_
    refine w_reg (by kernel_rfl) ?_
    refine s_qk (.iface 82 (.int .i64 16)) (by kernel_rfl) ?_
    refine s_qk (.int .i64 0) (by kernel_rfl) ?_
    refine s_qk (.iface 82 (.int .i64 16)) (by kernel_rfl) ?_
    refine s_nil ?_
    refine k41 _ _ ?_
    refine w_ret (th_ret ?_)
    refine b_ret (fn := Go.Proofs.Try.f43) (vs := [.int .i64 0, .iface 82 (.int .i64 16)]) (aRes_tmp (by kernel_rfl) (aRes_tmp (by kernel_rfl) (rfl))) ?_
    obtain rfl := Option.some.inj r40
    exact ⟨(.iface 82 (.int .i64 16)), [], rfl, ((FrS.refl (W := []) wf).extR e9), Ev.no, Inn.nil⟩
  · have r42 := ite_bf h39 r34
    refine w_skip ?_
    refine k37 _ _ ?_
    refine w_seqk fun K43 k43 => ?_
    refine w_draw [0, 1, 2, 3, 4, 5, 6, 7, 8, 9, 10, 11, 12] (by kernel_rfl) ?_
    refine d_qk (.pointer (some ⟨b7, 2, none⟩)) (by kernel_rfl) ?_
    refine d_ql (hd_Weight) (x := aLoad Go.Proofs.Try.prog 22 (.pointer (some ⟨b7, 2, none⟩)) H8) (by kernel_rfl) (r11.ld (by kernel_rfl)) ?_
    refine d_qk (.pointer (some ⟨b7, 0, none⟩)) (by kernel_rfl) ?_
    refine d_ql (hd_First) (x := aLoad Go.Proofs.Try.prog 22 (.pointer (some ⟨b7, 0, none⟩)) H8) (by kernel_rfl) (r11.ld (by kernel_rfl)) ?_
    refine d_qk (.int .i64 v_) (by kernel_rfl) ?_
    refine d_ql (elp hd_First 1 v_.toNat 0) (x := aIndexAddr Go.Proofs.Try.prog 22 hd_First (.int .i64 v_)) (by kernel_rfl) (u16.idxb (by kernel_rfl) g14.1 g14.2) ?_
    refine d_ql (.int .i64 (gt First v_)) (x := aLoad Go.Proofs.Try.prog 3 (elp hd_First 1 v_.toNat 0) H8) (by kernel_rfl) (u16.ld g14.1 g14.2 (by kernel_rfl)) ?_
    refine d_qk (.int .i64 y32.1) (by kernel_rfl) ?_
    obtain ⟨g44, r45⟩ := G_some r42
    refine d_w (((gt First v_) + y32.1)) (k := .i64) (x := ((gt First v_) + y32.1)) (by kernel_rfl) (wrap64 g44) ?_
    obtain ⟨g46, r47⟩ := G_some r45
    have u48 := (h_Weight.ext e9)
    refine d_ql (elp hd_Weight 1 ((gt First v_) + y32.1).toNat 0) (x := aIndexAddr Go.Proofs.Try.prog 22 hd_Weight (.int .i64 ((gt First v_) + y32.1))) (by kernel_rfl) (u48.idxb (by kernel_rfl) g46.1 g46.2) ?_
    refine d_ql (.int .i64 (gt Weight ((gt First v_) + y32.1))) (x := aLoad Go.Proofs.Try.prog 3 (elp hd_Weight 1 ((gt First v_) + y32.1).toNat 0) H8) (by kernel_rfl) (u48.ld g46.1 g46.2 (by kernel_rfl)) ?_
    refine d_qk (.int .i64 (gt Weight ((gt First v_) + y32.1))) (by kernel_rfl) ?_
    refine d_qk (.nilIface) (by kernel_rfl) ?_
    refine d_nil ?_
    refine k43 _ _ ?_
    refine w_ret ?_
    refine b_ret (fn := Go.Proofs.Try.f43) (vs := [.int .i64 (gt Weight ((gt First v_) + y32.1)), .nilIface]) (aRes_tmp (by kernel_rfl) (aRes_tmp (by kernel_rfl) (rfl))) ?_
    obtain rfl := Option.some.inj r47
    exact ⟨(.nilIface), [], rfl, ((FrS.refl (W := []) wf).extR e9), Ev.nil, Inn.nil⟩


end Go.Vd
