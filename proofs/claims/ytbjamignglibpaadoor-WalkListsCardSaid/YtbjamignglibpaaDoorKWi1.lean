/- The walks of the functions (printed by a program of ours). -/
import Derived.Test.YtbjamignglibpaaDoorDrG
import Derived.Test.YtbjamignglibpaaDoorIWi
import Derived.Test.YtbjamignglibpaaDoorKWi0
set_option maxRecDepth 100000
set_option maxHeartbeats 4000000
set_option linter.unusedVariables false
namespace Go.Vd
attribute [local irreducible] wpSeq wpOrd aWp
theorem c_viaductref09_Simple {H : AH} {hd_l : Value} {fp_l : Fp} {l : List (Int)} {r : List (Int)}
    (wf : WF H) (h_l : Sq (encI .i64) 1 H hd_l l fp_l) (hr : z_viaductref09_Simple l = some r) :
    ACalls Go.Proofs.Tryd.prog 16 #[hd_l] H fun v H' => ∃ (s3 : Value) (f4 : Fp), v = s3 ∧ FrS [] H H' ∧ Ow (encI .i64) 1 H' s3 r f4 ∧ Inn [] H f4 := by
  refine acalls_of_body mixed Go.Proofs.Tryd.func16 rfl (Nat.le_of_ble_eq_true rfl) ?_
  unfold z_viaductref09_Simple at hr
  refine w_seqk fun K6 k6 => ?_
  refine w_reg (by kernel_rfl) ?_
  refine s_qk (.slice none 0 0) (by kernel_rfl) ?_
  refine s_nil ?_
  refine k6 _ _ ?_
  refine w_seqk fun K7 k7 => ?_
  refine w_reg (by kernel_rfl) ?_
  refine s_qk (.slice none 0 0) (by kernel_rfl) ?_
  refine s_nil ?_
  refine k7 _ _ ?_
  refine w_seqk fun K8 k8 => ?_
  refine w_seqk fun K9 k9 => ?_
  refine w_reg (by kernel_rfl) ?_
  refine s_qk (hd_l) (by kernel_rfl) ?_
  refine s_ql (.int .i64 (l.length : Int)) (x := aLen Go.Proofs.Tryd.prog 22 hd_l H) (by kernel_rfl) (h_l.lenb (by kernel_rfl)) ?_
  refine s_qk (.int .i64 0) (by kernel_rfl) ?_
  refine s_nil ?_
  refine k9 _ _ ?_
  obtain ⟨o10, hx11, r12⟩ := bind_some hr
  refine w_mid (fun α H13 => ∃ (s17 : Value) (f18 : Fp), Has α [(3, s17)] ∧ FrS [] H H13 ∧ Ow (encI .i64) 1 H13 s17 o10 f18 ∧ Inn [] H f18) (fun K20 k20 => ?_) (fun α H13 hM => ?_)
  · refine w_block ?_
    obtain ⟨n22, hn23⟩ := loopO_iff.1 hx11
    refine w_loopn (fun n α H24 => ∃ (i0 : Int), ∃ (s1 : List (Int)), ∃ (s28 : Value), ∃ (f29 : Fp), iterO (fun s => z_viaductref09_Simple_l0 l s.1 s.2) n (i0, s1) = some o10 ∧ Has α [(3, s28), (9, hd_l), (10, .int .i64 (l.length : Int)), (11, .int .i64 i0)] ∧ FrS [] H H24 ∧ Ow (encI .i64) 1 H24 s28 s1 f29 ∧ Inn [] H f29) n22 ⟨0, [], (.slice none 0 0), [], hn23, ⟨by kernel_rfl, by kernel_rfl, by kernel_rfl, by kernel_rfl, trivial⟩, (FrS.refl (W := []) wf), (Ow.nil (by decide)), Inn.nil⟩ ?_
    rintro n22 α H24 ⟨i0, s1, s28, f29, hi32, hh31, e25, m27, i30⟩ K37 k37
    obtain ⟨n33, z34, rfl, hz35, hn36⟩ := iter_succ hi32
    obtain ⟨β, rfl⟩ := has_ex hh31
    clear hh31
    replace hz35 : z_viaductref09_Simple_l0 l i0 s1 = some z34 := hz35
    unfold z_viaductref09_Simple_l0 at hz35
    obtain ⟨a38, n39, c40, rfl⟩ := m27.form
    refine w_seqk fun K41 k41 => ?_
    refine w_reg (by kernel_rfl) ?_
    refine s_qk (.bool (decide (i0 < (l.length : Int)))) (by kernel_rfl) ?_
    refine s_nil ?_
    refine k41 _ _ ?_
    refine w_seqk fun K42 k42 => ?_
    refine w_condp (i0 < (l.length : Int)) (by kernel_rfl) rfl (fun h43 => ?_) (fun h43 => ?_)
    · have r44 := ite_t h43 hz35
      refine w_skip ?_
      refine k42 _ _ ?_
      refine w_seqk fun K45 k45 => ?_
      refine w_block ?_
      refine w_seqk fun K46 k46 => ?_
      refine w_reg (by kernel_rfl) ?_
      obtain ⟨g47, r48⟩ := G_some r44
      have u49 := (h_l.fr e25 Dj.nil_l)
      refine s_ql (elp hd_l 1 i0.toNat 0) (x := aIndexAddr Go.Proofs.Tryd.prog 22 hd_l (.int .i64 i0)) (by kernel_rfl) (u49.idxb (by kernel_rfl) g47 h43) ?_
      refine s_ql (.int .i64 (gt l i0)) (x := aLoad Go.Proofs.Tryd.prog 3 (elp hd_l 1 i0.toNat 0) H24) (by kernel_rfl) (u49.ld g47 h43 (by kernel_rfl)) ?_
      refine s_qk (.int .i64 (gt l i0)) (by kernel_rfl) ?_
      refine s_nil ?_
      refine k46 _ _ ?_
      refine w_seqk fun K50 k50 => ?_
      refine w_reg (by kernel_rfl) ?_
      refine s_qk (.int .i64 (-1)) (by kernel_rfl) ?_
      refine s_nil ?_
      refine k50 _ _ ?_
      refine w_seqk fun K51 k51 => ?_
      refine w_seqk fun K52 k52 => ?_
      refine w_reg (by kernel_rfl) ?_
      refine s_qk (.slice a38 n39 c40) (by kernel_rfl) ?_
      refine s_ql (.int .i64 (s1.length : Int)) (x := aLen Go.Proofs.Tryd.prog 22 (.slice a38 n39 c40) H24) (by kernel_rfl) (m27.sq.lenb (by kernel_rfl)) ?_
      refine s_qk (.int .i64 0) (by kernel_rfl) ?_
      refine s_nil ?_
      refine k52 _ _ ?_
      obtain ⟨o53, hx54, r55⟩ := bind_some r48
      refine w_mid (fun α H56 => Has α [(3, .slice a38 n39 c40), (5, .int .i64 (gt l i0)), (6, .int .i64 o53), (9, hd_l), (10, .int .i64 (l.length : Int)), (11, .int .i64 i0)] ∧ H24 = H56) (fun K58 k58 => ?_) (fun α H56 hM => ?_)
      · refine w_block ?_
        obtain ⟨n60, hn61⟩ := loopO_iff.1 hx54
        refine w_loopn (fun n α H62 => ∃ (i2 : Int), ∃ (at3 : Int), iterO (fun s => z_viaductref09_Simple_l1 l i0 s1 s.1 s.2) n (i2, at3) = some o53 ∧ Has α [(3, .slice a38 n39 c40), (5, .int .i64 (gt l i0)), (6, .int .i64 at3), (9, hd_l), (10, .int .i64 (l.length : Int)), (11, .int .i64 i0), (15, .slice a38 n39 c40), (16, .int .i64 (s1.length : Int)), (17, .int .i64 i2)] ∧ H24 = H62) n60 ⟨0, (-1), hn61, ⟨by kernel_rfl, by kernel_rfl, by kernel_rfl, by kernel_rfl, by kernel_rfl, by kernel_rfl, by kernel_rfl, by kernel_rfl, by kernel_rfl, trivial⟩, rfl⟩ ?_
        rintro n60 α H62 ⟨i2, at3, hi65, hh64, rfl⟩ K70 k70
        obtain ⟨n66, z67, rfl, hz68, hn69⟩ := iter_succ hi65
        obtain ⟨β, rfl⟩ := has_ex hh64
        clear hh64
        replace hz68 : z_viaductref09_Simple_l1 l i0 s1 i2 at3 = some z67 := hz68
        unfold z_viaductref09_Simple_l1 at hz68
        refine w_seqk fun K71 k71 => ?_
        refine w_reg (by kernel_rfl) ?_
        refine s_qk (.bool (decide (i2 < (s1.length : Int)))) (by kernel_rfl) ?_
        refine s_nil ?_
        refine k71 _ _ ?_
        refine w_seqk fun K72 k72 => ?_
        refine w_condp (i2 < (s1.length : Int)) (by kernel_rfl) rfl (fun h73 => ?_) (fun h73 => ?_)
        · have r74 := ite_t h73 hz68
          refine w_skip ?_
          refine k72 _ _ ?_
          refine w_seqk fun K75 k75 => ?_
          refine w_block ?_
          refine w_seqk fun K76 k76 => ?_
          refine w_reg (by kernel_rfl) ?_
          refine s_qk (.int .i64 i2) (by kernel_rfl) ?_
          obtain ⟨g77, r78⟩ := G_some r74
          refine s_ql (elp (.slice a38 n39 c40) 1 i2.toNat 0) (x := aIndexAddr Go.Proofs.Tryd.prog 22 (.slice a38 n39 c40) (.int .i64 i2)) (by kernel_rfl) (m27.sq.idxb (by kernel_rfl) g77 h73) ?_
          refine s_ql (.int .i64 (gt s1 i2)) (x := aLoad Go.Proofs.Tryd.prog 3 (elp (.slice a38 n39 c40) 1 i2.toNat 0) H24) (by kernel_rfl) (m27.sq.ld g77 h73 (by kernel_rfl)) ?_
          refine s_qk (.int .i64 i2) (by kernel_rfl) ?_
          refine s_qk (.int .i64 (gt s1 i2)) (by kernel_rfl) ?_
          refine s_nil ?_
          refine k76 _ _ ?_
          refine w_seqk fun K79 k79 => ?_
          refine w_reg (by kernel_rfl) ?_
          refine s_qk (.int .i64 (gt s1 i2)) (by kernel_rfl) ?_
          refine s_qk (.int .i64 (gt l i0)) (by kernel_rfl) ?_
          refine s_qk (.bool (decide ((gt s1 i2) = (gt l i0)))) (by kernel_rfl) ?_
          refine s_nil ?_
          refine k79 _ _ ?_
          refine w_condp ((gt s1 i2) = (gt l i0)) (by kernel_rfl) rfl (fun h80 => ?_) (fun h80 => ?_)
          · have r81 := ite_t h80 r78
            refine w_reg (by kernel_rfl) ?_
            refine s_qk (.int .i64 i2) (by kernel_rfl) ?_
            refine s_qk (.int .i64 i2) (by kernel_rfl) ?_
            refine s_nil ?_
            refine k75 _ _ ?_
            refine w_reg (by kernel_rfl) ?_
            obtain ⟨g82, r83⟩ := G_some r81
            refine s_w ((i2 + 1)) (k := .i64) (x := (i2 + 1)) (by kernel_rfl) (wrap64 (by have := g82; omega)) ?_
            refine s_qk (.int .i64 (i2 + 1)) (by kernel_rfl) ?_
            refine s_nil ?_
            obtain rfl := Option.some.inj r83
            exact k70 n66 _ _ (Nat.lt_succ_self _) ⟨(i2 + 1), i2, hn69, ⟨by kernel_rfl, by kernel_rfl, by kernel_rfl, by kernel_rfl, by kernel_rfl, by kernel_rfl, by kernel_rfl, by kernel_rfl, by kernel_rfl, trivial⟩, rfl⟩
          · have r84 := ite_f h80 r78
            refine w_skip ?_
            refine k75 _ _ ?_
            refine w_reg (by kernel_rfl) ?_
            obtain ⟨g85, r86⟩ := G_some r84
            refine s_w ((i2 + 1)) (k := .i64) (x := (i2 + 1)) (by kernel_rfl) (wrap64 (by have := g85; omega)) ?_
            refine s_qk (.int .i64 (i2 + 1)) (by kernel_rfl) ?_
            refine s_nil ?_
            obtain rfl := Option.some.inj r86
            exact k70 n66 _ _ (Nat.lt_succ_self _) ⟨(i2 + 1), at3, hn69, ⟨by kernel_rfl, by kernel_rfl, by kernel_rfl, by kernel_rfl, by kernel_rfl, by kernel_rfl, by kernel_rfl, by kernel_rfl, by kernel_rfl, trivial⟩, rfl⟩
        · have r87 := ite_f h73 hz68
          refine w_exit (th_exit (th_exit (bl_eq ?_)))
          obtain rfl := Option.some.inj r87
          obtain rfl := it_inr hn69
          exact k58 _ _ ⟨⟨by kernel_rfl, by kernel_rfl, by kernel_rfl, by kernel_rfl, by kernel_rfl, by kernel_rfl, trivial⟩, rfl⟩
      · obtain ⟨hh59, rfl⟩ := hM
        obtain ⟨β, rfl⟩ := has_ex hh59
        clear hh59
        refine k51 _ _ ?_
        refine w_seqk fun K88 k88 => ?_
        refine w_reg (by kernel_rfl) ?_
        refine s_qk (.int .i64 o53) (by kernel_rfl) ?_
        refine s_qk (.bool (decide (o53 ≥ 0))) (by kernel_rfl) ?_
        refine s_nil ?_
        refine k88 _ _ ?_
        refine w_condp (o53 ≥ 0) (by kernel_rfl) rfl (fun h89 => ?_) (fun h89 => ?_)
        · have r90 := ite_t h89 r55
          refine w_reg (by kernel_rfl) ?_
          refine s_qk (.slice a38 n39 c40) (by kernel_rfl) ?_
          refine s_qk (.int .i64 o53) (by kernel_rfl) ?_
          obtain ⟨g91, r92⟩ := G_some r90
          refine s_w ((o53 + 1)) (k := .i64) (x := (o53 + 1)) (by kernel_rfl) (wrap64 g91) ?_
          obtain ⟨g93, r94⟩ := G_some r92
          obtain ⟨s95, q96, hs97⟩ := Ow.head (P := Go.Proofs.Tryd.prog) m27 (t := 22) (by kernel_rfl) (hi := (some (.int .i64 (o53 + 1)))) (r := (o53 + 1).toNat) (aBound_int _ (by have := g93; omega)) (by have := g93; omega)
          obtain ⟨a98, n99, c100, rfl⟩ := hs97.form
          refine s_ql (.slice a98 n99 c100) (by kernel_rfl) q96 ?_
          refine s_qk (.slice a98 n99 c100) (by kernel_rfl) ?_
          refine s_nil ?_
          refine k45 _ _ ?_
          refine w_reg (by kernel_rfl) ?_
          obtain ⟨g102, r103⟩ := G_some r94
          refine s_w ((i0 + 1)) (k := .i64) (x := (i0 + 1)) (by kernel_rfl) (wrap64 (by have := g102; omega)) ?_
          refine s_qk (.int .i64 (i0 + 1)) (by kernel_rfl) ?_
          refine s_nil ?_
          obtain rfl := Option.some.inj r103
          exact k37 n33 _ _ (Nat.lt_succ_self _) ⟨(i0 + 1), (s1.take (o53 + 1).toNat), (.slice a98 n99 c100), f29, hn36, ⟨by kernel_rfl, by kernel_rfl, by kernel_rfl, by kernel_rfl, trivial⟩, (FrS.step wf (FrS.refl (W := []) wf) e25 Inn.nil), hs97, (i30.fresh (Nat.le_refl _))⟩
        · have r104 := ite_f h89 r55
          refine w_reg (by kernel_rfl) ?_
          refine s_qk (.slice a38 n39 c40) (by kernel_rfl) ?_
          refine s_qk (.int .i64 (gt l i0)) (by kernel_rfl) ?_
          refine s_owk (enc := (encI .i64)) (sz := 1) e25.wf [(gt l i0)] 1 (by decide) (fun _ _ => rfl) (fun _ _ => rfl) rfl (by kernel_rfl) fun s105 f106 H107 e108 hf109 hm110 => ?_
          obtain ⟨a111, n112, c113, rfl⟩ := hm110.form
          have u115 := (m27.ext e108)
          obtain ⟨g116, r117⟩ := G_some r104
          obtain ⟨s118, H119, f120, q124, e121, hm122, hf123⟩ := Ow.append (P := Go.Proofs.Tryd.prog) 8 e108.wf u115 hm110.sq (fun _ _ => rfl) (at_ := #[22, 22]) rfl rfl (by kernel_rfl) (by kernel_rfl) (by decide) (by have := g116; first | omega | (simp only [List.length_cons, List.length_nil] at this ⊢; omega) | (simp at this ⊢; omega))
          obtain ⟨a125, n126, c127, rfl⟩ := hm122.form
          refine s_ek (.slice a125 n126 c127) (by kernel_rfl) (q124) ?_
          refine s_qk (.slice a125 n126 c127) (by kernel_rfl) ?_
          refine s_nil ?_
          refine k45 _ _ ?_
          refine w_reg (by kernel_rfl) ?_
          obtain ⟨g129, r130⟩ := G_some r117
          refine s_w ((i0 + 1)) (k := .i64) (x := (i0 + 1)) (by kernel_rfl) (wrap64 (by have := g129; omega)) ?_
          refine s_qk (.int .i64 (i0 + 1)) (by kernel_rfl) ?_
          refine s_nil ?_
          obtain rfl := Option.some.inj r130
          exact k37 n33 _ _ (Nat.lt_succ_self _) ⟨(i0 + 1), (s1 ++ [(gt l i0)]), (.slice a125 n126 c127), f120, hn36, ⟨by kernel_rfl, by kernel_rfl, by kernel_rfl, by kernel_rfl, trivial⟩, (FrS.step wf ((FrS.step wf (FrS.refl (W := []) wf) e25 Inn.nil).extR e108) e121 (i30.fresh (Nat.le_refl _))), hm122, (Inn.trans (i30.fresh (Nat.le_refl _)) (Nat.le_trans e25.next e108.next) hf123)⟩
    · have r131 := ite_f h43 hz35
      refine w_exit (th_exit (th_exit (bl_eq ?_)))
      obtain rfl := Option.some.inj r131
      obtain rfl := it_inr hn36
      exact k20 _ _ ⟨(.slice a38 n39 c40), f29, ⟨by kernel_rfl, trivial⟩, (FrS.step wf (FrS.refl (W := []) wf) e25 Inn.nil), m27, (i30.fresh (Nat.le_refl _))⟩
  · obtain ⟨s17, f18, hh21, e14, m16, i19⟩ := hM
    obtain ⟨β, rfl⟩ := has_ex hh21
    clear hh21
    obtain ⟨a132, n133, c134, rfl⟩ := m16.form
    refine k8 _ _ ?_
    refine w_seqk fun K135 k135 => ?_
    refine w_reg (by kernel_rfl) ?_
    refine s_qk (.slice a132 n133 c134) (by kernel_rfl) ?_
    refine s_qk (.slice a132 n133 c134) (by kernel_rfl) ?_
    refine s_nil ?_
    refine k135 _ _ ?_
    refine w_ret ?_
    refine b_ret (fn := Go.Proofs.Tryd.f16) (vs := [.slice a132 n133 c134]) (aRes_tmp (by kernel_rfl) (rfl)) ?_
    obtain rfl := Option.some.inj r12
    exact ⟨(.slice a132 n133 c134), f18, rfl, (FrS.step wf (FrS.refl (W := []) wf) e14 Inn.nil), m16, (i19.fresh (Nat.le_refl _))⟩

theorem c_slices_Reverse {H : AH} {hd_s : Value} {fp_s : Fp} {s : List (Int)} {r : List (Int)}
    (wf : WF H) (h_s : Ow (encI .i64) 1 H hd_s s fp_s) (hr : z_slices_Reverse s = some r) :
    ACalls Go.Proofs.Tryd.prog 46 #[hd_s] H fun v H' => v = .tuple #[] ∧ FrS fp_s H H' ∧ Ow (encI .i64) 1 H' hd_s r fp_s := by
  refine acalls_of_body mixed Go.Proofs.Tryd.func46 rfl (Nat.le_of_ble_eq_true rfl) ?_
  unfold z_slices_Reverse at hr
  refine w_seqk fun K3 k3 => ?_
  refine w_reg (by kernel_rfl) ?_
  refine s_qk (hd_s) (by kernel_rfl) ?_
  refine s_ql (.int .i64 (s.length : Int)) (x := aLen Go.Proofs.Tryd.prog 22 hd_s H) (by kernel_rfl) (h_s.sq.lenb (by kernel_rfl)) ?_
  obtain ⟨g4, r5⟩ := G_some hr
  refine s_w (((s.length : Int) - 1)) (k := .i64) (x := ((s.length : Int) - 1)) (by kernel_rfl) (wrap64 g4) ?_
  refine s_qk (.int .i64 0) (by kernel_rfl) ?_
  refine s_qk (.int .i64 ((s.length : Int) - 1)) (by kernel_rfl) ?_
  refine s_nil ?_
  refine k3 _ _ ?_
  obtain ⟨o6, hx7, r8⟩ := bind_some r5
  refine w_mid (fun α H9 => Has α [] ∧ FrS fp_s H H9 ∧ Ow (encI .i64) 1 H9 hd_s o6 fp_s) (fun K13 k13 => ?_) (fun α H9 hM => ?_)
  · refine w_block ?_
    obtain ⟨n15, hn16⟩ := loopO_iff.1 hx7
    refine w_loopn (fun n α H17 => ∃ (s0 : List (Int)), ∃ (i1 : Int), ∃ (j2 : Int), iterO (fun s => z_slices_Reverse_l0 s.1 s.2.1 s.2.2) n (s0, i1, j2) = some o6 ∧ Has α [(0, hd_s), (2, .int .i64 i1), (3, .int .i64 j2)] ∧ FrS fp_s H H17 ∧ Ow (encI .i64) 1 H17 hd_s s0 fp_s) n15 ⟨s, 0, ((s.length : Int) - 1), hn16, ⟨by kernel_rfl, by kernel_rfl, by kernel_rfl, trivial⟩, (FrS.refl (W := fp_s) wf), h_s⟩ ?_
    rintro n15 α H17 ⟨s0, i1, j2, hi22, hh21, e18, m20⟩ K27 k27
    obtain ⟨n23, z24, rfl, hz25, hn26⟩ := iter_succ hi22
    obtain ⟨β, rfl⟩ := has_ex hh21
    clear hh21
    replace hz25 : z_slices_Reverse_l0 s0 i1 j2 = some z24 := hz25
    unfold z_slices_Reverse_l0 at hz25
    refine w_seqk fun K28 k28 => ?_
    refine w_seqk fun K29 k29 => ?_
    refine w_reg (by kernel_rfl) ?_
    refine s_qk (.int .i64 i1) (by kernel_rfl) ?_
    refine s_qk (.int .i64 j2) (by kernel_rfl) ?_
    refine s_qk (.bool (decide (i1 < j2))) (by kernel_rfl) ?_
    refine s_nil ?_
    refine k29 _ _ ?_
    refine w_condp (i1 < j2) (by kernel_rfl) rfl (fun h30 => ?_) (fun h30 => ?_)
    · have r31 := ite_t h30 hz25
      refine w_skip ?_
      refine k28 _ _ ?_
      refine w_seqk fun K32 k32 => ?_
      refine w_block ?_
      refine w_draw [0, 1, 2, 3, 4, 5, 6, 7, 8, 9, 10, 11, 12, 13, 14, 15] (by kernel_rfl) ?_
      refine d_qk (hd_s) (by kernel_rfl) ?_
      refine d_qk (.int .i64 i1) (by kernel_rfl) ?_
      refine d_qk (hd_s) (by kernel_rfl) ?_
      refine d_qk (.int .i64 j2) (by kernel_rfl) ?_
      refine d_qk (hd_s) (by kernel_rfl) ?_
      refine d_qk (.int .i64 j2) (by kernel_rfl) ?_
      obtain ⟨g33, r34⟩ := G_some r31
      refine d_ql (elp hd_s 1 j2.toNat 0) (x := aIndexAddr Go.Proofs.Tryd.prog 22 hd_s (.int .i64 j2)) (by kernel_rfl) (m20.sq.idxb (by kernel_rfl) g33.1 g33.2) ?_
      refine d_ql (.int .i64 (gt s0 j2)) (x := aLoad Go.Proofs.Tryd.prog 3 (elp hd_s 1 j2.toNat 0) H17) (by kernel_rfl) (m20.sq.ld g33.1 g33.2 (by kernel_rfl)) ?_
      refine d_qk (hd_s) (by kernel_rfl) ?_
      refine d_qk (.int .i64 i1) (by kernel_rfl) ?_
      obtain ⟨g35, r36⟩ := G_some r34
      refine d_ql (elp hd_s 1 i1.toNat 0) (x := aIndexAddr Go.Proofs.Tryd.prog 22 hd_s (.int .i64 i1)) (by kernel_rfl) (m20.sq.idxb (by kernel_rfl) g35.1 g35.2) ?_
      refine d_ql (.int .i64 (gt s0 i1)) (x := aLoad Go.Proofs.Tryd.prog 3 (elp hd_s 1 i1.toNat 0) H17) (by kernel_rfl) (m20.sq.ld g35.1 g35.2 (by kernel_rfl)) ?_
      refine d_ql (elp hd_s 1 i1.toNat 0) (x := aIndexAddr Go.Proofs.Tryd.prog 22 hd_s (.int .i64 i1)) (by kernel_rfl) (m20.sq.idxb (by kernel_rfl) g35.1 g35.2) ?_
      obtain ⟨H37, q38, e39, hm40⟩ := Ow.store (P := Go.Proofs.Tryd.prog) (t := 3) (off := 0) e18.wf m20 g35.1 g35.2 (.int .i64 (gt s0 j2)) [.int .i64 (gt s0 j2)] (by kernel_rfl) (by kernel_rfl) rfl (gt s0 j2) (Nat.le_of_ble_eq_true rfl) (by kernel_rfl)
      refine d_ek (undef) (by kernel_rfl) (map_ok q38) (st_nil) ?_
      obtain ⟨g41, r42⟩ := G_some r36
      refine d_ql (elp hd_s 1 j2.toNat 0) (x := aIndexAddr Go.Proofs.Tryd.prog 22 hd_s (.int .i64 j2)) (by kernel_rfl) (hm40.sq.idxb (by kernel_rfl) g33.1 g41) ?_
      obtain ⟨H43, q44, e45, hm46⟩ := Ow.store (P := Go.Proofs.Tryd.prog) (t := 3) (off := 0) e39.wf hm40 g33.1 g41 (.int .i64 (gt s0 i1)) [.int .i64 (gt s0 i1)] (by kernel_rfl) (by kernel_rfl) rfl (gt s0 i1) (Nat.le_of_ble_eq_true rfl) (by kernel_rfl)
      refine d_ek (undef) (by kernel_rfl) (map_ok q44) (st_nil) ?_
      refine d_nil ?_
      refine k32 _ _ ?_
      refine w_reg (by kernel_rfl) ?_
      refine s_qk (.int .i64 i1) (by kernel_rfl) ?_
      obtain ⟨g47, r48⟩ := G_some r42
      refine s_w ((i1 + 1)) (k := .i64) (x := (i1 + 1)) (by kernel_rfl) (wrap64 (by have := g47; omega)) ?_
      refine s_qk (.int .i64 j2) (by kernel_rfl) ?_
      obtain ⟨g49, r50⟩ := G_some r48
      refine s_w ((j2 - 1)) (k := .i64) (x := (j2 - 1)) (by kernel_rfl) (wrap64 g49) ?_
      refine s_qk (.int .i64 (i1 + 1)) (by kernel_rfl) ?_
      refine s_qk (.int .i64 (j2 - 1)) (by kernel_rfl) ?_
      refine s_nil ?_
      obtain rfl := Option.some.inj r50
      exact k27 n23 _ _ (Nat.lt_succ_self _) ⟨((s0.set i1.toNat (gt s0 j2)).set j2.toNat (gt s0 i1)), (i1 + 1), (j2 - 1), hn26, ⟨by kernel_rfl, by kernel_rfl, by kernel_rfl, trivial⟩, (FrS.step wf (FrS.step wf (FrS.step wf (FrS.refl (W := fp_s) wf) e18 Inn.refl') e39 Inn.refl') e45 Inn.refl'), hm46⟩
    · have r51 := ite_f h30 hz25
      refine w_exit (th_exit (th_exit (bl_eq ?_)))
      obtain rfl := Option.some.inj r51
      obtain rfl := it_inr hn26
      exact k13 _ _ ⟨trivial, (FrS.step wf (FrS.refl (W := fp_s) wf) e18 Inn.refl'), m20⟩
  · obtain ⟨hh14, e10, m12⟩ := hM
    obtain ⟨β, rfl⟩ := has_ex hh14
    clear hh14
    refine b_nrm (fn := Go.Proofs.Tryd.f46) (vs := []) (rfl) ?_
    obtain rfl := Option.some.inj r8
    exact ⟨rfl, (FrS.step wf (FrS.refl (W := fp_s) wf) e10 Inn.refl'), m12⟩

theorem c_walk_Back {H : AH} {hd_list : Value} {fp_list : Fp} {list : List (Int)} {r : List (Int)}
    (wf : WF H) (h_list : Sq (encI .i64) 1 H hd_list list fp_list) (hr : z_walk_Back list = some r) :
    ACalls Go.Proofs.Tryd.prog 17 #[hd_list] H fun v H' => ∃ (s3 : Value) (f4 : Fp), v = s3 ∧ FrS [] H H' ∧ Ow (encI .i64) 1 H' s3 r f4 ∧ Inn [] H f4 := by
  refine acalls_of_body mixed Go.Proofs.Tryd.func17 rfl (Nat.le_of_ble_eq_true rfl) ?_
  unfold z_walk_Back at hr
  refine w_seqk fun K6 k6 => ?_
  refine w_reg (by kernel_rfl) ?_
  refine s_qk (.slice none 0 0) (by kernel_rfl) ?_
  refine s_nil ?_
  refine k6 _ _ ?_
  refine w_seqk fun K7 k7 => ?_
  refine w_reg (by kernel_rfl) ?_
  refine s_qk (hd_list) (by kernel_rfl) ?_
  refine s_ql (.int .i64 (list.length : Int)) (x := aLen Go.Proofs.Tryd.prog 22 hd_list H) (by kernel_rfl) (h_list.lenb (by kernel_rfl)) ?_
  obtain ⟨g8, r9⟩ := G_some hr
  refine s_mks (t := 22) (m := 8) (l := (list.length : Int)) (c := (list.length : Int)) (enc := (encI .i64)) (sz := 1) wf (0 : Int) (by kernel_rfl) (by decide) g8.1 (Int.le_refl _) (by omega) (by have := g8; omega) (by kernel_rfl) fun s10 f11 H12 e13 hf14 hm15 => ?_
  obtain ⟨a16, n17, c18, rfl⟩ := hm15.form
  have hm15 : Ow (encI .i64) 1 H12 (.slice a16 n17 c18) (List.replicate list.length (0 : Int)) f11 := hm15
  refine s_qk (.slice a16 n17 c18) (by kernel_rfl) ?_
  refine s_nil ?_
  refine k7 _ _ ?_
  refine w_seqk fun K20 k20 => ?_
  refine w_reg (by kernel_rfl) ?_
  refine s_qk (.slice a16 n17 c18) (by kernel_rfl) ?_
  refine s_qk (hd_list) (by kernel_rfl) ?_
  have u25 := (h_list.ext e13)
  obtain ⟨H21, q24, e22, hm23⟩ := Ow.copy (P := Go.Proofs.Tryd.prog) (m := 8) e13.wf hm15 u25 (at_ := #[22, 22]) rfl (by kernel_rfl) (fun _ _ => rfl)
  refine s_ek (.int .i64 ((min list.length (List.replicate list.length (0 : Int)).length : Nat) : Int)) (by kernel_rfl) (q24) ?_
  refine s_nil ?_
  refine k20 _ _ ?_
  refine w_seqk fun K26 k26 => ?_
  refine w_reg (by kernel_rfl) ?_
  refine s_qk (.slice a16 n17 c18) (by kernel_rfl) ?_
  obtain ⟨y27, hy28, r29⟩ := bind_some r9
  refine s_ck 46 #[.slice a16 n17 c18] (by kernel_rfl) (c_slices_Reverse e22.wf hm23 hy28) ?_
  rintro _ H30 ⟨rfl, e31, m32⟩
  refine s_nil ?_
  refine k26 _ _ ?_
  refine w_seqk fun K33 k33 => ?_
  refine w_reg (by kernel_rfl) ?_
  refine s_qk (.slice a16 n17 c18) (by kernel_rfl) ?_
  refine s_qk (.slice a16 n17 c18) (by kernel_rfl) ?_
  refine s_nil ?_
  refine k33 _ _ ?_
  refine w_ret ?_
  refine b_ret (fn := Go.Proofs.Tryd.f17) (vs := [.slice a16 n17 c18]) (aRes_tmp (by kernel_rfl) (rfl)) ?_
  obtain rfl := Option.some.inj r29
  exact ⟨(.slice a16 n17 c18), f11, rfl, (FrS.step wf (FrS.step wf ((FrS.refl (W := []) wf).extR e13) e22 (hf14.fresh (Nat.le_refl _))) e31 (hf14.fresh (Nat.le_refl _))), m32, (hf14.fresh (Nat.le_refl _))⟩

theorem c_viaductref09_Back {H : AH} {hd_l : Value} {fp_l : Fp} {l : List (Int)} {r : List (Int)}
    (wf : WF H) (h_l : Sq (encI .i64) 1 H hd_l l fp_l) (hr : z_viaductref09_Back l = some r) :
    ACalls Go.Proofs.Tryd.prog 18 #[hd_l] H fun v H' => ∃ (s3 : Value) (f4 : Fp), v = s3 ∧ FrS [] H H' ∧ Ow (encI .i64) 1 H' s3 r f4 ∧ Inn [] H f4 := by
  refine acalls_of_body mixed Go.Proofs.Tryd.func18 rfl (Nat.le_of_ble_eq_true rfl) ?_
  unfold z_viaductref09_Back at hr
  refine w_seqk fun K6 k6 => ?_
  refine w_reg (by kernel_rfl) ?_
  refine s_qk (.slice none 0 0) (by kernel_rfl) ?_
  refine s_nil ?_
  refine k6 _ _ ?_
  refine w_seqk fun K7 k7 => ?_
  refine w_reg (by kernel_rfl) ?_
  refine s_qk (.slice none 0 0) (by kernel_rfl) ?_
  refine s_nil ?_
  refine k7 _ _ ?_
  refine w_seqk fun K8 k8 => ?_
  refine w_seqk fun K9 k9 => ?_
  refine w_reg (by kernel_rfl) ?_
  refine s_qk (hd_l) (by kernel_rfl) ?_
  refine s_ql (.int .i64 (l.length : Int)) (x := aLen Go.Proofs.Tryd.prog 22 hd_l H) (by kernel_rfl) (h_l.lenb (by kernel_rfl)) ?_
  obtain ⟨g10, r11⟩ := G_some hr
  refine s_w (((l.length : Int) - 1)) (k := .i64) (x := ((l.length : Int) - 1)) (by kernel_rfl) (wrap64 g10) ?_
  refine s_qk (.int .i64 ((l.length : Int) - 1)) (by kernel_rfl) ?_
  refine s_nil ?_
  refine k9 _ _ ?_
  obtain ⟨o12, hx13, r14⟩ := bind_some r11
  refine w_mid (fun α H15 => ∃ (s19 : Value) (f20 : Fp), Has α [(3, s19)] ∧ FrS [] H H15 ∧ Ow (encI .i64) 1 H15 s19 o12 f20 ∧ Inn [] H f20) (fun K22 k22 => ?_) (fun α H15 hM => ?_)
  · refine w_block ?_
    obtain ⟨n24, hn25⟩ := loopO_iff.1 hx13
    refine w_loopn (fun n α H26 => ∃ (b0 : List (Int)), ∃ (i1 : Int), ∃ (s30 : Value), ∃ (f31 : Fp), iterO (fun s => z_viaductref09_Back_l0 l s.1 s.2) n (b0, i1) = some o12 ∧ Has α [(0, hd_l), (3, s30), (4, .int .i64 i1)] ∧ FrS [] H H26 ∧ Ow (encI .i64) 1 H26 s30 b0 f31 ∧ Inn [] H f31) n24 ⟨[], ((l.length : Int) - 1), (.slice none 0 0), [], hn25, ⟨by kernel_rfl, by kernel_rfl, by kernel_rfl, trivial⟩, (FrS.refl (W := []) wf), (Ow.nil (by decide)), Inn.nil⟩ ?_
    rintro n24 α H26 ⟨b0, i1, s30, f31, hi34, hh33, e27, m29, i32⟩ K39 k39
    obtain ⟨n35, z36, rfl, hz37, hn38⟩ := iter_succ hi34
    obtain ⟨β, rfl⟩ := has_ex hh33
    clear hh33
    replace hz37 : z_viaductref09_Back_l0 l b0 i1 = some z36 := hz37
    unfold z_viaductref09_Back_l0 at hz37
    obtain ⟨a40, n41, c42, rfl⟩ := m29.form
    refine w_seqk fun K43 k43 => ?_
    refine w_seqk fun K44 k44 => ?_
    refine w_reg (by kernel_rfl) ?_
    refine s_qk (.int .i64 i1) (by kernel_rfl) ?_
    refine s_qk (.bool (decide (i1 ≥ 0))) (by kernel_rfl) ?_
    refine s_nil ?_
    refine k44 _ _ ?_
    refine w_condp (i1 ≥ 0) (by kernel_rfl) rfl (fun h45 => ?_) (fun h45 => ?_)
    · have r46 := ite_t h45 hz37
      refine w_skip ?_
      refine k43 _ _ ?_
      refine w_seqk fun K47 k47 => ?_
      refine w_block ?_
      refine w_reg (by kernel_rfl) ?_
      refine s_qk (.slice a40 n41 c42) (by kernel_rfl) ?_
      refine s_qk (hd_l) (by kernel_rfl) ?_
      refine s_qk (.int .i64 i1) (by kernel_rfl) ?_
      obtain ⟨g48, r49⟩ := G_some r46
      have u50 := (h_l.fr e27 Dj.nil_l)
      refine s_ql (elp hd_l 1 i1.toNat 0) (x := aIndexAddr Go.Proofs.Tryd.prog 22 hd_l (.int .i64 i1)) (by kernel_rfl) (u50.idxb (by kernel_rfl) g48.1 g48.2) ?_
      refine s_ql (.int .i64 (gt l i1)) (x := aLoad Go.Proofs.Tryd.prog 3 (elp hd_l 1 i1.toNat 0) H26) (by kernel_rfl) (u50.ld g48.1 g48.2 (by kernel_rfl)) ?_
      refine s_owk (enc := (encI .i64)) (sz := 1) e27.wf [(gt l i1)] 1 (by decide) (fun _ _ => rfl) (fun _ _ => rfl) rfl (by kernel_rfl) fun s51 f52 H53 e54 hf55 hm56 => ?_
      obtain ⟨a57, n58, c59, rfl⟩ := hm56.form
      have u61 := (m29.ext e54)
      obtain ⟨g62, r63⟩ := G_some r49
      obtain ⟨s64, H65, f66, q70, e67, hm68, hf69⟩ := Ow.append (P := Go.Proofs.Tryd.prog) 8 e54.wf u61 hm56.sq (fun _ _ => rfl) (at_ := #[22, 22]) rfl rfl (by kernel_rfl) (by kernel_rfl) (by decide) (by have := g62; first | omega | (simp only [List.length_cons, List.length_nil] at this ⊢; omega) | (simp at this ⊢; omega))
      obtain ⟨a71, n72, c73, rfl⟩ := hm68.form
      refine s_ek (.slice a71 n72 c73) (by kernel_rfl) (q70) ?_
      refine s_qk (.slice a71 n72 c73) (by kernel_rfl) ?_
      refine s_nil ?_
      refine k47 _ _ ?_
      refine w_reg (by kernel_rfl) ?_
      refine s_qk (.int .i64 i1) (by kernel_rfl) ?_
      obtain ⟨g75, r76⟩ := G_some r63
      refine s_w ((i1 - 1)) (k := .i64) (x := (i1 - 1)) (by kernel_rfl) (wrap64 g75) ?_
      refine s_qk (.int .i64 (i1 - 1)) (by kernel_rfl) ?_
      refine s_nil ?_
      obtain rfl := Option.some.inj r76
      exact k39 n35 _ _ (Nat.lt_succ_self _) ⟨(b0 ++ [(gt l i1)]), (i1 - 1), (.slice a71 n72 c73), f66, hn38, ⟨by kernel_rfl, by kernel_rfl, by kernel_rfl, trivial⟩, (FrS.step wf ((FrS.step wf (FrS.refl (W := []) wf) e27 Inn.nil).extR e54) e67 (i32.fresh (Nat.le_refl _))), hm68, (Inn.trans (i32.fresh (Nat.le_refl _)) (Nat.le_trans e27.next e54.next) hf69)⟩
    · have r77 := ite_f h45 hz37
      refine w_exit (th_exit (th_exit (bl_eq ?_)))
      obtain rfl := Option.some.inj r77
      obtain rfl := it_inr hn38
      exact k22 _ _ ⟨(.slice a40 n41 c42), f31, ⟨by kernel_rfl, trivial⟩, (FrS.step wf (FrS.refl (W := []) wf) e27 Inn.nil), m29, (i32.fresh (Nat.le_refl _))⟩
  · obtain ⟨s19, f20, hh23, e16, m18, i21⟩ := hM
    obtain ⟨β, rfl⟩ := has_ex hh23
    clear hh23
    obtain ⟨a78, n79, c80, rfl⟩ := m18.form
    refine k8 _ _ ?_
    refine w_seqk fun K81 k81 => ?_
    refine w_reg (by kernel_rfl) ?_
    refine s_qk (.slice a78 n79 c80) (by kernel_rfl) ?_
    refine s_qk (.slice a78 n79 c80) (by kernel_rfl) ?_
    refine s_nil ?_
    refine k81 _ _ ?_
    refine w_ret ?_
    refine b_ret (fn := Go.Proofs.Tryd.f18) (vs := [.slice a78 n79 c80]) (aRes_tmp (by kernel_rfl) (rfl)) ?_
    obtain rfl := Option.some.inj r14
    exact ⟨(.slice a78 n79 c80), f20, rfl, (FrS.step wf (FrS.refl (W := []) wf) e16 Inn.nil), m18, (i21.fresh (Nat.le_refl _))⟩

theorem c_viaductlaw09_WalkLists {H : AH} {hd_a : Value} {fp_a : Fp} {hd_b : Value} {fp_b : Fp} {a : List (Int)} {b : List (Int)} {r : Bool}
    (wf : WF H) (h_a : Sq (encI .i64) 1 H hd_a a fp_a) (h_b : Sq (encI .i64) 1 H hd_b b fp_b) (hr : z_viaductlaw09_WalkLists a b = some r) :
    ACalls Go.Proofs.Tryd.prog 3 #[hd_a, hd_b] H fun v H' => v = .bool r ∧ FrS [] H H' := by
  refine acalls_of_body mixed Go.Proofs.Tryd.func3 rfl (Nat.le_of_ble_eq_true rfl) ?_
  unfold z_viaductlaw09_WalkLists at hr
  refine w_seqk fun K1 k1 => ?_
  refine w_reg (by kernel_rfl) ?_
  refine s_qk (.bool false) (by kernel_rfl) ?_
  refine s_nil ?_
  refine k1 _ _ ?_
  refine w_seqk fun K2 k2 => ?_
  refine w_seqk fun K3 k3 => ?_
  refine w_reg (by kernel_rfl) ?_
  refine s_ck 9 #[] (by kernel_rfl) c_viaductlaw09_awake ?_
  rintro _ _ ⟨rfl, rfl⟩
  refine s_qk (.bool false) (by kernel_rfl) ?_
  refine s_nil ?_
  refine k3 _ _ ?_
  refine w_cond false (by kernel_rfl) rfl (fun h => by cases h) (fun _ => ?_)
  refine w_skip ?_
  refine k2 _ _ ?_
  refine w_seqk fun K4 k4 => ?_
  refine w_seqk fun K5 k5 => ?_
  obtain ⟨o6, hx7, r8⟩ := bind_some hr
  refine w_mid (fun α H9 => Has α [(0, hd_a), (1, hd_b), (18, .bool o6)] ∧ H = H9) (fun K11 k11 => ?_) (fun α H9 hM => ?_)
  · refine w_reg (by kernel_rfl) ?_
    refine s_qk (hd_a) (by kernel_rfl) ?_
    refine s_ql (.int .i64 (a.length : Int)) (x := aLen Go.Proofs.Tryd.prog 22 hd_a H) (by kernel_rfl) (h_a.lenb (by kernel_rfl)) ?_
    refine s_b ((a.length : Int) > 3000) (by kernel_rfl) (fun h13 => ?_) (fun h13 => ?_)
    · have r14 := ite_t h13 hx7
      refine s_qk (.bool true) (by kernel_rfl) ?_
      refine s_no (by kernel_rfl) ?_
      refine s_no (by kernel_rfl) ?_
      refine s_no (by kernel_rfl) ?_
      refine s_qk (.bool true) (by kernel_rfl) ?_
      refine s_nil ?_
      obtain rfl := Option.some.inj r14
      exact k11 _ _ ⟨⟨by kernel_rfl, by kernel_rfl, by kernel_rfl, trivial⟩, rfl⟩
    · have r15 := ite_f h13 hx7
      refine s_qk (.bool false) (by kernel_rfl) ?_
      refine s_qk (hd_b) (by kernel_rfl) ?_
      refine s_ql (.int .i64 (b.length : Int)) (x := aLen Go.Proofs.Tryd.prog 22 hd_b H) (by kernel_rfl) (h_b.lenb (by kernel_rfl)) ?_
      refine s_qk (.bool (decide ((b.length : Int) > 3000))) (by kernel_rfl) ?_
      refine s_qk (.bool (decide ((b.length : Int) > 3000))) (by kernel_rfl) ?_
      refine s_nil ?_
      obtain rfl := Option.some.inj r15
      exact k11 _ _ ⟨⟨by kernel_rfl, by kernel_rfl, by kernel_rfl, trivial⟩, rfl⟩
  · obtain ⟨hh12, rfl⟩ := hM
    obtain ⟨β, rfl⟩ := has_ex hh12
    clear hh12
    refine k5 _ _ ?_
    refine w_cond (o6) (by kernel_rfl) rfl (fun h16 => ?_) (fun h16 => ?_)
    · have r17 := ite_t h16 r8
      refine w_seqk fun K18 k18 => ?_
      refine w_reg (by kernel_rfl) ?_
      refine s_qk (.bool true) (by kernel_rfl) ?_
      refine s_nil ?_
      refine k18 _ _ ?_
      refine w_ret (th_ret ?_)
      refine b_ret (fn := Go.Proofs.Tryd.f3) (vs := [.bool true]) (aRes_tmp (by kernel_rfl) (rfl)) ?_
      obtain rfl := Option.some.inj r17
      exact ⟨rfl, (FrS.refl (W := []) wf)⟩
    · have r19 := ite_bf h16 r8
      refine w_skip ?_
      refine k4 _ _ ?_
      refine w_seqk fun K20 k20 => ?_
      refine w_reg (by kernel_rfl) ?_
      refine s_qk (hd_a) (by kernel_rfl) ?_
      obtain ⟨y21, hy22, r23⟩ := bind_some r19
      refine s_ck 11 #[hd_a] (by kernel_rfl) (c_viaductref02_TwinInts wf h_a hy22) ?_
      rintro s24 H26 ⟨_, f25, rfl, e27, m28, i29⟩
      obtain ⟨a31, n32, c33, rfl⟩ := m28.form
      refine s_qk (hd_b) (by kernel_rfl) ?_
      have u34 := (h_b.fr e27 Dj.nil_l)
      obtain ⟨y35, hy36, r37⟩ := bind_some r23
      refine s_ck 11 #[hd_b] (by kernel_rfl) (c_viaductref02_TwinInts e27.wf u34 hy36) ?_
      rintro s38 H40 ⟨_, f39, rfl, e41, m42, i43⟩
      obtain ⟨a45, n46, c47, rfl⟩ := m42.form
      have u48 := (m28.fr e41 Dj.nil_l)
      obtain ⟨y49, hy50, r51⟩ := bind_some r37
      refine s_ck 10 #[.slice a31 n32 c33, .slice a45 n46 c47] (by kernel_rfl) (c_walk_Join e41.wf u48.sq m42.sq hy50) ?_
      rintro _ H56 ⟨s52, f53, v54, f55, rfl, e57, m58, m59, i60, i61, d62⟩
      obtain ⟨a65, n66, c67, rfl⟩ := m58.form
      refine s_qk (.tuple #[.slice a65 n66 c67, v54]) (by kernel_rfl) ?_
      refine s_qk (.slice a65 n66 c67) (by kernel_rfl) ?_
      refine s_qk (v54) (by kernel_rfl) ?_
      refine s_qk (.slice a65 n66 c67) (by kernel_rfl) ?_
      refine s_qk (v54) (by kernel_rfl) ?_
      refine s_nil ?_
      refine k20 _ _ ?_
      refine w_seqk fun K68 k68 => ?_
      refine w_reg (by kernel_rfl) ?_
      refine s_qk (hd_a) (by kernel_rfl) ?_
      refine s_qk (hd_b) (by kernel_rfl) ?_
      have u69 := (((h_a.fr e27 Dj.nil_l).fr e41 Dj.nil_l).fr e57 Dj.nil_l)
      have u70 := ((u34.fr e41 Dj.nil_l).fr e57 Dj.nil_l)
      obtain ⟨y71, hy72, r73⟩ := bind_some r51
      refine s_ck 12 #[hd_a, hd_b] (by kernel_rfl) (c_viaductref09_DocJoin e57.wf u69 u70 hy72) ?_
      rintro _ H76 ⟨s74, f75, rfl, e77, m78, i79⟩
      obtain ⟨a81, n82, c83, rfl⟩ := m78.form
      refine s_qk (.tuple #[.slice a81 n82 c83, .agg #[.int .i64 y71.2, .slice none 0 0]]) (by kernel_rfl) ?_
      refine s_qk (.slice a81 n82 c83) (by kernel_rfl) ?_
      refine s_qk (.agg #[.int .i64 y71.2, .slice none 0 0]) (by kernel_rfl) ?_
      refine s_rwk e77.wf [.int .i64 0, .slice none 0 0] (by kernel_rfl) fun b84 H85 e86 hb87 r88 => ?_
      refine s_qk (.slice a81 n82 c83) (by kernel_rfl) ?_
      obtain ⟨H90, q91, e92, r93⟩ := Row.store (P := Go.Proofs.Tryd.prog) (t := 31) (p := 0) e86.wf r88 (.agg #[.int .i64 y71.2, .slice none 0 0]) [.int .i64 y71.2, .slice none 0 0] (by kernel_rfl) (by kernel_rfl) (one_cons (rfl) (one_cons (rfl) (one_nil))) (Nat.le_of_ble_eq_true (by kernel_rfl)) [.int .i64 y71.2, .slice none 0 0] (by kernel_rfl)
      refine s_ek (undef) (by kernel_rfl) (map_ok q91) ?_
      refine s_nil ?_
      refine k68 _ _ ?_
      refine w_seqk fun K94 k94 => ?_
      refine w_reg (by kernel_rfl) ?_
      refine s_qk (.slice a65 n66 c67) (by kernel_rfl) ?_
      refine s_qk (.slice a81 n82 c83) (by kernel_rfl) ?_
      have u95 := (((m58.fr e77 Dj.nil_l).ext e86).fr e92 (hb87.djn (m58.lt.le e77.next)))
      have u96 := ((m78.ext e86).fr e92 (hb87.djn m78.lt))
      obtain ⟨y97, hy98, r99⟩ := bind_some r73
      refine s_ck 13 #[.slice a65 n66 c67, .slice a81 n82 c83] (by kernel_rfl) (c_viaductref02_SameInts e92.wf u95.sq u96.sq hy98) ?_
      rintro _ _ ⟨rfl, rfl⟩
      by_cases h102 : y97 = true
      · have r103 := ite_t h102 r99
        rw [h102]
        refine s_qk (.bool true) (by kernel_rfl) ?_
        refine s_qk (v54) (by kernel_rfl) ?_
        refine s_ql (.agg #[.int .i64 y71.2, .slice none 0 0]) (x := aLoad Go.Proofs.Tryd.prog 31 (.pointer (some ⟨b84, 0, none⟩)) H90) (by kernel_rfl) (r93.ld (by kernel_rfl)) ?_
        have u105 := (((m59.fr e77 Dj.nil_l).ext e86).fr e92 (hb87.djn (m59.lt.le e77.next)))
        obtain ⟨y106, hy107, r108⟩ := bind_some r103
        refine s_ck 14 #[v54, .agg #[.int .i64 y71.2, .slice none 0 0]] (by kernel_rfl) (c_viaductseen_Same e92.wf u105 (Sq.nil (enc := enc_i64_i64) (sz := 2) (by decide)) hy107) ?_
        rintro _ H109 ⟨rfl, e110⟩
        by_cases h111 : y106 = true
        · have r112 := ite_t h111 r108
          rw [h111]
          refine s_qk (.bool true) (by kernel_rfl) ?_
          refine s_qk (.bool true) (by kernel_rfl) ?_
          refine s_qk (hd_a) (by kernel_rfl) ?_
          have u114 := ((((u69.fr e77 Dj.nil_l).ext e86).fr e92 (hb87.djn (h_a.lt.le (Nat.le_trans (Nat.le_trans (Nat.le_trans e27.next e41.next) e57.next) e77.next)))).fr e110 Dj.nil_l)
          obtain ⟨y115, hy116, r117⟩ := bind_some r112
          refine s_ck 11 #[hd_a] (by kernel_rfl) (c_viaductref02_TwinInts e110.wf u114 hy116) ?_
          rintro s118 H120 ⟨_, f119, rfl, e121, m122, i123⟩
          obtain ⟨a125, n126, c127, rfl⟩ := m122.form
          obtain ⟨y128, hy129, r130⟩ := bind_some r117
          refine s_ck 15 #[.slice a125 n126 c127] (by kernel_rfl) (c_walk_Simple e121.wf m122.sq hy129) ?_
          rintro s131 H133 ⟨_, f132, rfl, e134, m135, i136⟩
          obtain ⟨a138, n139, c140, rfl⟩ := m135.form
          refine s_qk (hd_a) (by kernel_rfl) ?_
          have u141 := ((u114.fr e121 Dj.nil_l).fr e134 Dj.nil_l)
          obtain ⟨y142, hy143, r144⟩ := bind_some r130
          refine s_ck 16 #[hd_a] (by kernel_rfl) (c_viaductref09_Simple e134.wf u141 hy143) ?_
          rintro s145 H147 ⟨_, f146, rfl, e148, m149, i150⟩
          obtain ⟨a152, n153, c154, rfl⟩ := m149.form
          have u155 := (m135.fr e148 Dj.nil_l)
          obtain ⟨y156, hy157, r158⟩ := bind_some r144
          refine s_ck 13 #[.slice a138 n139 c140, .slice a152 n153 c154] (by kernel_rfl) (c_viaductref02_SameInts e148.wf u155.sq m149.sq hy157) ?_
          rintro _ _ ⟨rfl, rfl⟩
          by_cases h161 : y156 = true
          · have r162 := ite_t h161 r158
            rw [h161]
            refine s_qk (.bool true) (by kernel_rfl) ?_
            refine s_qk (.bool true) (by kernel_rfl) ?_
            refine s_qk (hd_a) (by kernel_rfl) ?_
            have u164 := (u141.fr e148 Dj.nil_l)
            obtain ⟨y165, hy166, r167⟩ := bind_some r162
            refine s_ck 11 #[hd_a] (by kernel_rfl) (c_viaductref02_TwinInts e148.wf u164 hy166) ?_
            rintro s168 H170 ⟨_, f169, rfl, e171, m172, i173⟩
            obtain ⟨a175, n176, c177, rfl⟩ := m172.form
            obtain ⟨y178, hy179, r180⟩ := bind_some r167
            refine s_ck 17 #[.slice a175 n176 c177] (by kernel_rfl) (c_walk_Back e171.wf m172.sq hy179) ?_
            rintro s181 H183 ⟨_, f182, rfl, e184, m185, i186⟩
            obtain ⟨a188, n189, c190, rfl⟩ := m185.form
            refine s_qk (hd_a) (by kernel_rfl) ?_
            have u191 := ((u164.fr e171 Dj.nil_l).fr e184 Dj.nil_l)
            obtain ⟨y192, hy193, r194⟩ := bind_some r180
            refine s_ck 18 #[hd_a] (by kernel_rfl) (c_viaductref09_Back e184.wf u191 hy193) ?_
            rintro s195 H197 ⟨_, f196, rfl, e198, m199, i200⟩
            obtain ⟨a202, n203, c204, rfl⟩ := m199.form
            have u205 := (m185.fr e198 Dj.nil_l)
            obtain ⟨y206, hy207, r208⟩ := bind_some r194
            refine s_ck 13 #[.slice a188 n189 c190, .slice a202 n203 c204] (by kernel_rfl) (c_viaductref02_SameInts e198.wf u205.sq m199.sq hy207) ?_
            rintro _ _ ⟨rfl, rfl⟩
            refine s_qk (.bool y206) (by kernel_rfl) ?_
            refine s_qk (.bool y206) (by kernel_rfl) ?_
            refine s_nil ?_
            refine k94 _ _ ?_
            refine w_ret ?_
            refine b_ret (fn := Go.Proofs.Tryd.f3) (vs := [.bool y206]) (aRes_tmp (by kernel_rfl) (rfl)) ?_
            obtain rfl := Option.some.inj r208
            exact ⟨rfl, (FrS.step wf (FrS.step wf (FrS.step wf (FrS.step wf (FrS.step wf (FrS.step wf (FrS.step wf (FrS.step wf ((FrS.step wf (FrS.step wf (FrS.step wf (FrS.step wf (FrS.refl (W := []) wf) e27 Inn.nil) e41 Inn.nil) e57 Inn.nil) e77 Inn.nil).extR e86) e92 (hb87.fresh (Nat.le_trans (Nat.le_trans (Nat.le_trans e27.next e41.next) e57.next) e77.next))) e110 Inn.nil) e121 Inn.nil) e134 Inn.nil) e148 Inn.nil) e171 Inn.nil) e184 Inn.nil) e198 Inn.nil)⟩
          · have r211 := ite_f h161 r158
            rw [nb h161]
            refine s_qk (.bool false) (by kernel_rfl) ?_
            refine s_qk (.bool false) (by kernel_rfl) ?_
            refine s_no (by kernel_rfl) ?_
            refine s_no (by kernel_rfl) ?_
            refine s_no (by kernel_rfl) ?_
            refine s_no (by kernel_rfl) ?_
            refine s_no (by kernel_rfl) ?_
            refine s_no (by kernel_rfl) ?_
            refine s_qk (.bool false) (by kernel_rfl) ?_
            refine s_qk (.bool false) (by kernel_rfl) ?_
            refine s_nil ?_
            refine k94 _ _ ?_
            refine w_ret ?_
            refine b_ret (fn := Go.Proofs.Tryd.f3) (vs := [.bool false]) (aRes_tmp (by kernel_rfl) (rfl)) ?_
            obtain rfl := Option.some.inj r211
            exact ⟨rfl, (FrS.step wf (FrS.step wf (FrS.step wf (FrS.step wf (FrS.step wf ((FrS.step wf (FrS.step wf (FrS.step wf (FrS.step wf (FrS.refl (W := []) wf) e27 Inn.nil) e41 Inn.nil) e57 Inn.nil) e77 Inn.nil).extR e86) e92 (hb87.fresh (Nat.le_trans (Nat.le_trans (Nat.le_trans e27.next e41.next) e57.next) e77.next))) e110 Inn.nil) e121 Inn.nil) e134 Inn.nil) e148 Inn.nil)⟩
        · have r213 := ite_f h111 r108
          rw [nb h111]
          refine s_qk (.bool false) (by kernel_rfl) ?_
          refine s_qk (.bool false) (by kernel_rfl) ?_
          refine s_no (by kernel_rfl) ?_
          refine s_no (by kernel_rfl) ?_
          refine s_no (by kernel_rfl) ?_
          refine s_no (by kernel_rfl) ?_
          refine s_no (by kernel_rfl) ?_
          refine s_no (by kernel_rfl) ?_
          refine s_qk (.bool false) (by kernel_rfl) ?_
          refine s_qk (.bool false) (by kernel_rfl) ?_
          refine s_no (by kernel_rfl) ?_
          refine s_no (by kernel_rfl) ?_
          refine s_no (by kernel_rfl) ?_
          refine s_no (by kernel_rfl) ?_
          refine s_no (by kernel_rfl) ?_
          refine s_no (by kernel_rfl) ?_
          refine s_qk (.bool false) (by kernel_rfl) ?_
          refine s_qk (.bool false) (by kernel_rfl) ?_
          refine s_nil ?_
          refine k94 _ _ ?_
          refine w_ret ?_
          refine b_ret (fn := Go.Proofs.Tryd.f3) (vs := [.bool false]) (aRes_tmp (by kernel_rfl) (rfl)) ?_
          obtain rfl := Option.some.inj r213
          exact ⟨rfl, (FrS.step wf (FrS.step wf ((FrS.step wf (FrS.step wf (FrS.step wf (FrS.step wf (FrS.refl (W := []) wf) e27 Inn.nil) e41 Inn.nil) e57 Inn.nil) e77 Inn.nil).extR e86) e92 (hb87.fresh (Nat.le_trans (Nat.le_trans (Nat.le_trans e27.next e41.next) e57.next) e77.next))) e110 Inn.nil)⟩
      · have r215 := ite_f h102 r99
        rw [nb h102]
        refine s_qk (.bool false) (by kernel_rfl) ?_
        refine s_no (by kernel_rfl) ?_
        refine s_no (by kernel_rfl) ?_
        refine s_no (by kernel_rfl) ?_
        refine s_qk (.bool false) (by kernel_rfl) ?_
        refine s_qk (.bool false) (by kernel_rfl) ?_
        refine s_no (by kernel_rfl) ?_
        refine s_no (by kernel_rfl) ?_
        refine s_no (by kernel_rfl) ?_
        refine s_no (by kernel_rfl) ?_
        refine s_no (by kernel_rfl) ?_
        refine s_no (by kernel_rfl) ?_
        refine s_qk (.bool false) (by kernel_rfl) ?_
        refine s_qk (.bool false) (by kernel_rfl) ?_
        refine s_no (by kernel_rfl) ?_
        refine s_no (by kernel_rfl) ?_
        refine s_no (by kernel_rfl) ?_
        refine s_no (by kernel_rfl) ?_
        refine s_no (by kernel_rfl) ?_
        refine s_no (by kernel_rfl) ?_
        refine s_qk (.bool false) (by kernel_rfl) ?_
        refine s_qk (.bool false) (by kernel_rfl) ?_
        refine s_nil ?_
        refine k94 _ _ ?_
        refine w_ret ?_
        refine b_ret (fn := Go.Proofs.Tryd.f3) (vs := [.bool false]) (aRes_tmp (by kernel_rfl) (rfl)) ?_
        obtain rfl := Option.some.inj r215
        exact ⟨rfl, (FrS.step wf ((FrS.step wf (FrS.step wf (FrS.step wf (FrS.step wf (FrS.refl (W := []) wf) e27 Inn.nil) e41 Inn.nil) e57 Inn.nil) e77 Inn.nil).extR e86) e92 (hb87.fresh (Nat.le_trans (Nat.le_trans (Nat.le_trans e27.next e41.next) e57.next) e77.next)))⟩


end Go.Vd
