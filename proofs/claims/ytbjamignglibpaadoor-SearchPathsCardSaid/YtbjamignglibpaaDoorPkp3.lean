/- The walks of the functions (printed by a program of ours). -/
import Derived.Test.YtbjamignglibpaaDoorPkp2
import Derived.Test.YtbjamignglibpaaDoorISq
set_option linter.unusedVariables false
set_option linter.unusedSimpArgs false
set_option linter.unusedSectionVars false
/-! (KSq3) -/

set_option maxRecDepth 100000
set_option maxHeartbeats 4000000
set_option linter.unusedVariables false
namespace Go.Vd
open Go.Proofs
attribute [local irreducible] wpSeq wpOrd aWp
theorem c_search_state_settle {H : AH} {b_st : Nat} {hd_st_ : Value} {fp_st_ : Fp} {hd_st_2 : Value} {fp_st_2 : Fp} {hd_st_3 : Value} {fp_st_3 : Fp} {b_st_4 : Nat} {hd_st_5 : Value} {fp_st_5 : Fp} {hd_st_6 : Value} {fp_st_6 : Fp} {b_st_7 : Nat} {hd_st_8 : Value} {fp_st_8 : Fp} {hd_st_11 : Value} {fp_st_11 : Fp} {hd_st_12 : Value} {fp_st_12 : Fp} {st_ : List (Int)} {st_2 : List (Int)} {st_3 : List (Int)} {st_5 : List (Int × Int)} {st_6 : List (Int)} {st_8 : List (Int × Int)} {st_9 : Int} {st_10 : Int} {st_11 : List (Int)} {st_12 : List (Bool)} {v_ : Int} {d : Int} {hops : Int} {r : List (Int) × List (Int × Int) × List (Int × Int) × Int × List (Int) × List (Bool)}
  (wf : WF H) (h_st_ : Sq (encI .i64) 1 H hd_st_ st_ fp_st_) (h_st_2 : Sq (encI .i64) 1 H hd_st_2 st_2 fp_st_2) (h_st_3 : Sq (encI .i64) 1 H hd_st_3 st_3 fp_st_3) (h_st_5 : Ow enc_u64_u32 2 H hd_st_5 st_5 fp_st_5) (h_st_6 : Ow (encI .i64) 1 H hd_st_6 st_6 fp_st_6) (h_st_4 : Row H b_st_4 [hd_st_5, hd_st_6]) (h_st_8 : Ow enc_u64_u32 2 H hd_st_8 st_8 fp_st_8) (h_st_7 : Row H b_st_7 [hd_st_8, .int .u32 st_9, .int .i64 st_10]) (h_st_11 : Ow (encI .i64) 1 H hd_st_11 st_11 fp_st_11) (h_st_12 : Ow encB 1 H hd_st_12 st_12 fp_st_12) (h_st : Row H b_st [hd_st_, hd_st_2, hd_st_3, .pointer (some ⟨b_st_4, 0, none⟩), .pointer (some ⟨b_st_7, 0, none⟩), hd_st_11, hd_st_12]) (dj_fp_st_12_b_st : Dj fp_st_12 [b_st]) (dj_fp_st_12_fp_st_11 : Dj fp_st_12 fp_st_11) (dj_fp_st_12_fp_st_6 : Dj fp_st_12 fp_st_6) (dj_fp_st_12_fp_st_5 : Dj fp_st_12 fp_st_5) (dj_fp_st_12_b_st_4 : Dj fp_st_12 [b_st_4]) (dj_fp_st_12_fp_st_8 : Dj fp_st_12 fp_st_8) (dj_fp_st_12_b_st_7 : Dj fp_st_12 [b_st_7]) (dj_fp_st_12_fp_st_ : Dj fp_st_12 fp_st_) (dj_fp_st_12_fp_st_2 : Dj fp_st_12 fp_st_2) (dj_fp_st_12_fp_st_3 : Dj fp_st_12 fp_st_3) (dj_b_st_7_fp_st_8 : Dj [b_st_7] fp_st_8) (dj_fp_st_8_b_st : Dj fp_st_8 [b_st]) (dj_b_st_7_b_st : Dj [b_st_7] [b_st]) (dj_fp_st_8_fp_st_11 : Dj fp_st_8 fp_st_11) (dj_b_st_7_fp_st_11 : Dj [b_st_7] fp_st_11) (dj_fp_st_11_b_st : Dj fp_st_11 [b_st]) (dj_fp_st_8_fp_st_5 : Dj fp_st_8 fp_st_5) (dj_b_st_7_fp_st_5 : Dj [b_st_7] fp_st_5) (dj_fp_st_11_fp_st_5 : Dj fp_st_11 fp_st_5) (dj_fp_st_8_fp_st_6 : Dj fp_st_8 fp_st_6) (dj_b_st_7_fp_st_6 : Dj [b_st_7] fp_st_6) (dj_fp_st_11_fp_st_6 : Dj fp_st_11 fp_st_6) (dj_fp_st_8_b_st_4 : Dj fp_st_8 [b_st_4]) (dj_b_st_7_b_st_4 : Dj [b_st_7] [b_st_4]) (dj_fp_st_11_b_st_4 : Dj fp_st_11 [b_st_4]) (dj_fp_st_5_b_st_4 : Dj fp_st_5 [b_st_4]) (dj_fp_st_5_fp_st_6 : Dj fp_st_5 fp_st_6) (dj_b_st_4_fp_st_6 : Dj [b_st_4] fp_st_6) (dj_fp_st_6_b_st : Dj fp_st_6 [b_st]) (dj_fp_st_5_b_st : Dj fp_st_5 [b_st]) (dj_b_st_4_b_st : Dj [b_st_4] [b_st]) (dj_fp_st_8_fp_st_ : Dj fp_st_8 fp_st_) (dj_fp_st_6_fp_st_ : Dj fp_st_6 fp_st_) (dj_fp_st_5_fp_st_ : Dj fp_st_5 fp_st_) (dj_fp_st_11_fp_st_ : Dj fp_st_11 fp_st_) (dj_b_st_7_fp_st_ : Dj [b_st_7] fp_st_) (dj_b_st_4_fp_st_ : Dj [b_st_4] fp_st_) (dj_fp_st_8_fp_st_2 : Dj fp_st_8 fp_st_2) (dj_fp_st_6_fp_st_2 : Dj fp_st_6 fp_st_2) (dj_fp_st_5_fp_st_2 : Dj fp_st_5 fp_st_2) (dj_fp_st_11_fp_st_2 : Dj fp_st_11 fp_st_2) (dj_b_st_7_fp_st_2 : Dj [b_st_7] fp_st_2) (dj_b_st_4_fp_st_2 : Dj [b_st_4] fp_st_2) (dj_fp_st_8_fp_st_3 : Dj fp_st_8 fp_st_3) (dj_fp_st_6_fp_st_3 : Dj fp_st_6 fp_st_3) (dj_fp_st_5_fp_st_3 : Dj fp_st_5 fp_st_3) (dj_fp_st_11_fp_st_3 : Dj fp_st_11 fp_st_3) (dj_b_st_7_fp_st_3 : Dj [b_st_7] fp_st_3) (dj_b_st_4_fp_st_3 : Dj [b_st_4] fp_st_3) (dj_fp_st_8_fp_st_12 : Dj fp_st_8 fp_st_12) (dj_fp_st_6_fp_st_12 : Dj fp_st_6 fp_st_12) (dj_fp_st_5_fp_st_12 : Dj fp_st_5 fp_st_12) (dj_b_st_7_fp_st_12 : Dj [b_st_7] fp_st_12) (dj_b_st_4_fp_st_12 : Dj [b_st_4] fp_st_12) (dj_fp_st_5_fp_st_8 : Dj fp_st_5 fp_st_8) (dj_fp_st_5_b_st_7 : Dj fp_st_5 [b_st_7]) (dj_fp_st_5_fp_st_11 : Dj fp_st_5 fp_st_11) (hr : z_search_state_settle st_ st_2 st_3 st_5 st_6 st_8 st_9 st_10 st_11 st_12 v_ d hops = some r) :
  ACalls Tryd.prog 80 #[.pointer (some ⟨b_st, 0, none⟩), .int .i64 v_, .int .u64 d, .int .i64 hops] H fun v H' => ∃ (s5 : Value) (f6 : Fp), v = .tuple #[] ∧ FrS ([b_st_4] ++ ([b_st_7] ++ (fp_st_11 ++ (fp_st_12 ++ (fp_st_5 ++ (fp_st_6 ++ fp_st_8)))))) H H' ∧ Ow (encI .i64) 1 H' hd_st_6 r.1 fp_st_6 ∧ Ow enc_u64_u32 2 H' s5 r.2.1 f6 ∧ Row H' b_st_4 [s5, hd_st_6] ∧ Ow enc_u64_u32 2 H' hd_st_8 r.2.2.1 fp_st_8 ∧ Row H' b_st_7 [hd_st_8, .int .u32 st_9, .int .i64 r.2.2.2.1] ∧ Ow (encI .i64) 1 H' hd_st_11 r.2.2.2.2.1 fp_st_11 ∧ Ow encB 1 H' hd_st_12 r.2.2.2.2.2 fp_st_12 ∧ Inn fp_st_5 H f6 := by
 refine acalls_of_body mixed Tryd.func80 rfl (Nat.le_of_ble_eq_true rfl) ?_
 unfold z_search_state_settle at hr
 refine w_seqk fun K18 k18 => ?_
 refine w_reg (by kernel_rfl) ?_
 refine s_qk (.pointer (some ⟨b_st, 0, none⟩)) (by kernel_rfl) ?_
 refine s_qk (.pointer (some ⟨b_st, 0, none⟩)) (by kernel_rfl) ?_
 refine s_qk (.pointer (some ⟨b_st, 6, none⟩)) (by kernel_rfl) ?_
 refine s_ql (hd_st_12) (x := aLoad Tryd.prog 104 (.pointer (some ⟨b_st, 6, none⟩)) H) (by kernel_rfl) (h_st.ld (by kernel_rfl)) ?_
 refine s_qk (.int .i64 v_) (by kernel_rfl) ?_
 obtain ⟨g19, r20⟩ := G_some hr
 refine s_ql (elp hd_st_12 1 v_.toNat 0) (x := aIndexAddr Tryd.prog 104 hd_st_12 (.int .i64 v_)) (by kernel_rfl) (h_st_12.sq.idxb (by kernel_rfl) g19.1 g19.2) ?_
 obtain ⟨H21, q22, e23, hm24⟩ := Ow.store (P := Tryd.prog) (t := 4) (off := 0) wf h_st_12 g19.1 g19.2 (.bool true) [.bool true] (by kernel_rfl) (by kernel_rfl) rfl true (Nat.le_of_ble_eq_true rfl) (by kernel_rfl)
 refine s_ek (undef) (by kernel_rfl) (map_ok q22) ?_
 refine s_nil ?_
 refine k18 _ _ ?_
 refine w_seqk fun K25 k25 => ?_
 refine w_seqk fun K26 k26 => ?_
 refine w_reg (by kernel_rfl) ?_
 refine s_qk (.pointer (some ⟨b_st, 0, none⟩)) (by kernel_rfl) ?_
 refine s_qk (.pointer (some ⟨b_st, 0, none⟩)) (by kernel_rfl) ?_
 refine s_qk (.pointer (some ⟨b_st, 5, none⟩)) (by kernel_rfl) ?_
 have u27 := (h_st.frS e23 dj_fp_st_12_b_st)
 refine s_ql (hd_st_11) (x := aLoad Tryd.prog 22 (.pointer (some ⟨b_st, 5, none⟩)) H21) (by kernel_rfl) (u27.ld (by kernel_rfl)) ?_
 refine s_qk (.int .i64 v_) (by kernel_rfl) ?_
 obtain ⟨g28, r29⟩ := G_some r20
 have u30 := (h_st_11.fr e23 dj_fp_st_12_fp_st_11)
 refine s_ql (elp hd_st_11 1 v_.toNat 0) (x := aIndexAddr Tryd.prog 22 hd_st_11 (.int .i64 v_)) (by kernel_rfl) (u30.sq.idxb (by kernel_rfl) g19.1 g28) ?_
 refine s_ql (.int .i64 (gt st_11 v_)) (x := aLoad Tryd.prog 3 (elp hd_st_11 1 v_.toNat 0) H21) (by kernel_rfl) (u30.sq.ld g19.1 g28 (by kernel_rfl)) ?_
 refine s_qk (.int .i64 hops) (by kernel_rfl) ?_
 refine s_qk (.bool (decide ((gt st_11 v_) ≥ hops))) (by kernel_rfl) ?_
 refine s_nil ?_
 refine k26 _ _ ?_
 refine w_condp ((gt st_11 v_) ≥ hops) (by kernel_rfl) rfl (fun h31 => ?_) (fun h31 => ?_)
 ·have r32 := ite_t h31 r29
  refine w_ret (th_ret ?_)
  refine b_ret (fn := Tryd.f80) (vs := []) (rfl) ?_
  have u33 := (h_st_6.fr e23 dj_fp_st_12_fp_st_6)
  have u34 := (h_st_5.fr e23 dj_fp_st_12_fp_st_5)
  have u35 := (h_st_4.frS e23 dj_fp_st_12_b_st_4)
  have u36 := (h_st_8.fr e23 dj_fp_st_12_fp_st_8)
  have u37 := (h_st_7.frS e23 dj_fp_st_12_b_st_7)
  obtain rfl := Option.some.inj r32
  exact ⟨(hd_st_5), fp_st_5, rfl, (FrS.step wf (FrS.refl (W := ([b_st_4] ++ ([b_st_7] ++ (fp_st_11 ++ (fp_st_12 ++ (fp_st_5 ++ (fp_st_6 ++ fp_st_8))))))) wf) e23 (Inn.right (Inn.right (Inn.right Inn.left)))), u33, u34, u35, u36, u37, u30, hm24, Inn.refl'⟩
 ·have r38 := ite_f h31 r29
  refine w_skip ?_
  refine k25 _ _ ?_
  refine w_seqk fun K39 k39 => ?_
  refine w_reg (by kernel_rfl) ?_
  refine s_qk (.pointer (some ⟨b_st, 0, none⟩)) (by kernel_rfl) ?_
  refine s_qk (.pointer (some ⟨b_st, 0, none⟩)) (by kernel_rfl) ?_
  refine s_qk (.pointer (some ⟨b_st, 0, none⟩)) (by kernel_rfl) ?_
  refine s_qk (.pointer (some ⟨b_st, 0, none⟩)) (by kernel_rfl) ?_
  refine s_ql (hd_st_) (x := aLoad Tryd.prog 22 (.pointer (some ⟨b_st, 0, none⟩)) H21) (by kernel_rfl) (u27.ld (by kernel_rfl)) ?_
  refine s_qk (.int .i64 v_) (by kernel_rfl) ?_
  obtain ⟨g40, r41⟩ := G_some r38
  have u42 := (h_st_.fr e23 dj_fp_st_12_fp_st_)
  refine s_ql (elp hd_st_ 1 v_.toNat 0) (x := aIndexAddr Tryd.prog 22 hd_st_ (.int .i64 v_)) (by kernel_rfl) (u42.idxb (by kernel_rfl) g19.1 g40) ?_
  refine s_ql (.int .i64 (gt st_ v_)) (x := aLoad Tryd.prog 3 (elp hd_st_ 1 v_.toNat 0) H21) (by kernel_rfl) (u42.ld g19.1 g40 (by kernel_rfl)) ?_
  refine s_qk (.int .i64 (gt st_ v_)) (by kernel_rfl) ?_
  refine s_nil ?_
  refine k39 _ _ ?_
  obtain ⟨o43, hx44, r45⟩ := bind_some r41
  refine w_mid (fun α H46 => ∃ (s52 : Value) (f53 : Fp), Has α [] ∧ FrS ([b_st_4] ++ ([b_st_7] ++ (fp_st_11 ++ (fp_st_5 ++ (fp_st_6 ++ fp_st_8))))) H21 H46 ∧ Ow (encI .i64) 1 H46 hd_st_6 o43.1 fp_st_6 ∧ Ow enc_u64_u32 2 H46 s52 o43.2.1 f53 ∧ Row H46 b_st_4 [s52, hd_st_6] ∧ Ow enc_u64_u32 2 H46 hd_st_8 o43.2.2.1 fp_st_8 ∧ Row H46 b_st_7 [hd_st_8, .int .u32 st_9, .int .i64 o43.2.2.2.1] ∧ Ow (encI .i64) 1 H46 hd_st_11 o43.2.2.2.2 fp_st_11 ∧ Inn fp_st_5 H21 f53) (fun K63 k63 => ?_) (fun α H46 hM => ?_)
  ·refine w_block ?_
   obtain ⟨n65, hn66⟩ := loopO_iff.1 hx44
   have u90 := (h_st_5.fr e23 dj_fp_st_12_fp_st_5)
   have u91 := (h_st_6.fr e23 dj_fp_st_12_fp_st_6)
   have u92 := (h_st_4.frS e23 dj_fp_st_12_b_st_4)
   have u93 := (h_st_8.fr e23 dj_fp_st_12_fp_st_8)
   have u94 := (h_st_7.frS e23 dj_fp_st_12_b_st_7)
   refine w_loopn (fun n α H67 => ∃ (st0 : List (Int × Int)), ∃ (st1 : List (Int)), ∃ (st2 : List (Int × Int)), ∃ (st3 : Int), ∃ (st4 : List (Int)), ∃ (i5 : Int), ∃ (s71 : Value), ∃ (f72 : Fp), iterO (fun zz_ => z_search_state_settle_l0 st_ st_2 st_3 st_9 st_12 v_ d zz_.1 zz_.2.1 zz_.2.2.1 zz_.2.2.2.1 zz_.2.2.2.2.1 zz_.2.2.2.2.2) n (st0, st1, st2, st3, st4, i5) = some o43 ∧ Has α [(0, .pointer (some ⟨b_st, 0, none⟩)), (1, .int .i64 v_), (2, .int .u64 d), (8, .int .i64 i5)] ∧ FrS ([b_st_4] ++ ([b_st_7] ++ (fp_st_11 ++ (fp_st_5 ++ (fp_st_6 ++ fp_st_8))))) H21 H67 ∧ Ow enc_u64_u32 2 H67 s71 st0 f72 ∧ Ow (encI .i64) 1 H67 hd_st_6 st1 fp_st_6 ∧ Row H67 b_st_4 [s71, hd_st_6] ∧ Ow enc_u64_u32 2 H67 hd_st_8 st2 fp_st_8 ∧ Row H67 b_st_7 [hd_st_8, .int .u32 st_9, .int .i64 st3] ∧ Ow (encI .i64) 1 H67 hd_st_11 st4 fp_st_11 ∧ Inn fp_st_5 H21 f72) n65 ⟨st_5, st_6, st_8, st_10, st_11, (gt st_ v_), (hd_st_5), fp_st_5, hn66, ⟨by kernel_rfl, by kernel_rfl, by kernel_rfl, by kernel_rfl, trivial⟩, (FrS.refl (W := ([b_st_4] ++ ([b_st_7] ++ (fp_st_11 ++ (fp_st_5 ++ (fp_st_6 ++ fp_st_8)))))) e23.wf), u90, u91, u92, u93, u94, u30, Inn.refl'⟩ ?_
   rintro n65 α H67 ⟨st0, st1, st2, st3, st4, i5, s71, f72, hi85, hh84, e68, m70, m74, m76, m78, m80, m82, i83⟩ K95 k95
   obtain ⟨n86, z87, rfl, hz88, hn89⟩ := iter_succ hi85
   obtain ⟨β, rfl⟩ := has_ex hh84
   clear hh84
   replace hz88 : z_search_state_settle_l0 st_ st_2 st_3 st_9 st_12 v_ d st0 st1 st2 st3 st4 i5 = some z87 := hz88
   unfold z_search_state_settle_l0 at hz88
   obtain ⟨a96, n97, c98, rfl⟩ := m70.form
   refine w_seqk fun K99 k99 => ?_
   refine w_seqk fun K100 k100 => ?_
   refine w_reg (by kernel_rfl) ?_
   refine s_qk (.int .i64 i5) (by kernel_rfl) ?_
   refine s_qk (.pointer (some ⟨b_st, 0, none⟩)) (by kernel_rfl) ?_
   refine s_qk (.pointer (some ⟨b_st, 0, none⟩)) (by kernel_rfl) ?_
   refine s_qk (.pointer (some ⟨b_st, 0, none⟩)) (by kernel_rfl) ?_
   refine s_qk (.pointer (some ⟨b_st, 0, none⟩)) (by kernel_rfl) ?_
   have u101 := (u27.frS e68 (Dj.app dj_b_st_4_b_st (Dj.app dj_b_st_7_b_st (Dj.app dj_fp_st_11_b_st (Dj.app dj_fp_st_5_b_st (Dj.app dj_fp_st_6_b_st dj_fp_st_8_b_st))))))
   refine s_ql (hd_st_) (x := aLoad Tryd.prog 22 (.pointer (some ⟨b_st, 0, none⟩)) H67) (by kernel_rfl) (u101.ld (by kernel_rfl)) ?_
   refine s_qk (.int .i64 v_) (by kernel_rfl) ?_
   obtain ⟨g102, r103⟩ := G_some hz88
   refine s_w ((v_ + 1)) (k := .i64) (x := (v_ + 1)) (by kernel_rfl) (wrap64 (by have := g102; omega)) ?_
   obtain ⟨g104, r105⟩ := G_some r103
   have u106 := (u42.fr e68 (Dj.app dj_b_st_4_fp_st_ (Dj.app dj_b_st_7_fp_st_ (Dj.app dj_fp_st_11_fp_st_ (Dj.app dj_fp_st_5_fp_st_ (Dj.app dj_fp_st_6_fp_st_ dj_fp_st_8_fp_st_))))))
   refine s_ql (elp hd_st_ 1 (v_ + 1).toNat 0) (x := aIndexAddr Tryd.prog 22 hd_st_ (.int .i64 (v_ + 1))) (by kernel_rfl) (u106.idxb (by kernel_rfl) g104.1 g104.2) ?_
   refine s_ql (.int .i64 (gt st_ (v_ + 1))) (x := aLoad Tryd.prog 3 (elp hd_st_ 1 (v_ + 1).toNat 0) H67) (by kernel_rfl) (u106.ld g104.1 g104.2 (by kernel_rfl)) ?_
   refine s_qk (.bool (decide (i5 < (gt st_ (v_ + 1))))) (by kernel_rfl) ?_
   refine s_nil ?_
   refine k100 _ _ ?_
   refine w_condp (i5 < (gt st_ (v_ + 1))) (by kernel_rfl) rfl (fun h107 => ?_) (fun h107 => ?_)
   ·have r108 := ite_t h107 r105
    refine w_skip ?_
    refine k99 _ _ ?_
    refine w_seqk fun K109 k109 => ?_
    refine w_block ?_
    refine w_seqk fun K110 k110 => ?_
    refine w_draw [0, 1, 2, 3, 4, 5, 6, 7, 8, 9, 10, 11, 12, 13, 14, 15, 16, 17, 18, 19, 20] (by kernel_rfl) ?_
    refine d_qk (.pointer (some ⟨b_st, 0, none⟩)) (by kernel_rfl) ?_
    refine d_qk (.pointer (some ⟨b_st, 0, none⟩)) (by kernel_rfl) ?_
    refine d_qk (.pointer (some ⟨b_st, 0, none⟩)) (by kernel_rfl) ?_
    refine d_qk (.pointer (some ⟨b_st, 1, none⟩)) (by kernel_rfl) ?_
    refine d_ql (hd_st_2) (x := aLoad Tryd.prog 22 (.pointer (some ⟨b_st, 1, none⟩)) H67) (by kernel_rfl) (u101.ld (by kernel_rfl)) ?_
    refine d_qk (.int .i64 i5) (by kernel_rfl) ?_
    obtain ⟨g111, r112⟩ := G_some r108
    have u113 := ((h_st_2.fr e23 dj_fp_st_12_fp_st_2).fr e68 (Dj.app dj_b_st_4_fp_st_2 (Dj.app dj_b_st_7_fp_st_2 (Dj.app dj_fp_st_11_fp_st_2 (Dj.app dj_fp_st_5_fp_st_2 (Dj.app dj_fp_st_6_fp_st_2 dj_fp_st_8_fp_st_2))))))
    refine d_ql (elp hd_st_2 1 i5.toNat 0) (x := aIndexAddr Tryd.prog 22 hd_st_2 (.int .i64 i5)) (by kernel_rfl) (u113.idxb (by kernel_rfl) g111.1 g111.2) ?_
    refine d_ql (.int .i64 (gt st_2 i5)) (x := aLoad Tryd.prog 3 (elp hd_st_2 1 i5.toNat 0) H67) (by kernel_rfl) (u113.ld g111.1 g111.2 (by kernel_rfl)) ?_
    refine d_qk (.int .u64 d) (by kernel_rfl) ?_
    refine d_qk (.pointer (some ⟨b_st, 0, none⟩)) (by kernel_rfl) ?_
    refine d_qk (.pointer (some ⟨b_st, 0, none⟩)) (by kernel_rfl) ?_
    refine d_qk (.pointer (some ⟨b_st, 0, none⟩)) (by kernel_rfl) ?_
    refine d_qk (.pointer (some ⟨b_st, 2, none⟩)) (by kernel_rfl) ?_
    refine d_ql (hd_st_3) (x := aLoad Tryd.prog 22 (.pointer (some ⟨b_st, 2, none⟩)) H67) (by kernel_rfl) (u101.ld (by kernel_rfl)) ?_
    refine d_qk (.int .i64 i5) (by kernel_rfl) ?_
    obtain ⟨g114, r115⟩ := G_some r112
    have u116 := ((h_st_3.fr e23 dj_fp_st_12_fp_st_3).fr e68 (Dj.app dj_b_st_4_fp_st_3 (Dj.app dj_b_st_7_fp_st_3 (Dj.app dj_fp_st_11_fp_st_3 (Dj.app dj_fp_st_5_fp_st_3 (Dj.app dj_fp_st_6_fp_st_3 dj_fp_st_8_fp_st_3))))))
    refine d_ql (elp hd_st_3 1 i5.toNat 0) (x := aIndexAddr Tryd.prog 22 hd_st_3 (.int .i64 i5)) (by kernel_rfl) (u116.idxb (by kernel_rfl) g111.1 g114) ?_
    refine d_ql (.int .i64 (gt st_3 i5)) (x := aLoad Tryd.prog 3 (elp hd_st_3 1 i5.toNat 0) H67) (by kernel_rfl) (u116.ld g111.1 g114 (by kernel_rfl)) ?_
    obtain ⟨g117, r118⟩ := G_some r115
    refine d_w ((gt st_3 i5)) (k := .u64) (x := (gt st_3 i5)) (by kernel_rfl) (wrapu64 g117) ?_
    obtain ⟨g119, r120⟩ := G_some r118
    refine d_w ((d + (gt st_3 i5))) (k := .u64) (x := (d + (gt st_3 i5))) (by kernel_rfl) (wrapu64 g119) ?_
    refine d_qk (.int .i64 (gt st_2 i5)) (by kernel_rfl) ?_
    refine d_qk (.int .u64 (d + (gt st_3 i5))) (by kernel_rfl) ?_
    refine d_nil ?_
    refine k110 _ _ ?_
    refine w_seqk fun K121 k121 => ?_
    refine w_reg (by kernel_rfl) ?_
    refine s_qk (.pointer (some ⟨b_st, 0, none⟩)) (by kernel_rfl) ?_
    refine s_qk (.pointer (some ⟨b_st, 0, none⟩)) (by kernel_rfl) ?_
    refine s_qk (.pointer (some ⟨b_st, 4, none⟩)) (by kernel_rfl) ?_
    refine s_ql (.pointer (some ⟨b_st_7, 0, none⟩)) (x := aLoad Tryd.prog 103 (.pointer (some ⟨b_st, 4, none⟩)) H67) (by kernel_rfl) (u101.ld (by kernel_rfl)) ?_
    refine s_qk (.int .i64 (gt st_2 i5)) (by kernel_rfl) ?_
    obtain ⟨y122, hy123, r124⟩ := bind_some r120
    refine s_ck 62 #[.pointer (some ⟨b_st_7, 0, none⟩), .int .i64 (gt st_2 i5)] (by kernel_rfl) (c_stamp_Stamp_Get e68.wf m78.sq m80 hy123) ?_
    rintro _ _ ⟨rfl, rfl⟩
    refine s_qk (.tuple #[.int .u64 y122.1, .bool y122.2]) (by kernel_rfl) ?_
    refine s_qk (.int .u64 y122.1) (by kernel_rfl) ?_
    refine s_qk (.bool y122.2) (by kernel_rfl) ?_
    refine s_qk (.int .u64 y122.1) (by kernel_rfl) ?_
    refine s_qk (.bool y122.2) (by kernel_rfl) ?_
    refine s_nil ?_
    refine k121 _ _ ?_
    refine w_seqk fun K127 k127 => ?_
    obtain ⟨o128, hx129, r130⟩ := bind_some r124
    refine w_mid (fun α H131 => Has α [(0, .pointer (some ⟨b_st, 0, none⟩)), (1, .int .i64 v_), (2, .int .u64 d), (8, .int .i64 i5), (9, .int .i64 (gt st_2 i5)), (10, .int .u64 (d + (gt st_3 i5))), (93, .bool o128)] ∧ H67 = H131) (fun K133 k133 => ?_) (fun α H131 hM => ?_)
    ·refine w_reg (by kernel_rfl) ?_
     refine s_qk (.pointer (some ⟨b_st, 0, none⟩)) (by kernel_rfl) ?_
     refine s_qk (.pointer (some ⟨b_st, 0, none⟩)) (by kernel_rfl) ?_
     refine s_qk (.pointer (some ⟨b_st, 6, none⟩)) (by kernel_rfl) ?_
     refine s_ql (hd_st_12) (x := aLoad Tryd.prog 104 (.pointer (some ⟨b_st, 6, none⟩)) H67) (by kernel_rfl) (u101.ld (by kernel_rfl)) ?_
     refine s_qk (.int .i64 (gt st_2 i5)) (by kernel_rfl) ?_
     obtain ⟨g135, r136⟩ := G_some hx129
     have u137 := (hm24.fr e68 (Dj.app dj_b_st_4_fp_st_12 (Dj.app dj_b_st_7_fp_st_12 (Dj.app (Dj.symm dj_fp_st_12_fp_st_11) (Dj.app dj_fp_st_5_fp_st_12 (Dj.app dj_fp_st_6_fp_st_12 dj_fp_st_8_fp_st_12))))))
     refine s_ql (elp hd_st_12 1 (gt st_2 i5).toNat 0) (x := aIndexAddr Tryd.prog 104 hd_st_12 (.int .i64 (gt st_2 i5))) (by kernel_rfl) (u137.sq.idxb (by kernel_rfl) g135.1 g135.2) ?_
     refine s_ql (.bool (gt (st_12.set v_.toNat true) (gt st_2 i5))) (x := aLoad Tryd.prog 4 (elp hd_st_12 1 (gt st_2 i5).toNat 0) H67) (by kernel_rfl) (u137.sq.ld g135.1 g135.2 (by kernel_rfl)) ?_
     refine s_qk (.bool (!(gt (st_12.set v_.toNat true) (gt st_2 i5)))) (by kernel_rfl) ?_
     refine s_qk (.bool (!(gt (st_12.set v_.toNat true) (gt st_2 i5)))) (by kernel_rfl) ?_
     by_cases h138 : (!(gt (st_12.set v_.toNat true) (gt st_2 i5))) = true
     ·have r139 := ite_t h138 r136
      rw [h138]
      refine s_qk (.bool y122.2) (by kernel_rfl) ?_
      refine s_qk (.bool (!y122.2)) (by kernel_rfl) ?_
      refine s_qk (.bool (!y122.2)) (by kernel_rfl) ?_
      by_cases h140 : (!y122.2) = true
      ·have r141 := ite_t h140 r139
       rw [h140]
       refine s_no (by kernel_rfl) ?_
       refine s_no (by kernel_rfl) ?_
       refine s_no (by kernel_rfl) ?_
       refine s_qk (.bool true) (by kernel_rfl) ?_
       refine s_qk (.bool true) (by kernel_rfl) ?_
       refine s_nil ?_
       obtain rfl := Option.some.inj r141
       exact k133 _ _ ⟨⟨by kernel_rfl, by kernel_rfl, by kernel_rfl, by kernel_rfl, by kernel_rfl, by kernel_rfl, by kernel_rfl, trivial⟩, rfl⟩
      ·have r142 := ite_f h140 r139
       rw [nb h140]
       refine s_qk (.int .u64 (d + (gt st_3 i5))) (by kernel_rfl) ?_
       refine s_qk (.int .u64 y122.1) (by kernel_rfl) ?_
       refine s_qk (.bool (decide ((d + (gt st_3 i5)) < y122.1))) (by kernel_rfl) ?_
       refine s_qk (.bool (decide ((d + (gt st_3 i5)) < y122.1))) (by kernel_rfl) ?_
       refine s_qk (.bool (decide ((d + (gt st_3 i5)) < y122.1))) (by kernel_rfl) ?_
       refine s_nil ?_
       obtain rfl := Option.some.inj r142
       exact k133 _ _ ⟨⟨by kernel_rfl, by kernel_rfl, by kernel_rfl, by kernel_rfl, by kernel_rfl, by kernel_rfl, by kernel_rfl, trivial⟩, rfl⟩
     ·have r143 := ite_f h138 r136
      rw [nb h138]
      refine s_no (by kernel_rfl) ?_
      refine s_no (by kernel_rfl) ?_
      refine s_no (by kernel_rfl) ?_
      refine s_no (by kernel_rfl) ?_
      refine s_no (by kernel_rfl) ?_
      refine s_no (by kernel_rfl) ?_
      refine s_no (by kernel_rfl) ?_
      refine s_qk (.bool false) (by kernel_rfl) ?_
      refine s_nil ?_
      obtain rfl := Option.some.inj r143
      exact k133 _ _ ⟨⟨by kernel_rfl, by kernel_rfl, by kernel_rfl, by kernel_rfl, by kernel_rfl, by kernel_rfl, by kernel_rfl, trivial⟩, rfl⟩
    ·obtain ⟨hh134, rfl⟩ := hM
     obtain ⟨β, rfl⟩ := has_ex hh134
     clear hh134
     refine k127 _ _ ?_
     refine w_cond (o128) (by kernel_rfl) rfl (fun h144 => ?_) (fun h144 => ?_)
     ·have r145 := ite_t h144 r130
      refine w_reg (by kernel_rfl) ?_
      refine s_qk (.pointer (some ⟨b_st, 0, none⟩)) (by kernel_rfl) ?_
      refine s_qk (.int .i64 (gt st_2 i5)) (by kernel_rfl) ?_
      refine s_qk (.int .u64 (d + (gt st_3 i5))) (by kernel_rfl) ?_
      refine s_qk (.pointer (some ⟨b_st, 0, none⟩)) (by kernel_rfl) ?_
      refine s_qk (.pointer (some ⟨b_st, 0, none⟩)) (by kernel_rfl) ?_
      refine s_qk (.pointer (some ⟨b_st, 5, none⟩)) (by kernel_rfl) ?_
      refine s_ql (hd_st_11) (x := aLoad Tryd.prog 22 (.pointer (some ⟨b_st, 5, none⟩)) H67) (by kernel_rfl) (u101.ld (by kernel_rfl)) ?_
      refine s_qk (.int .i64 v_) (by kernel_rfl) ?_
      obtain ⟨g146, r147⟩ := G_some r145
      refine s_ql (elp hd_st_11 1 v_.toNat 0) (x := aIndexAddr Tryd.prog 22 hd_st_11 (.int .i64 v_)) (by kernel_rfl) (m82.sq.idxb (by kernel_rfl) g19.1 g146) ?_
      refine s_ql (.int .i64 (gt st4 v_)) (x := aLoad Tryd.prog 3 (elp hd_st_11 1 v_.toNat 0) H67) (by kernel_rfl) (m82.sq.ld g19.1 g146 (by kernel_rfl)) ?_
      obtain ⟨g148, r149⟩ := G_some r147
      refine s_w (((gt st4 v_) + 1)) (k := .i64) (x := ((gt st4 v_) + 1)) (by kernel_rfl) (wrap64 g148) ?_
      have u150 := (hm24.fr e68 (Dj.app dj_b_st_4_fp_st_12 (Dj.app dj_b_st_7_fp_st_12 (Dj.app (Dj.symm dj_fp_st_12_fp_st_11) (Dj.app dj_fp_st_5_fp_st_12 (Dj.app dj_fp_st_6_fp_st_12 dj_fp_st_8_fp_st_12))))))
      obtain ⟨y151, hy152, r153⟩ := bind_some r149
      refine s_ck 77 #[.pointer (some ⟨b_st, 0, none⟩), .int .i64 (gt st_2 i5), .int .u64 (d + (gt st_3 i5)), .int .i64 ((gt st4 v_) + 1)] (by kernel_rfl) (c_search_state_label e68.wf u106 u113 u116 m70 m74 m76 m78 m80 m82 u150.sq u101 dj_b_st_7_fp_st_8 dj_fp_st_8_b_st dj_b_st_7_b_st dj_fp_st_8_fp_st_11 dj_b_st_7_fp_st_11 dj_fp_st_11_b_st (Dj.symm (i83.dj dj_fp_st_5_fp_st_8 (h_st_8.lt.le e23.next))) (Dj.symm (i83.dj dj_fp_st_5_b_st_7 (h_st_7.ltF.le e23.next))) (Dj.symm (i83.dj dj_fp_st_5_fp_st_11 (h_st_11.lt.le e23.next))) dj_fp_st_8_fp_st_6 dj_b_st_7_fp_st_6 dj_fp_st_11_fp_st_6 dj_fp_st_8_b_st_4 dj_b_st_7_b_st_4 dj_fp_st_11_b_st_4 (i83.dj dj_fp_st_5_b_st_4 (h_st_4.ltF.le e23.next)) (i83.dj dj_fp_st_5_fp_st_6 (h_st_6.lt.le e23.next)) dj_b_st_4_fp_st_6 hy152) ?_
      rintro _ H156 ⟨s154, f155, rfl, e157, m158, m159, m160, m161, m162, m163, i164⟩
      obtain ⟨a166, n167, c168, rfl⟩ := m159.form
      refine s_nil ?_
      refine k109 _ _ ?_
      refine w_reg (by kernel_rfl) ?_
      refine s_qk (.int .i64 i5) (by kernel_rfl) ?_
      obtain ⟨g169, r170⟩ := G_some r153
      refine s_w ((i5 + 1)) (k := .i64) (x := (i5 + 1)) (by kernel_rfl) (wrap64 (by have := g169; omega)) ?_
      refine s_qk (.int .i64 (i5 + 1)) (by kernel_rfl) ?_
      refine s_nil ?_
      obtain rfl := Option.some.inj r170
      exact k95 n86 _ _ (Nat.lt_succ_self _) ⟨y151.2.1, y151.1, y151.2.2.1, y151.2.2.2.1, y151.2.2.2.2, (i5 + 1), (.slice a166 n167 c168), f155, hn89, ⟨by kernel_rfl, by kernel_rfl, by kernel_rfl, by kernel_rfl, trivial⟩, (FrS.step e23.wf (FrS.step e23.wf (FrS.refl (W := ([b_st_4] ++ ([b_st_7] ++ (fp_st_11 ++ (fp_st_5 ++ (fp_st_6 ++ fp_st_8)))))) e23.wf) e68 (Inn.app Inn.left (Inn.app (Inn.right Inn.left) (Inn.app (Inn.right (Inn.right Inn.left)) (Inn.app (Inn.right (Inn.right (Inn.right Inn.left))) (Inn.app (Inn.right (Inn.right (Inn.right (Inn.right Inn.left)))) (Inn.right (Inn.right (Inn.right (Inn.right (Inn.right Inn.refl'))))))))))) e157 (Inn.app Inn.left (Inn.app (Inn.right Inn.left) (Inn.app (Inn.right (Inn.right Inn.left)) (Inn.app (Inn.trans (Inn.right (Inn.right (Inn.right Inn.left))) (Nat.le_refl _) i83) (Inn.app (Inn.right (Inn.right (Inn.right (Inn.right Inn.left)))) (Inn.right (Inn.right (Inn.right (Inn.right (Inn.right Inn.refl'))))))))))), m159, m158, m160, m161, m162, m163, (Inn.trans (Inn.trans Inn.refl' (Nat.le_refl _) i83) e68.next i164)⟩
     ·have r171 := ite_bf h144 r130
      refine w_skip ?_
      refine k109 _ _ ?_
      refine w_reg (by kernel_rfl) ?_
      refine s_qk (.int .i64 i5) (by kernel_rfl) ?_
      obtain ⟨g172, r173⟩ := G_some r171
      refine s_w ((i5 + 1)) (k := .i64) (x := (i5 + 1)) (by kernel_rfl) (wrap64 (by have := g172; omega)) ?_
      refine s_qk (.int .i64 (i5 + 1)) (by kernel_rfl) ?_
      refine s_nil ?_
      obtain rfl := Option.some.inj r173
      exact k95 n86 _ _ (Nat.lt_succ_self _) ⟨st0, st1, st2, st3, st4, (i5 + 1), (.slice a96 n97 c98), f72, hn89, ⟨by kernel_rfl, by kernel_rfl, by kernel_rfl, by kernel_rfl, trivial⟩, (FrS.step e23.wf (FrS.refl (W := ([b_st_4] ++ ([b_st_7] ++ (fp_st_11 ++ (fp_st_5 ++ (fp_st_6 ++ fp_st_8)))))) e23.wf) e68 (Inn.app Inn.left (Inn.app (Inn.right Inn.left) (Inn.app (Inn.right (Inn.right Inn.left)) (Inn.app (Inn.right (Inn.right (Inn.right Inn.left))) (Inn.app (Inn.right (Inn.right (Inn.right (Inn.right Inn.left)))) (Inn.right (Inn.right (Inn.right (Inn.right (Inn.right Inn.refl'))))))))))), m70, m74, m76, m78, m80, m82, (Inn.trans Inn.refl' (Nat.le_refl _) i83)⟩
   ·have r174 := ite_f h107 r105
    refine w_exit (th_exit (th_exit (bl_eq ?_)))
    obtain rfl := Option.some.inj r174
    obtain rfl := it_inr hn89
    exact k63 _ _ ⟨(.slice a96 n97 c98), f72, trivial, (FrS.step e23.wf (FrS.refl (W := ([b_st_4] ++ ([b_st_7] ++ (fp_st_11 ++ (fp_st_5 ++ (fp_st_6 ++ fp_st_8)))))) e23.wf) e68 (Inn.app Inn.left (Inn.app (Inn.right Inn.left) (Inn.app (Inn.right (Inn.right Inn.left)) (Inn.app (Inn.right (Inn.right (Inn.right Inn.left))) (Inn.app (Inn.right (Inn.right (Inn.right (Inn.right Inn.left)))) (Inn.right (Inn.right (Inn.right (Inn.right (Inn.right Inn.refl'))))))))))), m74, m70, m76, m78, m80, m82, (Inn.trans Inn.refl' (Nat.le_refl _) i83)⟩
  ·obtain ⟨s52, f53, hh64, e47, m49, m51, m55, m57, m59, m61, i62⟩ := hM
   obtain ⟨β, rfl⟩ := has_ex hh64
   clear hh64
   obtain ⟨a175, n176, c177, rfl⟩ := m51.form
   refine b_nrm (fn := Tryd.f80) (vs := []) (rfl) ?_
   have u178 := (hm24.fr e47 (Dj.app dj_b_st_4_fp_st_12 (Dj.app dj_b_st_7_fp_st_12 (Dj.app (Dj.symm dj_fp_st_12_fp_st_11) (Dj.app dj_fp_st_5_fp_st_12 (Dj.app dj_fp_st_6_fp_st_12 dj_fp_st_8_fp_st_12))))))
   obtain rfl := Option.some.inj r45
   exact ⟨(.slice a175 n176 c177), f53, rfl, (FrS.step wf (FrS.step wf (FrS.refl (W := ([b_st_4] ++ ([b_st_7] ++ (fp_st_11 ++ (fp_st_12 ++ (fp_st_5 ++ (fp_st_6 ++ fp_st_8))))))) wf) e23 (Inn.right (Inn.right (Inn.right Inn.left)))) e47 (Inn.app Inn.left (Inn.app (Inn.right Inn.left) (Inn.app (Inn.right (Inn.right Inn.left)) (Inn.app (Inn.right (Inn.right (Inn.right (Inn.right Inn.left)))) (Inn.app (Inn.right (Inn.right (Inn.right (Inn.right (Inn.right Inn.left))))) (Inn.right (Inn.right (Inn.right (Inn.right (Inn.right (Inn.right Inn.refl')))))))))))), m49, m51, m55, m57, m59, m61, u178, (Inn.trans Inn.refl' e23.next i62)⟩

theorem c_search_run {H : AH} {hd_First : Value} {fp_First : Fp} {hd_To : Value} {fp_To : Fp} {hd_Weight : Value} {fp_Weight : Fp} {First : List (Int)} {To : List (Int)} {Weight : List (Int)} {s : Int} {hops : Int} {settles : Int} {most : Int} {r : List (Int × Int) × List (Int) × List (Int × Int) × Int × Int × List (Int) × List (Bool)}
  (wf : WF H) (h_First : Sq (encI .i64) 1 H hd_First First fp_First) (h_To : Sq (encI .i64) 1 H hd_To To fp_To) (h_Weight : Sq (encI .i64) 1 H hd_Weight Weight fp_Weight) (hr : z_search_run First To Weight s hops settles most = some r) :
  ACalls Tryd.prog 50 #[.agg #[hd_First, hd_To, hd_Weight], .int .i64 s, .agg #[.int .i64 hops, .int .i64 settles, .int .u64 most]] H fun v H' => ∃ (s3 : Value) (f4 : Fp) (s7 : Value) (f8 : Fp) (b11 : Nat) (s14 : Value) (f15 : Fp) (b18 : Nat) (s21 : Value) (f22 : Fp) (s25 : Value) (f26 : Fp) (b29 : Nat), v = .pointer (some ⟨b29, 0, none⟩) ∧ FrS [] H H' ∧ Ow enc_u64_u32 2 H' s3 r.1 f4 ∧ Ow (encI .i64) 1 H' s7 r.2.1 f8 ∧ Row H' b11 [s3, s7] ∧ Ow enc_u64_u32 2 H' s14 r.2.2.1 f15 ∧ Row H' b18 [s14, .int .u32 r.2.2.2.1, .int .i64 r.2.2.2.2.1] ∧ Ow (encI .i64) 1 H' s21 r.2.2.2.2.2.1 f22 ∧ Ow encB 1 H' s25 r.2.2.2.2.2.2 f26 ∧ Row H' b29 [hd_First, hd_To, hd_Weight, .pointer (some ⟨b11, 0, none⟩), .pointer (some ⟨b18, 0, none⟩), s21, s25] ∧ Inn [] H f4 ∧ Inn [] H f8 ∧ Inn [] H [b11] ∧ Inn [] H f15 ∧ Inn [] H [b18] ∧ Inn [] H f22 ∧ Inn [] H f26 ∧ Inn [] H [b29] ∧ Dj f4 f8 ∧ Dj f4 [b11] ∧ Dj f8 [b11] ∧ Dj f4 f15 ∧ Dj f8 f15 ∧ Dj [b11] f15 ∧ Dj f4 [b18] ∧ Dj f8 [b18] ∧ Dj [b11] [b18] ∧ Dj f15 [b18] ∧ Dj f4 f22 ∧ Dj f8 f22 ∧ Dj [b11] f22 ∧ Dj f15 f22 ∧ Dj [b18] f22 ∧ Dj f4 f26 ∧ Dj f8 f26 ∧ Dj [b11] f26 ∧ Dj f15 f26 ∧ Dj [b18] f26 ∧ Dj f22 f26 ∧ Dj f4 [b29] ∧ Dj f8 [b29] ∧ Dj [b11] [b29] ∧ Dj f15 [b29] ∧ Dj [b18] [b29] ∧ Dj f22 [b29] ∧ Dj f26 [b29] := by
 refine acalls_of_body mixed Tryd.func50 rfl (Nat.le_of_ble_eq_true rfl) ?_
 unfold z_search_run at hr
 refine w_seqk fun K66 k66 => ?_
 refine w_reg (by kernel_rfl) ?_
 refine s_rwl wf [hd_First, hd_To, hd_Weight] (one_cons (h_First.one1) (one_cons (h_To.one1) (one_cons (h_Weight.one1) (one_nil)))) (by kernel_rfl) fun b67 H68 e69 hb70 r71 => ?_
 refine s_rwl e69.wf [.int .i64 hops, .int .i64 settles, .int .u64 most] (one_cons (rfl) (one_cons (rfl) (one_cons (rfl) (one_nil)))) (by kernel_rfl) fun b73 H74 e75 hb76 r77 => ?_
 refine s_qk (.pointer none) (by kernel_rfl) ?_
 refine s_nil ?_
 refine k66 _ _ ?_
 refine w_seqk fun K79 k79 => ?_
 refine w_reg (by kernel_rfl) ?_
 have u80 := (r71.ext e75)
 refine s_ql (.agg #[hd_First, hd_To, hd_Weight]) (x := aLoad Tryd.prog 40 (.pointer (some ⟨b67, 0, none⟩)) H74) (by kernel_rfl) (u80.ld (by kernel_rfl)) ?_
 have u81 := ((h_First.ext e69).ext e75)
 have u82 := ((h_To.ext e69).ext e75)
 have u83 := ((h_Weight.ext e69).ext e75)
 obtain ⟨y84, hy85, r86⟩ := bind_some hr
 refine s_ck 60 #[.agg #[hd_First, hd_To, hd_Weight]] (by kernel_rfl) (c_search_nodes e75.wf u81 u82 u83 hy85) ?_
 rintro _ H87 ⟨rfl, e88⟩
 refine s_qk (.int .i64 y84) (by kernel_rfl) ?_
 refine s_nil ?_
 refine k79 _ _ ?_
 refine w_seqk fun K89 k89 => ?_
 refine w_draw [0, 1, 2, 3, 4, 5, 6, 7] (by kernel_rfl) ?_
 have u90 := (u80.frS e88 Dj.nil_l)
 refine d_ql (.agg #[hd_First, hd_To, hd_Weight]) (x := aLoad Tryd.prog 40 (.pointer (some ⟨b67, 0, none⟩)) H87) (by kernel_rfl) (u90.ld (by kernel_rfl)) ?_
 refine d_qk (.int .i64 y84) (by kernel_rfl) ?_
 obtain ⟨g91, r92⟩ := G_some r86
 refine d_mks (t := 22) (m := 8) (l := y84) (c := y84) (enc := (encI .i64)) (sz := 1) e88.wf (0 : Int) (by kernel_rfl) (by decide) g91.1 (Int.le_refl _) (by omega) (by have := g91; omega) (by kernel_rfl) fun s93 f94 H95 e96 hf97 hm98 => ?_
 obtain ⟨a99, n100, c101, rfl⟩ := hm98.form
 have hm98 : Ow (encI .i64) 1 H95 (.slice a99 n100 c101) (List.replicate y84.toNat (0 : Int)) f94 := hm98
 refine d_qk (.int .i64 y84) (by kernel_rfl) ?_
 obtain ⟨g103, r104⟩ := G_some r92
 refine d_mks (t := 104) (m := 1) (l := y84) (c := y84) (enc := encB) (sz := 1) e96.wf (false : Bool) (by kernel_rfl) (by decide) g103.1 (Int.le_refl _) (by omega) (by have := g103; omega) (by kernel_rfl) fun s105 f106 H107 e108 hf109 hm110 => ?_
 obtain ⟨a111, n112, c113, rfl⟩ := hm110.form
 have hm110 : Ow encB 1 H107 (.slice a111 n112 c113) (List.replicate y84.toNat (false : Bool)) f106 := hm110
 refine d_qk (.agg #[hd_First, hd_To, hd_Weight, .pointer none, .pointer none, .slice a99 n100 c101, .slice a111 n112 c113]) (by kernel_rfl) ?_
 have u120 := (hm98.ext e108)
 have u121 := (((u83.fr e88 Dj.nil_l).ext e96).ext e108)
 have u122 := (((u82.fr e88 Dj.nil_l).ext e96).ext e108)
 have u123 := (((u81.fr e88 Dj.nil_l).ext e96).ext e108)
 refine d_rwl e108.wf [hd_First, hd_To, hd_Weight, .pointer none, .pointer none, .slice a99 n100 c101, .slice a111 n112 c113] (one_cons (u123.one1) (one_cons (u122.one1) (one_cons (u121.one1) (one_cons (rfl) (one_cons (rfl) (one_cons (u120.one1) (one_cons (hm110.one1) (one_nil)))))))) (by kernel_rfl) fun b115 H116 e117 hb118 r119 => ?_
 refine d_qk (.pointer (some ⟨b115, 0, none⟩)) (by kernel_rfl) ?_
 refine d_nil ?_
 refine k89 _ _ ?_
 refine w_seqk fun K125 k125 => ?_
 refine w_reg (by kernel_rfl) ?_
 refine s_qk (.pointer (some ⟨b115, 0, none⟩)) (by kernel_rfl) ?_
 refine s_qk (.int .i64 y84) (by kernel_rfl) ?_
 obtain ⟨y126, hy127, r128⟩ := bind_some r104
 rcases y126 with y129 | y130
 ·exact (no_none (elim_l r128)).elim
 ·have r131 := elim_r r128
  refine s_ck 75 #[.int .i64 y84] (by kernel_rfl) (c_heap_New e117.wf hy127) ?_
  rintro _ H135 ⟨s132, f133, b134, rfl, e136, m137, m138, i139, i140, d141⟩
  obtain ⟨a144, n145, c146, rfl⟩ := m137.form
  refine s_qk (.tuple #[.pointer (some ⟨b134, 0, none⟩), .nilIface]) (by kernel_rfl) ?_
  refine s_qk (.pointer (some ⟨b134, 0, none⟩)) (by kernel_rfl) ?_
  refine s_qk (.nilIface) (by kernel_rfl) ?_
  refine s_qk (.pointer (some ⟨b115, 0, none⟩)) (by kernel_rfl) ?_
  refine s_qk (.pointer (some ⟨b115, 3, none⟩)) (by kernel_rfl) ?_
  have u151 := (r119.frS e136 Dj.nil_l)
  obtain ⟨H147, q148, e149, r150⟩ := Row.store (P := Tryd.prog) (t := 102) (p := 3) e136.wf u151 (.pointer (some ⟨b134, 0, none⟩)) [.pointer (some ⟨b134, 0, none⟩)] (by kernel_rfl) (by kernel_rfl) (one_cons (rfl) (one_nil)) (Nat.le_of_ble_eq_true (by kernel_rfl)) [hd_First, hd_To, hd_Weight, .pointer (some ⟨b134, 0, none⟩), .pointer none, .slice a99 n100 c101, .slice a111 n112 c113] (by kernel_rfl)
  refine s_ek (undef) (by kernel_rfl) (map_ok q148) ?_
  refine s_nil ?_
  refine k125 _ _ ?_
  refine w_seqk fun K152 k152 => ?_
  refine w_reg (by kernel_rfl) ?_
  refine s_qk (.pointer (some ⟨b115, 0, none⟩)) (by kernel_rfl) ?_
  refine s_qk (.int .i64 y84) (by kernel_rfl) ?_
  obtain ⟨y153, hy154, r155⟩ := bind_some r131
  rcases y153 with y156 | y157
  ·exact (no_none (elim_l r155)).elim
  ·have r158 := elim_r r155
   refine s_ck 76 #[.int .i64 y84, .int .u32 1] (by kernel_rfl) (c_stamp_New e149.wf hy154) ?_
   rintro _ H162 ⟨s159, f160, b161, rfl, e163, m164, m165, i166, i167, d168⟩
   obtain ⟨a171, n172, c173, rfl⟩ := m164.form
   refine s_qk (.tuple #[.pointer (some ⟨b161, 0, none⟩), .nilIface]) (by kernel_rfl) ?_
   refine s_qk (.pointer (some ⟨b161, 0, none⟩)) (by kernel_rfl) ?_
   refine s_qk (.nilIface) (by kernel_rfl) ?_
   refine s_qk (.pointer (some ⟨b115, 0, none⟩)) (by kernel_rfl) ?_
   refine s_qk (.pointer (some ⟨b115, 4, none⟩)) (by kernel_rfl) ?_
   have u178 := (r150.frS e163 Dj.nil_l)
   obtain ⟨H174, q175, e176, r177⟩ := Row.store (P := Tryd.prog) (t := 103) (p := 4) e163.wf u178 (.pointer (some ⟨b161, 0, none⟩)) [.pointer (some ⟨b161, 0, none⟩)] (by kernel_rfl) (by kernel_rfl) (one_cons (rfl) (one_nil)) (Nat.le_of_ble_eq_true (by kernel_rfl)) [hd_First, hd_To, hd_Weight, .pointer (some ⟨b134, 0, none⟩), .pointer (some ⟨b161, 0, none⟩), .slice a99 n100 c101, .slice a111 n112 c113] (by kernel_rfl)
   refine s_ek (undef) (by kernel_rfl) (map_ok q175) ?_
   refine s_nil ?_
   refine k152 _ _ ?_
   refine w_seqk fun K179 k179 => ?_
   refine w_reg (by kernel_rfl) ?_
   refine s_qk (.pointer (some ⟨b115, 0, none⟩)) (by kernel_rfl) ?_
   refine s_qk (.int .i64 s) (by kernel_rfl) ?_
   have u180 := (((((u123.ext e117).fr e136 Dj.nil_l).fr e149 (hb118.djn (h_First.lt.le (ntr (ntr (ntr (ntr e69.next e75.next) e88.next) e96.next) e108.next)))).fr e163 Dj.nil_l).fr e176 (hb118.djn (h_First.lt.le (ntr (ntr (ntr (ntr e69.next e75.next) e88.next) e96.next) e108.next))))
   have u181 := (((((u122.ext e117).fr e136 Dj.nil_l).fr e149 (hb118.djn (h_To.lt.le (ntr (ntr (ntr (ntr e69.next e75.next) e88.next) e96.next) e108.next)))).fr e163 Dj.nil_l).fr e176 (hb118.djn (h_To.lt.le (ntr (ntr (ntr (ntr e69.next e75.next) e88.next) e96.next) e108.next))))
   have u182 := (((((u121.ext e117).fr e136 Dj.nil_l).fr e149 (hb118.djn (h_Weight.lt.le (ntr (ntr (ntr (ntr e69.next e75.next) e88.next) e96.next) e108.next)))).fr e163 Dj.nil_l).fr e176 (hb118.djn (h_Weight.lt.le (ntr (ntr (ntr (ntr e69.next e75.next) e88.next) e96.next) e108.next))))
   have u183 := (((m137.fr e149 (Dj.symm (i139.djn r119.ltF))).fr e163 Dj.nil_l).fr e176 (Dj.symm (i139.djn r119.ltF)))
   have u184 := (((m138.frS e149 (Dj.symm (i140.djn r119.ltF))).frS e163 Dj.nil_l).frS e176 (Dj.symm (i140.djn r119.ltF)))
   have u185 := (m164.fr e176 (Dj.symm (i166.djn (r119.ltF.le (ntr e136.next e149.next)))))
   have u186 := (m165.frS e176 (Dj.symm (i167.djn (r119.ltF.le (ntr e136.next e149.next)))))
   have u187 := (((((u120.ext e117).fr e136 Dj.nil_l).fr e149 (hb118.djn (hm98.lt.le e108.next))).fr e163 Dj.nil_l).fr e176 (hb118.djn (hm98.lt.le e108.next)))
   have u188 := (((((hm110.ext e117).fr e136 Dj.nil_l).fr e149 (hb118.djn hm110.lt)).fr e163 Dj.nil_l).fr e176 (hb118.djn hm110.lt))
   obtain ⟨y189, hy190, r191⟩ := bind_some r158
   refine s_ck 77 #[.pointer (some ⟨b115, 0, none⟩), .int .i64 s, .int .u64 0, .int .i64 0] (by kernel_rfl) (c_search_state_label e176.wf u180 u181 u182 (Ow.nil (enc := enc_u64_u32) (sz := 2) (by decide)) u183 u184 u185 u186 u187 u188.sq r177 (Dj.symm d168) (i166.djn (r119.ltF.le (ntr e136.next e149.next))) (i167.djn (r119.ltF.le (ntr e136.next e149.next))) (i166.djn (hm98.lt.le (ntr (ntr (ntr e108.next e117.next) e136.next) e149.next))) (i167.djn (hm98.lt.le (ntr (ntr (ntr e108.next e117.next) e136.next) e149.next))) (Dj.symm (hb118.djn (hm98.lt.le e108.next))) Dj.nil_r Dj.nil_r Dj.nil_r (i166.djn (m137.lt.le e149.next)) (i167.djn (m137.lt.le e149.next)) (Dj.symm (i139.djn (hm98.lt.le (ntr e108.next e117.next)))) (i166.djn (m138.ltF.le e149.next)) (i167.djn (m138.ltF.le e149.next)) (Dj.symm (i140.djn (hm98.lt.le (ntr e108.next e117.next)))) Dj.nil_l Dj.nil_l (Dj.symm d141) hy190) ?_
   rintro _ H194 ⟨s192, f193, rfl, e195, m196, m197, m198, m199, m200, m201, i202⟩
   obtain ⟨a204, n205, c206, rfl⟩ := m197.form
   refine s_nil ?_
   refine k179 _ _ ?_
   refine w_seqk fun K207 k207 => ?_
   refine w_seqk fun K208 k208 => ?_
   refine w_reg (by kernel_rfl) ?_
   refine s_qk (.int .i64 0) (by kernel_rfl) ?_
   refine s_nil ?_
   refine k208 _ _ ?_
   obtain ⟨o209, hx210, r211⟩ := bind_some r191
   refine w_mid (fun α H212 => ∃ (s216 : Value) (f217 : Fp), Has α [(8, .pointer (some ⟨b115, 0, none⟩))] ∧ FrS ([b134] ++ ([b161] ++ (f106 ++ (f133 ++ (f160 ++ (f193 ++ f94)))))) H194 H212 ∧ Ow enc_u64_u32 2 H212 s216 o209.1 f217 ∧ Ow (encI .i64) 1 H212 (.slice a144 n145 c146) o209.2.1 f133 ∧ Row H212 b134 [s216, .slice a144 n145 c146] ∧ Ow enc_u64_u32 2 H212 (.slice a171 n172 c173) o209.2.2.1 f160 ∧ Row H212 b161 [.slice a171 n172 c173, .int .u32 y157.2, .int .i64 o209.2.2.2.1] ∧ Ow (encI .i64) 1 H212 (.slice a99 n100 c101) o209.2.2.2.2.1 f94 ∧ Ow encB 1 H212 (.slice a111 n112 c113) o209.2.2.2.2.2 f106 ∧ Inn f193 H194 f217) (fun K231 k231 => ?_) (fun α H212 hM => ?_)
   ·refine w_block ?_
    obtain ⟨n233, hn234⟩ := loopO_iff.1 hx210
    have u260 := (u188.fr e195 (Dj.app (i140.djn (hm110.lt.le e117.next)) (Dj.app (i167.djn (hm110.lt.le (ntr (ntr e117.next e136.next) e149.next))) (Dj.app (Dj.symm (hf109.djn hm98.lt)) (Dj.app Dj.nil_l (Dj.app (i139.djn (hm110.lt.le e117.next)) (i166.djn (hm110.lt.le (ntr (ntr e117.next e136.next) e149.next)))))))))
    refine w_loopn (fun n α H235 => ∃ (st0 : List (Int × Int)), ∃ (st1 : List (Int)), ∃ (st2 : List (Int × Int)), ∃ (st3 : Int), ∃ (st4 : List (Int)), ∃ (st5 : List (Bool)), ∃ (count6 : Int), ∃ (s239 : Value), ∃ (f240 : Fp), iterO (fun zz_ => z_search_run_l0 First To Weight hops settles most y157 zz_.1 zz_.2.1 zz_.2.2.1 zz_.2.2.2.1 zz_.2.2.2.2.1 zz_.2.2.2.2.2.1 zz_.2.2.2.2.2.2) n (st0, st1, st2, st3, st4, st5, count6) = some o209 ∧ Has α [(5, .pointer (some ⟨b73, 0, none⟩)), (8, .pointer (some ⟨b115, 0, none⟩)), (9, .int .i64 count6)] ∧ FrS ([b134] ++ ([b161] ++ (f106 ++ (f133 ++ (f160 ++ (f193 ++ f94)))))) H194 H235 ∧ Ow enc_u64_u32 2 H235 s239 st0 f240 ∧ Ow (encI .i64) 1 H235 (.slice a144 n145 c146) st1 f133 ∧ Row H235 b134 [s239, .slice a144 n145 c146] ∧ Ow enc_u64_u32 2 H235 (.slice a171 n172 c173) st2 f160 ∧ Row H235 b161 [.slice a171 n172 c173, .int .u32 y157.2, .int .i64 st3] ∧ Ow (encI .i64) 1 H235 (.slice a99 n100 c101) st4 f94 ∧ Ow encB 1 H235 (.slice a111 n112 c113) st5 f106 ∧ Inn f193 H194 f240) n233 ⟨y189.2.1, y189.1, y189.2.2.1, y189.2.2.2.1, y189.2.2.2.2, (List.replicate y84.toNat (false : Bool)), 0, (.slice a204 n205 c206), f193, hn234, ⟨by kernel_rfl, by kernel_rfl, by kernel_rfl, trivial⟩, (FrS.refl (W := ([b134] ++ ([b161] ++ (f106 ++ (f133 ++ (f160 ++ (f193 ++ f94))))))) e195.wf), m197, m196, m198, m199, m200, m201, u260, Inn.refl'⟩ ?_
    rintro n233 α H235 ⟨st0, st1, st2, st3, st4, st5, count6, s239, f240, hi255, hh254, e236, m238, m242, m244, m246, m248, m250, m252, i253⟩ K261 k261
    obtain ⟨n256, z257, rfl, hz258, hn259⟩ := iter_succ hi255
    obtain ⟨β, rfl⟩ := has_ex hh254
    clear hh254
    replace hz258 : z_search_run_l0 First To Weight hops settles most y157 st0 st1 st2 st3 st4 st5 count6 = some z257 := hz258
    unfold z_search_run_l0 at hz258
    obtain ⟨a262, n263, c264, rfl⟩ := m238.form
    refine w_seqk fun K265 k265 => ?_
    refine w_seqk fun K266 k266 => ?_
    refine w_reg (by kernel_rfl) ?_
    refine s_qk (.int .i64 count6) (by kernel_rfl) ?_
    refine s_qk (.pointer (some ⟨b73, 1, none⟩)) (by kernel_rfl) ?_
    have u267 := ((((((((((r77.frS e88 Dj.nil_l).ext e96).ext e108).ext e117).frS e136 Dj.nil_l).frS e149 (hb118.djn (r77.ltF.le (ntr (ntr e88.next e96.next) e108.next)))).frS e163 Dj.nil_l).frS e176 (hb118.djn (r77.ltF.le (ntr (ntr e88.next e96.next) e108.next)))).frS e195 (Dj.app (i140.djn (r77.ltF.le (ntr (ntr (ntr e88.next e96.next) e108.next) e117.next))) (Dj.app (i167.djn (r77.ltF.le (ntr (ntr (ntr (ntr (ntr e88.next e96.next) e108.next) e117.next) e136.next) e149.next))) (Dj.app (hf97.djn (r77.ltF.le e88.next)) (Dj.app Dj.nil_l (Dj.app (i139.djn (r77.ltF.le (ntr (ntr (ntr e88.next e96.next) e108.next) e117.next))) (i166.djn (r77.ltF.le (ntr (ntr (ntr (ntr (ntr e88.next e96.next) e108.next) e117.next) e136.next) e149.next))))))))).frS e236 (Dj.app (i140.djn (r77.ltF.le (ntr (ntr (ntr e88.next e96.next) e108.next) e117.next))) (Dj.app (i167.djn (r77.ltF.le (ntr (ntr (ntr (ntr (ntr e88.next e96.next) e108.next) e117.next) e136.next) e149.next))) (Dj.app (hf109.djn (r77.ltF.le (ntr e88.next e96.next))) (Dj.app (i139.djn (r77.ltF.le (ntr (ntr (ntr e88.next e96.next) e108.next) e117.next))) (Dj.app (i166.djn (r77.ltF.le (ntr (ntr (ntr (ntr (ntr e88.next e96.next) e108.next) e117.next) e136.next) e149.next))) (Dj.app (i202.djn (r77.ltF.le (ntr (ntr (ntr (ntr (ntr (ntr (ntr e88.next e96.next) e108.next) e117.next) e136.next) e149.next) e163.next) e176.next))) (hf97.djn (r77.ltF.le e88.next)))))))))
    refine s_ql (.int .i64 settles) (x := aLoad Tryd.prog 3 (.pointer (some ⟨b73, 1, none⟩)) H235) (by kernel_rfl) (u267.ld (by kernel_rfl)) ?_
    refine s_qk (.bool (decide (count6 < settles))) (by kernel_rfl) ?_
    refine s_nil ?_
    refine k266 _ _ ?_
    refine w_condp (count6 < settles) (by kernel_rfl) rfl (fun h268 => ?_) (fun h268 => ?_)
    ·have r269 := ite_t h268 hz258
     refine w_skip ?_
     refine k265 _ _ ?_
     refine w_seqk fun K270 k270 => ?_
     refine w_block ?_
     refine w_seqk fun K271 k271 => ?_
     refine w_reg (by kernel_rfl) ?_
     refine s_qk (.pointer (some ⟨b115, 0, none⟩)) (by kernel_rfl) ?_
     refine s_qk (.pointer (some ⟨b115, 0, none⟩)) (by kernel_rfl) ?_
     refine s_qk (.pointer (some ⟨b115, 3, none⟩)) (by kernel_rfl) ?_
     have u272 := ((r177.frS e195 (Dj.app (i140.djn r119.ltF) (Dj.app (i167.djn (r119.ltF.le (ntr e136.next e149.next))) (Dj.app (Dj.symm (hb118.djn (hm98.lt.le e108.next))) (Dj.app Dj.nil_l (Dj.app (i139.djn r119.ltF) (i166.djn (r119.ltF.le (ntr e136.next e149.next))))))))).frS e236 (Dj.app (i140.djn r119.ltF) (Dj.app (i167.djn (r119.ltF.le (ntr e136.next e149.next))) (Dj.app (Dj.symm (hb118.djn hm110.lt)) (Dj.app (i139.djn r119.ltF) (Dj.app (i166.djn (r119.ltF.le (ntr e136.next e149.next))) (Dj.app (i202.djn (r119.ltF.le (ntr (ntr (ntr e136.next e149.next) e163.next) e176.next))) (Dj.symm (hb118.djn (hm98.lt.le e108.next))))))))))
     refine s_ql (.pointer (some ⟨b134, 0, none⟩)) (x := aLoad Tryd.prog 102 (.pointer (some ⟨b115, 3, none⟩)) H235) (by kernel_rfl) (u272.ld (by kernel_rfl)) ?_
     obtain ⟨y273, hy274, r275⟩ := bind_some r269
     refine s_ck 78 #[.pointer (some ⟨b134, 0, none⟩)] (by kernel_rfl) (c_heap_Heap_Top e236.wf m238.sq m242.sq m244 hy274) ?_
     rintro _ _ ⟨rfl, rfl⟩
     refine s_qk (.tuple #[.int .u32 y273.1, .int .u64 y273.2.1, .bool y273.2.2]) (by kernel_rfl) ?_
     refine s_qk (.int .u32 y273.1) (by kernel_rfl) ?_
     refine s_qk (.int .u64 y273.2.1) (by kernel_rfl) ?_
     refine s_qk (.bool y273.2.2) (by kernel_rfl) ?_
     refine s_qk (.int .u32 y273.1) (by kernel_rfl) ?_
     refine s_qk (.int .u64 y273.2.1) (by kernel_rfl) ?_
     refine s_qk (.bool y273.2.2) (by kernel_rfl) ?_
     refine s_nil ?_
     refine k271 _ _ ?_
     refine w_seqk fun K278 k278 => ?_
     refine w_seqk fun K279 k279 => ?_
     obtain ⟨o280, hx281, r282⟩ := bind_some r275
     refine w_mid (fun α H283 => Has α [(5, .pointer (some ⟨b73, 0, none⟩)), (8, .pointer (some ⟨b115, 0, none⟩)), (9, .int .i64 count6), (10, .int .u32 y273.1), (11, .int .u64 y273.2.1), (63, .bool o280)] ∧ H235 = H283) (fun K285 k285 => ?_) (fun α H283 hM => ?_)
     ·refine w_reg (by kernel_rfl) ?_
      refine s_qk (.bool y273.2.2) (by kernel_rfl) ?_
      refine s_qk (.bool (!y273.2.2)) (by kernel_rfl) ?_
      refine s_qk (.bool (!y273.2.2)) (by kernel_rfl) ?_
      by_cases h287 : (!y273.2.2) = true
      ·have r288 := ite_t h287 hx281
       rw [h287]
       refine s_no (by kernel_rfl) ?_
       refine s_no (by kernel_rfl) ?_
       refine s_no (by kernel_rfl) ?_
       refine s_no (by kernel_rfl) ?_
       refine s_qk (.bool true) (by kernel_rfl) ?_
       refine s_nil ?_
       obtain rfl := Option.some.inj r288
       exact k285 _ _ ⟨⟨by kernel_rfl, by kernel_rfl, by kernel_rfl, by kernel_rfl, by kernel_rfl, by kernel_rfl, trivial⟩, rfl⟩
      ·have r289 := ite_f h287 hx281
       rw [nb h287]
       refine s_qk (.int .u64 y273.2.1) (by kernel_rfl) ?_
       refine s_qk (.pointer (some ⟨b73, 2, none⟩)) (by kernel_rfl) ?_
       refine s_ql (.int .u64 most) (x := aLoad Tryd.prog 42 (.pointer (some ⟨b73, 2, none⟩)) H235) (by kernel_rfl) (u267.ld (by kernel_rfl)) ?_
       refine s_qk (.bool (decide (y273.2.1 > most))) (by kernel_rfl) ?_
       refine s_qk (.bool (decide (y273.2.1 > most))) (by kernel_rfl) ?_
       refine s_nil ?_
       obtain rfl := Option.some.inj r289
       exact k285 _ _ ⟨⟨by kernel_rfl, by kernel_rfl, by kernel_rfl, by kernel_rfl, by kernel_rfl, by kernel_rfl, trivial⟩, rfl⟩
     ·obtain ⟨hh286, rfl⟩ := hM
      obtain ⟨β, rfl⟩ := has_ex hh286
      clear hh286
      refine k279 _ _ ?_
      refine w_cond (o280) (by kernel_rfl) rfl (fun h290 => ?_) (fun h290 => ?_)
      ·have r291 := ite_t h290 r282
       refine w_exit (th_exit (bl_ne (by decide) (th_exit (th_exit (bl_eq ?_)))))
       obtain rfl := Option.some.inj r291
       obtain rfl := it_inr hn259
       exact k231 _ _ ⟨(.slice a262 n263 c264), f240, ⟨by kernel_rfl, trivial⟩, (FrS.step e195.wf (FrS.refl (W := ([b134] ++ ([b161] ++ (f106 ++ (f133 ++ (f160 ++ (f193 ++ f94))))))) e195.wf) e236 (Inn.app Inn.left (Inn.app (Inn.right Inn.left) (Inn.app (Inn.right (Inn.right Inn.left)) (Inn.app (Inn.right (Inn.right (Inn.right Inn.left))) (Inn.app (Inn.right (Inn.right (Inn.right (Inn.right Inn.left)))) (Inn.app (Inn.right (Inn.right (Inn.right (Inn.right (Inn.right Inn.left))))) (Inn.right (Inn.right (Inn.right (Inn.right (Inn.right (Inn.right Inn.refl'))))))))))))), m238, m242, m244, m246, m248, m250, m252, (Inn.trans Inn.refl' (Nat.le_refl _) i253)⟩
      ·have r292 := ite_bf h290 r282
       refine w_skip ?_
       refine k278 _ _ ?_
       refine w_seqk fun K293 k293 => ?_
       refine w_reg (by kernel_rfl) ?_
       refine s_qk (.pointer (some ⟨b115, 0, none⟩)) (by kernel_rfl) ?_
       refine s_qk (.pointer (some ⟨b115, 0, none⟩)) (by kernel_rfl) ?_
       refine s_qk (.pointer (some ⟨b115, 3, none⟩)) (by kernel_rfl) ?_
       refine s_ql (.pointer (some ⟨b134, 0, none⟩)) (x := aLoad Tryd.prog 102 (.pointer (some ⟨b115, 3, none⟩)) H235) (by kernel_rfl) (u272.ld (by kernel_rfl)) ?_
       obtain ⟨y294, hy295, r296⟩ := bind_some r292
       refine s_ck 79 #[.pointer (some ⟨b134, 0, none⟩)] (by kernel_rfl) (c_heap_Heap_Pop e236.wf m238 m242 m244 (Dj.symm d141) (Dj.symm (i253.dj (i202.djn (m138.ltF.le (ntr (ntr e149.next e163.next) e176.next))) (m138.ltF.le (ntr (ntr (ntr e149.next e163.next) e176.next) e195.next)))) (Dj.symm (i253.dj (i202.djn (m137.lt.le (ntr (ntr e149.next e163.next) e176.next))) (m137.lt.le (ntr (ntr (ntr e149.next e163.next) e176.next) e195.next)))) hy295) ?_
       rintro _ H298 ⟨s297, rfl, e299, m300, m301, m302⟩
       obtain ⟨a304, n305, c306, rfl⟩ := m301.form
       refine s_nil ?_
       refine k293 _ _ ?_
       refine w_reg (by kernel_rfl) ?_
       refine s_qk (.pointer (some ⟨b115, 0, none⟩)) (by kernel_rfl) ?_
       refine s_qk (.int .u32 y273.1) (by kernel_rfl) ?_
       obtain ⟨g307, r308⟩ := G_some r296
       refine s_w (y273.1) (k := .i64) (x := y273.1) (by kernel_rfl) (wrap64 g307) ?_
       refine s_qk (.int .u64 y273.2.1) (by kernel_rfl) ?_
       refine s_qk (.pointer (some ⟨b73, 0, none⟩)) (by kernel_rfl) ?_
       have u309 := (u267.frS e299 (Dj.app (i140.djn (r77.ltF.le (ntr (ntr (ntr e88.next e96.next) e108.next) e117.next))) (Dj.app (i253.dj (i202.djn (r77.ltF.le (ntr (ntr (ntr (ntr (ntr (ntr (ntr e88.next e96.next) e108.next) e117.next) e136.next) e149.next) e163.next) e176.next))) (r77.ltF.le (ntr (ntr (ntr (ntr (ntr (ntr (ntr (ntr e88.next e96.next) e108.next) e117.next) e136.next) e149.next) e163.next) e176.next) e195.next))) (i139.djn (r77.ltF.le (ntr (ntr (ntr e88.next e96.next) e108.next) e117.next))))))
       refine s_ql (.int .i64 hops) (x := aLoad Tryd.prog 3 (.pointer (some ⟨b73, 0, none⟩)) H298) (by kernel_rfl) (u309.ld (by kernel_rfl)) ?_
       have u310 := (((u180.fr e195 (Dj.app (i140.djn (h_First.lt.le (ntr (ntr (ntr (ntr (ntr e69.next e75.next) e88.next) e96.next) e108.next) e117.next))) (Dj.app (i167.djn (h_First.lt.le (ntr (ntr (ntr (ntr (ntr (ntr (ntr e69.next e75.next) e88.next) e96.next) e108.next) e117.next) e136.next) e149.next))) (Dj.app (hf97.djn (h_First.lt.le (ntr (ntr e69.next e75.next) e88.next))) (Dj.app Dj.nil_l (Dj.app (i139.djn (h_First.lt.le (ntr (ntr (ntr (ntr (ntr e69.next e75.next) e88.next) e96.next) e108.next) e117.next))) (i166.djn (h_First.lt.le (ntr (ntr (ntr (ntr (ntr (ntr (ntr e69.next e75.next) e88.next) e96.next) e108.next) e117.next) e136.next) e149.next))))))))).fr e236 (Dj.app (i140.djn (h_First.lt.le (ntr (ntr (ntr (ntr (ntr e69.next e75.next) e88.next) e96.next) e108.next) e117.next))) (Dj.app (i167.djn (h_First.lt.le (ntr (ntr (ntr (ntr (ntr (ntr (ntr e69.next e75.next) e88.next) e96.next) e108.next) e117.next) e136.next) e149.next))) (Dj.app (hf109.djn (h_First.lt.le (ntr (ntr (ntr e69.next e75.next) e88.next) e96.next))) (Dj.app (i139.djn (h_First.lt.le (ntr (ntr (ntr (ntr (ntr e69.next e75.next) e88.next) e96.next) e108.next) e117.next))) (Dj.app (i166.djn (h_First.lt.le (ntr (ntr (ntr (ntr (ntr (ntr (ntr e69.next e75.next) e88.next) e96.next) e108.next) e117.next) e136.next) e149.next))) (Dj.app (i202.djn (h_First.lt.le (ntr (ntr (ntr (ntr (ntr (ntr (ntr (ntr (ntr e69.next e75.next) e88.next) e96.next) e108.next) e117.next) e136.next) e149.next) e163.next) e176.next))) (hf97.djn (h_First.lt.le (ntr (ntr e69.next e75.next) e88.next)))))))))).fr e299 (Dj.app (i140.djn (h_First.lt.le (ntr (ntr (ntr (ntr (ntr e69.next e75.next) e88.next) e96.next) e108.next) e117.next))) (Dj.app (i253.dj (i202.djn (h_First.lt.le (ntr (ntr (ntr (ntr (ntr (ntr (ntr (ntr (ntr e69.next e75.next) e88.next) e96.next) e108.next) e117.next) e136.next) e149.next) e163.next) e176.next))) (h_First.lt.le (ntr (ntr (ntr (ntr (ntr (ntr (ntr (ntr (ntr (ntr e69.next e75.next) e88.next) e96.next) e108.next) e117.next) e136.next) e149.next) e163.next) e176.next) e195.next))) (i139.djn (h_First.lt.le (ntr (ntr (ntr (ntr (ntr e69.next e75.next) e88.next) e96.next) e108.next) e117.next))))))
       have u311 := (((u181.fr e195 (Dj.app (i140.djn (h_To.lt.le (ntr (ntr (ntr (ntr (ntr e69.next e75.next) e88.next) e96.next) e108.next) e117.next))) (Dj.app (i167.djn (h_To.lt.le (ntr (ntr (ntr (ntr (ntr (ntr (ntr e69.next e75.next) e88.next) e96.next) e108.next) e117.next) e136.next) e149.next))) (Dj.app (hf97.djn (h_To.lt.le (ntr (ntr e69.next e75.next) e88.next))) (Dj.app Dj.nil_l (Dj.app (i139.djn (h_To.lt.le (ntr (ntr (ntr (ntr (ntr e69.next e75.next) e88.next) e96.next) e108.next) e117.next))) (i166.djn (h_To.lt.le (ntr (ntr (ntr (ntr (ntr (ntr (ntr e69.next e75.next) e88.next) e96.next) e108.next) e117.next) e136.next) e149.next))))))))).fr e236 (Dj.app (i140.djn (h_To.lt.le (ntr (ntr (ntr (ntr (ntr e69.next e75.next) e88.next) e96.next) e108.next) e117.next))) (Dj.app (i167.djn (h_To.lt.le (ntr (ntr (ntr (ntr (ntr (ntr (ntr e69.next e75.next) e88.next) e96.next) e108.next) e117.next) e136.next) e149.next))) (Dj.app (hf109.djn (h_To.lt.le (ntr (ntr (ntr e69.next e75.next) e88.next) e96.next))) (Dj.app (i139.djn (h_To.lt.le (ntr (ntr (ntr (ntr (ntr e69.next e75.next) e88.next) e96.next) e108.next) e117.next))) (Dj.app (i166.djn (h_To.lt.le (ntr (ntr (ntr (ntr (ntr (ntr (ntr e69.next e75.next) e88.next) e96.next) e108.next) e117.next) e136.next) e149.next))) (Dj.app (i202.djn (h_To.lt.le (ntr (ntr (ntr (ntr (ntr (ntr (ntr (ntr (ntr e69.next e75.next) e88.next) e96.next) e108.next) e117.next) e136.next) e149.next) e163.next) e176.next))) (hf97.djn (h_To.lt.le (ntr (ntr e69.next e75.next) e88.next)))))))))).fr e299 (Dj.app (i140.djn (h_To.lt.le (ntr (ntr (ntr (ntr (ntr e69.next e75.next) e88.next) e96.next) e108.next) e117.next))) (Dj.app (i253.dj (i202.djn (h_To.lt.le (ntr (ntr (ntr (ntr (ntr (ntr (ntr (ntr (ntr e69.next e75.next) e88.next) e96.next) e108.next) e117.next) e136.next) e149.next) e163.next) e176.next))) (h_To.lt.le (ntr (ntr (ntr (ntr (ntr (ntr (ntr (ntr (ntr (ntr e69.next e75.next) e88.next) e96.next) e108.next) e117.next) e136.next) e149.next) e163.next) e176.next) e195.next))) (i139.djn (h_To.lt.le (ntr (ntr (ntr (ntr (ntr e69.next e75.next) e88.next) e96.next) e108.next) e117.next))))))
       have u312 := (((u182.fr e195 (Dj.app (i140.djn (h_Weight.lt.le (ntr (ntr (ntr (ntr (ntr e69.next e75.next) e88.next) e96.next) e108.next) e117.next))) (Dj.app (i167.djn (h_Weight.lt.le (ntr (ntr (ntr (ntr (ntr (ntr (ntr e69.next e75.next) e88.next) e96.next) e108.next) e117.next) e136.next) e149.next))) (Dj.app (hf97.djn (h_Weight.lt.le (ntr (ntr e69.next e75.next) e88.next))) (Dj.app Dj.nil_l (Dj.app (i139.djn (h_Weight.lt.le (ntr (ntr (ntr (ntr (ntr e69.next e75.next) e88.next) e96.next) e108.next) e117.next))) (i166.djn (h_Weight.lt.le (ntr (ntr (ntr (ntr (ntr (ntr (ntr e69.next e75.next) e88.next) e96.next) e108.next) e117.next) e136.next) e149.next))))))))).fr e236 (Dj.app (i140.djn (h_Weight.lt.le (ntr (ntr (ntr (ntr (ntr e69.next e75.next) e88.next) e96.next) e108.next) e117.next))) (Dj.app (i167.djn (h_Weight.lt.le (ntr (ntr (ntr (ntr (ntr (ntr (ntr e69.next e75.next) e88.next) e96.next) e108.next) e117.next) e136.next) e149.next))) (Dj.app (hf109.djn (h_Weight.lt.le (ntr (ntr (ntr e69.next e75.next) e88.next) e96.next))) (Dj.app (i139.djn (h_Weight.lt.le (ntr (ntr (ntr (ntr (ntr e69.next e75.next) e88.next) e96.next) e108.next) e117.next))) (Dj.app (i166.djn (h_Weight.lt.le (ntr (ntr (ntr (ntr (ntr (ntr (ntr e69.next e75.next) e88.next) e96.next) e108.next) e117.next) e136.next) e149.next))) (Dj.app (i202.djn (h_Weight.lt.le (ntr (ntr (ntr (ntr (ntr (ntr (ntr (ntr (ntr e69.next e75.next) e88.next) e96.next) e108.next) e117.next) e136.next) e149.next) e163.next) e176.next))) (hf97.djn (h_Weight.lt.le (ntr (ntr e69.next e75.next) e88.next)))))))))).fr e299 (Dj.app (i140.djn (h_Weight.lt.le (ntr (ntr (ntr (ntr (ntr e69.next e75.next) e88.next) e96.next) e108.next) e117.next))) (Dj.app (i253.dj (i202.djn (h_Weight.lt.le (ntr (ntr (ntr (ntr (ntr (ntr (ntr (ntr (ntr e69.next e75.next) e88.next) e96.next) e108.next) e117.next) e136.next) e149.next) e163.next) e176.next))) (h_Weight.lt.le (ntr (ntr (ntr (ntr (ntr (ntr (ntr (ntr (ntr (ntr e69.next e75.next) e88.next) e96.next) e108.next) e117.next) e136.next) e149.next) e163.next) e176.next) e195.next))) (i139.djn (h_Weight.lt.le (ntr (ntr (ntr (ntr (ntr e69.next e75.next) e88.next) e96.next) e108.next) e117.next))))))
       have u313 := (m246.fr e299 (Dj.app (Dj.symm (i166.djn (m138.ltF.le e149.next))) (Dj.app (i253.dj (i202.djn (m164.lt.le e176.next)) (m164.lt.le (ntr e176.next e195.next))) (Dj.symm (i166.djn (m137.lt.le e149.next))))))
       have u314 := (m248.frS e299 (Dj.app (Dj.symm (i167.djn (m138.ltF.le e149.next))) (Dj.app (i253.dj (i202.djn (m165.ltF.le e176.next)) (m165.ltF.le (ntr e176.next e195.next))) (Dj.symm (i167.djn (m137.lt.le e149.next))))))
       have u315 := (m250.fr e299 (Dj.app (i140.djn (hm98.lt.le (ntr e108.next e117.next))) (Dj.app (i253.dj (i202.djn (hm98.lt.le (ntr (ntr (ntr (ntr (ntr e108.next e117.next) e136.next) e149.next) e163.next) e176.next))) (hm98.lt.le (ntr (ntr (ntr (ntr (ntr (ntr e108.next e117.next) e136.next) e149.next) e163.next) e176.next) e195.next))) (i139.djn (hm98.lt.le (ntr e108.next e117.next))))))
       have u316 := (m252.fr e299 (Dj.app (i140.djn (hm110.lt.le e117.next)) (Dj.app (i253.dj (i202.djn (hm110.lt.le (ntr (ntr (ntr (ntr e117.next e136.next) e149.next) e163.next) e176.next))) (hm110.lt.le (ntr (ntr (ntr (ntr (ntr e117.next e136.next) e149.next) e163.next) e176.next) e195.next))) (i139.djn (hm110.lt.le e117.next)))))
       have u317 := (u272.frS e299 (Dj.app (i140.djn r119.ltF) (Dj.app (i253.dj (i202.djn (r119.ltF.le (ntr (ntr (ntr e136.next e149.next) e163.next) e176.next))) (r119.ltF.le (ntr (ntr (ntr (ntr e136.next e149.next) e163.next) e176.next) e195.next))) (i139.djn r119.ltF))))
       obtain ⟨y318, hy319, r320⟩ := bind_some r308
       refine s_ck 80 #[.pointer (some ⟨b115, 0, none⟩), .int .i64 y273.1, .int .u64 y273.2.1, .int .i64 hops] (by kernel_rfl) (c_search_state_settle e299.wf u310 u311 u312 m301 m300 m302 u313 u314 u315 u316 u317 (Dj.symm (hb118.djn hm110.lt)) (hf109.djn hm98.lt) (Dj.symm (i139.djn (hm110.lt.le e117.next))) (Dj.symm (i253.dj (i202.djn (hm110.lt.le (ntr (ntr (ntr (ntr e117.next e136.next) e149.next) e163.next) e176.next))) (hm110.lt.le (ntr (ntr (ntr (ntr (ntr e117.next e136.next) e149.next) e163.next) e176.next) e195.next)))) (Dj.symm (i140.djn (hm110.lt.le e117.next))) (Dj.symm (i166.djn (hm110.lt.le (ntr (ntr e117.next e136.next) e149.next)))) (Dj.symm (i167.djn (hm110.lt.le (ntr (ntr e117.next e136.next) e149.next)))) (hf109.djn (h_First.lt.le (ntr (ntr (ntr e69.next e75.next) e88.next) e96.next))) (hf109.djn (h_To.lt.le (ntr (ntr (ntr e69.next e75.next) e88.next) e96.next))) (hf109.djn (h_Weight.lt.le (ntr (ntr (ntr e69.next e75.next) e88.next) e96.next))) (Dj.symm d168) (i166.djn (r119.ltF.le (ntr e136.next e149.next))) (i167.djn (r119.ltF.le (ntr e136.next e149.next))) (i166.djn (hm98.lt.le (ntr (ntr (ntr e108.next e117.next) e136.next) e149.next))) (i167.djn (hm98.lt.le (ntr (ntr (ntr e108.next e117.next) e136.next) e149.next))) (Dj.symm (hb118.djn (hm98.lt.le e108.next))) (Dj.symm (i253.dj (i202.djn (m164.lt.le e176.next)) (m164.lt.le (ntr e176.next e195.next)))) (Dj.symm (i253.dj (i202.djn (m165.ltF.le e176.next)) (m165.ltF.le (ntr e176.next e195.next)))) (Dj.symm (i253.dj (i202.djn (hm98.lt.le (ntr (ntr (ntr (ntr (ntr e108.next e117.next) e136.next) e149.next) e163.next) e176.next))) (hm98.lt.le (ntr (ntr (ntr (ntr (ntr (ntr e108.next e117.next) e136.next) e149.next) e163.next) e176.next) e195.next)))) (i166.djn (m137.lt.le e149.next)) (i167.djn (m137.lt.le e149.next)) (Dj.symm (i139.djn (hm98.lt.le (ntr e108.next e117.next)))) (i166.djn (m138.ltF.le e149.next)) (i167.djn (m138.ltF.le e149.next)) (Dj.symm (i140.djn (hm98.lt.le (ntr e108.next e117.next)))) (i253.dj (i202.djn (m138.ltF.le (ntr (ntr e149.next e163.next) e176.next))) (m138.ltF.le (ntr (ntr (ntr e149.next e163.next) e176.next) e195.next))) (i253.dj (i202.djn (m137.lt.le (ntr (ntr e149.next e163.next) e176.next))) (m137.lt.le (ntr (ntr (ntr e149.next e163.next) e176.next) e195.next))) (Dj.symm d141) (i139.djn r119.ltF) (i253.dj (i202.djn (r119.ltF.le (ntr (ntr (ntr e136.next e149.next) e163.next) e176.next))) (r119.ltF.le (ntr (ntr (ntr (ntr e136.next e149.next) e163.next) e176.next) e195.next))) (i140.djn r119.ltF) (i166.djn (h_First.lt.le (ntr (ntr (ntr (ntr (ntr (ntr (ntr e69.next e75.next) e88.next) e96.next) e108.next) e117.next) e136.next) e149.next))) (i139.djn (h_First.lt.le (ntr (ntr (ntr (ntr (ntr e69.next e75.next) e88.next) e96.next) e108.next) e117.next))) (i253.dj (i202.djn (h_First.lt.le (ntr (ntr (ntr (ntr (ntr (ntr (ntr (ntr (ntr e69.next e75.next) e88.next) e96.next) e108.next) e117.next) e136.next) e149.next) e163.next) e176.next))) (h_First.lt.le (ntr (ntr (ntr (ntr (ntr (ntr (ntr (ntr (ntr (ntr e69.next e75.next) e88.next) e96.next) e108.next) e117.next) e136.next) e149.next) e163.next) e176.next) e195.next))) (hf97.djn (h_First.lt.le (ntr (ntr e69.next e75.next) e88.next))) (i167.djn (h_First.lt.le (ntr (ntr (ntr (ntr (ntr (ntr (ntr e69.next e75.next) e88.next) e96.next) e108.next) e117.next) e136.next) e149.next))) (i140.djn (h_First.lt.le (ntr (ntr (ntr (ntr (ntr e69.next e75.next) e88.next) e96.next) e108.next) e117.next))) (i166.djn (h_To.lt.le (ntr (ntr (ntr (ntr (ntr (ntr (ntr e69.next e75.next) e88.next) e96.next) e108.next) e117.next) e136.next) e149.next))) (i139.djn (h_To.lt.le (ntr (ntr (ntr (ntr (ntr e69.next e75.next) e88.next) e96.next) e108.next) e117.next))) (i253.dj (i202.djn (h_To.lt.le (ntr (ntr (ntr (ntr (ntr (ntr (ntr (ntr (ntr e69.next e75.next) e88.next) e96.next) e108.next) e117.next) e136.next) e149.next) e163.next) e176.next))) (h_To.lt.le (ntr (ntr (ntr (ntr (ntr (ntr (ntr (ntr (ntr (ntr e69.next e75.next) e88.next) e96.next) e108.next) e117.next) e136.next) e149.next) e163.next) e176.next) e195.next))) (hf97.djn (h_To.lt.le (ntr (ntr e69.next e75.next) e88.next))) (i167.djn (h_To.lt.le (ntr (ntr (ntr (ntr (ntr (ntr (ntr e69.next e75.next) e88.next) e96.next) e108.next) e117.next) e136.next) e149.next))) (i140.djn (h_To.lt.le (ntr (ntr (ntr (ntr (ntr e69.next e75.next) e88.next) e96.next) e108.next) e117.next))) (i166.djn (h_Weight.lt.le (ntr (ntr (ntr (ntr (ntr (ntr (ntr e69.next e75.next) e88.next) e96.next) e108.next) e117.next) e136.next) e149.next))) (i139.djn (h_Weight.lt.le (ntr (ntr (ntr (ntr (ntr e69.next e75.next) e88.next) e96.next) e108.next) e117.next))) (i253.dj (i202.djn (h_Weight.lt.le (ntr (ntr (ntr (ntr (ntr (ntr (ntr (ntr (ntr e69.next e75.next) e88.next) e96.next) e108.next) e117.next) e136.next) e149.next) e163.next) e176.next))) (h_Weight.lt.le (ntr (ntr (ntr (ntr (ntr (ntr (ntr (ntr (ntr (ntr e69.next e75.next) e88.next) e96.next) e108.next) e117.next) e136.next) e149.next) e163.next) e176.next) e195.next))) (hf97.djn (h_Weight.lt.le (ntr (ntr e69.next e75.next) e88.next))) (i167.djn (h_Weight.lt.le (ntr (ntr (ntr (ntr (ntr (ntr (ntr e69.next e75.next) e88.next) e96.next) e108.next) e117.next) e136.next) e149.next))) (i140.djn (h_Weight.lt.le (ntr (ntr (ntr (ntr (ntr e69.next e75.next) e88.next) e96.next) e108.next) e117.next))) (i166.djn (hm110.lt.le (ntr (ntr e117.next e136.next) e149.next))) (i139.djn (hm110.lt.le e117.next)) (i253.dj (i202.djn (hm110.lt.le (ntr (ntr (ntr (ntr e117.next e136.next) e149.next) e163.next) e176.next))) (hm110.lt.le (ntr (ntr (ntr (ntr (ntr e117.next e136.next) e149.next) e163.next) e176.next) e195.next))) (i167.djn (hm110.lt.le (ntr (ntr e117.next e136.next) e149.next))) (i140.djn (hm110.lt.le e117.next)) (i253.dj (i202.djn (m164.lt.le e176.next)) (m164.lt.le (ntr e176.next e195.next))) (i253.dj (i202.djn (m165.ltF.le e176.next)) (m165.ltF.le (ntr e176.next e195.next))) (i253.dj (i202.djn (hm98.lt.le (ntr (ntr (ntr (ntr (ntr e108.next e117.next) e136.next) e149.next) e163.next) e176.next))) (hm98.lt.le (ntr (ntr (ntr (ntr (ntr (ntr e108.next e117.next) e136.next) e149.next) e163.next) e176.next) e195.next))) hy319) ?_
       rintro _ H323 ⟨s321, f322, rfl, e324, m325, m326, m327, m328, m329, m330, m331, i332⟩
       obtain ⟨a334, n335, c336, rfl⟩ := m326.form
       refine s_nil ?_
       refine k270 _ _ ?_
       refine w_reg (by kernel_rfl) ?_
       refine s_qk (.int .i64 count6) (by kernel_rfl) ?_
       obtain ⟨g337, r338⟩ := G_some r320
       refine s_w ((count6 + 1)) (k := .i64) (x := (count6 + 1)) (by kernel_rfl) (wrap64 g337) ?_
       refine s_qk (.int .i64 (count6 + 1)) (by kernel_rfl) ?_
       refine s_nil ?_
       obtain rfl := Option.some.inj r338
       exact k261 n256 _ _ (Nat.lt_succ_self _) ⟨y318.2.1, y318.1, y318.2.2.1, y318.2.2.2.1, y318.2.2.2.2.1, y318.2.2.2.2.2, (count6 + 1), (.slice a334 n335 c336), f322, hn259, ⟨by kernel_rfl, by kernel_rfl, by kernel_rfl, trivial⟩, (FrS.step e195.wf (FrS.step e195.wf (FrS.step e195.wf (FrS.refl (W := ([b134] ++ ([b161] ++ (f106 ++ (f133 ++ (f160 ++ (f193 ++ f94))))))) e195.wf) e236 (Inn.app Inn.left (Inn.app (Inn.right Inn.left) (Inn.app (Inn.right (Inn.right Inn.left)) (Inn.app (Inn.right (Inn.right (Inn.right Inn.left))) (Inn.app (Inn.right (Inn.right (Inn.right (Inn.right Inn.left)))) (Inn.app (Inn.right (Inn.right (Inn.right (Inn.right (Inn.right Inn.left))))) (Inn.right (Inn.right (Inn.right (Inn.right (Inn.right (Inn.right Inn.refl'))))))))))))) e299 (Inn.app Inn.left (Inn.app (Inn.trans (Inn.right (Inn.right (Inn.right (Inn.right (Inn.right Inn.left))))) (Nat.le_refl _) i253) (Inn.right (Inn.right (Inn.right Inn.left)))))) e324 (Inn.app Inn.left (Inn.app (Inn.right Inn.left) (Inn.app (Inn.right (Inn.right (Inn.right (Inn.right (Inn.right (Inn.right Inn.refl')))))) (Inn.app (Inn.right (Inn.right Inn.left)) (Inn.app (Inn.trans (Inn.right (Inn.right (Inn.right (Inn.right (Inn.right Inn.left))))) (Nat.le_refl _) i253) (Inn.app (Inn.right (Inn.right (Inn.right Inn.left))) (Inn.right (Inn.right (Inn.right (Inn.right Inn.left))))))))))), m326, m325, m327, m328, m329, m330, m331, (Inn.trans (Inn.trans Inn.refl' (Nat.le_refl _) i253) (ntr e236.next e299.next) i332)⟩
    ·have r339 := ite_f h268 hz258
     refine w_exit (th_exit (th_exit (bl_eq ?_)))
     obtain rfl := Option.some.inj r339
     obtain rfl := it_inr hn259
     exact k231 _ _ ⟨(.slice a262 n263 c264), f240, ⟨by kernel_rfl, trivial⟩, (FrS.step e195.wf (FrS.refl (W := ([b134] ++ ([b161] ++ (f106 ++ (f133 ++ (f160 ++ (f193 ++ f94))))))) e195.wf) e236 (Inn.app Inn.left (Inn.app (Inn.right Inn.left) (Inn.app (Inn.right (Inn.right Inn.left)) (Inn.app (Inn.right (Inn.right (Inn.right Inn.left))) (Inn.app (Inn.right (Inn.right (Inn.right (Inn.right Inn.left)))) (Inn.app (Inn.right (Inn.right (Inn.right (Inn.right (Inn.right Inn.left))))) (Inn.right (Inn.right (Inn.right (Inn.right (Inn.right (Inn.right Inn.refl'))))))))))))), m238, m242, m244, m246, m248, m250, m252, (Inn.trans Inn.refl' (Nat.le_refl _) i253)⟩
   ·obtain ⟨s216, f217, hh232, e213, m215, m219, m221, m223, m225, m227, m229, i230⟩ := hM
    obtain ⟨β, rfl⟩ := has_ex hh232
    clear hh232
    obtain ⟨a340, n341, c342, rfl⟩ := m215.form
    refine k207 _ _ ?_
    refine w_seqk fun K343 k343 => ?_
    refine w_reg (by kernel_rfl) ?_
    refine s_qk (.pointer (some ⟨b115, 0, none⟩)) (by kernel_rfl) ?_
    refine s_qk (.pointer (some ⟨b115, 0, none⟩)) (by kernel_rfl) ?_
    refine s_nil ?_
    refine k343 _ _ ?_
    refine w_ret ?_
    refine b_ret (fn := Tryd.f50) (vs := [.pointer (some ⟨b115, 0, none⟩)]) (aRes_tmp (by kernel_rfl) (rfl)) ?_
    have u344 := ((r177.frS e195 (Dj.app (i140.djn r119.ltF) (Dj.app (i167.djn (r119.ltF.le (ntr e136.next e149.next))) (Dj.app (Dj.symm (hb118.djn (hm98.lt.le e108.next))) (Dj.app Dj.nil_l (Dj.app (i139.djn r119.ltF) (i166.djn (r119.ltF.le (ntr e136.next e149.next))))))))).frS e213 (Dj.app (i140.djn r119.ltF) (Dj.app (i167.djn (r119.ltF.le (ntr e136.next e149.next))) (Dj.app (Dj.symm (hb118.djn hm110.lt)) (Dj.app (i139.djn r119.ltF) (Dj.app (i166.djn (r119.ltF.le (ntr e136.next e149.next))) (Dj.app (i202.djn (r119.ltF.le (ntr (ntr (ntr e136.next e149.next) e163.next) e176.next))) (Dj.symm (hb118.djn (hm98.lt.le e108.next))))))))))
    obtain rfl := Option.some.inj r211
    exact ⟨(.slice a340 n341 c342), f217, (.slice a144 n145 c146), f133, b134, (.slice a171 n172 c173), f160, b161, (.slice a99 n100 c101), f94, (.slice a111 n112 c113), f106, b115, rfl, (FrS.step wf (FrS.step wf (FrS.step wf (FrS.step wf (FrS.step wf (FrS.step wf ((((FrS.step wf (((FrS.refl (W := []) wf).extR e69).extR e75) e88 Inn.nil).extR e96).extR e108).extR e117) e136 Inn.nil) e149 (hb118.fresh (ntr (ntr (ntr (ntr e69.next e75.next) e88.next) e96.next) e108.next))) e163 Inn.nil) e176 (hb118.fresh (ntr (ntr (ntr (ntr e69.next e75.next) e88.next) e96.next) e108.next))) e195 (Inn.app (i140.fresh (ntr (ntr (ntr (ntr (ntr e69.next e75.next) e88.next) e96.next) e108.next) e117.next)) (Inn.app (i167.fresh (ntr (ntr (ntr (ntr (ntr (ntr (ntr e69.next e75.next) e88.next) e96.next) e108.next) e117.next) e136.next) e149.next)) (Inn.app (hf97.fresh (ntr (ntr e69.next e75.next) e88.next)) (Inn.app Inn.nil (Inn.app (i139.fresh (ntr (ntr (ntr (ntr (ntr e69.next e75.next) e88.next) e96.next) e108.next) e117.next)) (i166.fresh (ntr (ntr (ntr (ntr (ntr (ntr (ntr e69.next e75.next) e88.next) e96.next) e108.next) e117.next) e136.next) e149.next)))))))) e213 (Inn.app (i140.fresh (ntr (ntr (ntr (ntr (ntr e69.next e75.next) e88.next) e96.next) e108.next) e117.next)) (Inn.app (i167.fresh (ntr (ntr (ntr (ntr (ntr (ntr (ntr e69.next e75.next) e88.next) e96.next) e108.next) e117.next) e136.next) e149.next)) (Inn.app (hf109.fresh (ntr (ntr (ntr e69.next e75.next) e88.next) e96.next)) (Inn.app (i139.fresh (ntr (ntr (ntr (ntr (ntr e69.next e75.next) e88.next) e96.next) e108.next) e117.next)) (Inn.app (i166.fresh (ntr (ntr (ntr (ntr (ntr (ntr (ntr e69.next e75.next) e88.next) e96.next) e108.next) e117.next) e136.next) e149.next)) (Inn.app (i202.fresh (ntr (ntr (ntr (ntr (ntr (ntr (ntr (ntr (ntr e69.next e75.next) e88.next) e96.next) e108.next) e117.next) e136.next) e149.next) e163.next) e176.next)) (hf97.fresh (ntr (ntr e69.next e75.next) e88.next))))))))), m215, m219, m221, m223, m225, m227, m229, u344, (Inn.trans (i202.fresh (ntr (ntr (ntr (ntr (ntr (ntr (ntr (ntr (ntr e69.next e75.next) e88.next) e96.next) e108.next) e117.next) e136.next) e149.next) e163.next) e176.next)) (ntr (ntr (ntr (ntr (ntr (ntr (ntr (ntr (ntr (ntr e69.next e75.next) e88.next) e96.next) e108.next) e117.next) e136.next) e149.next) e163.next) e176.next) e195.next) i230), (i139.fresh (ntr (ntr (ntr (ntr (ntr e69.next e75.next) e88.next) e96.next) e108.next) e117.next)), (i140.fresh (ntr (ntr (ntr (ntr (ntr e69.next e75.next) e88.next) e96.next) e108.next) e117.next)), (i166.fresh (ntr (ntr (ntr (ntr (ntr (ntr (ntr e69.next e75.next) e88.next) e96.next) e108.next) e117.next) e136.next) e149.next)), (i167.fresh (ntr (ntr (ntr (ntr (ntr (ntr (ntr e69.next e75.next) e88.next) e96.next) e108.next) e117.next) e136.next) e149.next)), (hf97.fresh (ntr (ntr e69.next e75.next) e88.next)), (hf109.fresh (ntr (ntr (ntr e69.next e75.next) e88.next) e96.next)), (hb118.fresh (ntr (ntr (ntr (ntr e69.next e75.next) e88.next) e96.next) e108.next)), (i230.dj (i202.djn (m137.lt.le (ntr (ntr e149.next e163.next) e176.next))) (m137.lt.le (ntr (ntr (ntr e149.next e163.next) e176.next) e195.next))), (i230.dj (i202.djn (m138.ltF.le (ntr (ntr e149.next e163.next) e176.next))) (m138.ltF.le (ntr (ntr (ntr e149.next e163.next) e176.next) e195.next))), d141, (i230.dj (i202.djn (m164.lt.le e176.next)) (m164.lt.le (ntr e176.next e195.next))), (Dj.symm (i166.djn (m137.lt.le e149.next))), (Dj.symm (i166.djn (m138.ltF.le e149.next))), (i230.dj (i202.djn (m165.ltF.le e176.next)) (m165.ltF.le (ntr e176.next e195.next))), (Dj.symm (i167.djn (m137.lt.le e149.next))), (Dj.symm (i167.djn (m138.ltF.le e149.next))), d168, (i230.dj (i202.djn (hm98.lt.le (ntr (ntr (ntr (ntr (ntr e108.next e117.next) e136.next) e149.next) e163.next) e176.next))) (hm98.lt.le (ntr (ntr (ntr (ntr (ntr (ntr e108.next e117.next) e136.next) e149.next) e163.next) e176.next) e195.next))), (i139.djn (hm98.lt.le (ntr e108.next e117.next))), (i140.djn (hm98.lt.le (ntr e108.next e117.next))), (i166.djn (hm98.lt.le (ntr (ntr (ntr e108.next e117.next) e136.next) e149.next))), (i167.djn (hm98.lt.le (ntr (ntr (ntr e108.next e117.next) e136.next) e149.next))), (i230.dj (i202.djn (hm110.lt.le (ntr (ntr (ntr (ntr e117.next e136.next) e149.next) e163.next) e176.next))) (hm110.lt.le (ntr (ntr (ntr (ntr (ntr e117.next e136.next) e149.next) e163.next) e176.next) e195.next))), (i139.djn (hm110.lt.le e117.next)), (i140.djn (hm110.lt.le e117.next)), (i166.djn (hm110.lt.le (ntr (ntr e117.next e136.next) e149.next))), (i167.djn (hm110.lt.le (ntr (ntr e117.next e136.next) e149.next))), (Dj.symm (hf109.djn hm98.lt)), (i230.dj (i202.djn (r119.ltF.le (ntr (ntr (ntr e136.next e149.next) e163.next) e176.next))) (r119.ltF.le (ntr (ntr (ntr (ntr e136.next e149.next) e163.next) e176.next) e195.next))), (i139.djn r119.ltF), (i140.djn r119.ltF), (i166.djn (r119.ltF.le (ntr e136.next e149.next))), (i167.djn (r119.ltF.le (ntr e136.next e149.next))), (Dj.symm (hb118.djn (hm98.lt.le e108.next))), (Dj.symm (hb118.djn hm110.lt))⟩


end Go.Vd

/-! (KSq4) -/

set_option maxRecDepth 100000
set_option maxHeartbeats 4000000
set_option linter.unusedVariables false
namespace Go.Vd
open Go.Proofs
attribute [local irreducible] wpSeq wpOrd aWp
theorem c_search_state_parents {H : AH} {b_st : Nat} {hd_st_ : Value} {fp_st_ : Fp} {hd_st_2 : Value} {fp_st_2 : Fp} {hd_st_3 : Value} {fp_st_3 : Fp} {b_st_4 : Nat} {hd_st_5 : Value} {fp_st_5 : Fp} {hd_st_6 : Value} {fp_st_6 : Fp} {b_st_7 : Nat} {hd_st_8 : Value} {fp_st_8 : Fp} {hd_st_11 : Value} {fp_st_11 : Fp} {hd_st_12 : Value} {fp_st_12 : Fp} {st_ : List (Int)} {st_2 : List (Int)} {st_3 : List (Int)} {st_5 : List (Int × Int)} {st_6 : List (Int)} {st_8 : List (Int × Int)} {st_9 : Int} {st_10 : Int} {st_11 : List (Int)} {st_12 : List (Bool)} {s : Int} {r : List (Int)}
  (wf : WF H) (h_st_ : Sq (encI .i64) 1 H hd_st_ st_ fp_st_) (h_st_2 : Sq (encI .i64) 1 H hd_st_2 st_2 fp_st_2) (h_st_3 : Sq (encI .i64) 1 H hd_st_3 st_3 fp_st_3) (h_st_5 : Sq enc_u64_u32 2 H hd_st_5 st_5 fp_st_5) (h_st_6 : Sq (encI .i64) 1 H hd_st_6 st_6 fp_st_6) (h_st_4 : Row H b_st_4 [hd_st_5, hd_st_6]) (h_st_8 : Sq enc_u64_u32 2 H hd_st_8 st_8 fp_st_8) (h_st_7 : Row H b_st_7 [hd_st_8, .int .u32 st_9, .int .i64 st_10]) (h_st_11 : Sq (encI .i64) 1 H hd_st_11 st_11 fp_st_11) (h_st_12 : Sq encB 1 H hd_st_12 st_12 fp_st_12) (h_st : Row H b_st [hd_st_, hd_st_2, hd_st_3, .pointer (some ⟨b_st_4, 0, none⟩), .pointer (some ⟨b_st_7, 0, none⟩), hd_st_11, hd_st_12]) (hr : z_search_state_parents st_ st_2 st_3 st_5 st_6 st_8 st_9 st_10 st_11 st_12 s = some r) :
  ACalls Tryd.prog 52 #[.pointer (some ⟨b_st, 0, none⟩), .int .i64 s] H fun v H' => ∃ (s3 : Value) (f4 : Fp), v = s3 ∧ FrS [] H H' ∧ Ow (encI .i64) 1 H' s3 r f4 ∧ Inn [] H f4 := by
 refine acalls_of_body mixed Tryd.func52 rfl (Nat.le_of_ble_eq_true rfl) ?_
 unfold z_search_state_parents at hr
 refine w_seqk fun K6 k6 => ?_
 refine w_reg (by kernel_rfl) ?_
 refine s_qk (.slice none 0 0) (by kernel_rfl) ?_
 refine s_nil ?_
 refine k6 _ _ ?_
 refine w_seqk fun K7 k7 => ?_
 refine w_reg (by kernel_rfl) ?_
 refine s_qk (.pointer (some ⟨b_st, 0, none⟩)) (by kernel_rfl) ?_
 refine s_qk (.pointer (some ⟨b_st, 0, none⟩)) (by kernel_rfl) ?_
 refine s_qk (.pointer (some ⟨b_st, 0, none⟩)) (by kernel_rfl) ?_
 refine s_ql (.agg #[hd_st_, hd_st_2, hd_st_3]) (x := aLoad Tryd.prog 40 (.pointer (some ⟨b_st, 0, none⟩)) H) (by kernel_rfl) (h_st.ld (by kernel_rfl)) ?_
 obtain ⟨y8, hy9, r10⟩ := bind_some hr
 refine s_ck 60 #[.agg #[hd_st_, hd_st_2, hd_st_3]] (by kernel_rfl) (c_search_nodes wf h_st_ h_st_2 h_st_3 hy9) ?_
 rintro _ H11 ⟨rfl, e12⟩
 obtain ⟨g13, r14⟩ := G_some r10
 refine s_mks (t := 22) (m := 8) (l := y8) (c := y8) (enc := (encI .i64)) (sz := 1) e12.wf (0 : Int) (by kernel_rfl) (by decide) g13.1 (Int.le_refl _) (by omega) (by have := g13; omega) (by kernel_rfl) fun s15 f16 H17 e18 hf19 hm20 => ?_
 obtain ⟨a21, n22, c23, rfl⟩ := hm20.form
 have hm20 : Ow (encI .i64) 1 H17 (.slice a21 n22 c23) (List.replicate y8.toNat (0 : Int)) f16 := hm20
 refine s_qk (.slice a21 n22 c23) (by kernel_rfl) ?_
 refine s_nil ?_
 refine k7 _ _ ?_
 refine w_seqk fun K25 k25 => ?_
 refine w_reg (by kernel_rfl) ?_
 refine s_qk (.pointer (some ⟨b_st, 0, none⟩)) (by kernel_rfl) ?_
 refine s_qk (.pointer (some ⟨b_st, 0, none⟩)) (by kernel_rfl) ?_
 refine s_qk (.pointer (some ⟨b_st, 0, none⟩)) (by kernel_rfl) ?_
 have u26 := ((h_st.frS e12 Dj.nil_l).ext e18)
 refine s_ql (.agg #[hd_st_, hd_st_2, hd_st_3]) (x := aLoad Tryd.prog 40 (.pointer (some ⟨b_st, 0, none⟩)) H17) (by kernel_rfl) (u26.ld (by kernel_rfl)) ?_
 have u27 := ((h_st_.fr e12 Dj.nil_l).ext e18)
 have u28 := ((h_st_2.fr e12 Dj.nil_l).ext e18)
 have u29 := ((h_st_3.fr e12 Dj.nil_l).ext e18)
 obtain ⟨y30, hy31, r32⟩ := bind_some r14
 refine s_ck 60 #[.agg #[hd_st_, hd_st_2, hd_st_3]] (by kernel_rfl) (c_search_nodes e18.wf u27 u28 u29 hy31) ?_
 rintro _ H33 ⟨rfl, e34⟩
 obtain ⟨g35, r36⟩ := G_some r32
 refine s_mks (t := 22) (m := 8) (l := y30) (c := y30) (enc := (encI .i64)) (sz := 1) e34.wf (0 : Int) (by kernel_rfl) (by decide) g35.1 (Int.le_refl _) (by omega) (by have := g35; omega) (by kernel_rfl) fun s37 f38 H39 e40 hf41 hm42 => ?_
 obtain ⟨a43, n44, c45, rfl⟩ := hm42.form
 have hm42 : Ow (encI .i64) 1 H39 (.slice a43 n44 c45) (List.replicate y30.toNat (0 : Int)) f38 := hm42
 refine s_qk (.slice a43 n44 c45) (by kernel_rfl) ?_
 refine s_nil ?_
 refine k25 _ _ ?_
 refine w_seqk fun K47 k47 => ?_
 refine w_reg (by kernel_rfl) ?_
 refine s_qk (.slice a43 n44 c45) (by kernel_rfl) ?_
 refine s_qk (.int .i64 s) (by kernel_rfl) ?_
 obtain ⟨g48, r49⟩ := G_some r36
 refine s_ql (elp (.slice a43 n44 c45) 1 s.toNat 0) (x := aIndexAddr Tryd.prog 22 (.slice a43 n44 c45) (.int .i64 s)) (by kernel_rfl) (hm42.sq.idxb (by kernel_rfl) g48.1 g48.2) ?_
 obtain ⟨H50, q51, e52, hm53⟩ := Ow.store (P := Tryd.prog) (t := 3) (off := 0) e40.wf hm42 g48.1 g48.2 (.int .i64 1) [.int .i64 1] (by kernel_rfl) (by kernel_rfl) rfl 1 (Nat.le_of_ble_eq_true rfl) (by kernel_rfl)
 refine s_ek (undef) (by kernel_rfl) (map_ok q51) ?_
 refine s_nil ?_
 refine k47 _ _ ?_
 refine w_seqk fun K54 k54 => ?_
 refine w_reg (by kernel_rfl) ?_
 refine s_qk (.int .i64 s) (by kernel_rfl) ?_
 refine s_owk (enc := (encI .i64)) (sz := 1) e52.wf [s] 1 (by decide) (fun _ _ => rfl) (fun _ _ => rfl) rfl (by kernel_rfl) fun s55 f56 H57 e58 hf59 hm60 => ?_
 obtain ⟨a61, n62, c63, rfl⟩ := hm60.form
 refine s_qk (.slice a61 n62 c63) (by kernel_rfl) ?_
 refine s_nil ?_
 refine k54 _ _ ?_
 refine w_seqk fun K65 k65 => ?_
 refine w_seqk fun K66 k66 => ?_
 refine w_reg (by kernel_rfl) ?_
 refine s_qk (.int .i64 0) (by kernel_rfl) ?_
 refine s_nil ?_
 refine k66 _ _ ?_
 obtain ⟨o67, hx68, r69⟩ := bind_some r49
 refine w_mid (fun α H70 => Has α [(5, .slice a21 n22 c23)] ∧ FrS (f16 ++ (f38 ++ f56)) H57 H70 ∧ Ow (encI .i64) 1 H70 (.slice a21 n22 c23) o67 f16) (fun K74 k74 => ?_) (fun α H70 hM => ?_)
 ·refine w_block ?_
  obtain ⟨n76, hn77⟩ := loopO_iff.1 hx68
  have u95 := ((((hm20.fr e34 Dj.nil_l).ext e40).fr e52 (hf41.djn (hm20.lt.le e34.next))).ext e58)
  have u96 := (hm53.ext e58)
  refine w_loopn (fun n α H78 => ∃ (from4 : List (Int)), ∃ (seen5 : List (Int)), ∃ (list6 : List (Int)), ∃ (i7 : Int), ∃ (s86 : Value), ∃ (f87 : Fp), iterO (fun zz_ => z_search_state_parents_l1 st_ st_2 st_3 st_8 st_9 st_10 zz_.1 zz_.2.1 zz_.2.2.1 zz_.2.2.2) n (from4, seen5, list6, i7) = some o67 ∧ Has α [(0, .pointer (some ⟨b_st, 0, none⟩)), (5, .slice a21 n22 c23), (6, .slice a43 n44 c45), (7, s86), (8, .int .i64 i7)] ∧ FrS (f16 ++ (f38 ++ f56)) H57 H78 ∧ Ow (encI .i64) 1 H78 (.slice a21 n22 c23) from4 f16 ∧ Ow (encI .i64) 1 H78 (.slice a43 n44 c45) seen5 f38 ∧ Ow (encI .i64) 1 H78 s86 list6 f87 ∧ Inn f56 H57 f87) n76 ⟨(List.replicate y8.toNat (0 : Int)), ((List.replicate y30.toNat (0 : Int)).set s.toNat 1), [s], 0, (.slice a61 n62 c63), f56, hn77, ⟨by kernel_rfl, by kernel_rfl, by kernel_rfl, by kernel_rfl, by kernel_rfl, trivial⟩, (FrS.refl (W := (f16 ++ (f38 ++ f56))) e58.wf), u95, u96, hm60, Inn.refl'⟩ ?_
  rintro n76 α H78 ⟨from4, seen5, list6, i7, s86, f87, hi90, hh89, e79, m81, m83, m85, i88⟩ K97 k97
  obtain ⟨n91, z92, rfl, hz93, hn94⟩ := iter_succ hi90
  obtain ⟨β, rfl⟩ := has_ex hh89
  clear hh89
  replace hz93 : z_search_state_parents_l1 st_ st_2 st_3 st_8 st_9 st_10 from4 seen5 list6 i7 = some z92 := hz93
  unfold z_search_state_parents_l1 at hz93
  obtain ⟨a98, n99, c100, rfl⟩ := m85.form
  refine w_seqk fun K101 k101 => ?_
  refine w_seqk fun K102 k102 => ?_
  refine w_reg (by kernel_rfl) ?_
  refine s_qk (.int .i64 i7) (by kernel_rfl) ?_
  refine s_qk (.slice a98 n99 c100) (by kernel_rfl) ?_
  refine s_ql (.int .i64 (list6.length : Int)) (x := aLen Tryd.prog 22 (.slice a98 n99 c100) H78) (by kernel_rfl) (m85.sq.lenb (by kernel_rfl)) ?_
  refine s_qk (.bool (decide (i7 < (list6.length : Int)))) (by kernel_rfl) ?_
  refine s_nil ?_
  refine k102 _ _ ?_
  refine w_condp (i7 < (list6.length : Int)) (by kernel_rfl) rfl (fun h103 => ?_) (fun h103 => ?_)
  ·have r104 := ite_t h103 hz93
   refine w_skip ?_
   refine k101 _ _ ?_
   refine w_seqk fun K105 k105 => ?_
   refine w_block ?_
   refine w_seqk fun K106 k106 => ?_
   refine w_reg (by kernel_rfl) ?_
   refine s_qk (.slice a98 n99 c100) (by kernel_rfl) ?_
   refine s_qk (.int .i64 i7) (by kernel_rfl) ?_
   obtain ⟨g107, r108⟩ := G_some r104
   refine s_ql (elp (.slice a98 n99 c100) 1 i7.toNat 0) (x := aIndexAddr Tryd.prog 22 (.slice a98 n99 c100) (.int .i64 i7)) (by kernel_rfl) (m85.sq.idxb (by kernel_rfl) g107 h103) ?_
   refine s_ql (.int .i64 (gt list6 i7)) (x := aLoad Tryd.prog 3 (elp (.slice a98 n99 c100) 1 i7.toNat 0) H78) (by kernel_rfl) (m85.sq.ld g107 h103 (by kernel_rfl)) ?_
   refine s_qk (.int .i64 (gt list6 i7)) (by kernel_rfl) ?_
   refine s_nil ?_
   refine k106 _ _ ?_
   refine w_seqk fun K109 k109 => ?_
   refine w_reg (by kernel_rfl) ?_
   refine s_qk (.pointer (some ⟨b_st, 0, none⟩)) (by kernel_rfl) ?_
   refine s_qk (.pointer (some ⟨b_st, 0, none⟩)) (by kernel_rfl) ?_
   refine s_qk (.pointer (some ⟨b_st, 4, none⟩)) (by kernel_rfl) ?_
   have u110 := (((((u26.frS e34 Dj.nil_l).ext e40).frS e52 (hf41.djn (h_st.ltF.le (ntr (ntr e12.next e18.next) e34.next)))).ext e58).frS e79 (Dj.app (hf19.djn (h_st.ltF.le e12.next)) (Dj.app (hf41.djn (h_st.ltF.le (ntr (ntr e12.next e18.next) e34.next))) (hf59.djn (h_st.ltF.le (ntr (ntr (ntr (ntr e12.next e18.next) e34.next) e40.next) e52.next))))))
   refine s_ql (.pointer (some ⟨b_st_7, 0, none⟩)) (x := aLoad Tryd.prog 103 (.pointer (some ⟨b_st, 4, none⟩)) H78) (by kernel_rfl) (u110.ld (by kernel_rfl)) ?_
   refine s_qk (.int .i64 (gt list6 i7)) (by kernel_rfl) ?_
   have u111 := (((((((h_st_8.fr e12 Dj.nil_l).ext e18).fr e34 Dj.nil_l).ext e40).fr e52 (hf41.djn (h_st_8.lt.le (ntr (ntr e12.next e18.next) e34.next)))).ext e58).fr e79 (Dj.app (hf19.djn (h_st_8.lt.le e12.next)) (Dj.app (hf41.djn (h_st_8.lt.le (ntr (ntr e12.next e18.next) e34.next))) (hf59.djn (h_st_8.lt.le (ntr (ntr (ntr (ntr e12.next e18.next) e34.next) e40.next) e52.next))))))
   have u112 := (((((((h_st_7.frS e12 Dj.nil_l).ext e18).frS e34 Dj.nil_l).ext e40).frS e52 (hf41.djn (h_st_7.ltF.le (ntr (ntr e12.next e18.next) e34.next)))).ext e58).frS e79 (Dj.app (hf19.djn (h_st_7.ltF.le e12.next)) (Dj.app (hf41.djn (h_st_7.ltF.le (ntr (ntr e12.next e18.next) e34.next))) (hf59.djn (h_st_7.ltF.le (ntr (ntr (ntr (ntr e12.next e18.next) e34.next) e40.next) e52.next))))))
   obtain ⟨y113, hy114, r115⟩ := bind_some r108
   refine s_ck 62 #[.pointer (some ⟨b_st_7, 0, none⟩), .int .i64 (gt list6 i7)] (by kernel_rfl) (c_stamp_Stamp_Get e79.wf u111 u112 hy114) ?_
   rintro _ _ ⟨rfl, rfl⟩
   refine s_qk (.tuple #[.int .u64 y113.1, .bool y113.2]) (by kernel_rfl) ?_
   refine s_qk (.int .u64 y113.1) (by kernel_rfl) ?_
   refine s_qk (.bool y113.2) (by kernel_rfl) ?_
   refine s_qk (.int .u64 y113.1) (by kernel_rfl) ?_
   refine s_qk (.bool y113.2) (by kernel_rfl) ?_
   refine s_nil ?_
   refine k109 _ _ ?_
   refine w_seqk fun K118 k118 => ?_
   refine w_reg (by kernel_rfl) ?_
   refine s_qk (.pointer (some ⟨b_st, 0, none⟩)) (by kernel_rfl) ?_
   refine s_qk (.pointer (some ⟨b_st, 0, none⟩)) (by kernel_rfl) ?_
   refine s_qk (.pointer (some ⟨b_st, 0, none⟩)) (by kernel_rfl) ?_
   refine s_qk (.pointer (some ⟨b_st, 0, none⟩)) (by kernel_rfl) ?_
   refine s_ql (hd_st_) (x := aLoad Tryd.prog 22 (.pointer (some ⟨b_st, 0, none⟩)) H78) (by kernel_rfl) (u110.ld (by kernel_rfl)) ?_
   refine s_qk (.int .i64 (gt list6 i7)) (by kernel_rfl) ?_
   obtain ⟨g119, r120⟩ := G_some r115
   have u121 := (((((u27.fr e34 Dj.nil_l).ext e40).fr e52 (hf41.djn (h_st_.lt.le (ntr (ntr e12.next e18.next) e34.next)))).ext e58).fr e79 (Dj.app (hf19.djn (h_st_.lt.le e12.next)) (Dj.app (hf41.djn (h_st_.lt.le (ntr (ntr e12.next e18.next) e34.next))) (hf59.djn (h_st_.lt.le (ntr (ntr (ntr (ntr e12.next e18.next) e34.next) e40.next) e52.next))))))
   refine s_ql (elp hd_st_ 1 (gt list6 i7).toNat 0) (x := aIndexAddr Tryd.prog 22 hd_st_ (.int .i64 (gt list6 i7))) (by kernel_rfl) (u121.idxb (by kernel_rfl) g119.1 g119.2) ?_
   refine s_ql (.int .i64 (gt st_ (gt list6 i7))) (x := aLoad Tryd.prog 3 (elp hd_st_ 1 (gt list6 i7).toNat 0) H78) (by kernel_rfl) (u121.ld g119.1 g119.2 (by kernel_rfl)) ?_
   refine s_qk (.int .i64 (gt st_ (gt list6 i7))) (by kernel_rfl) ?_
   refine s_nil ?_
   refine k118 _ _ ?_
   obtain ⟨o122, hx123, r124⟩ := bind_some r120
   refine w_mid (fun α H125 => ∃ (s133 : Value) (f134 : Fp), Has α [(0, .pointer (some ⟨b_st, 0, none⟩)), (5, .slice a21 n22 c23), (6, .slice a43 n44 c45), (7, s133), (8, .int .i64 i7)] ∧ FrS (f16 ++ (f38 ++ f87)) H78 H125 ∧ Ow (encI .i64) 1 H125 (.slice a21 n22 c23) o122.1 f16 ∧ Ow (encI .i64) 1 H125 (.slice a43 n44 c45) o122.2.1 f38 ∧ Ow (encI .i64) 1 H125 s133 o122.2.2 f134 ∧ Inn f87 H78 f134) (fun K136 k136 => ?_) (fun α H125 hM => ?_)
   ·refine w_block ?_
    obtain ⟨n138, hn139⟩ := loopO_iff.1 hx123
    refine w_loopn (fun n α H140 => ∃ (j0 : Int), ∃ (from1 : List (Int)), ∃ (seen2 : List (Int)), ∃ (list3 : List (Int)), ∃ (s148 : Value), ∃ (f149 : Fp), iterO (fun zz_ => z_search_state_parents_l0 st_ st_2 st_3 st_8 st_9 st_10 list6 i7 y113 zz_.1 zz_.2.1 zz_.2.2.1 zz_.2.2.2) n (j0, from1, seen2, list3) = some o122 ∧ Has α [(0, .pointer (some ⟨b_st, 0, none⟩)), (5, .slice a21 n22 c23), (6, .slice a43 n44 c45), (7, s148), (8, .int .i64 i7), (9, .int .i64 (gt list6 i7)), (10, .int .u64 y113.1), (12, .int .i64 j0)] ∧ FrS (f16 ++ (f38 ++ f87)) H78 H140 ∧ Ow (encI .i64) 1 H140 (.slice a21 n22 c23) from1 f16 ∧ Ow (encI .i64) 1 H140 (.slice a43 n44 c45) seen2 f38 ∧ Ow (encI .i64) 1 H140 s148 list3 f149 ∧ Inn f87 H78 f149) n138 ⟨(gt st_ (gt list6 i7)), from4, seen5, list6, (.slice a98 n99 c100), f87, hn139, ⟨by kernel_rfl, by kernel_rfl, by kernel_rfl, by kernel_rfl, by kernel_rfl, by kernel_rfl, by kernel_rfl, by kernel_rfl, trivial⟩, (FrS.refl (W := (f16 ++ (f38 ++ f87))) e79.wf), m81, m83, m85, Inn.refl'⟩ ?_
    rintro n138 α H140 ⟨j0, from1, seen2, list3, s148, f149, hi152, hh151, e141, m143, m145, m147, i150⟩ K157 k157
    obtain ⟨n153, z154, rfl, hz155, hn156⟩ := iter_succ hi152
    obtain ⟨β, rfl⟩ := has_ex hh151
    clear hh151
    replace hz155 : z_search_state_parents_l0 st_ st_2 st_3 st_8 st_9 st_10 list6 i7 y113 j0 from1 seen2 list3 = some z154 := hz155
    unfold z_search_state_parents_l0 at hz155
    obtain ⟨a158, n159, c160, rfl⟩ := m147.form
    refine w_seqk fun K161 k161 => ?_
    refine w_seqk fun K162 k162 => ?_
    refine w_reg (by kernel_rfl) ?_
    refine s_qk (.int .i64 j0) (by kernel_rfl) ?_
    refine s_qk (.pointer (some ⟨b_st, 0, none⟩)) (by kernel_rfl) ?_
    refine s_qk (.pointer (some ⟨b_st, 0, none⟩)) (by kernel_rfl) ?_
    refine s_qk (.pointer (some ⟨b_st, 0, none⟩)) (by kernel_rfl) ?_
    refine s_qk (.pointer (some ⟨b_st, 0, none⟩)) (by kernel_rfl) ?_
    have u163 := (u110.frS e141 (Dj.app (hf19.djn (h_st.ltF.le e12.next)) (Dj.app (hf41.djn (h_st.ltF.le (ntr (ntr e12.next e18.next) e34.next))) (i88.dj (hf59.djn (h_st.ltF.le (ntr (ntr (ntr (ntr e12.next e18.next) e34.next) e40.next) e52.next))) (h_st.ltF.le (ntr (ntr (ntr (ntr (ntr e12.next e18.next) e34.next) e40.next) e52.next) e58.next))))))
    refine s_ql (hd_st_) (x := aLoad Tryd.prog 22 (.pointer (some ⟨b_st, 0, none⟩)) H140) (by kernel_rfl) (u163.ld (by kernel_rfl)) ?_
    refine s_qk (.int .i64 (gt list6 i7)) (by kernel_rfl) ?_
    obtain ⟨g164, r165⟩ := G_some hz155
    refine s_w (((gt list6 i7) + 1)) (k := .i64) (x := ((gt list6 i7) + 1)) (by kernel_rfl) (wrap64 (by have := g164; omega)) ?_
    obtain ⟨g166, r167⟩ := G_some r165
    have u168 := (u121.fr e141 (Dj.app (hf19.djn (h_st_.lt.le e12.next)) (Dj.app (hf41.djn (h_st_.lt.le (ntr (ntr e12.next e18.next) e34.next))) (i88.dj (hf59.djn (h_st_.lt.le (ntr (ntr (ntr (ntr e12.next e18.next) e34.next) e40.next) e52.next))) (h_st_.lt.le (ntr (ntr (ntr (ntr (ntr e12.next e18.next) e34.next) e40.next) e52.next) e58.next))))))
    refine s_ql (elp hd_st_ 1 ((gt list6 i7) + 1).toNat 0) (x := aIndexAddr Tryd.prog 22 hd_st_ (.int .i64 ((gt list6 i7) + 1))) (by kernel_rfl) (u168.idxb (by kernel_rfl) g166.1 g166.2) ?_
    refine s_ql (.int .i64 (gt st_ ((gt list6 i7) + 1))) (x := aLoad Tryd.prog 3 (elp hd_st_ 1 ((gt list6 i7) + 1).toNat 0) H140) (by kernel_rfl) (u168.ld g166.1 g166.2 (by kernel_rfl)) ?_
    refine s_qk (.bool (decide (j0 < (gt st_ ((gt list6 i7) + 1))))) (by kernel_rfl) ?_
    refine s_nil ?_
    refine k162 _ _ ?_
    refine w_condp (j0 < (gt st_ ((gt list6 i7) + 1))) (by kernel_rfl) rfl (fun h169 => ?_) (fun h169 => ?_)
    ·have r170 := ite_t h169 r167
     refine w_skip ?_
     refine k161 _ _ ?_
     refine w_seqk fun K171 k171 => ?_
     refine w_block ?_
     refine w_seqk fun K172 k172 => ?_
     refine w_reg (by kernel_rfl) ?_
     refine s_qk (.pointer (some ⟨b_st, 0, none⟩)) (by kernel_rfl) ?_
     refine s_qk (.pointer (some ⟨b_st, 0, none⟩)) (by kernel_rfl) ?_
     refine s_qk (.pointer (some ⟨b_st, 0, none⟩)) (by kernel_rfl) ?_
     refine s_qk (.pointer (some ⟨b_st, 1, none⟩)) (by kernel_rfl) ?_
     refine s_ql (hd_st_2) (x := aLoad Tryd.prog 22 (.pointer (some ⟨b_st, 1, none⟩)) H140) (by kernel_rfl) (u163.ld (by kernel_rfl)) ?_
     refine s_qk (.int .i64 j0) (by kernel_rfl) ?_
     obtain ⟨g173, r174⟩ := G_some r170
     have u175 := ((((((u28.fr e34 Dj.nil_l).ext e40).fr e52 (hf41.djn (h_st_2.lt.le (ntr (ntr e12.next e18.next) e34.next)))).ext e58).fr e79 (Dj.app (hf19.djn (h_st_2.lt.le e12.next)) (Dj.app (hf41.djn (h_st_2.lt.le (ntr (ntr e12.next e18.next) e34.next))) (hf59.djn (h_st_2.lt.le (ntr (ntr (ntr (ntr e12.next e18.next) e34.next) e40.next) e52.next)))))).fr e141 (Dj.app (hf19.djn (h_st_2.lt.le e12.next)) (Dj.app (hf41.djn (h_st_2.lt.le (ntr (ntr e12.next e18.next) e34.next))) (i88.dj (hf59.djn (h_st_2.lt.le (ntr (ntr (ntr (ntr e12.next e18.next) e34.next) e40.next) e52.next))) (h_st_2.lt.le (ntr (ntr (ntr (ntr (ntr e12.next e18.next) e34.next) e40.next) e52.next) e58.next))))))
     refine s_ql (elp hd_st_2 1 j0.toNat 0) (x := aIndexAddr Tryd.prog 22 hd_st_2 (.int .i64 j0)) (by kernel_rfl) (u175.idxb (by kernel_rfl) g173.1 g173.2) ?_
     refine s_ql (.int .i64 (gt st_2 j0)) (x := aLoad Tryd.prog 3 (elp hd_st_2 1 j0.toNat 0) H140) (by kernel_rfl) (u175.ld g173.1 g173.2 (by kernel_rfl)) ?_
     refine s_qk (.int .i64 (gt st_2 j0)) (by kernel_rfl) ?_
     refine s_nil ?_
     refine k172 _ _ ?_
     refine w_seqk fun K176 k176 => ?_
     refine w_reg (by kernel_rfl) ?_
     refine s_qk (.pointer (some ⟨b_st, 0, none⟩)) (by kernel_rfl) ?_
     refine s_qk (.pointer (some ⟨b_st, 0, none⟩)) (by kernel_rfl) ?_
     refine s_qk (.pointer (some ⟨b_st, 4, none⟩)) (by kernel_rfl) ?_
     refine s_ql (.pointer (some ⟨b_st_7, 0, none⟩)) (x := aLoad Tryd.prog 103 (.pointer (some ⟨b_st, 4, none⟩)) H140) (by kernel_rfl) (u163.ld (by kernel_rfl)) ?_
     refine s_qk (.int .i64 (gt st_2 j0)) (by kernel_rfl) ?_
     have u177 := (u111.fr e141 (Dj.app (hf19.djn (h_st_8.lt.le e12.next)) (Dj.app (hf41.djn (h_st_8.lt.le (ntr (ntr e12.next e18.next) e34.next))) (i88.dj (hf59.djn (h_st_8.lt.le (ntr (ntr (ntr (ntr e12.next e18.next) e34.next) e40.next) e52.next))) (h_st_8.lt.le (ntr (ntr (ntr (ntr (ntr e12.next e18.next) e34.next) e40.next) e52.next) e58.next))))))
     have u178 := (u112.frS e141 (Dj.app (hf19.djn (h_st_7.ltF.le e12.next)) (Dj.app (hf41.djn (h_st_7.ltF.le (ntr (ntr e12.next e18.next) e34.next))) (i88.dj (hf59.djn (h_st_7.ltF.le (ntr (ntr (ntr (ntr e12.next e18.next) e34.next) e40.next) e52.next))) (h_st_7.ltF.le (ntr (ntr (ntr (ntr (ntr e12.next e18.next) e34.next) e40.next) e52.next) e58.next))))))
     obtain ⟨y179, hy180, r181⟩ := bind_some r174
     refine s_ck 62 #[.pointer (some ⟨b_st_7, 0, none⟩), .int .i64 (gt st_2 j0)] (by kernel_rfl) (c_stamp_Stamp_Get e141.wf u177 u178 hy180) ?_
     rintro _ _ ⟨rfl, rfl⟩
     refine s_qk (.tuple #[.int .u64 y179.1, .bool y179.2]) (by kernel_rfl) ?_
     refine s_qk (.int .u64 y179.1) (by kernel_rfl) ?_
     refine s_qk (.bool y179.2) (by kernel_rfl) ?_
     refine s_qk (.int .u64 y179.1) (by kernel_rfl) ?_
     refine s_qk (.bool y179.2) (by kernel_rfl) ?_
     refine s_nil ?_
     refine k176 _ _ ?_
     refine w_seqk fun K184 k184 => ?_
     obtain ⟨o185, hx186, r187⟩ := bind_some r181
     refine w_mid (fun α H188 => Has α [(0, .pointer (some ⟨b_st, 0, none⟩)), (5, .slice a21 n22 c23), (6, .slice a43 n44 c45), (7, .slice a158 n159 c160), (8, .int .i64 i7), (9, .int .i64 (gt list6 i7)), (10, .int .u64 y113.1), (12, .int .i64 j0), (13, .int .i64 (gt st_2 j0)), (109, .bool o185)] ∧ H140 = H188) (fun K190 k190 => ?_) (fun α H188 hM => ?_)
     ·refine w_reg (by kernel_rfl) ?_
      refine s_qk (.slice a43 n44 c45) (by kernel_rfl) ?_
      refine s_qk (.int .i64 (gt st_2 j0)) (by kernel_rfl) ?_
      obtain ⟨g192, r193⟩ := G_some hx186
      refine s_ql (elp (.slice a43 n44 c45) 1 (gt st_2 j0).toNat 0) (x := aIndexAddr Tryd.prog 22 (.slice a43 n44 c45) (.int .i64 (gt st_2 j0))) (by kernel_rfl) (m145.sq.idxb (by kernel_rfl) g192.1 g192.2) ?_
      refine s_ql (.int .i64 (gt seen2 (gt st_2 j0))) (x := aLoad Tryd.prog 3 (elp (.slice a43 n44 c45) 1 (gt st_2 j0).toNat 0) H140) (by kernel_rfl) (m145.sq.ld g192.1 g192.2 (by kernel_rfl)) ?_
      refine s_b ((gt seen2 (gt st_2 j0)) = 0) (by kernel_rfl) (fun h194 => ?_) (fun h194 => ?_)
      ·have r195 := ite_t h194 r193
       refine s_qk (.bool true) (by kernel_rfl) ?_
       refine s_qk (.int .u64 y179.1) (by kernel_rfl) ?_
       refine s_qk (.int .u64 y113.1) (by kernel_rfl) ?_
       refine s_qk (.pointer (some ⟨b_st, 0, none⟩)) (by kernel_rfl) ?_
       refine s_qk (.pointer (some ⟨b_st, 0, none⟩)) (by kernel_rfl) ?_
       refine s_qk (.pointer (some ⟨b_st, 0, none⟩)) (by kernel_rfl) ?_
       refine s_qk (.pointer (some ⟨b_st, 2, none⟩)) (by kernel_rfl) ?_
       refine s_ql (hd_st_3) (x := aLoad Tryd.prog 22 (.pointer (some ⟨b_st, 2, none⟩)) H140) (by kernel_rfl) (u163.ld (by kernel_rfl)) ?_
       refine s_qk (.int .i64 j0) (by kernel_rfl) ?_
       obtain ⟨g196, r197⟩ := G_some r195
       have u198 := ((((((u29.fr e34 Dj.nil_l).ext e40).fr e52 (hf41.djn (h_st_3.lt.le (ntr (ntr e12.next e18.next) e34.next)))).ext e58).fr e79 (Dj.app (hf19.djn (h_st_3.lt.le e12.next)) (Dj.app (hf41.djn (h_st_3.lt.le (ntr (ntr e12.next e18.next) e34.next))) (hf59.djn (h_st_3.lt.le (ntr (ntr (ntr (ntr e12.next e18.next) e34.next) e40.next) e52.next)))))).fr e141 (Dj.app (hf19.djn (h_st_3.lt.le e12.next)) (Dj.app (hf41.djn (h_st_3.lt.le (ntr (ntr e12.next e18.next) e34.next))) (i88.dj (hf59.djn (h_st_3.lt.le (ntr (ntr (ntr (ntr e12.next e18.next) e34.next) e40.next) e52.next))) (h_st_3.lt.le (ntr (ntr (ntr (ntr (ntr e12.next e18.next) e34.next) e40.next) e52.next) e58.next))))))
       refine s_ql (elp hd_st_3 1 j0.toNat 0) (x := aIndexAddr Tryd.prog 22 hd_st_3 (.int .i64 j0)) (by kernel_rfl) (u198.idxb (by kernel_rfl) g173.1 g196) ?_
       refine s_ql (.int .i64 (gt st_3 j0)) (x := aLoad Tryd.prog 3 (elp hd_st_3 1 j0.toNat 0) H140) (by kernel_rfl) (u198.ld g173.1 g196 (by kernel_rfl)) ?_
       obtain ⟨g199, r200⟩ := G_some r197
       refine s_w ((gt st_3 j0)) (k := .u64) (x := (gt st_3 j0)) (by kernel_rfl) (wrapu64 g199) ?_
       obtain ⟨g201, r202⟩ := G_some r200
       refine s_w ((y113.1 + (gt st_3 j0))) (k := .u64) (x := (y113.1 + (gt st_3 j0))) (by kernel_rfl) (wrapu64 g201) ?_
       refine s_qk (.bool (decide (y179.1 = (y113.1 + (gt st_3 j0))))) (by kernel_rfl) ?_
       refine s_qk (.bool (decide (y179.1 = (y113.1 + (gt st_3 j0))))) (by kernel_rfl) ?_
       refine s_nil ?_
       obtain rfl := Option.some.inj r202
       exact k190 _ _ ⟨⟨by kernel_rfl, by kernel_rfl, by kernel_rfl, by kernel_rfl, by kernel_rfl, by kernel_rfl, by kernel_rfl, by kernel_rfl, by kernel_rfl, by kernel_rfl, trivial⟩, rfl⟩
      ·have r203 := ite_f h194 r193
       refine s_qk (.bool false) (by kernel_rfl) ?_
       refine s_no (by kernel_rfl) ?_
       refine s_no (by kernel_rfl) ?_
       refine s_no (by kernel_rfl) ?_
       refine s_no (by kernel_rfl) ?_
       refine s_no (by kernel_rfl) ?_
       refine s_no (by kernel_rfl) ?_
       refine s_no (by kernel_rfl) ?_
       refine s_no (by kernel_rfl) ?_
       refine s_no (by kernel_rfl) ?_
       refine s_no (by kernel_rfl) ?_
       refine s_no (by kernel_rfl) ?_
       refine s_no (by kernel_rfl) ?_
       refine s_no (by kernel_rfl) ?_
       refine s_qk (.bool false) (by kernel_rfl) ?_
       refine s_nil ?_
       obtain rfl := Option.some.inj r203
       exact k190 _ _ ⟨⟨by kernel_rfl, by kernel_rfl, by kernel_rfl, by kernel_rfl, by kernel_rfl, by kernel_rfl, by kernel_rfl, by kernel_rfl, by kernel_rfl, by kernel_rfl, trivial⟩, rfl⟩
     ·obtain ⟨hh191, rfl⟩ := hM
      obtain ⟨β, rfl⟩ := has_ex hh191
      clear hh191
      refine k184 _ _ ?_
      refine w_cond (o185) (by kernel_rfl) rfl (fun h204 => ?_) (fun h204 => ?_)
      ·have r205 := ite_t h204 r187
       refine w_seqk fun K206 k206 => ?_
       refine w_reg (by kernel_rfl) ?_
       refine s_qk (.slice a43 n44 c45) (by kernel_rfl) ?_
       refine s_qk (.int .i64 (gt st_2 j0)) (by kernel_rfl) ?_
       obtain ⟨g207, r208⟩ := G_some r205
       refine s_ql (elp (.slice a43 n44 c45) 1 (gt st_2 j0).toNat 0) (x := aIndexAddr Tryd.prog 22 (.slice a43 n44 c45) (.int .i64 (gt st_2 j0))) (by kernel_rfl) (m145.sq.idxb (by kernel_rfl) g207.1 g207.2) ?_
       obtain ⟨H209, q210, e211, hm212⟩ := Ow.store (P := Tryd.prog) (t := 3) (off := 0) e141.wf m145 g207.1 g207.2 (.int .i64 1) [.int .i64 1] (by kernel_rfl) (by kernel_rfl) rfl 1 (Nat.le_of_ble_eq_true rfl) (by kernel_rfl)
       refine s_ek (undef) (by kernel_rfl) (map_ok q210) ?_
       refine s_nil ?_
       refine k206 _ _ ?_
       refine w_seqk fun K213 k213 => ?_
       refine w_reg (by kernel_rfl) ?_
       refine s_qk (.slice a21 n22 c23) (by kernel_rfl) ?_
       refine s_qk (.int .i64 (gt st_2 j0)) (by kernel_rfl) ?_
       refine s_qk (.int .i64 (gt list6 i7)) (by kernel_rfl) ?_
       obtain ⟨g214, r215⟩ := G_some r208
       have u216 := (m143.fr e211 (hf41.djn (hm20.lt.le e34.next)))
       refine s_ql (elp (.slice a21 n22 c23) 1 (gt st_2 j0).toNat 0) (x := aIndexAddr Tryd.prog 22 (.slice a21 n22 c23) (.int .i64 (gt st_2 j0))) (by kernel_rfl) (u216.sq.idxb (by kernel_rfl) g207.1 g214) ?_
       obtain ⟨H217, q218, e219, hm220⟩ := Ow.store (P := Tryd.prog) (t := 3) (off := 0) e211.wf u216 g207.1 g214 (.int .i64 (gt list6 i7)) [.int .i64 (gt list6 i7)] (by kernel_rfl) (by kernel_rfl) rfl (gt list6 i7) (Nat.le_of_ble_eq_true rfl) (by kernel_rfl)
       refine s_ek (undef) (by kernel_rfl) (map_ok q218) ?_
       refine s_nil ?_
       refine k213 _ _ ?_
       refine w_reg (by kernel_rfl) ?_
       refine s_qk (.slice a158 n159 c160) (by kernel_rfl) ?_
       refine s_qk (.int .i64 (gt st_2 j0)) (by kernel_rfl) ?_
       refine s_owk (enc := (encI .i64)) (sz := 1) e219.wf [(gt st_2 j0)] 1 (by decide) (fun _ _ => rfl) (fun _ _ => rfl) rfl (by kernel_rfl) fun s221 f222 H223 e224 hf225 hm226 => ?_
       obtain ⟨a227, n228, c229, rfl⟩ := hm226.form
       have u231 := (((m147.fr e211 (Dj.symm (i150.dj (i88.dj (hf59.djn (hm42.lt.le e52.next)) (hm42.lt.le (ntr e52.next e58.next))) (hm42.lt.le (ntr (ntr e52.next e58.next) e79.next))))).fr e219 (Dj.symm (i150.dj (i88.dj (hf59.djn (hm20.lt.le (ntr (ntr e34.next e40.next) e52.next))) (hm20.lt.le (ntr (ntr (ntr e34.next e40.next) e52.next) e58.next))) (hm20.lt.le (ntr (ntr (ntr (ntr e34.next e40.next) e52.next) e58.next) e79.next))))).ext e224)
       obtain ⟨g232, r233⟩ := G_some r215
       obtain ⟨s234, H235, f236, q240, e237, hm238, hf239⟩ := Ow.append (P := Tryd.prog) 8 e224.wf u231 hm226.sq (fun _ _ => rfl) (at_ := #[22, 22]) rfl rfl (by kernel_rfl) (by kernel_rfl) (by decide) (by have := g232; first | omega | (simp only [List.length_cons, List.length_nil] at this ⊢; omega) | (simp at this ⊢; omega))
       obtain ⟨a241, n242, c243, rfl⟩ := hm238.form
       refine s_ek (.slice a241 n242 c243) (by kernel_rfl) (q240) ?_
       refine s_qk (.slice a241 n242 c243) (by kernel_rfl) ?_
       refine s_nil ?_
       refine k171 _ _ ?_
       refine w_reg (by kernel_rfl) ?_
       refine s_qk (.int .i64 j0) (by kernel_rfl) ?_
       obtain ⟨g245, r246⟩ := G_some r233
       refine s_w ((j0 + 1)) (k := .i64) (x := (j0 + 1)) (by kernel_rfl) (wrap64 (by have := g245; omega)) ?_
       refine s_qk (.int .i64 (j0 + 1)) (by kernel_rfl) ?_
       refine s_nil ?_
       have u247 := ((hm220.ext e224).fr e237 (i150.dj (i88.dj (hf59.djn (hm20.lt.le (ntr (ntr e34.next e40.next) e52.next))) (hm20.lt.le (ntr (ntr (ntr e34.next e40.next) e52.next) e58.next))) (hm20.lt.le (ntr (ntr (ntr (ntr e34.next e40.next) e52.next) e58.next) e79.next))))
       have u248 := (((hm212.fr e219 (Dj.symm (hf41.djn (hm20.lt.le e34.next)))).ext e224).fr e237 (i150.dj (i88.dj (hf59.djn (hm42.lt.le e52.next)) (hm42.lt.le (ntr e52.next e58.next))) (hm42.lt.le (ntr (ntr e52.next e58.next) e79.next))))
       obtain rfl := Option.some.inj r246
       exact k157 n153 _ _ (Nat.lt_succ_self _) ⟨(j0 + 1), (from1.set (gt st_2 j0).toNat (gt list6 i7)), (seen2.set (gt st_2 j0).toNat 1), (list3 ++ [(gt st_2 j0)]), (.slice a241 n242 c243), f236, hn156, ⟨by kernel_rfl, by kernel_rfl, by kernel_rfl, by kernel_rfl, by kernel_rfl, by kernel_rfl, by kernel_rfl, by kernel_rfl, trivial⟩, (FrS.step e79.wf ((FrS.step e79.wf (FrS.step e79.wf (FrS.step e79.wf (FrS.refl (W := (f16 ++ (f38 ++ f87))) e79.wf) e141 (Inn.app Inn.left (Inn.app (Inn.right Inn.left) (Inn.right (Inn.right Inn.refl'))))) e211 (Inn.right Inn.left)) e219 Inn.left).extR e224) e237 (Inn.trans (Inn.right (Inn.right Inn.refl')) (Nat.le_refl _) i150)), u247, u248, hm238, (Inn.trans (Inn.trans Inn.refl' (Nat.le_refl _) i150) (ntr (ntr (ntr e141.next e211.next) e219.next) e224.next) hf239)⟩
      ·have r249 := ite_bf h204 r187
       refine w_skip ?_
       refine k171 _ _ ?_
       refine w_reg (by kernel_rfl) ?_
       refine s_qk (.int .i64 j0) (by kernel_rfl) ?_
       obtain ⟨g250, r251⟩ := G_some r249
       refine s_w ((j0 + 1)) (k := .i64) (x := (j0 + 1)) (by kernel_rfl) (wrap64 (by have := g250; omega)) ?_
       refine s_qk (.int .i64 (j0 + 1)) (by kernel_rfl) ?_
       refine s_nil ?_
       obtain rfl := Option.some.inj r251
       exact k157 n153 _ _ (Nat.lt_succ_self _) ⟨(j0 + 1), from1, seen2, list3, (.slice a158 n159 c160), f149, hn156, ⟨by kernel_rfl, by kernel_rfl, by kernel_rfl, by kernel_rfl, by kernel_rfl, by kernel_rfl, by kernel_rfl, by kernel_rfl, trivial⟩, (FrS.step e79.wf (FrS.refl (W := (f16 ++ (f38 ++ f87))) e79.wf) e141 (Inn.app Inn.left (Inn.app (Inn.right Inn.left) (Inn.right (Inn.right Inn.refl'))))), m143, m145, m147, (Inn.trans Inn.refl' (Nat.le_refl _) i150)⟩
    ·have r252 := ite_f h169 r167
     refine w_exit (th_exit (th_exit (bl_eq ?_)))
     obtain rfl := Option.some.inj r252
     obtain rfl := it_inr hn156
     exact k136 _ _ ⟨(.slice a158 n159 c160), f149, ⟨by kernel_rfl, by kernel_rfl, by kernel_rfl, by kernel_rfl, by kernel_rfl, trivial⟩, (FrS.step e79.wf (FrS.refl (W := (f16 ++ (f38 ++ f87))) e79.wf) e141 (Inn.app Inn.left (Inn.app (Inn.right Inn.left) (Inn.right (Inn.right Inn.refl'))))), m143, m145, m147, (Inn.trans Inn.refl' (Nat.le_refl _) i150)⟩
   ·obtain ⟨s133, f134, hh137, e126, m128, m130, m132, i135⟩ := hM
    obtain ⟨β, rfl⟩ := has_ex hh137
    clear hh137
    obtain ⟨a253, n254, c255, rfl⟩ := m132.form
    refine k105 _ _ ?_
    refine w_reg (by kernel_rfl) ?_
    refine s_qk (.int .i64 i7) (by kernel_rfl) ?_
    obtain ⟨g256, r257⟩ := G_some r124
    refine s_w ((i7 + 1)) (k := .i64) (x := (i7 + 1)) (by kernel_rfl) (wrap64 (by have := g256; omega)) ?_
    refine s_qk (.int .i64 (i7 + 1)) (by kernel_rfl) ?_
    refine s_nil ?_
    obtain rfl := Option.some.inj r257
    exact k97 n91 _ _ (Nat.lt_succ_self _) ⟨o122.1, o122.2.1, o122.2.2, (i7 + 1), (.slice a253 n254 c255), f134, hn94, ⟨by kernel_rfl, by kernel_rfl, by kernel_rfl, by kernel_rfl, by kernel_rfl, trivial⟩, (FrS.step e58.wf (FrS.step e58.wf (FrS.refl (W := (f16 ++ (f38 ++ f56))) e58.wf) e79 (Inn.app Inn.left (Inn.app (Inn.right Inn.left) (Inn.right (Inn.right Inn.refl'))))) e126 (Inn.app Inn.left (Inn.app (Inn.right Inn.left) (Inn.trans (Inn.right (Inn.right Inn.refl')) (Nat.le_refl _) i88)))), m128, m130, m132, (Inn.trans (Inn.trans Inn.refl' (Nat.le_refl _) i88) e79.next i135)⟩
  ·have r258 := ite_f h103 hz93
   refine w_exit (th_exit (th_exit (bl_eq ?_)))
   obtain rfl := Option.some.inj r258
   obtain rfl := it_inr hn94
   exact k74 _ _ ⟨⟨by kernel_rfl, trivial⟩, (FrS.step e58.wf (FrS.refl (W := (f16 ++ (f38 ++ f56))) e58.wf) e79 (Inn.app Inn.left (Inn.app (Inn.right Inn.left) (Inn.right (Inn.right Inn.refl'))))), m81⟩
 ·obtain ⟨hh75, e71, m73⟩ := hM
  obtain ⟨β, rfl⟩ := has_ex hh75
  clear hh75
  refine k65 _ _ ?_
  refine w_seqk fun K259 k259 => ?_
  refine w_reg (by kernel_rfl) ?_
  refine s_qk (.slice a21 n22 c23) (by kernel_rfl) ?_
  refine s_qk (.slice a21 n22 c23) (by kernel_rfl) ?_
  refine s_nil ?_
  refine k259 _ _ ?_
  refine w_ret ?_
  refine b_ret (fn := Tryd.f52) (vs := [.slice a21 n22 c23]) (aRes_tmp (by kernel_rfl) (rfl)) ?_
  obtain rfl := Option.some.inj r69
  exact ⟨(.slice a21 n22 c23), f16, rfl, (FrS.step wf ((FrS.step wf ((FrS.step wf ((FrS.step wf (FrS.refl (W := []) wf) e12 Inn.nil).extR e18) e34 Inn.nil).extR e40) e52 (hf41.fresh (ntr (ntr e12.next e18.next) e34.next))).extR e58) e71 (Inn.app (hf19.fresh e12.next) (Inn.app (hf41.fresh (ntr (ntr e12.next e18.next) e34.next)) (hf59.fresh (ntr (ntr (ntr (ntr e12.next e18.next) e34.next) e40.next) e52.next))))), m73, (hf19.fresh e12.next)⟩

theorem c_slices_Reverse {H : AH} {hd_s : Value} {fp_s : Fp} {s : List (Int)} {r : List (Int)}
  (wf : WF H) (h_s : Ow (encI .i64) 1 H hd_s s fp_s) (hr : z_slices_Reverse s = some r) :
  ACalls Tryd.prog 46 #[hd_s] H fun v H' => v = .tuple #[] ∧ FrS fp_s H H' ∧ Ow (encI .i64) 1 H' hd_s r fp_s := by
 refine acalls_of_body mixed Tryd.func46 rfl (Nat.le_of_ble_eq_true rfl) ?_
 unfold z_slices_Reverse at hr
 refine w_seqk fun K3 k3 => ?_
 refine w_reg (by kernel_rfl) ?_
 refine s_qk (hd_s) (by kernel_rfl) ?_
 refine s_ql (.int .i64 (s.length : Int)) (x := aLen Tryd.prog 22 hd_s H) (by kernel_rfl) (h_s.sq.lenb (by kernel_rfl)) ?_
 obtain ⟨g4, r5⟩ := G_some hr
 refine s_w (((s.length : Int) - 1)) (k := .i64) (x := ((s.length : Int) - 1)) (by kernel_rfl) (wrap64 g4) ?_
 refine s_qk (.int .i64 0) (by kernel_rfl) ?_
 refine s_qk (.int .i64 ((s.length : Int) - 1)) (by kernel_rfl) ?_
 refine s_nil ?_
 refine k3 _ _ ?_
 obtain ⟨o6, hx7, r8⟩ := bind_some r5
 refine w_mid (fun α H9 => Has α [] ∧ FrS fp_s H H9 ∧ Ow (encI .i64) 1 H9 hd_s o6 fp_s) (fun K13 k13 => ?_) (fun α H9 hM => ?_)
 ·refine w_block ?_
  obtain ⟨n15, hn16⟩ := loopO_iff.1 hx7
  refine w_loopn (fun n α H17 => ∃ (s0 : List (Int)), ∃ (i1 : Int), ∃ (j2 : Int), iterO (fun zz_ => z_slices_Reverse_l0 zz_.1 zz_.2.1 zz_.2.2) n (s0, i1, j2) = some o6 ∧ Has α [(0, hd_s), (2, .int .i64 i1), (3, .int .i64 j2)] ∧ FrS fp_s H H17 ∧ Ow (encI .i64) 1 H17 hd_s s0 fp_s) n15 ⟨s, 0, ((s.length : Int) - 1), hn16, ⟨by kernel_rfl, by kernel_rfl, by kernel_rfl, trivial⟩, (FrS.refl (W := fp_s) wf), h_s⟩ ?_
  rintro n15 α H17 ⟨s0, i1, j2, hi22, hh21, e18, m20⟩ K27 k27
  obtain ⟨n23, z24, rfl, hz25, hn26⟩ := iter_succ hi22
  obtain ⟨β, rfl⟩ := has_ex hh21
  clear hh21
  replace hz25 : z_slices_Reverse_l0 s0 i1 j2 = some z24 := hz25
  unfold z_slices_Reverse_l0 at hz25
  refine w_seqk fun K28 k28 => ?_
  refine w_seqk fun K29 k29 => ?_
  refine w_reg (by kernel_rfl) ?_
  refine s_qk (.int .i64 i1) (by kernel_rfl) ?_
  refine s_qk (.int .i64 j2) (by kernel_rfl) ?_
  refine s_qk (.bool (decide (i1 < j2))) (by kernel_rfl) ?_
  refine s_nil ?_
  refine k29 _ _ ?_
  refine w_condp (i1 < j2) (by kernel_rfl) rfl (fun h30 => ?_) (fun h30 => ?_)
  ·have r31 := ite_t h30 hz25
   refine w_skip ?_
   refine k28 _ _ ?_
   refine w_seqk fun K32 k32 => ?_
   refine w_block ?_
   refine w_draw [0, 1, 2, 3, 4, 5, 6, 7, 8, 9, 10, 11, 12, 13, 14, 15] (by kernel_rfl) ?_
   refine d_qk (hd_s) (by kernel_rfl) ?_
   refine d_qk (.int .i64 i1) (by kernel_rfl) ?_
   refine d_qk (hd_s) (by kernel_rfl) ?_
   refine d_qk (.int .i64 j2) (by kernel_rfl) ?_
   refine d_qk (hd_s) (by kernel_rfl) ?_
   refine d_qk (.int .i64 j2) (by kernel_rfl) ?_
   obtain ⟨g33, r34⟩ := G_some r31
   refine d_ql (elp hd_s 1 j2.toNat 0) (x := aIndexAddr Tryd.prog 22 hd_s (.int .i64 j2)) (by kernel_rfl) (m20.sq.idxb (by kernel_rfl) g33.1 g33.2) ?_
   refine d_ql (.int .i64 (gt s0 j2)) (x := aLoad Tryd.prog 3 (elp hd_s 1 j2.toNat 0) H17) (by kernel_rfl) (m20.sq.ld g33.1 g33.2 (by kernel_rfl)) ?_
   refine d_qk (hd_s) (by kernel_rfl) ?_
   refine d_qk (.int .i64 i1) (by kernel_rfl) ?_
   obtain ⟨g35, r36⟩ := G_some r34
   refine d_ql (elp hd_s 1 i1.toNat 0) (x := aIndexAddr Tryd.prog 22 hd_s (.int .i64 i1)) (by kernel_rfl) (m20.sq.idxb (by kernel_rfl) g35.1 g35.2) ?_
   refine d_ql (.int .i64 (gt s0 i1)) (x := aLoad Tryd.prog 3 (elp hd_s 1 i1.toNat 0) H17) (by kernel_rfl) (m20.sq.ld g35.1 g35.2 (by kernel_rfl)) ?_
   refine d_ql (elp hd_s 1 i1.toNat 0) (x := aIndexAddr Tryd.prog 22 hd_s (.int .i64 i1)) (by kernel_rfl) (m20.sq.idxb (by kernel_rfl) g35.1 g35.2) ?_
   obtain ⟨H37, q38, e39, hm40⟩ := Ow.store (P := Tryd.prog) (t := 3) (off := 0) e18.wf m20 g35.1 g35.2 (.int .i64 (gt s0 j2)) [.int .i64 (gt s0 j2)] (by kernel_rfl) (by kernel_rfl) rfl (gt s0 j2) (Nat.le_of_ble_eq_true rfl) (by kernel_rfl)
   refine d_ek (undef) (by kernel_rfl) (map_ok q38) (st_nil) ?_
   obtain ⟨g41, r42⟩ := G_some r36
   refine d_ql (elp hd_s 1 j2.toNat 0) (x := aIndexAddr Tryd.prog 22 hd_s (.int .i64 j2)) (by kernel_rfl) (hm40.sq.idxb (by kernel_rfl) g33.1 g41) ?_
   obtain ⟨H43, q44, e45, hm46⟩ := Ow.store (P := Tryd.prog) (t := 3) (off := 0) e39.wf hm40 g33.1 g41 (.int .i64 (gt s0 i1)) [.int .i64 (gt s0 i1)] (by kernel_rfl) (by kernel_rfl) rfl (gt s0 i1) (Nat.le_of_ble_eq_true rfl) (by kernel_rfl)
   refine d_ek (undef) (by kernel_rfl) (map_ok q44) (st_nil) ?_
   refine d_nil ?_
   refine k32 _ _ ?_
   refine w_reg (by kernel_rfl) ?_
   refine s_qk (.int .i64 i1) (by kernel_rfl) ?_
   obtain ⟨g47, r48⟩ := G_some r42
   refine s_w ((i1 + 1)) (k := .i64) (x := (i1 + 1)) (by kernel_rfl) (wrap64 (by have := g47; omega)) ?_
   refine s_qk (.int .i64 j2) (by kernel_rfl) ?_
   obtain ⟨g49, r50⟩ := G_some r48
   refine s_w ((j2 - 1)) (k := .i64) (x := (j2 - 1)) (by kernel_rfl) (wrap64 g49) ?_
   refine s_qk (.int .i64 (i1 + 1)) (by kernel_rfl) ?_
   refine s_qk (.int .i64 (j2 - 1)) (by kernel_rfl) ?_
   refine s_nil ?_
   obtain rfl := Option.some.inj r50
   exact k27 n23 _ _ (Nat.lt_succ_self _) ⟨((s0.set i1.toNat (gt s0 j2)).set j2.toNat (gt s0 i1)), (i1 + 1), (j2 - 1), hn26, ⟨by kernel_rfl, by kernel_rfl, by kernel_rfl, trivial⟩, (FrS.step wf (FrS.step wf (FrS.step wf (FrS.refl (W := fp_s) wf) e18 Inn.refl') e39 Inn.refl') e45 Inn.refl'), hm46⟩
  ·have r51 := ite_f h30 hz25
   refine w_exit (th_exit (th_exit (bl_eq ?_)))
   obtain rfl := Option.some.inj r51
   obtain rfl := it_inr hn26
   exact k13 _ _ ⟨trivial, (FrS.step wf (FrS.refl (W := fp_s) wf) e18 Inn.refl'), m20⟩
 ·obtain ⟨hh14, e10, m12⟩ := hM
  obtain ⟨β, rfl⟩ := has_ex hh14
  clear hh14
  refine b_nrm (fn := Tryd.f46) (vs := []) (rfl) ?_
  obtain rfl := Option.some.inj r8
  exact ⟨rfl, (FrS.step wf (FrS.refl (W := fp_s) wf) e10 Inn.refl'), m12⟩

theorem c_search_Path {H : AH} {hd_First : Value} {fp_First : Fp} {hd_To : Value} {fp_To : Fp} {hd_Weight : Value} {fp_Weight : Fp} {First : List (Int)} {To : List (Int)} {Weight : List (Int)} {s : Int} {t : Int} {r : List (Int) × Er}
  (wf : WF H) (h_First : Sq (encI .i64) 1 H hd_First First fp_First) (h_To : Sq (encI .i64) 1 H hd_To To fp_To) (h_Weight : Sq (encI .i64) 1 H hd_Weight Weight fp_Weight) (hr : z_search_Path First To Weight s t = some r) :
  ACalls Tryd.prog 21 #[.agg #[hd_First, hd_To, hd_Weight], .int .i64 s, .int .i64 t] H fun v H' => ∃ (s3 : Value) (f4 : Fp) (v7 : Value) (f8 : Fp), v = .tuple #[s3, v7] ∧ FrS [] H H' ∧ Ow (encI .i64) 1 H' s3 r.1 f4 ∧ Ev 80 86 H' v7 r.2 f8 ∧ Inn [] H f4 ∧ Inn [] H f8 ∧ Dj f4 f8 := by
 refine acalls_of_body mixed Tryd.func21 rfl (Nat.le_of_ble_eq_true rfl) ?_
 unfold z_search_Path at hr
 refine w_seqk fun K12 k12 => ?_
 refine w_reg (by kernel_rfl) ?_
 refine s_rwl wf [hd_First, hd_To, hd_Weight] (one_cons (h_First.one1) (one_cons (h_To.one1) (one_cons (h_Weight.one1) (one_nil)))) (by kernel_rfl) fun b13 H14 e15 hb16 r17 => ?_
 refine s_qk (.slice none 0 0) (by kernel_rfl) ?_
 refine s_qk (.nilIface) (by kernel_rfl) ?_
 refine s_nil ?_
 refine k12 _ _ ?_
 refine w_seqk fun K19 k19 => ?_
 refine w_seqk fun K20 k20 => ?_
 refine w_reg (by kernel_rfl) ?_
 refine s_ql (.agg #[hd_First, hd_To, hd_Weight]) (x := aLoad Tryd.prog 40 (.pointer (some ⟨b13, 0, none⟩)) H14) (by kernel_rfl) (r17.ld (by kernel_rfl)) ?_
 refine s_qk (.int .i64 s) (by kernel_rfl) ?_
 refine s_qk (.int .i64 t) (by kernel_rfl) ?_
 refine s_owk (enc := (encI .i64)) (sz := 1) e15.wf [s, t] 2 (by decide) (fun _ _ => rfl) (fun _ _ => rfl) rfl (by kernel_rfl) fun s21 f22 H23 e24 hf25 hm26 => ?_
 obtain ⟨a27, n28, c29, rfl⟩ := hm26.form
 have u31 := ((h_First.ext e15).ext e24)
 have u32 := ((h_To.ext e15).ext e24)
 have u33 := ((h_Weight.ext e15).ext e24)
 obtain ⟨y34, hy35, r36⟩ := bind_some hr
 refine s_ck 49 #[.agg #[hd_First, hd_To, hd_Weight], .slice a27 n28 c29] (by kernel_rfl) (c_search_node e24.wf u31 u32 u33 hm26.sq hy35) ?_
 rintro v37 H39 ⟨_, f38, rfl, e40, m41, i42⟩
 refine s_qk (v37) (by kernel_rfl) ?_
 refine s_nil ?_
 refine k20 _ _ ?_
 refine w_seqk fun K44 k44 => ?_
 refine w_reg (by kernel_rfl) ?_
 refine s_qk (v37) (by kernel_rfl) ?_
 rcases (m41).cases with ⟨h45, rfl⟩ | ⟨h45, t46, x47, rfl⟩
 ·have r48 := ite_t h45 r36
  refine s_qk (.bool false) (by kernel_rfl) ?_
  refine s_nil ?_
  refine k44 _ _ ?_
  refine w_cond false (by kernel_rfl) rfl (fun h => by cases h) (fun _ => ?_)
  refine w_skip ?_
  refine k19 _ _ ?_
  refine w_seqk fun K49 k49 => ?_
  refine w_draw [0, 1, 2, 3, 4] (by kernel_rfl) ?_
  have u50 := ((r17.ext e24).frS e40 Dj.nil_l)
  refine d_fl (.agg #[hd_First, hd_To, hd_Weight]) (x := aLoad Tryd.prog 40 (.pointer (some ⟨b13, 0, none⟩)) H39) (by kernel_rfl) (u50.ld (by kernel_rfl)) ?_
  refine d_qk (.int .i64 s) (by kernel_rfl) ?_
  obtain ⟨y51, hy52, r53⟩ := bind_some r48
  refine d_ck 51 #[] (by kernel_rfl) (c_search_free e40.wf hy52) ?_
  rintro _ H54 ⟨rfl, e55⟩
  have u56 := (u50.frS e55 Dj.nil_l)
  refine ⟨st_ql (y := aLoad Tryd.prog 40 (.pointer (some ⟨b13, 0, none⟩)) H54) (by kernel_rfl) (u56.ld (by kernel_rfl)) (st_nil), ?_⟩
  have u57 := ((u31.fr e40 Dj.nil_l).fr e55 Dj.nil_l)
  have u58 := ((u32.fr e40 Dj.nil_l).fr e55 Dj.nil_l)
  have u59 := ((u33.fr e40 Dj.nil_l).fr e55 Dj.nil_l)
  obtain ⟨y60, hy61, r62⟩ := bind_some r53
  refine d_ck 50 #[.agg #[hd_First, hd_To, hd_Weight], .int .i64 s, .agg #[.int .i64 4611686018427387904, .int .i64 4611686018427387904, .int .u64 18446744073709551615]] (by kernel_rfl) (c_search_run e55.wf u57 u58 u59 hy61) ?_
  rintro _ H76 ⟨s63, f64, s65, f66, b67, s68, f69, b70, s71, f72, s73, f74, b75, rfl, e77, m78, m79, m80, m81, m82, m83, m84, m85, i86, i87, i88, i89, i90, i91, i92, i93, d94, d95, d96, d97, d98, d99, d100, d101, d102, d103, d104, d105, d106, d107, d108, d109, d110, d111, d112, d113, d114, d115, d116, d117, d118, d119, d120, d121⟩
  obtain ⟨a130, n131, c132, rfl⟩ := m78.form
  obtain ⟨a133, n134, c135, rfl⟩ := m79.form
  obtain ⟨a136, n137, c138, rfl⟩ := m81.form
  obtain ⟨a139, n140, c141, rfl⟩ := m83.form
  obtain ⟨a142, n143, c144, rfl⟩ := m84.form
  refine ⟨st_anc (by kernel_rfl) (st_nil), ?_⟩
  refine d_qk (.pointer (some ⟨b75, 0, none⟩)) (by kernel_rfl) ?_
  refine d_nil ?_
  refine k49 _ _ ?_
  refine w_seqk fun K145 k145 => ?_
  refine w_seqk fun K146 k146 => ?_
  refine w_reg (by kernel_rfl) ?_
  refine s_qk (.pointer (some ⟨b75, 0, none⟩)) (by kernel_rfl) ?_
  refine s_qk (.pointer (some ⟨b75, 0, none⟩)) (by kernel_rfl) ?_
  refine s_qk (.pointer (some ⟨b75, 6, none⟩)) (by kernel_rfl) ?_
  refine s_ql (.slice a142 n143 c144) (x := aLoad Tryd.prog 104 (.pointer (some ⟨b75, 6, none⟩)) H76) (by kernel_rfl) (m85.ld (by kernel_rfl)) ?_
  refine s_qk (.int .i64 t) (by kernel_rfl) ?_
  obtain ⟨g147, r148⟩ := G_some r62
  refine s_ql (elp (.slice a142 n143 c144) 1 t.toNat 0) (x := aIndexAddr Tryd.prog 104 (.slice a142 n143 c144) (.int .i64 t)) (by kernel_rfl) (m84.sq.idxb (by kernel_rfl) g147.1 g147.2) ?_
  refine s_ql (.bool (gt y60.2.2.2.2.2.2 t)) (x := aLoad Tryd.prog 4 (elp (.slice a142 n143 c144) 1 t.toNat 0) H76) (by kernel_rfl) (m84.sq.ld g147.1 g147.2 (by kernel_rfl)) ?_
  refine s_qk (.bool (!(gt y60.2.2.2.2.2.2 t))) (by kernel_rfl) ?_
  refine s_nil ?_
  refine k146 _ _ ?_
  refine w_cond ((!(gt y60.2.2.2.2.2.2 t))) (by kernel_rfl) rfl (fun h149 => ?_) (fun h149 => ?_)
  ·have r150 := ite_t h149 r148
   refine w_seqk fun K151 k151 => ?_
   refine w_reg (by kernel_rfl) ?_
   refine s_qk (.iface 80 (.int .i64 16)) (by kernel_rfl) ?_
   refine s_qk (.slice none 0 0) (by kernel_rfl) ?_
   refine s_qk (.iface 80 (.int .i64 16)) (by kernel_rfl) ?_
   refine s_nil ?_
   refine k151 _ _ ?_
   refine w_ret (th_ret ?_)
   refine b_ret (fn := Tryd.f21) (vs := [.slice none 0 0, .iface 80 (.int .i64 16)]) (aRes_tmp (by kernel_rfl) (aRes_tmp (by kernel_rfl) (rfl))) ?_
   obtain rfl := Option.some.inj r150
   exact ⟨(.slice none 0 0), [], (.iface 80 (.int .i64 16)), [], rfl, (FrS.step wf (FrS.step wf (FrS.step wf (((FrS.refl (W := []) wf).extR e15).extR e24) e40 Inn.nil) e55 Inn.nil) e77 Inn.nil), (Ow.nil (by decide)), Ev.no, Inn.nil, Inn.nil, Dj.nil_l⟩
  ·have r152 := ite_bf h149 r148
   refine w_skip ?_
   refine k145 _ _ ?_
   refine w_seqk fun K153 k153 => ?_
   refine w_reg (by kernel_rfl) ?_
   refine s_qk (.pointer (some ⟨b75, 0, none⟩)) (by kernel_rfl) ?_
   refine s_qk (.int .i64 s) (by kernel_rfl) ?_
   have u154 := (u57.fr e77 Dj.nil_l)
   have u155 := (u58.fr e77 Dj.nil_l)
   have u156 := (u59.fr e77 Dj.nil_l)
   obtain ⟨y157, hy158, r159⟩ := bind_some r152
   refine s_ck 52 #[.pointer (some ⟨b75, 0, none⟩), .int .i64 s] (by kernel_rfl) (c_search_state_parents e77.wf u154 u155 u156 m78.sq m79.sq m80 m81.sq m82 m83.sq m84.sq m85 hy158) ?_
   rintro s160 H162 ⟨_, f161, rfl, e163, m164, i165⟩
   obtain ⟨a167, n168, c169, rfl⟩ := m164.form
   refine s_qk (.slice a167 n168 c169) (by kernel_rfl) ?_
   refine s_nil ?_
   refine k153 _ _ ?_
   refine w_seqk fun K170 k170 => ?_
   refine w_reg (by kernel_rfl) ?_
   refine s_qk (.int .i64 t) (by kernel_rfl) ?_
   refine s_owk (enc := (encI .i64)) (sz := 1) e163.wf [t] 1 (by decide) (fun _ _ => rfl) (fun _ _ => rfl) rfl (by kernel_rfl) fun s171 f172 H173 e174 hf175 hm176 => ?_
   obtain ⟨a177, n178, c179, rfl⟩ := hm176.form
   refine s_qk (.slice a177 n178 c179) (by kernel_rfl) ?_
   refine s_nil ?_
   refine k170 _ _ ?_
   refine w_seqk fun K181 k181 => ?_
   refine w_seqk fun K182 k182 => ?_
   refine w_reg (by kernel_rfl) ?_
   refine s_qk (.int .i64 t) (by kernel_rfl) ?_
   refine s_qk (.int .i64 t) (by kernel_rfl) ?_
   refine s_nil ?_
   refine k182 _ _ ?_
   obtain ⟨o183, hx184, r185⟩ := bind_some r159
   refine w_mid (fun α H186 => ∃ (s190 : Value) (f191 : Fp), Has α [(11, s190)] ∧ FrS f172 H173 H186 ∧ Ow (encI .i64) 1 H186 s190 o183 f191 ∧ Inn f172 H173 f191) (fun K193 k193 => ?_) (fun α H186 hM => ?_)
   ·refine w_block ?_
    obtain ⟨n195, hn196⟩ := loopO_iff.1 hx184
    refine w_loopn (fun n α H197 => ∃ (l0 : List (Int)), ∃ (v1 : Int), ∃ (s201 : Value), ∃ (f202 : Fp), iterO (fun zz_ => z_search_Path_l0 s y157 zz_.1 zz_.2) n (l0, v1) = some o183 ∧ Has α [(1, .int .i64 s), (10, .slice a167 n168 c169), (11, s201), (12, .int .i64 v1)] ∧ FrS f172 H173 H197 ∧ Ow (encI .i64) 1 H197 s201 l0 f202 ∧ Inn f172 H173 f202) n195 ⟨[t], t, (.slice a177 n178 c179), f172, hn196, ⟨by kernel_rfl, by kernel_rfl, by kernel_rfl, by kernel_rfl, trivial⟩, (FrS.refl (W := f172) e174.wf), hm176, Inn.refl'⟩ ?_
    rintro n195 α H197 ⟨l0, v1, s201, f202, hi205, hh204, e198, m200, i203⟩ K210 k210
    obtain ⟨n206, z207, rfl, hz208, hn209⟩ := iter_succ hi205
    obtain ⟨β, rfl⟩ := has_ex hh204
    clear hh204
    replace hz208 : z_search_Path_l0 s y157 l0 v1 = some z207 := hz208
    unfold z_search_Path_l0 at hz208
    obtain ⟨a211, n212, c213, rfl⟩ := m200.form
    refine w_seqk fun K214 k214 => ?_
    refine w_seqk fun K215 k215 => ?_
    refine w_reg (by kernel_rfl) ?_
    refine s_qk (.int .i64 v1) (by kernel_rfl) ?_
    refine s_qk (.int .i64 s) (by kernel_rfl) ?_
    refine s_qk (.bool (!decide (v1 = s))) (by kernel_rfl) ?_
    refine s_nil ?_
    refine k215 _ _ ?_
    refine w_condn (v1 = s) (by kernel_rfl) rfl (fun h216 => ?_) (fun h216 => ?_)
    ·have r217 := ite_f h216 hz208
     refine w_skip ?_
     refine k214 _ _ ?_
     refine w_block ?_
     refine w_seqk fun K218 k218 => ?_
     refine w_reg (by kernel_rfl) ?_
     refine s_qk (.slice a167 n168 c169) (by kernel_rfl) ?_
     refine s_qk (.int .i64 v1) (by kernel_rfl) ?_
     obtain ⟨g219, r220⟩ := G_some r217
     have u221 := ((m164.ext e174).fr e198 (hf175.djn m164.lt))
     refine s_ql (elp (.slice a167 n168 c169) 1 v1.toNat 0) (x := aIndexAddr Tryd.prog 22 (.slice a167 n168 c169) (.int .i64 v1)) (by kernel_rfl) (u221.sq.idxb (by kernel_rfl) g219.1 g219.2) ?_
     refine s_ql (.int .i64 (gt y157 v1)) (x := aLoad Tryd.prog 3 (elp (.slice a167 n168 c169) 1 v1.toNat 0) H197) (by kernel_rfl) (u221.sq.ld g219.1 g219.2 (by kernel_rfl)) ?_
     refine s_qk (.int .i64 (gt y157 v1)) (by kernel_rfl) ?_
     refine s_nil ?_
     refine k218 _ _ ?_
     refine w_reg (by kernel_rfl) ?_
     refine s_qk (.slice a211 n212 c213) (by kernel_rfl) ?_
     refine s_qk (.int .i64 (gt y157 v1)) (by kernel_rfl) ?_
     refine s_owk (enc := (encI .i64)) (sz := 1) e198.wf [(gt y157 v1)] 1 (by decide) (fun _ _ => rfl) (fun _ _ => rfl) rfl (by kernel_rfl) fun s222 f223 H224 e225 hf226 hm227 => ?_
     obtain ⟨a228, n229, c230, rfl⟩ := hm227.form
     have u232 := (m200.ext e225)
     obtain ⟨g233, r234⟩ := G_some r220
     obtain ⟨s235, H236, f237, q241, e238, hm239, hf240⟩ := Ow.append (P := Tryd.prog) 8 e225.wf u232 hm227.sq (fun _ _ => rfl) (at_ := #[22, 22]) rfl rfl (by kernel_rfl) (by kernel_rfl) (by decide) (by have := g233; first | omega | (simp only [List.length_cons, List.length_nil] at this ⊢; omega) | (simp at this ⊢; omega))
     obtain ⟨a242, n243, c244, rfl⟩ := hm239.form
     refine s_ek (.slice a242 n243 c244) (by kernel_rfl) (q241) ?_
     refine s_qk (.slice a242 n243 c244) (by kernel_rfl) ?_
     refine s_nil ?_
     obtain rfl := Option.some.inj r234
     exact k210 n206 _ _ (Nat.lt_succ_self _) ⟨(l0 ++ [(gt y157 v1)]), (gt y157 v1), (.slice a242 n243 c244), f237, hn209, ⟨by kernel_rfl, by kernel_rfl, by kernel_rfl, by kernel_rfl, trivial⟩, (FrS.step e174.wf ((FrS.step e174.wf (FrS.refl (W := f172) e174.wf) e198 Inn.refl').extR e225) e238 (Inn.trans Inn.refl' (Nat.le_refl _) i203)), hm239, (Inn.trans (Inn.trans Inn.refl' (Nat.le_refl _) i203) (ntr e198.next e225.next) hf240)⟩
    ·have r246 := ite_t h216 hz208
     refine w_exit (th_exit (th_exit (bl_eq ?_)))
     obtain rfl := Option.some.inj r246
     obtain rfl := it_inr hn209
     exact k193 _ _ ⟨(.slice a211 n212 c213), f202, ⟨by kernel_rfl, trivial⟩, (FrS.step e174.wf (FrS.refl (W := f172) e174.wf) e198 Inn.refl'), m200, (Inn.trans Inn.refl' (Nat.le_refl _) i203)⟩
   ·obtain ⟨s190, f191, hh194, e187, m189, i192⟩ := hM
    obtain ⟨β, rfl⟩ := has_ex hh194
    clear hh194
    obtain ⟨a247, n248, c249, rfl⟩ := m189.form
    refine k181 _ _ ?_
    refine w_seqk fun K250 k250 => ?_
    refine w_reg (by kernel_rfl) ?_
    refine s_qk (.slice a247 n248 c249) (by kernel_rfl) ?_
    obtain ⟨y251, hy252, r253⟩ := bind_some r185
    refine s_ck 46 #[.slice a247 n248 c249] (by kernel_rfl) (c_slices_Reverse e187.wf m189 hy252) ?_
    rintro _ H254 ⟨rfl, e255, m256⟩
    refine s_nil ?_
    refine k250 _ _ ?_
    refine w_seqk fun K257 k257 => ?_
    refine w_reg (by kernel_rfl) ?_
    refine s_qk (.slice a247 n248 c249) (by kernel_rfl) ?_
    refine s_qk (.slice a247 n248 c249) (by kernel_rfl) ?_
    refine s_qk (.nilIface) (by kernel_rfl) ?_
    refine s_nil ?_
    refine k257 _ _ ?_
    refine w_ret ?_
    refine b_ret (fn := Tryd.f21) (vs := [.slice a247 n248 c249, .nilIface]) (aRes_tmp (by kernel_rfl) (aRes_tmp (by kernel_rfl) (rfl))) ?_
    obtain rfl := Option.some.inj r253
    exact ⟨(.slice a247 n248 c249), f191, (.nilIface), [], rfl, (FrS.step wf (FrS.step wf ((FrS.step wf (FrS.step wf (FrS.step wf (FrS.step wf (((FrS.refl (W := []) wf).extR e15).extR e24) e40 Inn.nil) e55 Inn.nil) e77 Inn.nil) e163 Inn.nil).extR e174) e187 (hf175.fresh (ntr (ntr (ntr (ntr (ntr e15.next e24.next) e40.next) e55.next) e77.next) e163.next))) e255 (Inn.trans (hf175.fresh (ntr (ntr (ntr (ntr (ntr e15.next e24.next) e40.next) e55.next) e77.next) e163.next)) (ntr (ntr (ntr (ntr (ntr (ntr e15.next e24.next) e40.next) e55.next) e77.next) e163.next) e174.next) i192)), m256, Ev.nil, (Inn.trans (hf175.fresh (ntr (ntr (ntr (ntr (ntr e15.next e24.next) e40.next) e55.next) e77.next) e163.next)) (ntr (ntr (ntr (ntr (ntr (ntr e15.next e24.next) e40.next) e55.next) e77.next) e163.next) e174.next) i192), Inn.nil, Dj.nil_r⟩
 ·have r258 := ite_f h45 r36
  refine s_ql (.bool true) (x := aBin Tryd.prog .neq 25 (.tmp 18) (.const .nilIface) (.iface t46 x47) .nilIface) (by kernel_rfl) (aBin_nnil (by kernel_rfl)) ?_
  refine s_nil ?_
  refine k44 _ _ ?_
  refine w_cond true (by kernel_rfl) rfl (fun _ => ?_) (fun h => by cases h)
  refine w_seqk fun K259 k259 => ?_
  refine w_reg (by kernel_rfl) ?_
  refine s_qk (.iface t46 x47) (by kernel_rfl) ?_
  refine s_qk (.slice none 0 0) (by kernel_rfl) ?_
  refine s_qk (.iface t46 x47) (by kernel_rfl) ?_
  refine s_nil ?_
  refine k259 _ _ ?_
  refine w_ret (th_ret ?_)
  refine b_ret (fn := Tryd.f21) (vs := [.slice none 0 0, .iface t46 x47]) (aRes_tmp (by kernel_rfl) (aRes_tmp (by kernel_rfl) (rfl))) ?_
  obtain rfl := Option.some.inj r258
  exact ⟨(.slice none 0 0), [], (.iface t46 x47), f38, rfl, (FrS.step wf (((FrS.refl (W := []) wf).extR e15).extR e24) e40 Inn.nil), (Ow.nil (by decide)), m41, Inn.nil, (i42.fresh (ntr e15.next e24.next)), Dj.nil_l⟩

theorem c_viaductref05_Node {H : AH} {hd_First : Value} {fp_First : Fp} {hd_To : Value} {fp_To : Fp} {hd_Weight : Value} {fp_Weight : Fp} {First : List (Int)} {To : List (Int)} {Weight : List (Int)} {v_ : Int} {r : Bool}
  (wf : WF H) (h_First : Sq (encI .i64) 1 H hd_First First fp_First) (h_To : Sq (encI .i64) 1 H hd_To To fp_To) (h_Weight : Sq (encI .i64) 1 H hd_Weight Weight fp_Weight) (hr : z_viaductref05_Node First To Weight v_ = some r) :
  ACalls Tryd.prog 55 #[.agg #[hd_First, hd_To, hd_Weight], .int .i64 v_] H fun v H' => v = .bool r ∧ FrS [] H H' := by
 refine acalls_of_body mixed Tryd.func55 rfl (Nat.le_of_ble_eq_true rfl) ?_
 unfold z_viaductref05_Node at hr
 refine w_seqk fun K1 k1 => ?_
 refine w_reg (by kernel_rfl) ?_
 refine s_rwl wf [hd_First, hd_To, hd_Weight] (one_cons (h_First.one1) (one_cons (h_To.one1) (one_cons (h_Weight.one1) (one_nil)))) (by kernel_rfl) fun b2 H3 e4 hb5 r6 => ?_
 refine s_qk (.bool false) (by kernel_rfl) ?_
 refine s_nil ?_
 refine k1 _ _ ?_
 refine w_seqk fun K8 k8 => ?_
 refine w_reg (by kernel_rfl) ?_
 refine s_qk (.int .i64 v_) (by kernel_rfl) ?_
 refine s_b (v_ ≥ 0) (by kernel_rfl) (fun h9 => ?_) (fun h9 => ?_)
 ·have r10 := ite_t h9 hr
  refine s_qk (.bool true) (by kernel_rfl) ?_
  refine s_qk (.int .i64 v_) (by kernel_rfl) ?_
  refine s_qk (.pointer (some ⟨b2, 0, none⟩)) (by kernel_rfl) ?_
  refine s_ql (hd_First) (x := aLoad Tryd.prog 22 (.pointer (some ⟨b2, 0, none⟩)) H3) (by kernel_rfl) (r6.ld (by kernel_rfl)) ?_
  have u11 := (h_First.ext e4)
  refine s_ql (.int .i64 (First.length : Int)) (x := aLen Tryd.prog 22 hd_First H3) (by kernel_rfl) (u11.lenb (by kernel_rfl)) ?_
  obtain ⟨g12, r13⟩ := G_some r10
  refine s_w (((First.length : Int) - 1)) (k := .i64) (x := ((First.length : Int) - 1)) (by kernel_rfl) (wrap64 g12) ?_
  refine s_qk (.bool (decide (v_ < ((First.length : Int) - 1)))) (by kernel_rfl) ?_
  refine s_qk (.bool (decide (v_ < ((First.length : Int) - 1)))) (by kernel_rfl) ?_
  refine s_qk (.bool (decide (v_ < ((First.length : Int) - 1)))) (by kernel_rfl) ?_
  refine s_nil ?_
  refine k8 _ _ ?_
  refine w_ret ?_
  refine b_ret (fn := Tryd.f55) (vs := [.bool (decide (v_ < ((First.length : Int) - 1)))]) (aRes_tmp (by kernel_rfl) (rfl)) ?_
  obtain rfl := Option.some.inj r13
  exact ⟨rfl, ((FrS.refl (W := []) wf).extR e4)⟩
 ·have r14 := ite_f h9 hr
  refine s_qk (.bool false) (by kernel_rfl) ?_
  refine s_no (by kernel_rfl) ?_
  refine s_no (by kernel_rfl) ?_
  refine s_no (by kernel_rfl) ?_
  refine s_no (by kernel_rfl) ?_
  refine s_no (by kernel_rfl) ?_
  refine s_no (by kernel_rfl) ?_
  refine s_qk (.bool false) (by kernel_rfl) ?_
  refine s_qk (.bool false) (by kernel_rfl) ?_
  refine s_nil ?_
  refine k8 _ _ ?_
  refine w_ret ?_
  refine b_ret (fn := Tryd.f55) (vs := [.bool false]) (aRes_tmp (by kernel_rfl) (rfl)) ?_
  obtain rfl := Option.some.inj r14
  exact ⟨rfl, ((FrS.refl (W := []) wf).extR e4)⟩

theorem c_viaductref08_node {H : AH} {hd_First : Value} {fp_First : Fp} {hd_To : Value} {fp_To : Fp} {hd_Weight : Value} {fp_Weight : Fp} {First : List (Int)} {To : List (Int)} {Weight : List (Int)} {s : Int} {r : Int × List (Int × Int)}
  (wf : WF H) (h_First : Sq (encI .i64) 1 H hd_First First fp_First) (h_To : Sq (encI .i64) 1 H hd_To To fp_To) (h_Weight : Sq (encI .i64) 1 H hd_Weight Weight fp_Weight) (hr : z_viaductref08_node First To Weight s = some r) :
  ACalls Tryd.prog 54 #[.agg #[hd_First, hd_To, hd_Weight], .int .i64 s] H fun v H' => ∃ (s3 : Value) (f4 : Fp), v = .agg #[.int .i64 r.1, s3] ∧ FrS [] H H' ∧ Ow enc_i64_i64 2 H' s3 r.2 f4 ∧ Inn [] H f4 := by
 refine acalls_of_body mixed Tryd.func54 rfl (Nat.le_of_ble_eq_true rfl) ?_
 unfold z_viaductref08_node at hr
 refine w_seqk fun K6 k6 => ?_
 refine w_reg (by kernel_rfl) ?_
 refine s_rwl wf [hd_First, hd_To, hd_Weight] (one_cons (h_First.one1) (one_cons (h_To.one1) (one_cons (h_Weight.one1) (one_nil)))) (by kernel_rfl) fun b7 H8 e9 hb10 r11 => ?_
 refine s_rwk e9.wf [.int .i64 0, .slice none 0 0] (by kernel_rfl) fun b13 H14 e15 hb16 r17 => ?_
 refine s_nil ?_
 refine k6 _ _ ?_
 refine w_seqk fun K19 k19 => ?_
 refine w_reg (by kernel_rfl) ?_
 have u20 := (r11.ext e15)
 refine s_ql (.agg #[hd_First, hd_To, hd_Weight]) (x := aLoad Tryd.prog 37 (.pointer (some ⟨b7, 0, none⟩)) H14) (by kernel_rfl) (u20.ld (by kernel_rfl)) ?_
 have u21 := ((h_First.ext e9).ext e15)
 have u22 := ((h_To.ext e9).ext e15)
 have u23 := ((h_Weight.ext e9).ext e15)
 obtain ⟨y24, hy25, r26⟩ := bind_some hr
 refine s_ck 48 #[.agg #[hd_First, hd_To, hd_Weight]] (by kernel_rfl) (c_viaductref05_DocCheck e15.wf u21 u22 u23 hy25) ?_
 rintro _ H29 ⟨s27, f28, rfl, e30, m31, i32⟩
 obtain ⟨a34, n35, c36, rfl⟩ := m31.form
 refine s_rwk e30.wf [.int .i64 0, .slice none 0 0] (by kernel_rfl) fun b37 H38 e39 hb40 r41 => ?_
 have u47 := (m31.ext e39)
 obtain ⟨H43, q44, e45, r46⟩ := Row.store (P := Tryd.prog) (t := 31) (p := 0) e39.wf r41 (.agg #[.int .i64 y24.1, .slice a34 n35 c36]) [.int .i64 y24.1, .slice a34 n35 c36] (by kernel_rfl) (by kernel_rfl) (one_cons (rfl) (one_cons (u47.one1) (one_nil))) (Nat.le_of_ble_eq_true (by kernel_rfl)) [.int .i64 y24.1, .slice a34 n35 c36] (by kernel_rfl)
 refine s_ek (undef) (by kernel_rfl) (map_ok q44) ?_
 refine s_nil ?_
 refine k19 _ _ ?_
 refine w_seqk fun K48 k48 => ?_
 refine w_seqk fun K49 k49 => ?_
 obtain ⟨o50, hx51, r52⟩ := bind_some r26
 refine w_mid (fun α H53 => Has α [(4, .pointer (some ⟨b13, 0, none⟩)), (5, .pointer (some ⟨b37, 0, none⟩)), (16, .bool o50)] ∧ FrS [] H43 H53) (fun K55 k55 => ?_) (fun α H53 hM => ?_)
 ·refine w_reg (by kernel_rfl) ?_
  refine s_ql (.agg #[.int .i64 y24.1, .slice a34 n35 c36]) (x := aLoad Tryd.prog 31 (.pointer (some ⟨b37, 0, none⟩)) H43) (by kernel_rfl) (r46.ld (by kernel_rfl)) ?_
  have u57 := (u47.fr e45 (hb40.djn m31.lt))
  obtain ⟨y58, hy59, r60⟩ := bind_some hx51
  refine s_ck 24 #[.agg #[.int .i64 y24.1, .slice a34 n35 c36]] (by kernel_rfl) (c_viaductref01_Err_Bad e45.wf u57.sq hy59) ?_
  rintro _ H61 ⟨rfl, e62⟩
  by_cases h63 : y58 = true
  ·have r64 := ite_t h63 r60
   rw [h63]
   refine s_qk (.bool false) (by kernel_rfl) ?_
   refine s_qk (.bool false) (by kernel_rfl) ?_
   refine s_no (by kernel_rfl) ?_
   refine s_no (by kernel_rfl) ?_
   refine s_no (by kernel_rfl) ?_
   refine s_no (by kernel_rfl) ?_
   refine s_qk (.bool false) (by kernel_rfl) ?_
   refine s_nil ?_
   obtain rfl := Option.some.inj r64
   exact k55 _ _ ⟨⟨by kernel_rfl, by kernel_rfl, by kernel_rfl, trivial⟩, (FrS.step e45.wf (FrS.refl (W := []) e45.wf) e62 Inn.nil)⟩
  ·have r66 := ite_f h63 r60
   rw [nb h63]
   refine s_qk (.bool true) (by kernel_rfl) ?_
   refine s_qk (.bool true) (by kernel_rfl) ?_
   have u68 := ((((u20.frS e30 Dj.nil_l).ext e39).frS e45 (hb40.djn (r11.ltF.le (ntr e15.next e30.next)))).frS e62 Dj.nil_l)
   refine s_ql (.agg #[hd_First, hd_To, hd_Weight]) (x := aLoad Tryd.prog 37 (.pointer (some ⟨b7, 0, none⟩)) H61) (by kernel_rfl) (u68.ld (by kernel_rfl)) ?_
   refine s_qk (.int .i64 s) (by kernel_rfl) ?_
   have u69 := ((((u21.fr e30 Dj.nil_l).ext e39).fr e45 (hb40.djn (h_First.lt.le (ntr (ntr e9.next e15.next) e30.next)))).fr e62 Dj.nil_l)
   have u70 := ((((u22.fr e30 Dj.nil_l).ext e39).fr e45 (hb40.djn (h_To.lt.le (ntr (ntr e9.next e15.next) e30.next)))).fr e62 Dj.nil_l)
   have u71 := ((((u23.fr e30 Dj.nil_l).ext e39).fr e45 (hb40.djn (h_Weight.lt.le (ntr (ntr e9.next e15.next) e30.next)))).fr e62 Dj.nil_l)
   obtain ⟨y72, hy73, r74⟩ := bind_some r66
   refine s_ck 55 #[.agg #[hd_First, hd_To, hd_Weight], .int .i64 s] (by kernel_rfl) (c_viaductref05_Node e62.wf u69 u70 u71 hy73) ?_
   rintro _ H75 ⟨rfl, e76⟩
   refine s_qk (.bool (!y72)) (by kernel_rfl) ?_
   refine s_qk (.bool (!y72)) (by kernel_rfl) ?_
   refine s_nil ?_
   obtain rfl := Option.some.inj r74
   exact k55 _ _ ⟨⟨by kernel_rfl, by kernel_rfl, by kernel_rfl, trivial⟩, (FrS.step e45.wf (FrS.step e45.wf (FrS.refl (W := []) e45.wf) e62 Inn.nil) e76 Inn.nil)⟩
 ·obtain ⟨hh56, e54⟩ := hM
  obtain ⟨β, rfl⟩ := has_ex hh56
  clear hh56
  refine k49 _ _ ?_
  refine w_cond (o50) (by kernel_rfl) rfl (fun h77 => ?_) (fun h77 => ?_)
  ·have r78 := ite_t h77 r52
   refine w_reg (by kernel_rfl) ?_
   obtain ⟨y79, hy80, r81⟩ := bind_some r78
   refine s_ck 41 #[.int .i64 7] (by kernel_rfl) (c_viaductref01_E e54.wf hy80) ?_
   rintro _ H82 ⟨rfl, e83⟩
   have u88 := ((r46.frS e54 Dj.nil_l).frS e83 Dj.nil_l)
   obtain ⟨H84, q85, e86, r87⟩ := Row.store (P := Tryd.prog) (t := 31) (p := 0) e83.wf u88 (.agg #[.int .i64 y79, .slice none 0 0]) [.int .i64 y79, .slice none 0 0] (by kernel_rfl) (by kernel_rfl) (one_cons (rfl) (one_cons (rfl) (one_nil))) (Nat.le_of_ble_eq_true (by kernel_rfl)) [.int .i64 y79, .slice none 0 0] (by kernel_rfl)
   refine s_ek (undef) (by kernel_rfl) (map_ok q85) ?_
   refine s_nil ?_
   refine k48 _ _ ?_
   refine w_seqk fun K89 k89 => ?_
   refine w_reg (by kernel_rfl) ?_
   refine s_ql (.agg #[.int .i64 y79, .slice none 0 0]) (x := aLoad Tryd.prog 31 (.pointer (some ⟨b37, 0, none⟩)) H84) (by kernel_rfl) (r87.ld (by kernel_rfl)) ?_
   have u94 := ((((((r17.frS e30 Dj.nil_l).ext e39).frS e45 (hb40.djn (r17.ltF.le e30.next))).frS e54 Dj.nil_l).frS e83 Dj.nil_l).frS e86 (hb40.djn (r17.ltF.le e30.next)))
   obtain ⟨H90, q91, e92, r93⟩ := Row.store (P := Tryd.prog) (t := 31) (p := 0) e86.wf u94 (.agg #[.int .i64 y79, .slice none 0 0]) [.int .i64 y79, .slice none 0 0] (by kernel_rfl) (by kernel_rfl) (one_cons (rfl) (one_cons (rfl) (one_nil))) (Nat.le_of_ble_eq_true (by kernel_rfl)) [.int .i64 y79, .slice none 0 0] (by kernel_rfl)
   refine s_ek (undef) (by kernel_rfl) (map_ok q91) ?_
   refine s_nil ?_
   refine k89 _ _ ?_
   refine w_ret ?_
   refine b_ret (fn := Tryd.f54) (vs := [.agg #[.int .i64 y79, .slice none 0 0]]) (aRes_cell (Eq.trans (b := aLoad Tryd.prog 31 (.pointer (some ⟨b13, 0, none⟩)) H90) (by kernel_rfl) (r93.ld (by kernel_rfl))) (rfl)) ?_
   obtain rfl := Option.some.inj r81
   exact ⟨(.slice none 0 0), [], rfl, (FrS.step wf (FrS.step wf (FrS.step wf (FrS.step wf (FrS.step wf ((FrS.step wf (((FrS.refl (W := []) wf).extR e9).extR e15) e30 Inn.nil).extR e39) e45 (hb40.fresh (ntr (ntr e9.next e15.next) e30.next))) e54 Inn.nil) e83 Inn.nil) e86 (hb40.fresh (ntr (ntr e9.next e15.next) e30.next))) e92 (hb16.fresh e9.next)), (Ow.nil (by decide)), Inn.nil⟩
  ·have r95 := ite_bf h77 r52
   refine w_skip ?_
   refine k48 _ _ ?_
   refine w_seqk fun K96 k96 => ?_
   refine w_reg (by kernel_rfl) ?_
   have u97 := (r46.frS e54 Dj.nil_l)
   refine s_ql (.agg #[.int .i64 y24.1, .slice a34 n35 c36]) (x := aLoad Tryd.prog 31 (.pointer (some ⟨b37, 0, none⟩)) H53) (by kernel_rfl) (u97.ld (by kernel_rfl)) ?_
   have u102 := ((((r17.frS e30 Dj.nil_l).ext e39).frS e45 (hb40.djn (r17.ltF.le e30.next))).frS e54 Dj.nil_l)
   have u103 := ((u47.fr e45 (hb40.djn m31.lt)).fr e54 Dj.nil_l)
   obtain ⟨H98, q99, e100, r101⟩ := Row.store (P := Tryd.prog) (t := 31) (p := 0) e54.wf u102 (.agg #[.int .i64 y24.1, .slice a34 n35 c36]) [.int .i64 y24.1, .slice a34 n35 c36] (by kernel_rfl) (by kernel_rfl) (one_cons (rfl) (one_cons (u103.one1) (one_nil))) (Nat.le_of_ble_eq_true (by kernel_rfl)) [.int .i64 y24.1, .slice a34 n35 c36] (by kernel_rfl)
   refine s_ek (undef) (by kernel_rfl) (map_ok q99) ?_
   refine s_nil ?_
   refine k96 _ _ ?_
   refine w_ret ?_
   refine b_ret (fn := Tryd.f54) (vs := [.agg #[.int .i64 y24.1, .slice a34 n35 c36]]) (aRes_cell (Eq.trans (b := aLoad Tryd.prog 31 (.pointer (some ⟨b13, 0, none⟩)) H98) (by kernel_rfl) (r101.ld (by kernel_rfl))) (rfl)) ?_
   have u104 := (u103.fr e100 (Dj.symm (i32.djn r17.ltF)))
   obtain rfl := Option.some.inj r95
   exact ⟨(.slice a34 n35 c36), f28, rfl, (FrS.step wf (FrS.step wf (FrS.step wf ((FrS.step wf (((FrS.refl (W := []) wf).extR e9).extR e15) e30 Inn.nil).extR e39) e45 (hb40.fresh (ntr (ntr e9.next e15.next) e30.next))) e54 Inn.nil) e100 (hb16.fresh e9.next)), u104, (i32.fresh (ntr e9.next e15.next))⟩

theorem c_viaductref05_Row {H : AH} {hd_First : Value} {fp_First : Fp} {hd_To : Value} {fp_To : Fp} {hd_Weight : Value} {fp_Weight : Fp} {First : List (Int)} {To : List (Int)} {Weight : List (Int)} {v_ : Int} {r : List (Int × Int × Int)}
  (wf : WF H) (h_First : Sq (encI .i64) 1 H hd_First First fp_First) (h_To : Sq (encI .i64) 1 H hd_To To fp_To) (h_Weight : Sq (encI .i64) 1 H hd_Weight Weight fp_Weight) (hr : z_viaductref05_Row First To Weight v_ = some r) :
  ACalls Tryd.prog 63 #[.agg #[hd_First, hd_To, hd_Weight], .int .i64 v_] H fun v H' => ∃ (s3 : Value) (f4 : Fp), v = s3 ∧ FrS [] H H' ∧ Ow enc_i64_i64_i64 3 H' s3 r f4 ∧ Inn [] H f4 := by
 refine acalls_of_body mixed Tryd.func63 rfl (Nat.le_of_ble_eq_true rfl) ?_
 unfold z_viaductref05_Row at hr
 refine w_seqk fun K6 k6 => ?_
 refine w_reg (by kernel_rfl) ?_
 refine s_rwl wf [hd_First, hd_To, hd_Weight] (one_cons (h_First.one1) (one_cons (h_To.one1) (one_cons (h_Weight.one1) (one_nil)))) (by kernel_rfl) fun b7 H8 e9 hb10 r11 => ?_
 refine s_qk (.slice none 0 0) (by kernel_rfl) ?_
 refine s_nil ?_
 refine k6 _ _ ?_
 refine w_seqk fun K13 k13 => ?_
 refine w_reg (by kernel_rfl) ?_
 refine s_qk (.slice none 0 0) (by kernel_rfl) ?_
 refine s_nil ?_
 refine k13 _ _ ?_
 refine w_seqk fun K14 k14 => ?_
 refine w_seqk fun K15 k15 => ?_
 refine w_reg (by kernel_rfl) ?_
 refine s_qk (.pointer (some ⟨b7, 0, none⟩)) (by kernel_rfl) ?_
 refine s_ql (hd_First) (x := aLoad Tryd.prog 22 (.pointer (some ⟨b7, 0, none⟩)) H8) (by kernel_rfl) (r11.ld (by kernel_rfl)) ?_
 refine s_qk (.int .i64 v_) (by kernel_rfl) ?_
 obtain ⟨g16, r17⟩ := G_some hr
 have u18 := (h_First.ext e9)
 refine s_ql (elp hd_First 1 v_.toNat 0) (x := aIndexAddr Tryd.prog 22 hd_First (.int .i64 v_)) (by kernel_rfl) (u18.idxb (by kernel_rfl) g16.1 g16.2) ?_
 refine s_ql (.int .i64 (gt First v_)) (x := aLoad Tryd.prog 3 (elp hd_First 1 v_.toNat 0) H8) (by kernel_rfl) (u18.ld g16.1 g16.2 (by kernel_rfl)) ?_
 refine s_qk (.int .i64 (gt First v_)) (by kernel_rfl) ?_
 refine s_nil ?_
 refine k15 _ _ ?_
 obtain ⟨o19, hx20, r21⟩ := bind_some r17
 refine w_mid (fun α H22 => ∃ (s26 : Value) (f27 : Fp), Has α [(5, s26)] ∧ FrS [] H8 H22 ∧ Ow enc_i64_i64_i64 3 H22 s26 o19 f27 ∧ Inn [] H8 f27) (fun K29 k29 => ?_) (fun α H22 hM => ?_)
 ·refine w_block ?_
  obtain ⟨n31, hn32⟩ := loopO_iff.1 hx20
  refine w_loopn (fun n α H33 => ∃ (l0 : List (Int × Int × Int)), ∃ (i1 : Int), ∃ (s37 : Value), ∃ (f38 : Fp), iterO (fun zz_ => z_viaductref05_Row_l0 First To Weight v_ zz_.1 zz_.2) n (l0, i1) = some o19 ∧ Has α [(1, .int .i64 v_), (2, .pointer (some ⟨b7, 0, none⟩)), (5, s37), (6, .int .i64 i1)] ∧ FrS [] H8 H33 ∧ Ow enc_i64_i64_i64 3 H33 s37 l0 f38 ∧ Inn [] H8 f38) n31 ⟨[], (gt First v_), (.slice none 0 0), [], hn32, ⟨by kernel_rfl, by kernel_rfl, by kernel_rfl, by kernel_rfl, trivial⟩, (FrS.refl (W := []) e9.wf), (Ow.nil (by decide)), Inn.nil⟩ ?_
  rintro n31 α H33 ⟨l0, i1, s37, f38, hi41, hh40, e34, m36, i39⟩ K46 k46
  obtain ⟨n42, z43, rfl, hz44, hn45⟩ := iter_succ hi41
  obtain ⟨β, rfl⟩ := has_ex hh40
  clear hh40
  replace hz44 : z_viaductref05_Row_l0 First To Weight v_ l0 i1 = some z43 := hz44
  unfold z_viaductref05_Row_l0 at hz44
  obtain ⟨a47, n48, c49, rfl⟩ := m36.form
  refine w_seqk fun K50 k50 => ?_
  refine w_seqk fun K51 k51 => ?_
  refine w_reg (by kernel_rfl) ?_
  refine s_qk (.int .i64 i1) (by kernel_rfl) ?_
  refine s_qk (.pointer (some ⟨b7, 0, none⟩)) (by kernel_rfl) ?_
  have u52 := (r11.frS e34 Dj.nil_l)
  refine s_ql (hd_First) (x := aLoad Tryd.prog 22 (.pointer (some ⟨b7, 0, none⟩)) H33) (by kernel_rfl) (u52.ld (by kernel_rfl)) ?_
  refine s_qk (.int .i64 v_) (by kernel_rfl) ?_
  obtain ⟨g53, r54⟩ := G_some hz44
  refine s_w ((v_ + 1)) (k := .i64) (x := (v_ + 1)) (by kernel_rfl) (wrap64 (by have := g53; omega)) ?_
  obtain ⟨g55, r56⟩ := G_some r54
  have u57 := (u18.fr e34 Dj.nil_l)
  refine s_ql (elp hd_First 1 (v_ + 1).toNat 0) (x := aIndexAddr Tryd.prog 22 hd_First (.int .i64 (v_ + 1))) (by kernel_rfl) (u57.idxb (by kernel_rfl) g55.1 g55.2) ?_
  refine s_ql (.int .i64 (gt First (v_ + 1))) (x := aLoad Tryd.prog 3 (elp hd_First 1 (v_ + 1).toNat 0) H33) (by kernel_rfl) (u57.ld g55.1 g55.2 (by kernel_rfl)) ?_
  refine s_qk (.bool (decide (i1 < (gt First (v_ + 1))))) (by kernel_rfl) ?_
  refine s_nil ?_
  refine k51 _ _ ?_
  refine w_condp (i1 < (gt First (v_ + 1))) (by kernel_rfl) rfl (fun h58 => ?_) (fun h58 => ?_)
  ·have r59 := ite_t h58 r56
   refine w_skip ?_
   refine k50 _ _ ?_
   refine w_seqk fun K60 k60 => ?_
   refine w_block ?_
   refine w_draw [0, 1, 2, 3, 4, 5, 6, 7, 8, 9, 10, 11, 12, 13, 14, 15] (by kernel_rfl) ?_
   refine d_qk (.slice a47 n48 c49) (by kernel_rfl) ?_
   refine d_qk (.int .i64 v_) (by kernel_rfl) ?_
   refine d_qk (.pointer (some ⟨b7, 1, none⟩)) (by kernel_rfl) ?_
   refine d_ql (hd_To) (x := aLoad Tryd.prog 22 (.pointer (some ⟨b7, 1, none⟩)) H33) (by kernel_rfl) (u52.ld (by kernel_rfl)) ?_
   refine d_qk (.int .i64 i1) (by kernel_rfl) ?_
   obtain ⟨g61, r62⟩ := G_some r59
   have u63 := ((h_To.ext e9).fr e34 Dj.nil_l)
   refine d_ql (elp hd_To 1 i1.toNat 0) (x := aIndexAddr Tryd.prog 22 hd_To (.int .i64 i1)) (by kernel_rfl) (u63.idxb (by kernel_rfl) g61.1 g61.2) ?_
   refine d_ql (.int .i64 (gt To i1)) (x := aLoad Tryd.prog 3 (elp hd_To 1 i1.toNat 0) H33) (by kernel_rfl) (u63.ld g61.1 g61.2 (by kernel_rfl)) ?_
   refine d_qk (.pointer (some ⟨b7, 2, none⟩)) (by kernel_rfl) ?_
   refine d_ql (hd_Weight) (x := aLoad Tryd.prog 22 (.pointer (some ⟨b7, 2, none⟩)) H33) (by kernel_rfl) (u52.ld (by kernel_rfl)) ?_
   refine d_qk (.int .i64 i1) (by kernel_rfl) ?_
   obtain ⟨g64, r65⟩ := G_some r62
   have u66 := ((h_Weight.ext e9).fr e34 Dj.nil_l)
   refine d_ql (elp hd_Weight 1 i1.toNat 0) (x := aIndexAddr Tryd.prog 22 hd_Weight (.int .i64 i1)) (by kernel_rfl) (u66.idxb (by kernel_rfl) g61.1 g64) ?_
   refine d_ql (.int .i64 (gt Weight i1)) (x := aLoad Tryd.prog 3 (elp hd_Weight 1 i1.toNat 0) H33) (by kernel_rfl) (u66.ld g61.1 g64 (by kernel_rfl)) ?_
   refine d_qk (.agg #[.int .i64 v_, .int .i64 (gt To i1), .int .i64 (gt Weight i1)]) (by kernel_rfl) ?_
   refine d_owk (enc := enc_i64_i64_i64) (sz := 3) e34.wf [(v_, (gt To i1), (gt Weight i1))] 1 (by decide) (fun _ _ => rfl) (fun _ _ => rfl) rfl (by kernel_rfl) fun s67 f68 H69 e70 hf71 hm72 => ?_
   obtain ⟨a73, n74, c75, rfl⟩ := hm72.form
   have u77 := (m36.ext e70)
   obtain ⟨g78, r79⟩ := G_some r65
   obtain ⟨s80, H81, f82, q86, e83, hm84, hf85⟩ := Ow.append (P := Tryd.prog) 24 e70.wf u77 hm72.sq (fun _ _ => rfl) (at_ := #[120, 120]) rfl rfl (by kernel_rfl) (by kernel_rfl) (by decide) (by have := g78; first | omega | (simp only [List.length_cons, List.length_nil] at this ⊢; omega) | (simp at this ⊢; omega))
   obtain ⟨a87, n88, c89, rfl⟩ := hm84.form
   refine d_ek (.slice a87 n88 c89) (by kernel_rfl) (q86) (st_nil) ?_
   refine d_qk (.slice a87 n88 c89) (by kernel_rfl) ?_
   refine d_nil ?_
   refine k60 _ _ ?_
   refine w_reg (by kernel_rfl) ?_
   refine s_qk (.int .i64 i1) (by kernel_rfl) ?_
   obtain ⟨g91, r92⟩ := G_some r79
   refine s_w ((i1 + 1)) (k := .i64) (x := (i1 + 1)) (by kernel_rfl) (wrap64 (by have := g91; omega)) ?_
   refine s_qk (.int .i64 (i1 + 1)) (by kernel_rfl) ?_
   refine s_nil ?_
   obtain rfl := Option.some.inj r92
   exact k46 n42 _ _ (Nat.lt_succ_self _) ⟨(l0 ++ [(v_, (gt To i1), (gt Weight i1))]), (i1 + 1), (.slice a87 n88 c89), f82, hn45, ⟨by kernel_rfl, by kernel_rfl, by kernel_rfl, by kernel_rfl, trivial⟩, (FrS.step e9.wf ((FrS.step e9.wf (FrS.refl (W := []) e9.wf) e34 Inn.nil).extR e70) e83 (i39.fresh (Nat.le_refl _))), hm84, (Inn.trans (i39.fresh (Nat.le_refl _)) (ntr e34.next e70.next) hf85)⟩
  ·have r93 := ite_f h58 r56
   refine w_exit (th_exit (th_exit (bl_eq ?_)))
   obtain rfl := Option.some.inj r93
   obtain rfl := it_inr hn45
   exact k29 _ _ ⟨(.slice a47 n48 c49), f38, ⟨by kernel_rfl, trivial⟩, (FrS.step e9.wf (FrS.refl (W := []) e9.wf) e34 Inn.nil), m36, (i39.fresh (Nat.le_refl _))⟩
 ·obtain ⟨s26, f27, hh30, e23, m25, i28⟩ := hM
  obtain ⟨β, rfl⟩ := has_ex hh30
  clear hh30
  obtain ⟨a94, n95, c96, rfl⟩ := m25.form
  refine k14 _ _ ?_
  refine w_seqk fun K97 k97 => ?_
  refine w_reg (by kernel_rfl) ?_
  refine s_qk (.slice a94 n95 c96) (by kernel_rfl) ?_
  refine s_qk (.slice a94 n95 c96) (by kernel_rfl) ?_
  refine s_nil ?_
  refine k97 _ _ ?_
  refine w_ret ?_
  refine b_ret (fn := Tryd.f63) (vs := [.slice a94 n95 c96]) (aRes_tmp (by kernel_rfl) (rfl)) ?_
  obtain rfl := Option.some.inj r21
  exact ⟨(.slice a94 n95 c96), f27, rfl, (FrS.step wf ((FrS.refl (W := []) wf).extR e9) e23 Inn.nil), m25, (i28.fresh e9.next)⟩

theorem c_viaductref05_Graph {H : AH} {hd_First : Value} {fp_First : Fp} {hd_To : Value} {fp_To : Fp} {hd_Weight : Value} {fp_Weight : Fp} {First : List (Int)} {To : List (Int)} {Weight : List (Int)} {r : Int × List (Int × Int × Int)}
  (wf : WF H) (h_First : Sq (encI .i64) 1 H hd_First First fp_First) (h_To : Sq (encI .i64) 1 H hd_To To fp_To) (h_Weight : Sq (encI .i64) 1 H hd_Weight Weight fp_Weight) (hr : z_viaductref05_Graph First To Weight = some r) :
  ACalls Tryd.prog 81 #[.agg #[hd_First, hd_To, hd_Weight]] H fun v H' => ∃ (s3 : Value) (f4 : Fp), v = .agg #[.int .i64 r.1, s3] ∧ FrS [] H H' ∧ Ow enc_i64_i64_i64 3 H' s3 r.2 f4 ∧ Inn [] H f4 := by
 refine acalls_of_body mixed Tryd.func81 rfl (Nat.le_of_ble_eq_true rfl) ?_
 unfold z_viaductref05_Graph at hr
 refine w_seqk fun K6 k6 => ?_
 refine w_reg (by kernel_rfl) ?_
 refine s_rwl wf [hd_First, hd_To, hd_Weight] (one_cons (h_First.one1) (one_cons (h_To.one1) (one_cons (h_Weight.one1) (one_nil)))) (by kernel_rfl) fun b7 H8 e9 hb10 r11 => ?_
 refine s_rwk e9.wf [.int .i64 0, .slice none 0 0] (by kernel_rfl) fun b13 H14 e15 hb16 r17 => ?_
 refine s_nil ?_
 refine k6 _ _ ?_
 refine w_seqk fun K19 k19 => ?_
 refine w_reg (by kernel_rfl) ?_
 refine s_qk (.pointer (some ⟨b7, 0, none⟩)) (by kernel_rfl) ?_
 have u20 := (r11.ext e15)
 refine s_ql (hd_First) (x := aLoad Tryd.prog 22 (.pointer (some ⟨b7, 0, none⟩)) H14) (by kernel_rfl) (u20.ld (by kernel_rfl)) ?_
 have u21 := ((h_First.ext e9).ext e15)
 refine s_ql (.int .i64 (First.length : Int)) (x := aLen Tryd.prog 22 hd_First H14) (by kernel_rfl) (u21.lenb (by kernel_rfl)) ?_
 obtain ⟨g22, r23⟩ := G_some hr
 refine s_w (((First.length : Int) - 1)) (k := .i64) (x := ((First.length : Int) - 1)) (by kernel_rfl) (wrap64 g22) ?_
 refine s_qk (.agg #[.int .i64 ((First.length : Int) - 1), .slice none 0 0]) (by kernel_rfl) ?_
 refine s_rwk e15.wf [.int .i64 0, .slice none 0 0] (by kernel_rfl) fun b24 H25 e26 hb27 r28 => ?_
 obtain ⟨H30, q31, e32, r33⟩ := Row.store (P := Tryd.prog) (t := 135) (p := 0) e26.wf r28 (.agg #[.int .i64 ((First.length : Int) - 1), .slice none 0 0]) [.int .i64 ((First.length : Int) - 1), .slice none 0 0] (by kernel_rfl) (by kernel_rfl) (one_cons (rfl) (one_cons (rfl) (one_nil))) (Nat.le_of_ble_eq_true (by kernel_rfl)) [.int .i64 ((First.length : Int) - 1), .slice none 0 0] (by kernel_rfl)
 refine s_ek (undef) (by kernel_rfl) (map_ok q31) ?_
 refine s_nil ?_
 refine k19 _ _ ?_
 refine w_seqk fun K34 k34 => ?_
 refine w_seqk fun K35 k35 => ?_
 refine w_reg (by kernel_rfl) ?_
 refine s_qk (.int .i64 0) (by kernel_rfl) ?_
 refine s_nil ?_
 refine k35 _ _ ?_
 obtain ⟨o36, hx37, r38⟩ := bind_some r23
 refine w_mid (fun α H39 => ∃ (s43 : Value) (f44 : Fp), Has α [(2, .pointer (some ⟨b13, 0, none⟩)), (3, .pointer (some ⟨b24, 0, none⟩))] ∧ FrS [b24] H30 H39 ∧ Ow enc_i64_i64_i64 3 H39 s43 o36 f44 ∧ Row H39 b24 [.int .i64 ((First.length : Int) - 1), s43] ∧ Inn [] H30 f44) (fun K48 k48 => ?_) (fun α H39 hM => ?_)
 ·refine w_block ?_
  obtain ⟨n50, hn51⟩ := loopO_iff.1 hx37
  refine w_loopn (fun n α H52 => ∃ (g0 : List (Int × Int × Int)), ∃ (v1 : Int), ∃ (s56 : Value), ∃ (f57 : Fp), iterO (fun zz_ => z_viaductref05_Graph_l0 First To Weight zz_.1 zz_.2) n (g0, v1) = some o36 ∧ Has α [(1, .pointer (some ⟨b7, 0, none⟩)), (2, .pointer (some ⟨b13, 0, none⟩)), (3, .pointer (some ⟨b24, 0, none⟩)), (4, .int .i64 v1)] ∧ FrS [b24] H30 H52 ∧ Ow enc_i64_i64_i64 3 H52 s56 g0 f57 ∧ Row H52 b24 [.int .i64 ((First.length : Int) - 1), s56] ∧ Inn [] H30 f57) n50 ⟨[], 0, (.slice none 0 0), [], hn51, ⟨by kernel_rfl, by kernel_rfl, by kernel_rfl, by kernel_rfl, trivial⟩, (FrS.refl (W := [b24]) e32.wf), (Ow.nil (by decide)), r33, Inn.nil⟩ ?_
  rintro n50 α H52 ⟨g0, v1, s56, f57, hi62, hh61, e53, m55, m59, i60⟩ K67 k67
  obtain ⟨n63, z64, rfl, hz65, hn66⟩ := iter_succ hi62
  obtain ⟨β, rfl⟩ := has_ex hh61
  clear hh61
  replace hz65 : z_viaductref05_Graph_l0 First To Weight g0 v1 = some z64 := hz65
  unfold z_viaductref05_Graph_l0 at hz65
  obtain ⟨a68, n69, c70, rfl⟩ := m55.form
  refine w_seqk fun K71 k71 => ?_
  refine w_seqk fun K72 k72 => ?_
  refine w_reg (by kernel_rfl) ?_
  refine s_qk (.int .i64 v1) (by kernel_rfl) ?_
  refine s_qk (.pointer (some ⟨b24, 0, none⟩)) (by kernel_rfl) ?_
  refine s_ql (.int .i64 ((First.length : Int) - 1)) (x := aLoad Tryd.prog 3 (.pointer (some ⟨b24, 0, none⟩)) H52) (by kernel_rfl) (m59.ld (by kernel_rfl)) ?_
  refine s_qk (.bool (decide (v1 < ((First.length : Int) - 1)))) (by kernel_rfl) ?_
  refine s_nil ?_
  refine k72 _ _ ?_
  refine w_condp (v1 < ((First.length : Int) - 1)) (by kernel_rfl) rfl (fun h73 => ?_) (fun h73 => ?_)
  ·have r74 := ite_t h73 hz65
   refine w_skip ?_
   refine k71 _ _ ?_
   refine w_seqk fun K75 k75 => ?_
   refine w_block ?_
   refine w_draw [0, 1, 2, 3, 4, 5, 6, 7] (by kernel_rfl) ?_
   refine d_qk (.pointer (some ⟨b24, 1, none⟩)) (by kernel_rfl) ?_
   refine d_fl (.slice a68 n69 c70) (x := aLoad Tryd.prog 120 (.pointer (some ⟨b24, 1, none⟩)) H52) (by kernel_rfl) (m59.ld (by kernel_rfl)) ?_
   have u76 := (((u20.ext e26).frS e32 (hb27.djn (r11.ltF.le e15.next))).frS e53 (hb27.djn (r11.ltF.le e15.next)))
   refine d_ql (.agg #[hd_First, hd_To, hd_Weight]) (x := aLoad Tryd.prog 37 (.pointer (some ⟨b7, 0, none⟩)) H52) (by kernel_rfl) (u76.ld (by kernel_rfl)) ?_
   refine d_qk (.int .i64 v1) (by kernel_rfl) ?_
   have u77 := (((u21.ext e26).fr e32 (hb27.djn (h_First.lt.le (ntr e9.next e15.next)))).fr e53 (hb27.djn (h_First.lt.le (ntr e9.next e15.next))))
   have u78 := (((((h_To.ext e9).ext e15).ext e26).fr e32 (hb27.djn (h_To.lt.le (ntr e9.next e15.next)))).fr e53 (hb27.djn (h_To.lt.le (ntr e9.next e15.next))))
   have u79 := (((((h_Weight.ext e9).ext e15).ext e26).fr e32 (hb27.djn (h_Weight.lt.le (ntr e9.next e15.next)))).fr e53 (hb27.djn (h_Weight.lt.le (ntr e9.next e15.next))))
   obtain ⟨y80, hy81, r82⟩ := bind_some r74
   refine d_ck 63 #[.agg #[hd_First, hd_To, hd_Weight], .int .i64 v1] (by kernel_rfl) (c_viaductref05_Row e53.wf u77 u78 u79 hy81) ?_
   rintro s83 H85 ⟨_, f84, rfl, e86, m87, i88⟩
   obtain ⟨a90, n91, c92, rfl⟩ := m87.form
   have u93 := (m59.frS e86 Dj.nil_l)
   refine ⟨st_ql (y := aLoad Tryd.prog 120 (.pointer (some ⟨b24, 1, none⟩)) H85) (by kernel_rfl) (u93.ld (by kernel_rfl)) (st_nil), ?_⟩
   have u94 := (m55.fr e86 Dj.nil_l)
   obtain ⟨g95, r96⟩ := G_some r82
   obtain ⟨s97, H98, f99, q103, e100, hm101, hf102⟩ := Ow.append (P := Tryd.prog) 24 e86.wf u94 m87.sq (fun _ _ => rfl) (at_ := #[120, 120]) rfl rfl (by kernel_rfl) (by kernel_rfl) (by decide) (by have := g95; first | omega | (simp only [List.length_cons, List.length_nil] at this ⊢; omega) | (simp at this ⊢; omega))
   obtain ⟨a104, n105, c106, rfl⟩ := hm101.form
   refine d_ek (.slice a104 n105 c106) (by kernel_rfl) (q103) (st_anc (by kernel_rfl) (st_nil)) ?_
   refine d_qk (.pointer (some ⟨b24, 1, none⟩)) (by kernel_rfl) ?_
   have u112 := (u93.frS e100 (i60.djn (r28.ltF.le e32.next)))
   obtain ⟨H108, q109, e110, r111⟩ := Row.store (P := Tryd.prog) (t := 120) (p := 1) e100.wf u112 (.slice a104 n105 c106) [.slice a104 n105 c106] (by kernel_rfl) (by kernel_rfl) (one_cons (hm101.one1) (one_nil)) (Nat.le_of_ble_eq_true (by kernel_rfl)) [.int .i64 ((First.length : Int) - 1), .slice a104 n105 c106] (by kernel_rfl)
   refine d_ek (undef) (by kernel_rfl) (map_ok q109) (st_anc (by kernel_rfl) (st_nil)) ?_
   refine d_nil ?_
   refine k75 _ _ ?_
   refine w_reg (by kernel_rfl) ?_
   refine s_qk (.int .i64 v1) (by kernel_rfl) ?_
   obtain ⟨g113, r114⟩ := G_some r96
   refine s_w ((v1 + 1)) (k := .i64) (x := (v1 + 1)) (by kernel_rfl) (wrap64 g113) ?_
   refine s_qk (.int .i64 (v1 + 1)) (by kernel_rfl) ?_
   refine s_nil ?_
   have u115 := (hm101.fr e110 (Dj.symm (hf102.dj (i60.djn (r28.ltF.le e32.next)) (r28.ltF.le (ntr (ntr e32.next e53.next) e86.next)))))
   obtain rfl := Option.some.inj r114
   exact k67 n63 _ _ (Nat.lt_succ_self _) ⟨(g0 ++ y80), (v1 + 1), (.slice a104 n105 c106), f99, hn66, ⟨by kernel_rfl, by kernel_rfl, by kernel_rfl, by kernel_rfl, trivial⟩, (FrS.step e32.wf (FrS.step e32.wf (FrS.step e32.wf (FrS.step e32.wf (FrS.refl (W := [b24]) e32.wf) e53 Inn.refl') e86 Inn.nil) e100 (i60.fresh (Nat.le_refl _))) e110 Inn.refl'), u115, r111, (Inn.trans (i60.fresh (Nat.le_refl _)) (ntr e53.next e86.next) hf102)⟩
  ·have r116 := ite_f h73 hz65
   refine w_exit (th_exit (th_exit (bl_eq ?_)))
   obtain rfl := Option.some.inj r116
   obtain rfl := it_inr hn66
   exact k48 _ _ ⟨(.slice a68 n69 c70), f57, ⟨by kernel_rfl, by kernel_rfl, trivial⟩, (FrS.step e32.wf (FrS.refl (W := [b24]) e32.wf) e53 Inn.refl'), m55, m59, (i60.fresh (Nat.le_refl _))⟩
 ·obtain ⟨s43, f44, hh49, e40, m42, m46, i47⟩ := hM
  obtain ⟨β, rfl⟩ := has_ex hh49
  clear hh49
  obtain ⟨a117, n118, c119, rfl⟩ := m42.form
  refine k34 _ _ ?_
  refine w_seqk fun K120 k120 => ?_
  refine w_reg (by kernel_rfl) ?_
  refine s_ql (.agg #[.int .i64 ((First.length : Int) - 1), .slice a117 n118 c119]) (x := aLoad Tryd.prog 135 (.pointer (some ⟨b24, 0, none⟩)) H39) (by kernel_rfl) (m46.ld (by kernel_rfl)) ?_
  have u125 := (((r17.ext e26).frS e32 (hb27.djn r17.ltF)).frS e40 (hb27.djn r17.ltF))
  obtain ⟨H121, q122, e123, r124⟩ := Row.store (P := Tryd.prog) (t := 135) (p := 0) e40.wf u125 (.agg #[.int .i64 ((First.length : Int) - 1), .slice a117 n118 c119]) [.int .i64 ((First.length : Int) - 1), .slice a117 n118 c119] (by kernel_rfl) (by kernel_rfl) (one_cons (rfl) (one_cons (m42.one1) (one_nil))) (Nat.le_of_ble_eq_true (by kernel_rfl)) [.int .i64 ((First.length : Int) - 1), .slice a117 n118 c119] (by kernel_rfl)
  refine s_ek (undef) (by kernel_rfl) (map_ok q122) ?_
  refine s_nil ?_
  refine k120 _ _ ?_
  refine w_ret ?_
  refine b_ret (fn := Tryd.f81) (vs := [.agg #[.int .i64 ((First.length : Int) - 1), .slice a117 n118 c119]]) (aRes_cell (Eq.trans (b := aLoad Tryd.prog 135 (.pointer (some ⟨b13, 0, none⟩)) H121) (by kernel_rfl) (r124.ld (by kernel_rfl))) (rfl)) ?_
  have u126 := (m42.fr e123 (Dj.symm (i47.djn (r17.ltF.le (ntr e26.next e32.next)))))
  obtain rfl := Option.some.inj r38
  exact ⟨(.slice a117 n118 c119), f44, rfl, (FrS.step wf (FrS.step wf (FrS.step wf ((((FrS.refl (W := []) wf).extR e9).extR e15).extR e26) e32 (hb27.fresh (ntr e9.next e15.next))) e40 (hb27.fresh (ntr e9.next e15.next))) e123 (hb16.fresh e9.next)), u126, (i47.fresh (ntr (ntr (ntr e9.next e15.next) e26.next) e32.next))⟩


end Go.Vd

/-! (KSq5) -/

set_option maxRecDepth 100000
set_option maxHeartbeats 4000000
set_option linter.unusedVariables false
namespace Go.Vd
open Go.Proofs
attribute [local irreducible] wpSeq wpOrd aWp
theorem c_viaductref08_From {H : AH} {hd_First : Value} {fp_First : Fp} {hd_To : Value} {fp_To : Fp} {hd_Weight : Value} {fp_Weight : Fp} {First : List (Int)} {To : List (Int)} {Weight : List (Int)} {s : Int} {r : List (Int)}
  (wf : WF H) (h_First : Sq (encI .i64) 1 H hd_First First fp_First) (h_To : Sq (encI .i64) 1 H hd_To To fp_To) (h_Weight : Sq (encI .i64) 1 H hd_Weight Weight fp_Weight) (hr : z_viaductref08_From First To Weight s = some r) :
  ACalls Tryd.prog 56 #[.agg #[hd_First, hd_To, hd_Weight], .int .i64 s] H fun v H' => ∃ (s3 : Value) (f4 : Fp), v = s3 ∧ FrS [] H H' ∧ Ow (encI .u64) 1 H' s3 r f4 ∧ Inn [] H f4 := by
 refine acalls_of_body mixed Tryd.func56 rfl (Nat.le_of_ble_eq_true rfl) ?_
 unfold z_viaductref08_From at hr
 refine w_seqk fun K6 k6 => ?_
 refine w_reg (by kernel_rfl) ?_
 refine s_rwl wf [hd_First, hd_To, hd_Weight] (one_cons (h_First.one1) (one_cons (h_To.one1) (one_cons (h_Weight.one1) (one_nil)))) (by kernel_rfl) fun b7 H8 e9 hb10 r11 => ?_
 refine s_qk (.slice none 0 0) (by kernel_rfl) ?_
 refine s_nil ?_
 refine k6 _ _ ?_
 refine w_seqk fun K13 k13 => ?_
 refine w_reg (by kernel_rfl) ?_
 refine s_ql (.agg #[hd_First, hd_To, hd_Weight]) (x := aLoad Tryd.prog 37 (.pointer (some ⟨b7, 0, none⟩)) H8) (by kernel_rfl) (r11.ld (by kernel_rfl)) ?_
 have u14 := (h_First.ext e9)
 have u15 := (h_To.ext e9)
 have u16 := (h_Weight.ext e9)
 obtain ⟨y17, hy18, r19⟩ := bind_some hr
 refine s_ck 81 #[.agg #[hd_First, hd_To, hd_Weight]] (by kernel_rfl) (c_viaductref05_Graph e9.wf u14 u15 u16 hy18) ?_
 rintro _ H22 ⟨s20, f21, rfl, e23, m24, i25⟩
 obtain ⟨a27, n28, c29, rfl⟩ := m24.form
 refine s_rwk e23.wf [.int .i64 0, .slice none 0 0] (by kernel_rfl) fun b30 H31 e32 hb33 r34 => ?_
 have u40 := (m24.ext e32)
 obtain ⟨H36, q37, e38, r39⟩ := Row.store (P := Tryd.prog) (t := 135) (p := 0) e32.wf r34 (.agg #[.int .i64 y17.1, .slice a27 n28 c29]) [.int .i64 y17.1, .slice a27 n28 c29] (by kernel_rfl) (by kernel_rfl) (one_cons (rfl) (one_cons (u40.one1) (one_nil))) (Nat.le_of_ble_eq_true (by kernel_rfl)) [.int .i64 y17.1, .slice a27 n28 c29] (by kernel_rfl)
 refine s_ek (undef) (by kernel_rfl) (map_ok q37) ?_
 refine s_nil ?_
 refine k13 _ _ ?_
 refine w_seqk fun K41 k41 => ?_
 refine w_reg (by kernel_rfl) ?_
 refine s_qk (.pointer (some ⟨b30, 0, none⟩)) (by kernel_rfl) ?_
 refine s_ql (.int .i64 y17.1) (x := aLoad Tryd.prog 3 (.pointer (some ⟨b30, 0, none⟩)) H36) (by kernel_rfl) (r39.ld (by kernel_rfl)) ?_
 obtain ⟨g42, r43⟩ := G_some r19
 refine s_mks (t := 47) (m := 8) (l := y17.1) (c := y17.1) (enc := (encI .u64)) (sz := 1) e38.wf (0 : Int) (by kernel_rfl) (by decide) g42.1 (Int.le_refl _) (by omega) (by have := g42; omega) (by kernel_rfl) fun s44 f45 H46 e47 hf48 hm49 => ?_
 obtain ⟨a50, n51, c52, rfl⟩ := hm49.form
 have hm49 : Ow (encI .u64) 1 H46 (.slice a50 n51 c52) (List.replicate y17.1.toNat (0 : Int)) f45 := hm49
 refine s_qk (.slice a50 n51 c52) (by kernel_rfl) ?_
 refine s_nil ?_
 refine k41 _ _ ?_
 refine w_seqk fun K54 k54 => ?_
 refine w_seqk fun K55 k55 => ?_
 refine w_reg (by kernel_rfl) ?_
 refine s_qk (.slice a50 n51 c52) (by kernel_rfl) ?_
 refine s_ql (.int .i64 ((List.replicate y17.1.toNat (0 : Int)).length : Int)) (x := aLen Tryd.prog 47 (.slice a50 n51 c52) H46) (by kernel_rfl) (hm49.sq.lenb (by kernel_rfl)) ?_
 refine s_qk (.int .i64 0) (by kernel_rfl) ?_
 refine s_nil ?_
 refine k55 _ _ ?_
 obtain ⟨o56, hx57, r58⟩ := bind_some r43
 refine w_mid (fun α H59 => Has α [(1, .int .i64 s), (5, .pointer (some ⟨b30, 0, none⟩)), (6, .slice a50 n51 c52)] ∧ FrS f45 H46 H59 ∧ Ow (encI .u64) 1 H59 (.slice a50 n51 c52) o56 f45) (fun K63 k63 => ?_) (fun α H59 hM => ?_)
 ·refine w_block ?_
  obtain ⟨n65, hn66⟩ := loopO_iff.1 hx57
  refine w_loopn (fun n α H67 => ∃ (i0 : Int), ∃ (d1 : List (Int)), iterO (fun zz_ => z_viaductref08_From_l0 y17 zz_.1 zz_.2) n (i0, d1) = some o56 ∧ Has α [(1, .int .i64 s), (5, .pointer (some ⟨b30, 0, none⟩)), (6, .slice a50 n51 c52), (17, .int .i64 ((List.replicate y17.1.toNat (0 : Int)).length : Int)), (18, .int .i64 i0)] ∧ FrS f45 H46 H67 ∧ Ow (encI .u64) 1 H67 (.slice a50 n51 c52) d1 f45) n65 ⟨0, (List.replicate y17.1.toNat (0 : Int)), hn66, ⟨by kernel_rfl, by kernel_rfl, by kernel_rfl, by kernel_rfl, by kernel_rfl, trivial⟩, (FrS.refl (W := f45) e47.wf), hm49⟩ ?_
  rintro n65 α H67 ⟨i0, d1, hi72, hh71, e68, m70⟩ K77 k77
  obtain ⟨n73, z74, rfl, hz75, hn76⟩ := iter_succ hi72
  obtain ⟨β, rfl⟩ := has_ex hh71
  clear hh71
  replace hz75 : z_viaductref08_From_l0 y17 i0 d1 = some z74 := hz75
  unfold z_viaductref08_From_l0 at hz75
  refine w_seqk fun K78 k78 => ?_
  refine w_reg (by kernel_rfl) ?_
  refine s_qk (.bool (decide (i0 < ((List.replicate y17.1.toNat (0 : Int)).length : Int)))) (by kernel_rfl) ?_
  refine s_nil ?_
  refine k78 _ _ ?_
  refine w_seqk fun K79 k79 => ?_
  refine w_condp (i0 < ((List.replicate y17.1.toNat (0 : Int)).length : Int)) (by kernel_rfl) rfl (fun h80 => ?_) (fun h80 => ?_)
  ·have r81 := ite_t h80 hz75
   refine w_skip ?_
   refine k79 _ _ ?_
   refine w_seqk fun K82 k82 => ?_
   refine w_block ?_
   refine w_seqk fun K83 k83 => ?_
   refine w_reg (by kernel_rfl) ?_
   refine s_qk (.int .i64 i0) (by kernel_rfl) ?_
   refine s_qk (.int .i64 i0) (by kernel_rfl) ?_
   refine s_nil ?_
   refine k83 _ _ ?_
   refine w_reg (by kernel_rfl) ?_
   refine s_qk (.slice a50 n51 c52) (by kernel_rfl) ?_
   refine s_qk (.int .i64 i0) (by kernel_rfl) ?_
   obtain ⟨g84, r85⟩ := G_some r81
   refine s_ql (elp (.slice a50 n51 c52) 1 i0.toNat 0) (x := aIndexAddr Tryd.prog 47 (.slice a50 n51 c52) (.int .i64 i0)) (by kernel_rfl) (m70.sq.idxb (by kernel_rfl) g84.1 g84.2) ?_
   obtain ⟨H86, q87, e88, hm89⟩ := Ow.store (P := Tryd.prog) (t := 42) (off := 0) e68.wf m70 g84.1 g84.2 (.int .u64 18446744073709551615) [.int .u64 18446744073709551615] (by kernel_rfl) (by kernel_rfl) rfl 18446744073709551615 (Nat.le_of_ble_eq_true rfl) (by kernel_rfl)
   refine s_ek (undef) (by kernel_rfl) (map_ok q87) ?_
   refine s_nil ?_
   refine k82 _ _ ?_
   refine w_reg (by kernel_rfl) ?_
   obtain ⟨g90, r91⟩ := G_some r85
   refine s_w ((i0 + 1)) (k := .i64) (x := (i0 + 1)) (by kernel_rfl) (wrap64 (by have := g90; omega)) ?_
   refine s_qk (.int .i64 (i0 + 1)) (by kernel_rfl) ?_
   refine s_nil ?_
   obtain rfl := Option.some.inj r91
   exact k77 n73 _ _ (Nat.lt_succ_self _) ⟨(i0 + 1), (d1.set i0.toNat 18446744073709551615), hn76, ⟨by kernel_rfl, by kernel_rfl, by kernel_rfl, by kernel_rfl, by kernel_rfl, trivial⟩, (FrS.step e47.wf (FrS.step e47.wf (FrS.refl (W := f45) e47.wf) e68 Inn.refl') e88 Inn.refl'), hm89⟩
  ·have r92 := ite_f h80 hz75
   refine w_exit (th_exit (th_exit (bl_eq ?_)))
   obtain rfl := Option.some.inj r92
   obtain rfl := it_inr hn76
   exact k63 _ _ ⟨⟨by kernel_rfl, by kernel_rfl, by kernel_rfl, trivial⟩, (FrS.step e47.wf (FrS.refl (W := f45) e47.wf) e68 Inn.refl'), m70⟩
 ·obtain ⟨hh64, e60, m62⟩ := hM
  obtain ⟨β, rfl⟩ := has_ex hh64
  clear hh64
  refine k54 _ _ ?_
  refine w_seqk fun K93 k93 => ?_
  refine w_reg (by kernel_rfl) ?_
  refine s_qk (.slice a50 n51 c52) (by kernel_rfl) ?_
  refine s_qk (.int .i64 s) (by kernel_rfl) ?_
  obtain ⟨g94, r95⟩ := G_some r58
  refine s_ql (elp (.slice a50 n51 c52) 1 s.toNat 0) (x := aIndexAddr Tryd.prog 47 (.slice a50 n51 c52) (.int .i64 s)) (by kernel_rfl) (m62.sq.idxb (by kernel_rfl) g94.1 g94.2) ?_
  obtain ⟨H96, q97, e98, hm99⟩ := Ow.store (P := Tryd.prog) (t := 42) (off := 0) e60.wf m62 g94.1 g94.2 (.int .u64 0) [.int .u64 0] (by kernel_rfl) (by kernel_rfl) rfl 0 (Nat.le_of_ble_eq_true rfl) (by kernel_rfl)
  refine s_ek (undef) (by kernel_rfl) (map_ok q97) ?_
  refine s_nil ?_
  refine k93 _ _ ?_
  refine w_seqk fun K100 k100 => ?_
  refine w_seqk fun K101 k101 => ?_
  refine w_reg (by kernel_rfl) ?_
  refine s_qk (.bool true) (by kernel_rfl) ?_
  refine s_nil ?_
  refine k101 _ _ ?_
  obtain ⟨o102, hx103, r104⟩ := bind_some r95
  refine w_mid (fun α H105 => Has α [(6, .slice a50 n51 c52)] ∧ FrS f45 H96 H105 ∧ Ow (encI .u64) 1 H105 (.slice a50 n51 c52) o102 f45) (fun K109 k109 => ?_) (fun α H105 hM => ?_)
  ·refine w_block ?_
   obtain ⟨n111, hn112⟩ := loopO_iff.1 hx103
   refine w_loopn (fun n α H113 => ∃ (d5 : List (Int)), ∃ (turned6 : Bool), iterO (fun zz_ => z_viaductref08_From_l2 y17 zz_.1 zz_.2) n (d5, turned6) = some o102 ∧ Has α [(5, .pointer (some ⟨b30, 0, none⟩)), (6, .slice a50 n51 c52), (8, .bool turned6)] ∧ FrS f45 H96 H113 ∧ Ow (encI .u64) 1 H113 (.slice a50 n51 c52) d5 f45) n111 ⟨(o56.set s.toNat 0), true, hn112, ⟨by kernel_rfl, by kernel_rfl, by kernel_rfl, trivial⟩, (FrS.refl (W := f45) e98.wf), hm99⟩ ?_
   rintro n111 α H113 ⟨d5, turned6, hi118, hh117, e114, m116⟩ K123 k123
   obtain ⟨n119, z120, rfl, hz121, hn122⟩ := iter_succ hi118
   obtain ⟨β, rfl⟩ := has_ex hh117
   clear hh117
   replace hz121 : z_viaductref08_From_l2 y17 d5 turned6 = some z120 := hz121
   unfold z_viaductref08_From_l2 at hz121
   refine w_seqk fun K124 k124 => ?_
   refine w_seqk fun K125 k125 => ?_
   refine w_reg (by kernel_rfl) ?_
   refine s_qk (.bool turned6) (by kernel_rfl) ?_
   refine s_nil ?_
   refine k125 _ _ ?_
   refine w_cond (turned6) (by kernel_rfl) rfl (fun h126 => ?_) (fun h126 => ?_)
   ·have r127 := ite_t h126 hz121
    refine w_skip ?_
    refine k124 _ _ ?_
    refine w_block ?_
    refine w_seqk fun K128 k128 => ?_
    refine w_reg (by kernel_rfl) ?_
    refine s_qk (.bool false) (by kernel_rfl) ?_
    refine s_nil ?_
    refine k128 _ _ ?_
    refine w_seqk fun K129 k129 => ?_
    refine w_reg (by kernel_rfl) ?_
    refine s_qk (.pointer (some ⟨b30, 1, none⟩)) (by kernel_rfl) ?_
    have u130 := ((((r39.ext e47).frS e60 (hf48.djn (r34.ltF.le e38.next))).frS e98 (hf48.djn (r34.ltF.le e38.next))).frS e114 (hf48.djn (r34.ltF.le e38.next)))
    refine s_ql (.slice a27 n28 c29) (x := aLoad Tryd.prog 120 (.pointer (some ⟨b30, 1, none⟩)) H113) (by kernel_rfl) (u130.ld (by kernel_rfl)) ?_
    have u131 := (((((u40.fr e38 (hb33.djn m24.lt)).ext e47).fr e60 (hf48.djn (m24.lt.le (ntr e32.next e38.next)))).fr e98 (hf48.djn (m24.lt.le (ntr e32.next e38.next)))).fr e114 (hf48.djn (m24.lt.le (ntr e32.next e38.next))))
    refine s_ql (.int .i64 (y17.2.length : Int)) (x := aLen Tryd.prog 120 (.slice a27 n28 c29) H113) (by kernel_rfl) (u131.sq.lenb (by kernel_rfl)) ?_
    refine s_qk (.int .i64 0) (by kernel_rfl) ?_
    refine s_nil ?_
    refine k129 _ _ ?_
    obtain ⟨o132, hx133, r134⟩ := bind_some r127
    refine w_mid (fun α H135 => Has α [(5, .pointer (some ⟨b30, 0, none⟩)), (6, .slice a50 n51 c52), (8, .bool o132.2)] ∧ FrS f45 H113 H135 ∧ Ow (encI .u64) 1 H135 (.slice a50 n51 c52) o132.1 f45) (fun K139 k139 => ?_) (fun α H135 hM => ?_)
    ·refine w_block ?_
     obtain ⟨n141, hn142⟩ := loopO_iff.1 hx133
     refine w_loopn (fun n α H143 => ∃ (i2 : Int), ∃ (d3 : List (Int)), ∃ (turned4 : Bool), iterO (fun zz_ => z_viaductref08_From_l1 y17 zz_.1 zz_.2.1 zz_.2.2) n (i2, d3, turned4) = some o132 ∧ Has α [(5, .pointer (some ⟨b30, 0, none⟩)), (6, .slice a50 n51 c52), (8, .bool turned4), (30, .slice a27 n28 c29), (31, .int .i64 (y17.2.length : Int)), (32, .int .i64 i2)] ∧ FrS f45 H113 H143 ∧ Ow (encI .u64) 1 H143 (.slice a50 n51 c52) d3 f45) n141 ⟨0, d5, false, hn142, ⟨by kernel_rfl, by kernel_rfl, by kernel_rfl, by kernel_rfl, by kernel_rfl, by kernel_rfl, trivial⟩, (FrS.refl (W := f45) e114.wf), m116⟩ ?_
     rintro n141 α H143 ⟨i2, d3, turned4, hi148, hh147, e144, m146⟩ K153 k153
     obtain ⟨n149, z150, rfl, hz151, hn152⟩ := iter_succ hi148
     obtain ⟨β, rfl⟩ := has_ex hh147
     clear hh147
     replace hz151 : z_viaductref08_From_l1 y17 i2 d3 turned4 = some z150 := hz151
     unfold z_viaductref08_From_l1 at hz151
     refine w_seqk fun K154 k154 => ?_
     refine w_reg (by kernel_rfl) ?_
     refine s_qk (.bool (decide (i2 < (y17.2.length : Int)))) (by kernel_rfl) ?_
     refine s_nil ?_
     refine k154 _ _ ?_
     refine w_seqk fun K155 k155 => ?_
     refine w_condp (i2 < (y17.2.length : Int)) (by kernel_rfl) rfl (fun h156 => ?_) (fun h156 => ?_)
     ·have r157 := ite_t h156 hz151
      refine w_skip ?_
      refine k155 _ _ ?_
      refine w_seqk fun K158 k158 => ?_
      refine w_block ?_
      refine w_seqk fun K159 k159 => ?_
      refine w_reg (by kernel_rfl) ?_
      obtain ⟨g160, r161⟩ := G_some r157
      have u162 := (u131.fr e144 (hf48.djn (m24.lt.le (ntr e32.next e38.next))))
      refine s_ql (elp (.slice a27 n28 c29) 3 i2.toNat 0) (x := aIndexAddr Tryd.prog 120 (.slice a27 n28 c29) (.int .i64 i2)) (by kernel_rfl) (u162.sq.idxb (by kernel_rfl) g160 h156) ?_
      refine s_ql (.agg #[.int .i64 ((gt y17.2 i2).1), .int .i64 ((gt y17.2 i2).2.1), .int .i64 ((gt y17.2 i2).2.2)]) (x := aLoad Tryd.prog 123 (elp (.slice a27 n28 c29) 3 i2.toNat 0) H143) (by kernel_rfl) (u162.sq.ld g160 h156 (by kernel_rfl)) ?_
      refine s_rwk e144.wf [.int .i64 0, .int .i64 0, .int .i64 0] (by kernel_rfl) fun b163 H164 e165 hb166 r167 => ?_
      obtain ⟨H169, q170, e171, r172⟩ := Row.store (P := Tryd.prog) (t := 123) (p := 0) e165.wf r167 (.agg #[.int .i64 ((gt y17.2 i2).1), .int .i64 ((gt y17.2 i2).2.1), .int .i64 ((gt y17.2 i2).2.2)]) [.int .i64 ((gt y17.2 i2).1), .int .i64 ((gt y17.2 i2).2.1), .int .i64 ((gt y17.2 i2).2.2)] (by kernel_rfl) (by kernel_rfl) (one_cons (rfl) (one_cons (rfl) (one_cons (rfl) (one_nil)))) (Nat.le_of_ble_eq_true (by kernel_rfl)) [.int .i64 ((gt y17.2 i2).1), .int .i64 ((gt y17.2 i2).2.1), .int .i64 ((gt y17.2 i2).2.2)] (by kernel_rfl)
      refine s_ek (undef) (by kernel_rfl) (map_ok q170) ?_
      refine s_nil ?_
      refine k159 _ _ ?_
      refine w_seqk fun K173 k173 => ?_
      obtain ⟨o174, hx175, r176⟩ := bind_some r161
      refine w_mid (fun α H177 => Has α [(5, .pointer (some ⟨b30, 0, none⟩)), (6, .slice a50 n51 c52), (8, .bool turned4), (10, .pointer (some ⟨b163, 0, none⟩)), (30, .slice a27 n28 c29), (31, .int .i64 (y17.2.length : Int)), (32, .int .i64 i2), (58, .bool o174)] ∧ H169 = H177) (fun K179 k179 => ?_) (fun α H177 hM => ?_)
      ·refine w_draw [0, 1, 2, 3, 4, 5, 6, 7, 8, 9, 10, 11, 12, 13, 14, 15, 16, 17, 18, 19, 20, 21, 22] (by kernel_rfl) ?_
       refine d_qk (.slice a50 n51 c52) (by kernel_rfl) ?_
       refine d_qk (.pointer (some ⟨b163, 0, none⟩)) (by kernel_rfl) ?_
       refine d_ql (.int .i64 ((gt y17.2 i2).1)) (x := aLoad Tryd.prog 3 (.pointer (some ⟨b163, 0, none⟩)) H169) (by kernel_rfl) (r172.ld (by kernel_rfl)) ?_
       obtain ⟨g181, r182⟩ := G_some hx175
       have u183 := ((m146.ext e165).fr e171 (hb166.djn (hm49.lt.le (ntr (ntr (ntr e60.next e98.next) e114.next) e144.next))))
       refine d_ql (elp (.slice a50 n51 c52) 1 ((gt y17.2 i2).1).toNat 0) (x := aIndexAddr Tryd.prog 47 (.slice a50 n51 c52) (.int .i64 ((gt y17.2 i2).1))) (by kernel_rfl) (u183.sq.idxb (by kernel_rfl) g181.1 g181.2) ?_
       refine d_ql (.int .u64 (gt d3 ((gt y17.2 i2).1))) (x := aLoad Tryd.prog 42 (elp (.slice a50 n51 c52) 1 ((gt y17.2 i2).1).toNat 0) H169) (by kernel_rfl) (u183.sq.ld g181.1 g181.2 (by kernel_rfl)) ?_
       refine d_bn ((gt d3 ((gt y17.2 i2).1)) = 18446744073709551615) (by kernel_rfl) (fun h184 => ?_) (fun h184 => ?_)
       ·have r185 := ite_t h184 r182
        refine d_qk (.bool false) (by kernel_rfl) ?_
        refine d_idle (by kernel_rfl) ?_
        refine d_idle (by kernel_rfl) ?_
        refine d_idle (by kernel_rfl) ?_
        refine d_idle (by kernel_rfl) ?_
        refine d_idle (by kernel_rfl) ?_
        refine d_idle (by kernel_rfl) ?_
        refine d_idle (by kernel_rfl) ?_
        refine d_idle (by kernel_rfl) ?_
        refine d_idle (by kernel_rfl) ?_
        refine d_idle (by kernel_rfl) ?_
        refine d_idle (by kernel_rfl) ?_
        refine d_idle (by kernel_rfl) ?_
        refine d_idle (by kernel_rfl) ?_
        refine d_idle (by kernel_rfl) ?_
        refine d_idle (by kernel_rfl) ?_
        refine d_qk (.bool false) (by kernel_rfl) ?_
        refine d_nil ?_
        obtain rfl := Option.some.inj r185
        exact k179 _ _ ⟨⟨by kernel_rfl, by kernel_rfl, by kernel_rfl, by kernel_rfl, by kernel_rfl, by kernel_rfl, by kernel_rfl, by kernel_rfl, trivial⟩, rfl⟩
       ·have r186 := ite_f h184 r182
        refine d_qk (.bool true) (by kernel_rfl) ?_
        refine d_qk (.slice a50 n51 c52) (by kernel_rfl) ?_
        refine d_qk (.pointer (some ⟨b163, 0, none⟩)) (by kernel_rfl) ?_
        refine d_ql (.int .i64 ((gt y17.2 i2).1)) (x := aLoad Tryd.prog 3 (.pointer (some ⟨b163, 0, none⟩)) H169) (by kernel_rfl) (r172.ld (by kernel_rfl)) ?_
        refine d_ql (elp (.slice a50 n51 c52) 1 ((gt y17.2 i2).1).toNat 0) (x := aIndexAddr Tryd.prog 47 (.slice a50 n51 c52) (.int .i64 ((gt y17.2 i2).1))) (by kernel_rfl) (u183.sq.idxb (by kernel_rfl) g181.1 g181.2) ?_
        refine d_ql (.int .u64 (gt d3 ((gt y17.2 i2).1))) (x := aLoad Tryd.prog 42 (elp (.slice a50 n51 c52) 1 ((gt y17.2 i2).1).toNat 0) H169) (by kernel_rfl) (u183.sq.ld g181.1 g181.2 (by kernel_rfl)) ?_
        refine d_qk (.pointer (some ⟨b163, 2, none⟩)) (by kernel_rfl) ?_
        refine d_ql (.int .i64 ((gt y17.2 i2).2.2)) (x := aLoad Tryd.prog 3 (.pointer (some ⟨b163, 2, none⟩)) H169) (by kernel_rfl) (r172.ld (by kernel_rfl)) ?_
        obtain ⟨g187, r188⟩ := G_some r186
        refine d_w ((gt y17.2 i2).2.2) (k := .u64) (x := (gt y17.2 i2).2.2) (by kernel_rfl) (wrapu64 g187) ?_
        obtain ⟨g189, r190⟩ := G_some r188
        refine d_w (((gt d3 ((gt y17.2 i2).1)) + ((gt y17.2 i2).2.2))) (k := .u64) (x := ((gt d3 ((gt y17.2 i2).1)) + ((gt y17.2 i2).2.2))) (by kernel_rfl) (wrapu64 g189) ?_
        refine d_qk (.slice a50 n51 c52) (by kernel_rfl) ?_
        refine d_qk (.pointer (some ⟨b163, 1, none⟩)) (by kernel_rfl) ?_
        refine d_ql (.int .i64 ((gt y17.2 i2).2.1)) (x := aLoad Tryd.prog 3 (.pointer (some ⟨b163, 1, none⟩)) H169) (by kernel_rfl) (r172.ld (by kernel_rfl)) ?_
        obtain ⟨g191, r192⟩ := G_some r190
        refine d_ql (elp (.slice a50 n51 c52) 1 ((gt y17.2 i2).2.1).toNat 0) (x := aIndexAddr Tryd.prog 47 (.slice a50 n51 c52) (.int .i64 ((gt y17.2 i2).2.1))) (by kernel_rfl) (u183.sq.idxb (by kernel_rfl) g191.1 g191.2) ?_
        refine d_ql (.int .u64 (gt d3 ((gt y17.2 i2).2.1))) (x := aLoad Tryd.prog 42 (elp (.slice a50 n51 c52) 1 ((gt y17.2 i2).2.1).toNat 0) H169) (by kernel_rfl) (u183.sq.ld g191.1 g191.2 (by kernel_rfl)) ?_
        refine d_qk (.bool (decide (((gt d3 ((gt y17.2 i2).1)) + ((gt y17.2 i2).2.2)) < (gt d3 ((gt y17.2 i2).2.1))))) (by kernel_rfl) ?_
        refine d_qk (.bool (decide (((gt d3 ((gt y17.2 i2).1)) + ((gt y17.2 i2).2.2)) < (gt d3 ((gt y17.2 i2).2.1))))) (by kernel_rfl) ?_
        refine d_nil ?_
        obtain rfl := Option.some.inj r192
        exact k179 _ _ ⟨⟨by kernel_rfl, by kernel_rfl, by kernel_rfl, by kernel_rfl, by kernel_rfl, by kernel_rfl, by kernel_rfl, by kernel_rfl, trivial⟩, rfl⟩
      ·obtain ⟨hh180, rfl⟩ := hM
       obtain ⟨β, rfl⟩ := has_ex hh180
       clear hh180
       refine k173 _ _ ?_
       refine w_cond (o174) (by kernel_rfl) rfl (fun h193 => ?_) (fun h193 => ?_)
       ·have r194 := ite_t h193 r176
        refine w_seqk fun K195 k195 => ?_
        refine w_draw [0, 1, 2, 3, 4, 5, 6, 7, 8, 9, 10, 11, 12, 13] (by kernel_rfl) ?_
        refine d_qk (.slice a50 n51 c52) (by kernel_rfl) ?_
        refine d_qk (.pointer (some ⟨b163, 1, none⟩)) (by kernel_rfl) ?_
        refine d_ql (.int .i64 ((gt y17.2 i2).2.1)) (x := aLoad Tryd.prog 3 (.pointer (some ⟨b163, 1, none⟩)) H169) (by kernel_rfl) (r172.ld (by kernel_rfl)) ?_
        refine d_qk (.slice a50 n51 c52) (by kernel_rfl) ?_
        refine d_qk (.pointer (some ⟨b163, 0, none⟩)) (by kernel_rfl) ?_
        refine d_ql (.int .i64 ((gt y17.2 i2).1)) (x := aLoad Tryd.prog 3 (.pointer (some ⟨b163, 0, none⟩)) H169) (by kernel_rfl) (r172.ld (by kernel_rfl)) ?_
        obtain ⟨g196, r197⟩ := G_some r194
        have u198 := ((m146.ext e165).fr e171 (hb166.djn (hm49.lt.le (ntr (ntr (ntr e60.next e98.next) e114.next) e144.next))))
        refine d_ql (elp (.slice a50 n51 c52) 1 ((gt y17.2 i2).1).toNat 0) (x := aIndexAddr Tryd.prog 47 (.slice a50 n51 c52) (.int .i64 ((gt y17.2 i2).1))) (by kernel_rfl) (u198.sq.idxb (by kernel_rfl) g196.1 g196.2) ?_
        refine d_ql (.int .u64 (gt d3 ((gt y17.2 i2).1))) (x := aLoad Tryd.prog 42 (elp (.slice a50 n51 c52) 1 ((gt y17.2 i2).1).toNat 0) H169) (by kernel_rfl) (u198.sq.ld g196.1 g196.2 (by kernel_rfl)) ?_
        refine d_qk (.pointer (some ⟨b163, 2, none⟩)) (by kernel_rfl) ?_
        refine d_ql (.int .i64 ((gt y17.2 i2).2.2)) (x := aLoad Tryd.prog 3 (.pointer (some ⟨b163, 2, none⟩)) H169) (by kernel_rfl) (r172.ld (by kernel_rfl)) ?_
        obtain ⟨g199, r200⟩ := G_some r197
        refine d_w ((gt y17.2 i2).2.2) (k := .u64) (x := (gt y17.2 i2).2.2) (by kernel_rfl) (wrapu64 g199) ?_
        obtain ⟨g201, r202⟩ := G_some r200
        refine d_w (((gt d3 ((gt y17.2 i2).1)) + ((gt y17.2 i2).2.2))) (k := .u64) (x := ((gt d3 ((gt y17.2 i2).1)) + ((gt y17.2 i2).2.2))) (by kernel_rfl) (wrapu64 g201) ?_
        obtain ⟨g203, r204⟩ := G_some r202
        refine d_ql (elp (.slice a50 n51 c52) 1 ((gt y17.2 i2).2.1).toNat 0) (x := aIndexAddr Tryd.prog 47 (.slice a50 n51 c52) (.int .i64 ((gt y17.2 i2).2.1))) (by kernel_rfl) (u198.sq.idxb (by kernel_rfl) g203.1 g203.2) ?_
        obtain ⟨H205, q206, e207, hm208⟩ := Ow.store (P := Tryd.prog) (t := 42) (off := 0) e171.wf u198 g203.1 g203.2 (.int .u64 ((gt d3 ((gt y17.2 i2).1)) + ((gt y17.2 i2).2.2))) [.int .u64 ((gt d3 ((gt y17.2 i2).1)) + ((gt y17.2 i2).2.2))] (by kernel_rfl) (by kernel_rfl) rfl ((gt d3 ((gt y17.2 i2).1)) + ((gt y17.2 i2).2.2)) (Nat.le_of_ble_eq_true rfl) (by kernel_rfl)
        refine d_ek (undef) (by kernel_rfl) (map_ok q206) (st_nil) ?_
        refine d_nil ?_
        refine k195 _ _ ?_
        refine w_reg (by kernel_rfl) ?_
        refine s_qk (.bool true) (by kernel_rfl) ?_
        refine s_nil ?_
        refine k158 _ _ ?_
        refine w_reg (by kernel_rfl) ?_
        obtain ⟨g209, r210⟩ := G_some r204
        refine s_w ((i2 + 1)) (k := .i64) (x := (i2 + 1)) (by kernel_rfl) (wrap64 (by have := g209; omega)) ?_
        refine s_qk (.int .i64 (i2 + 1)) (by kernel_rfl) ?_
        refine s_nil ?_
        obtain rfl := Option.some.inj r210
        exact k153 n149 _ _ (Nat.lt_succ_self _) ⟨(i2 + 1), (d3.set ((gt y17.2 i2).2.1).toNat ((gt d3 ((gt y17.2 i2).1)) + ((gt y17.2 i2).2.2))), true, hn152, ⟨by kernel_rfl, by kernel_rfl, by kernel_rfl, by kernel_rfl, by kernel_rfl, by kernel_rfl, trivial⟩, (FrS.step e114.wf (FrS.step e114.wf ((FrS.step e114.wf (FrS.refl (W := f45) e114.wf) e144 Inn.refl').extR e165) e171 (hb166.fresh e144.next)) e207 Inn.refl'), hm208⟩
       ·have r211 := ite_bf h193 r176
        refine w_skip ?_
        refine k158 _ _ ?_
        refine w_reg (by kernel_rfl) ?_
        obtain ⟨g212, r213⟩ := G_some r211
        refine s_w ((i2 + 1)) (k := .i64) (x := (i2 + 1)) (by kernel_rfl) (wrap64 (by have := g212; omega)) ?_
        refine s_qk (.int .i64 (i2 + 1)) (by kernel_rfl) ?_
        refine s_nil ?_
        have u214 := ((m146.ext e165).fr e171 (hb166.djn (hm49.lt.le (ntr (ntr (ntr e60.next e98.next) e114.next) e144.next))))
        obtain rfl := Option.some.inj r213
        exact k153 n149 _ _ (Nat.lt_succ_self _) ⟨(i2 + 1), d3, turned4, hn152, ⟨by kernel_rfl, by kernel_rfl, by kernel_rfl, by kernel_rfl, by kernel_rfl, by kernel_rfl, trivial⟩, (FrS.step e114.wf ((FrS.step e114.wf (FrS.refl (W := f45) e114.wf) e144 Inn.refl').extR e165) e171 (hb166.fresh e144.next)), u214⟩
     ·have r215 := ite_f h156 hz151
      refine w_exit (th_exit (th_exit (bl_eq ?_)))
      obtain rfl := Option.some.inj r215
      obtain rfl := it_inr hn152
      exact k139 _ _ ⟨⟨by kernel_rfl, by kernel_rfl, by kernel_rfl, trivial⟩, (FrS.step e114.wf (FrS.refl (W := f45) e114.wf) e144 Inn.refl'), m146⟩
    ·obtain ⟨hh140, e136, m138⟩ := hM
     obtain ⟨β, rfl⟩ := has_ex hh140
     clear hh140
     obtain rfl := Option.some.inj r134
     exact k123 n119 _ _ (Nat.lt_succ_self _) ⟨o132.1, o132.2, hn122, ⟨by kernel_rfl, by kernel_rfl, by kernel_rfl, trivial⟩, (FrS.step e98.wf (FrS.step e98.wf (FrS.refl (W := f45) e98.wf) e114 Inn.refl') e136 Inn.refl'), m138⟩
   ·have r216 := ite_bf h126 hz121
    refine w_exit (th_exit (th_exit (bl_eq ?_)))
    obtain rfl := Option.some.inj r216
    obtain rfl := it_inr hn122
    exact k109 _ _ ⟨⟨by kernel_rfl, trivial⟩, (FrS.step e98.wf (FrS.refl (W := f45) e98.wf) e114 Inn.refl'), m116⟩
  ·obtain ⟨hh110, e106, m108⟩ := hM
   obtain ⟨β, rfl⟩ := has_ex hh110
   clear hh110
   refine k100 _ _ ?_
   refine w_seqk fun K217 k217 => ?_
   refine w_reg (by kernel_rfl) ?_
   refine s_qk (.slice a50 n51 c52) (by kernel_rfl) ?_
   refine s_qk (.slice a50 n51 c52) (by kernel_rfl) ?_
   refine s_nil ?_
   refine k217 _ _ ?_
   refine w_ret ?_
   refine b_ret (fn := Tryd.f56) (vs := [.slice a50 n51 c52]) (aRes_tmp (by kernel_rfl) (rfl)) ?_
   obtain rfl := Option.some.inj r104
   exact ⟨(.slice a50 n51 c52), f45, rfl, (FrS.step wf (FrS.step wf (FrS.step wf ((FrS.step wf ((FrS.step wf ((FrS.refl (W := []) wf).extR e9) e23 Inn.nil).extR e32) e38 (hb33.fresh (ntr e9.next e23.next))).extR e47) e60 (hf48.fresh (ntr (ntr (ntr e9.next e23.next) e32.next) e38.next))) e98 (hf48.fresh (ntr (ntr (ntr e9.next e23.next) e32.next) e38.next))) e106 (hf48.fresh (ntr (ntr (ntr e9.next e23.next) e32.next) e38.next))), m108, (hf48.fresh (ntr (ntr (ntr e9.next e23.next) e32.next) e38.next))⟩

theorem c_viaductref08_DocPath {H : AH} {hd_First : Value} {fp_First : Fp} {hd_To : Value} {fp_To : Fp} {hd_Weight : Value} {fp_Weight : Fp} {First : List (Int)} {To : List (Int)} {Weight : List (Int)} {s : Int} {t : Int} {r : Int × Int × List (Int × Int)}
  (wf : WF H) (h_First : Sq (encI .i64) 1 H hd_First First fp_First) (h_To : Sq (encI .i64) 1 H hd_To To fp_To) (h_Weight : Sq (encI .i64) 1 H hd_Weight Weight fp_Weight) (hr : z_viaductref08_DocPath First To Weight s t = some r) :
  ACalls Tryd.prog 23 #[.agg #[hd_First, hd_To, hd_Weight], .int .i64 s, .int .i64 t] H fun v H' => ∃ (s3 : Value) (f4 : Fp), v = .tuple #[.int .u64 r.1, .agg #[.int .i64 r.2.1, s3]] ∧ FrS [] H H' ∧ Ow enc_i64_i64 2 H' s3 r.2.2 f4 ∧ Inn [] H f4 := by
 refine acalls_of_body mixed Tryd.func23 rfl (Nat.le_of_ble_eq_true rfl) ?_
 unfold z_viaductref08_DocPath at hr
 refine w_seqk fun K6 k6 => ?_
 refine w_reg (by kernel_rfl) ?_
 refine s_rwl wf [hd_First, hd_To, hd_Weight] (one_cons (h_First.one1) (one_cons (h_To.one1) (one_cons (h_Weight.one1) (one_nil)))) (by kernel_rfl) fun b7 H8 e9 hb10 r11 => ?_
 refine s_qk (.int .u64 0) (by kernel_rfl) ?_
 refine s_rwk e9.wf [.int .i64 0, .slice none 0 0] (by kernel_rfl) fun b13 H14 e15 hb16 r17 => ?_
 refine s_nil ?_
 refine k6 _ _ ?_
 refine w_seqk fun K19 k19 => ?_
 refine w_reg (by kernel_rfl) ?_
 have u20 := (r11.ext e15)
 refine s_ql (.agg #[hd_First, hd_To, hd_Weight]) (x := aLoad Tryd.prog 37 (.pointer (some ⟨b7, 0, none⟩)) H14) (by kernel_rfl) (u20.ld (by kernel_rfl)) ?_
 refine s_qk (.int .i64 s) (by kernel_rfl) ?_
 have u21 := ((h_First.ext e9).ext e15)
 have u22 := ((h_To.ext e9).ext e15)
 have u23 := ((h_Weight.ext e9).ext e15)
 obtain ⟨y24, hy25, r26⟩ := bind_some hr
 refine s_ck 54 #[.agg #[hd_First, hd_To, hd_Weight], .int .i64 s] (by kernel_rfl) (c_viaductref08_node e15.wf u21 u22 u23 hy25) ?_
 rintro _ H29 ⟨s27, f28, rfl, e30, m31, i32⟩
 obtain ⟨a34, n35, c36, rfl⟩ := m31.form
 refine s_rwk e30.wf [.int .i64 0, .slice none 0 0] (by kernel_rfl) fun b37 H38 e39 hb40 r41 => ?_
 have u47 := (m31.ext e39)
 obtain ⟨H43, q44, e45, r46⟩ := Row.store (P := Tryd.prog) (t := 31) (p := 0) e39.wf r41 (.agg #[.int .i64 y24.1, .slice a34 n35 c36]) [.int .i64 y24.1, .slice a34 n35 c36] (by kernel_rfl) (by kernel_rfl) (one_cons (rfl) (one_cons (u47.one1) (one_nil))) (Nat.le_of_ble_eq_true (by kernel_rfl)) [.int .i64 y24.1, .slice a34 n35 c36] (by kernel_rfl)
 refine s_ek (undef) (by kernel_rfl) (map_ok q44) ?_
 refine s_nil ?_
 refine k19 _ _ ?_
 refine w_seqk fun K48 k48 => ?_
 refine w_seqk fun K49 k49 => ?_
 obtain ⟨o50, hx51, r52⟩ := bind_some r26
 refine w_mid (fun α H53 => Has α [(1, .int .i64 s), (2, .int .i64 t), (3, .pointer (some ⟨b7, 0, none⟩)), (7, .pointer (some ⟨b13, 0, none⟩)), (8, .pointer (some ⟨b37, 0, none⟩)), (21, .bool o50)] ∧ FrS [] H43 H53) (fun K55 k55 => ?_) (fun α H53 hM => ?_)
 ·refine w_reg (by kernel_rfl) ?_
  refine s_ql (.agg #[.int .i64 y24.1, .slice a34 n35 c36]) (x := aLoad Tryd.prog 31 (.pointer (some ⟨b37, 0, none⟩)) H43) (by kernel_rfl) (r46.ld (by kernel_rfl)) ?_
  have u57 := (u47.fr e45 (hb40.djn m31.lt))
  obtain ⟨y58, hy59, r60⟩ := bind_some hx51
  refine s_ck 24 #[.agg #[.int .i64 y24.1, .slice a34 n35 c36]] (by kernel_rfl) (c_viaductref01_Err_Bad e45.wf u57.sq hy59) ?_
  rintro _ H61 ⟨rfl, e62⟩
  by_cases h63 : y58 = true
  ·have r64 := ite_t h63 r60
   rw [h63]
   refine s_qk (.bool false) (by kernel_rfl) ?_
   refine s_qk (.bool false) (by kernel_rfl) ?_
   refine s_no (by kernel_rfl) ?_
   refine s_no (by kernel_rfl) ?_
   refine s_no (by kernel_rfl) ?_
   refine s_no (by kernel_rfl) ?_
   refine s_qk (.bool false) (by kernel_rfl) ?_
   refine s_nil ?_
   obtain rfl := Option.some.inj r64
   exact k55 _ _ ⟨⟨by kernel_rfl, by kernel_rfl, by kernel_rfl, by kernel_rfl, by kernel_rfl, by kernel_rfl, trivial⟩, (FrS.step e45.wf (FrS.refl (W := []) e45.wf) e62 Inn.nil)⟩
  ·have r66 := ite_f h63 r60
   rw [nb h63]
   refine s_qk (.bool true) (by kernel_rfl) ?_
   refine s_qk (.bool true) (by kernel_rfl) ?_
   have u68 := ((((u20.frS e30 Dj.nil_l).ext e39).frS e45 (hb40.djn (r11.ltF.le (ntr e15.next e30.next)))).frS e62 Dj.nil_l)
   refine s_ql (.agg #[hd_First, hd_To, hd_Weight]) (x := aLoad Tryd.prog 37 (.pointer (some ⟨b7, 0, none⟩)) H61) (by kernel_rfl) (u68.ld (by kernel_rfl)) ?_
   refine s_qk (.int .i64 t) (by kernel_rfl) ?_
   have u69 := ((((u21.fr e30 Dj.nil_l).ext e39).fr e45 (hb40.djn (h_First.lt.le (ntr (ntr e9.next e15.next) e30.next)))).fr e62 Dj.nil_l)
   have u70 := ((((u22.fr e30 Dj.nil_l).ext e39).fr e45 (hb40.djn (h_To.lt.le (ntr (ntr e9.next e15.next) e30.next)))).fr e62 Dj.nil_l)
   have u71 := ((((u23.fr e30 Dj.nil_l).ext e39).fr e45 (hb40.djn (h_Weight.lt.le (ntr (ntr e9.next e15.next) e30.next)))).fr e62 Dj.nil_l)
   obtain ⟨y72, hy73, r74⟩ := bind_some r66
   refine s_ck 55 #[.agg #[hd_First, hd_To, hd_Weight], .int .i64 t] (by kernel_rfl) (c_viaductref05_Node e62.wf u69 u70 u71 hy73) ?_
   rintro _ H75 ⟨rfl, e76⟩
   refine s_qk (.bool (!y72)) (by kernel_rfl) ?_
   refine s_qk (.bool (!y72)) (by kernel_rfl) ?_
   refine s_nil ?_
   obtain rfl := Option.some.inj r74
   exact k55 _ _ ⟨⟨by kernel_rfl, by kernel_rfl, by kernel_rfl, by kernel_rfl, by kernel_rfl, by kernel_rfl, trivial⟩, (FrS.step e45.wf (FrS.step e45.wf (FrS.refl (W := []) e45.wf) e62 Inn.nil) e76 Inn.nil)⟩
 ·obtain ⟨hh56, e54⟩ := hM
  obtain ⟨β, rfl⟩ := has_ex hh56
  clear hh56
  refine k49 _ _ ?_
  obtain ⟨o77, hx78, r79⟩ := bind_some r52
  refine w_mid (fun α H80 => ∃ (s84 : Value) (f85 : Fp), Has α [(1, .int .i64 s), (2, .int .i64 t), (3, .pointer (some ⟨b7, 0, none⟩)), (7, .pointer (some ⟨b13, 0, none⟩)), (8, .pointer (some ⟨b37, 0, none⟩))] ∧ FrS [b37] H53 H80 ∧ Ow enc_i64_i64 2 H80 s84 o77.2 f85 ∧ Row H80 b37 [.int .i64 o77.1, s84] ∧ Inn f28 H53 f85) (fun K89 k89 => ?_) (fun α H80 hM => ?_)
  ·refine w_cond (o50) (by kernel_rfl) rfl (fun h91 => ?_) (fun h91 => ?_)
   ·have r92 := ite_t h91 hx78
    refine w_reg (by kernel_rfl) ?_
    obtain ⟨y93, hy94, r95⟩ := bind_some r92
    refine s_ck 41 #[.int .i64 7] (by kernel_rfl) (c_viaductref01_E e54.wf hy94) ?_
    rintro _ H96 ⟨rfl, e97⟩
    have u102 := ((r46.frS e54 Dj.nil_l).frS e97 Dj.nil_l)
    obtain ⟨H98, q99, e100, r101⟩ := Row.store (P := Tryd.prog) (t := 31) (p := 0) e97.wf u102 (.agg #[.int .i64 y93, .slice none 0 0]) [.int .i64 y93, .slice none 0 0] (by kernel_rfl) (by kernel_rfl) (one_cons (rfl) (one_cons (rfl) (one_nil))) (Nat.le_of_ble_eq_true (by kernel_rfl)) [.int .i64 y93, .slice none 0 0] (by kernel_rfl)
    refine s_ek (undef) (by kernel_rfl) (map_ok q99) ?_
    refine s_nil ?_
    obtain rfl := Option.some.inj r95
    exact k89 _ _ ⟨(.slice none 0 0), [], ⟨by kernel_rfl, by kernel_rfl, by kernel_rfl, by kernel_rfl, by kernel_rfl, trivial⟩, (FrS.step e54.wf (FrS.step e54.wf (FrS.refl (W := [b37]) e54.wf) e97 Inn.nil) e100 Inn.refl'), (Ow.nil (by decide)), r101, Inn.nil⟩
   ·have r103 := ite_bf h91 hx78
    refine w_skip ?_
    have u104 := ((u47.fr e45 (hb40.djn m31.lt)).fr e54 Dj.nil_l)
    have u105 := (r46.frS e54 Dj.nil_l)
    obtain rfl := Option.some.inj r103
    exact k89 _ _ ⟨(.slice a34 n35 c36), f28, ⟨by kernel_rfl, by kernel_rfl, by kernel_rfl, by kernel_rfl, by kernel_rfl, trivial⟩, (FrS.refl (W := [b37]) e54.wf), u104, u105, Inn.refl'⟩
  ·obtain ⟨s84, f85, hh90, e81, m83, m87, i88⟩ := hM
   obtain ⟨β, rfl⟩ := has_ex hh90
   clear hh90
   obtain ⟨a106, n107, c108, rfl⟩ := m83.form
   refine k48 _ _ ?_
   refine w_seqk fun K109 k109 => ?_
   refine w_seqk fun K110 k110 => ?_
   refine w_reg (by kernel_rfl) ?_
   refine s_ql (.agg #[.int .i64 o77.1, .slice a106 n107 c108]) (x := aLoad Tryd.prog 31 (.pointer (some ⟨b37, 0, none⟩)) H80) (by kernel_rfl) (m87.ld (by kernel_rfl)) ?_
   obtain ⟨y111, hy112, r113⟩ := bind_some r79
   refine s_ck 24 #[.agg #[.int .i64 o77.1, .slice a106 n107 c108]] (by kernel_rfl) (c_viaductref01_Err_Bad e81.wf m83.sq hy112) ?_
   rintro _ H114 ⟨rfl, e115⟩
   refine s_nil ?_
   refine k110 _ _ ?_
   refine w_cond (y111) (by kernel_rfl) rfl (fun h116 => ?_) (fun h116 => ?_)
   ·have r117 := ite_t h116 r113
    refine w_seqk fun K118 k118 => ?_
    refine w_draw [0, 1, 2] (by kernel_rfl) ?_
    have u119 := (m87.frS e115 Dj.nil_l)
    refine d_ql (.agg #[.int .i64 o77.1, .slice a106 n107 c108]) (x := aLoad Tryd.prog 31 (.pointer (some ⟨b37, 0, none⟩)) H114) (by kernel_rfl) (u119.ld (by kernel_rfl)) ?_
    refine d_qk (.int .u64 0) (by kernel_rfl) ?_
    have u124 := ((((((r17.frS e30 Dj.nil_l).ext e39).frS e45 (hb40.djn (r17.ltF.le e30.next))).frS e54 Dj.nil_l).frS e81 (hb40.djn (r17.ltF.le e30.next))).frS e115 Dj.nil_l)
    have u125 := (m83.fr e115 Dj.nil_l)
    obtain ⟨H120, q121, e122, r123⟩ := Row.store (P := Tryd.prog) (t := 31) (p := 0) e115.wf u124 (.agg #[.int .i64 o77.1, .slice a106 n107 c108]) [.int .i64 o77.1, .slice a106 n107 c108] (by kernel_rfl) (by kernel_rfl) (one_cons (rfl) (one_cons (u125.one1) (one_nil))) (Nat.le_of_ble_eq_true (by kernel_rfl)) [.int .i64 o77.1, .slice a106 n107 c108] (by kernel_rfl)
    refine d_ek (undef) (by kernel_rfl) (map_ok q121) (st_nil) ?_
    refine d_nil ?_
    refine k118 _ _ ?_
    refine w_ret (th_ret ?_)
    refine b_ret (fn := Tryd.f23) (vs := [.int .u64 0, .agg #[.int .i64 o77.1, .slice a106 n107 c108]]) (aRes_tmp (by kernel_rfl) (aRes_cell (Eq.trans (b := aLoad Tryd.prog 31 (.pointer (some ⟨b13, 0, none⟩)) H120) (by kernel_rfl) (r123.ld (by kernel_rfl))) (rfl))) ?_
    have u126 := (u125.fr e122 (Dj.symm (i88.dj (i32.djn r17.ltF) (r17.ltF.le (ntr (ntr (ntr e30.next e39.next) e45.next) e54.next)))))
    obtain rfl := Option.some.inj r117
    exact ⟨(.slice a106 n107 c108), f85, rfl, (FrS.step wf (FrS.step wf (FrS.step wf (FrS.step wf (FrS.step wf ((FrS.step wf (((FrS.refl (W := []) wf).extR e9).extR e15) e30 Inn.nil).extR e39) e45 (hb40.fresh (ntr (ntr e9.next e15.next) e30.next))) e54 Inn.nil) e81 (hb40.fresh (ntr (ntr e9.next e15.next) e30.next))) e115 Inn.nil) e122 (hb16.fresh e9.next)), u126, (Inn.trans (i32.fresh (ntr e9.next e15.next)) (ntr (ntr (ntr (ntr (ntr e9.next e15.next) e30.next) e39.next) e45.next) e54.next) i88)⟩
   ·have r127 := ite_bf h116 r113
    refine w_skip ?_
    refine k109 _ _ ?_
    refine w_seqk fun K128 k128 => ?_
    refine w_reg (by kernel_rfl) ?_
    have u129 := ((((((u20.frS e30 Dj.nil_l).ext e39).frS e45 (hb40.djn (r11.ltF.le (ntr e15.next e30.next)))).frS e54 Dj.nil_l).frS e81 (hb40.djn (r11.ltF.le (ntr e15.next e30.next)))).frS e115 Dj.nil_l)
    refine s_ql (.agg #[hd_First, hd_To, hd_Weight]) (x := aLoad Tryd.prog 37 (.pointer (some ⟨b7, 0, none⟩)) H114) (by kernel_rfl) (u129.ld (by kernel_rfl)) ?_
    refine s_qk (.int .i64 s) (by kernel_rfl) ?_
    have u130 := ((((((u21.fr e30 Dj.nil_l).ext e39).fr e45 (hb40.djn (h_First.lt.le (ntr (ntr e9.next e15.next) e30.next)))).fr e54 Dj.nil_l).fr e81 (hb40.djn (h_First.lt.le (ntr (ntr e9.next e15.next) e30.next)))).fr e115 Dj.nil_l)
    have u131 := ((((((u22.fr e30 Dj.nil_l).ext e39).fr e45 (hb40.djn (h_To.lt.le (ntr (ntr e9.next e15.next) e30.next)))).fr e54 Dj.nil_l).fr e81 (hb40.djn (h_To.lt.le (ntr (ntr e9.next e15.next) e30.next)))).fr e115 Dj.nil_l)
    have u132 := ((((((u23.fr e30 Dj.nil_l).ext e39).fr e45 (hb40.djn (h_Weight.lt.le (ntr (ntr e9.next e15.next) e30.next)))).fr e54 Dj.nil_l).fr e81 (hb40.djn (h_Weight.lt.le (ntr (ntr e9.next e15.next) e30.next)))).fr e115 Dj.nil_l)
    obtain ⟨y133, hy134, r135⟩ := bind_some r127
    refine s_ck 56 #[.agg #[hd_First, hd_To, hd_Weight], .int .i64 s] (by kernel_rfl) (c_viaductref08_From e115.wf u130 u131 u132 hy134) ?_
    rintro s136 H138 ⟨_, f137, rfl, e139, m140, i141⟩
    obtain ⟨a143, n144, c145, rfl⟩ := m140.form
    refine s_qk (.int .i64 t) (by kernel_rfl) ?_
    obtain ⟨g146, r147⟩ := G_some r135
    refine s_ql (elp (.slice a143 n144 c145) 1 t.toNat 0) (x := aIndexAddr Tryd.prog 47 (.slice a143 n144 c145) (.int .i64 t)) (by kernel_rfl) (m140.sq.idxb (by kernel_rfl) g146.1 g146.2) ?_
    refine s_ql (.int .u64 (gt y133 t)) (x := aLoad Tryd.prog 42 (elp (.slice a143 n144 c145) 1 t.toNat 0) H138) (by kernel_rfl) (m140.sq.ld g146.1 g146.2 (by kernel_rfl)) ?_
    refine s_qk (.int .u64 (gt y133 t)) (by kernel_rfl) ?_
    refine s_nil ?_
    refine k128 _ _ ?_
    refine w_seqk fun K148 k148 => ?_
    refine w_seqk fun K149 k149 => ?_
    refine w_reg (by kernel_rfl) ?_
    refine s_qk (.int .u64 (gt y133 t)) (by kernel_rfl) ?_
    refine s_qk (.bool (decide ((gt y133 t) = 18446744073709551615))) (by kernel_rfl) ?_
    refine s_nil ?_
    refine k149 _ _ ?_
    refine w_condp ((gt y133 t) = 18446744073709551615) (by kernel_rfl) rfl (fun h150 => ?_) (fun h150 => ?_)
    ·have r151 := ite_t h150 r147
     refine w_seqk fun K152 k152 => ?_
     refine w_reg (by kernel_rfl) ?_
     obtain ⟨y153, hy154, r155⟩ := bind_some r151
     refine s_ck 41 #[.int .i64 16] (by kernel_rfl) (c_viaductref01_E e139.wf hy154) ?_
     rintro _ H156 ⟨rfl, e157⟩
     refine s_qk (.int .u64 0) (by kernel_rfl) ?_
     have u162 := ((((((((r17.frS e30 Dj.nil_l).ext e39).frS e45 (hb40.djn (r17.ltF.le e30.next))).frS e54 Dj.nil_l).frS e81 (hb40.djn (r17.ltF.le e30.next))).frS e115 Dj.nil_l).frS e139 Dj.nil_l).frS e157 Dj.nil_l)
     obtain ⟨H158, q159, e160, r161⟩ := Row.store (P := Tryd.prog) (t := 31) (p := 0) e157.wf u162 (.agg #[.int .i64 y153, .slice none 0 0]) [.int .i64 y153, .slice none 0 0] (by kernel_rfl) (by kernel_rfl) (one_cons (rfl) (one_cons (rfl) (one_nil))) (Nat.le_of_ble_eq_true (by kernel_rfl)) [.int .i64 y153, .slice none 0 0] (by kernel_rfl)
     refine s_ek (undef) (by kernel_rfl) (map_ok q159) ?_
     refine s_nil ?_
     refine k152 _ _ ?_
     refine w_ret (th_ret ?_)
     refine b_ret (fn := Tryd.f23) (vs := [.int .u64 0, .agg #[.int .i64 y153, .slice none 0 0]]) (aRes_tmp (by kernel_rfl) (aRes_cell (Eq.trans (b := aLoad Tryd.prog 31 (.pointer (some ⟨b13, 0, none⟩)) H158) (by kernel_rfl) (r161.ld (by kernel_rfl))) (rfl))) ?_
     obtain rfl := Option.some.inj r155
     exact ⟨(.slice none 0 0), [], rfl, (FrS.step wf (FrS.step wf (FrS.step wf (FrS.step wf (FrS.step wf (FrS.step wf (FrS.step wf ((FrS.step wf (((FrS.refl (W := []) wf).extR e9).extR e15) e30 Inn.nil).extR e39) e45 (hb40.fresh (ntr (ntr e9.next e15.next) e30.next))) e54 Inn.nil) e81 (hb40.fresh (ntr (ntr e9.next e15.next) e30.next))) e115 Inn.nil) e139 Inn.nil) e157 Inn.nil) e160 (hb16.fresh e9.next)), (Ow.nil (by decide)), Inn.nil⟩
    ·have r163 := ite_f h150 r147
     refine w_skip ?_
     refine k148 _ _ ?_
     refine w_seqk fun K164 k164 => ?_
     refine w_draw [0, 1, 2, 3] (by kernel_rfl) ?_
     refine d_qk (.int .u64 (gt y133 t)) (by kernel_rfl) ?_
     have u165 := ((m87.frS e115 Dj.nil_l).frS e139 Dj.nil_l)
     refine d_ql (.agg #[.int .i64 o77.1, .slice a106 n107 c108]) (x := aLoad Tryd.prog 31 (.pointer (some ⟨b37, 0, none⟩)) H138) (by kernel_rfl) (u165.ld (by kernel_rfl)) ?_
     refine d_qk (.int .u64 (gt y133 t)) (by kernel_rfl) ?_
     have u170 := (((((((r17.frS e30 Dj.nil_l).ext e39).frS e45 (hb40.djn (r17.ltF.le e30.next))).frS e54 Dj.nil_l).frS e81 (hb40.djn (r17.ltF.le e30.next))).frS e115 Dj.nil_l).frS e139 Dj.nil_l)
     have u171 := ((m83.fr e115 Dj.nil_l).fr e139 Dj.nil_l)
     obtain ⟨H166, q167, e168, r169⟩ := Row.store (P := Tryd.prog) (t := 31) (p := 0) e139.wf u170 (.agg #[.int .i64 o77.1, .slice a106 n107 c108]) [.int .i64 o77.1, .slice a106 n107 c108] (by kernel_rfl) (by kernel_rfl) (one_cons (rfl) (one_cons (u171.one1) (one_nil))) (Nat.le_of_ble_eq_true (by kernel_rfl)) [.int .i64 o77.1, .slice a106 n107 c108] (by kernel_rfl)
     refine d_ek (undef) (by kernel_rfl) (map_ok q167) (st_nil) ?_
     refine d_nil ?_
     refine k164 _ _ ?_
     refine w_ret ?_
     refine b_ret (fn := Tryd.f23) (vs := [.int .u64 (gt y133 t), .agg #[.int .i64 o77.1, .slice a106 n107 c108]]) (aRes_tmp (by kernel_rfl) (aRes_cell (Eq.trans (b := aLoad Tryd.prog 31 (.pointer (some ⟨b13, 0, none⟩)) H166) (by kernel_rfl) (r169.ld (by kernel_rfl))) (rfl))) ?_
     have u172 := (u171.fr e168 (Dj.symm (i88.dj (i32.djn r17.ltF) (r17.ltF.le (ntr (ntr (ntr e30.next e39.next) e45.next) e54.next)))))
     obtain rfl := Option.some.inj r163
     exact ⟨(.slice a106 n107 c108), f85, rfl, (FrS.step wf (FrS.step wf (FrS.step wf (FrS.step wf (FrS.step wf (FrS.step wf ((FrS.step wf (((FrS.refl (W := []) wf).extR e9).extR e15) e30 Inn.nil).extR e39) e45 (hb40.fresh (ntr (ntr e9.next e15.next) e30.next))) e54 Inn.nil) e81 (hb40.fresh (ntr (ntr e9.next e15.next) e30.next))) e115 Inn.nil) e139 Inn.nil) e168 (hb16.fresh e9.next)), u172, (Inn.trans (i32.fresh (ntr e9.next e15.next)) (ntr (ntr (ntr (ntr (ntr e9.next e15.next) e30.next) e39.next) e45.next) e54.next) i88)⟩

theorem c_viaductseen_Same {H : AH} {ev_err : Value} {fp_err : Fp} {hd_Places : Value} {fp_Places : Fp} {err : Er} {Code : Int} {Places : List (Int × Int)} {r : Bool}
  (wf : WF H) (h_err : Ev 80 86 H ev_err err fp_err) (h_Places : Sq enc_i64_i64 2 H hd_Places Places fp_Places) (hr : z_viaductseen_Same err Code Places = some r) :
  ACalls Tryd.prog 14 #[ev_err, .agg #[.int .i64 Code, hd_Places]] H fun v H' => v = .bool r ∧ FrS [] H H' := by
 refine acalls_of_body mixed Tryd.func14 rfl (Nat.le_of_ble_eq_true rfl) ?_
 unfold z_viaductseen_Same at hr
 refine w_seqk fun K1 k1 => ?_
 refine w_reg (by kernel_rfl) ?_
 refine s_rwl wf [.int .i64 Code, hd_Places] (one_cons (rfl) (one_cons (h_Places.one1) (one_nil))) (by kernel_rfl) fun b2 H3 e4 hb5 r6 => ?_
 refine s_qk (.bool false) (by kernel_rfl) ?_
 refine s_nil ?_
 refine k1 _ _ ?_
 refine w_seqk fun K8 k8 => ?_
 refine w_seqk fun K9 k9 => ?_
 refine w_reg (by kernel_rfl) ?_
 refine s_ql (.agg #[.int .i64 Code, hd_Places]) (x := aLoad Tryd.prog 31 (.pointer (some ⟨b2, 0, none⟩)) H3) (by kernel_rfl) (r6.ld (by kernel_rfl)) ?_
 have u10 := (h_Places.ext e4)
 obtain ⟨y11, hy12, r13⟩ := bind_some hr
 refine s_ck 24 #[.agg #[.int .i64 Code, hd_Places]] (by kernel_rfl) (c_viaductref01_Err_Bad e4.wf u10 hy12) ?_
 rintro _ H14 ⟨rfl, e15⟩
 refine s_qk (.bool (!y11)) (by kernel_rfl) ?_
 refine s_nil ?_
 refine k9 _ _ ?_
 refine w_cond ((!y11)) (by kernel_rfl) rfl (fun h16 => ?_) (fun h16 => ?_)
 ·have r17 := ite_t h16 r13
  refine w_seqk fun K18 k18 => ?_
  refine w_reg (by kernel_rfl) ?_
  refine s_qk (ev_err) (by kernel_rfl) ?_
  have u22 := ((h_err.ext e4).fr e15 Dj.nil_l)
  rcases (u22).cases with ⟨h19, rfl⟩ | ⟨h19, t20, x21, rfl⟩
  ·have r23 := ite_t h19 r17
   refine s_qk (.bool true) (by kernel_rfl) ?_
   refine s_qk (.bool true) (by kernel_rfl) ?_
   refine s_nil ?_
   refine k18 _ _ ?_
   refine w_ret (th_ret ?_)
   refine b_ret (fn := Tryd.f14) (vs := [.bool true]) (aRes_tmp (by kernel_rfl) (rfl)) ?_
   obtain rfl := Option.some.inj r23
   exact ⟨rfl, (FrS.step wf ((FrS.refl (W := []) wf).extR e4) e15 Inn.nil)⟩
  ·have r24 := ite_f h19 r17
   refine s_ql (.bool false) (x := aBin Tryd.prog .eql 25 (.tmp 15) (.const .nilIface) (.iface t20 x21) .nilIface) (by kernel_rfl) (aBin_nil (by kernel_rfl)) ?_
   refine s_qk (.bool false) (by kernel_rfl) ?_
   refine s_nil ?_
   refine k18 _ _ ?_
   refine w_ret (th_ret ?_)
   refine b_ret (fn := Tryd.f14) (vs := [.bool false]) (aRes_tmp (by kernel_rfl) (rfl)) ?_
   obtain rfl := Option.some.inj r24
   exact ⟨rfl, (FrS.step wf ((FrS.refl (W := []) wf).extR e4) e15 Inn.nil)⟩
 ·have r25 := ite_bf h16 r13
  refine w_skip ?_
  refine k8 _ _ ?_
  refine w_seqk fun K26 k26 => ?_
  refine w_seqk fun K27 k27 => ?_
  refine w_reg (by kernel_rfl) ?_
  refine s_qk (ev_err) (by kernel_rfl) ?_
  have u31 := ((h_err.ext e4).fr e15 Dj.nil_l)
  rcases (u31).cases with ⟨h28, rfl⟩ | ⟨h28, t29, x30, rfl⟩
  ·have r32 := ite_t h28 r25
   refine s_qk (.bool true) (by kernel_rfl) ?_
   refine s_nil ?_
   refine k27 _ _ ?_
   refine w_cond true (by kernel_rfl) rfl (fun _ => ?_) (fun h => by cases h)
   refine w_seqk fun K33 k33 => ?_
   refine w_reg (by kernel_rfl) ?_
   refine s_qk (.bool false) (by kernel_rfl) ?_
   refine s_nil ?_
   refine k33 _ _ ?_
   refine w_ret (th_ret ?_)
   refine b_ret (fn := Tryd.f14) (vs := [.bool false]) (aRes_tmp (by kernel_rfl) (rfl)) ?_
   obtain rfl := Option.some.inj r32
   exact ⟨rfl, (FrS.step wf ((FrS.refl (W := []) wf).extR e4) e15 Inn.nil)⟩
  ·have r34 := ite_f h28 r25
   refine s_ql (.bool false) (x := aBin Tryd.prog .eql 25 (.tmp 17) (.const .nilIface) (.iface t29 x30) .nilIface) (by kernel_rfl) (aBin_nil (by kernel_rfl)) ?_
   refine s_nil ?_
   refine k27 _ _ ?_
   refine w_cond false (by kernel_rfl) rfl (fun h => by cases h) (fun _ => ?_)
   refine w_skip ?_
   refine k26 _ _ ?_
   refine w_seqk fun K35 k35 => ?_
   refine w_reg (by kernel_rfl) ?_
   refine s_qk (.iface t29 x30) (by kernel_rfl) ?_
   refine s_qk (.iface t29 x30) (by kernel_rfl) ?_
   refine s_nil ?_
   refine k35 _ _ ?_
   refine w_seqk fun K36 k36 => ?_
   refine w_seqk fun K37 k37 => ?_
   refine w_reg (by kernel_rfl) ?_
   refine s_qk (.pointer (some ⟨b2, 1, none⟩)) (by kernel_rfl) ?_
   have u38 := (r6.frS e15 Dj.nil_l)
   refine s_ql (hd_Places) (x := aLoad Tryd.prog 29 (.pointer (some ⟨b2, 1, none⟩)) H14) (by kernel_rfl) (u38.ld (by kernel_rfl)) ?_
   have u39 := (u10.fr e15 Dj.nil_l)
   refine s_ql (.int .i64 (Places.length : Int)) (x := aLen Tryd.prog 29 hd_Places H14) (by kernel_rfl) (u39.lenb (by kernel_rfl)) ?_
   refine s_qk (.int .i64 0) (by kernel_rfl) ?_
   refine s_nil ?_
   refine k37 _ _ ?_
   obtain ⟨z43, hx41, r42⟩ := bind_some r34
   refine w_mid (fun α H44 => ∃ o40, z43 = Sum.inr o40 ∧ ∃ (v48 : Value), Has α [(0, .iface t29 x30), (3, .pointer (some ⟨b2, 0, none⟩)), (5, v48)] ∧ FrS [] H14 H44 ∧ Ev 80 86 H44 v48 o40 fp_err) (fun K49 k49 => ?_) (fun α H44 hM => ?_)
   ·refine w_block ?_
    obtain ⟨n51, hn52⟩ := loopO_iff.1 hx41
    refine w_loopn (fun n α H53 => ∃ (i0 : Int), ∃ (e1 : Er), ∃ (v57 : Value), iterO (fun zz_ => z_viaductseen_Same_l0 Places zz_.1 zz_.2) n (i0, e1) = some z43 ∧ Has α [(0, .iface t29 x30), (3, .pointer (some ⟨b2, 0, none⟩)), (5, v57), (21, hd_Places), (22, .int .i64 (Places.length : Int)), (23, .int .i64 i0)] ∧ FrS [] H14 H53 ∧ Ev 80 86 H53 v57 e1 fp_err) n51 ⟨0, err, (.iface t29 x30), hn52, ⟨by kernel_rfl, by kernel_rfl, by kernel_rfl, by kernel_rfl, by kernel_rfl, by kernel_rfl, trivial⟩, (FrS.refl (W := []) e15.wf), u31⟩ ?_
    rintro n51 α H53 ⟨i0, e1, v57, hi59, hh58, e54, m56⟩ K64 k64
    obtain ⟨n60, z61, rfl, hz62, hn63⟩ := iter_succ hi59
    obtain ⟨β, rfl⟩ := has_ex hh58
    clear hh58
    replace hz62 : z_viaductseen_Same_l0 Places i0 e1 = some z61 := hz62
    unfold z_viaductseen_Same_l0 at hz62
    refine w_seqk fun K65 k65 => ?_
    refine w_reg (by kernel_rfl) ?_
    refine s_qk (.bool (decide (i0 < (Places.length : Int)))) (by kernel_rfl) ?_
    refine s_nil ?_
    refine k65 _ _ ?_
    refine w_seqk fun K66 k66 => ?_
    refine w_condp (i0 < (Places.length : Int)) (by kernel_rfl) rfl (fun h67 => ?_) (fun h67 => ?_)
    ·have r68 := ite_t h67 hz62
     refine w_skip ?_
     refine k66 _ _ ?_
     refine w_seqk fun K69 k69 => ?_
     refine w_block ?_
     refine w_seqk fun K70 k70 => ?_
     refine w_reg (by kernel_rfl) ?_
     obtain ⟨g71, r72⟩ := G_some r68
     have u73 := (u39.fr e54 Dj.nil_l)
     refine s_ql (elp hd_Places 2 i0.toNat 0) (x := aIndexAddr Tryd.prog 29 hd_Places (.int .i64 i0)) (by kernel_rfl) (u73.idxb (by kernel_rfl) g71 h67) ?_
     refine s_ql (.agg #[.int .i64 ((gt Places i0).1), .int .i64 ((gt Places i0).2)]) (x := aLoad Tryd.prog 85 (elp hd_Places 2 i0.toNat 0) H53) (by kernel_rfl) (u73.ld g71 h67 (by kernel_rfl)) ?_
     refine s_rwk e54.wf [.int .i64 0, .int .i64 0] (by kernel_rfl) fun b74 H75 e76 hb77 r78 => ?_
     obtain ⟨H80, q81, e82, r83⟩ := Row.store (P := Tryd.prog) (t := 85) (p := 0) e76.wf r78 (.agg #[.int .i64 ((gt Places i0).1), .int .i64 ((gt Places i0).2)]) [.int .i64 ((gt Places i0).1), .int .i64 ((gt Places i0).2)] (by kernel_rfl) (by kernel_rfl) (one_cons (rfl) (one_cons (rfl) (one_nil))) (Nat.le_of_ble_eq_true (by kernel_rfl)) [.int .i64 ((gt Places i0).1), .int .i64 ((gt Places i0).2)] (by kernel_rfl)
     refine s_ek (undef) (by kernel_rfl) (map_ok q81) ?_
     refine s_nil ?_
     refine k70 _ _ ?_
     refine w_seqk fun K84 k84 => ?_
     refine w_reg (by kernel_rfl) ?_
     refine s_rwk e82.wf [.pointer none] (by kernel_rfl) fun b85 H86 e87 hb88 r89 => ?_
     refine s_nil ?_
     refine k84 _ _ ?_
     refine w_seqk fun K91 k91 => ?_
     refine w_seqk fun K92 k92 => ?_
     refine w_draw [0, 1, 2, 3, 4, 5, 6, 7, 8, 9, 10, 11, 12, 13, 14, 15] (by kernel_rfl) ?_
     refine d_qk (v57) (by kernel_rfl) ?_
     refine d_qk (.iface 88 (.pointer (some ⟨b85, 0, none⟩))) (by kernel_rfl) ?_
     by_cases h93 : Er.isAt e1 = true
     ·have r94 := ite_t h93 r72
      have u103 := (((m56.ext e76).fr e82 (hb77.djn (h_err.lt.le (ntr (ntr e4.next e15.next) e54.next)))).ext e87)
      refine d_ck 44 #[v57, .iface 88 (.pointer (some ⟨b85, 0, none⟩))] (by kernel_rfl) (a_asF_at e87.wf r89 (hb88.djn (h_err.lt.le (ntr (ntr (ntr (ntr e4.next e15.next) e54.next) e76.next) e82.next))) u103 h93) ?_
      rintro _ H95 ⟨rfl, e96, b98, u99, -, i100, r97, r101, v102⟩
      refine ⟨st_nil, ?_⟩
      refine d_qk (.bool false) (by kernel_rfl) ?_
      refine d_qk (.bool false) (by kernel_rfl) ?_
      refine d_ql (.pointer (some ⟨b98, 0, none⟩)) (x := aLoad Tryd.prog 86 (.pointer (some ⟨b85, 0, none⟩)) H95) (by kernel_rfl) (r97.ld (by kernel_rfl)) ?_
      refine d_qk (.bool false) (by kernel_rfl) ?_
      refine d_qk (.bool false) (by kernel_rfl) ?_
      refine d_qk (.bool false) (by kernel_rfl) ?_
      refine d_ql (.pointer (some ⟨b98, 0, none⟩)) (x := aLoad Tryd.prog 86 (.pointer (some ⟨b85, 0, none⟩)) H95) (by kernel_rfl) (r97.ld (by kernel_rfl)) ?_
      refine d_qk (.pointer (some ⟨b98, 0, none⟩)) (by kernel_rfl) ?_
      refine d_qk (.pointer (some ⟨b98, 0, none⟩)) (by kernel_rfl) ?_
      refine d_ql (.agg #[.int .i64 (Er.fk e1), .int .i64 (Er.fi e1)]) (x := aLoad Tryd.prog 85 (.pointer (some ⟨b98, 0, none⟩)) H95) (by kernel_rfl) (r101.ld (by kernel_rfl)) ?_
      have u106 := ((r83.ext e87).frS e96 (hb88.djn (r78.ltF.le e82.next)))
      refine d_ql (.agg #[.int .i64 ((gt Places i0).1), .int .i64 ((gt Places i0).2)]) (x := aLoad Tryd.prog 85 (.pointer (some ⟨b74, 0, none⟩)) H95) (by kernel_rfl) (u106.ld (by kernel_rfl)) ?_
      refine d_ql (.bool (!decide ((Er.fk e1) = ((gt Places i0).1) ∧ (Er.fi e1) = ((gt Places i0).2)))) (x := aBin Tryd.prog .neq 85 (.tmp 39) (.tmp 40) (.agg #[.int .i64 (Er.fk e1), .int .i64 (Er.fi e1)]) (.agg #[.int .i64 ((gt Places i0).1), .int .i64 ((gt Places i0).2)])) (by kernel_rfl) (aBin_neq85 _ _ (Er.fk e1) (Er.fi e1) ((gt Places i0).1) ((gt Places i0).2)) ?_
      refine d_qk (.bool (!decide ((Er.fk e1) = ((gt Places i0).1) ∧ (Er.fi e1) = ((gt Places i0).2)))) (by kernel_rfl) ?_
      refine d_nil ?_
      refine k92 _ _ ?_
      refine w_condn ((Er.fk e1) = ((gt Places i0).1) ∧ (Er.fi e1) = ((gt Places i0).2)) (by kernel_rfl) rfl (fun h107 => ?_) (fun h107 => ?_)
      ·have r108 := ite_f h107 r94
       refine w_seqk fun K109 k109 => ?_
       refine w_reg (by kernel_rfl) ?_
       refine s_qk (.bool false) (by kernel_rfl) ?_
       refine s_nil ?_
       refine k109 _ _ ?_
       refine w_ret (th_ret (bl_ret (th_ret (th_ret (bl_ret (th_ret (th_ret ?_)))))))
       obtain ⟨v110, hv111, hz112⟩ := map_some r108
       subst hz112
       obtain rfl := it_inr hn63
       have hq113 := elim_inl r42
       rw [hq113] at hv111
       refine b_ret (fn := Tryd.f14) (vs := [.bool false]) (aRes_tmp (by kernel_rfl) (rfl)) ?_
       obtain rfl := Option.some.inj hv111
       exact ⟨rfl, (FrS.step wf ((FrS.step wf ((FrS.step wf (FrS.step wf ((FrS.refl (W := []) wf).extR e4) e15 Inn.nil) e54 Inn.nil).extR e76) e82 (hb77.fresh (ntr (ntr e4.next e15.next) e54.next))).extR e87) e96 (hb88.fresh (ntr (ntr (ntr (ntr e4.next e15.next) e54.next) e76.next) e82.next)))⟩
      ·have r114 := ite_t h107 r94
       refine w_skip ?_
       refine k91 _ _ ?_
       refine w_reg (by kernel_rfl) ?_
       refine s_ql (.pointer (some ⟨b98, 0, none⟩)) (x := aLoad Tryd.prog 86 (.pointer (some ⟨b85, 0, none⟩)) H95) (by kernel_rfl) (r97.ld (by kernel_rfl)) ?_
       refine s_qk (.pointer (some ⟨b98, 0, none⟩)) (by kernel_rfl) ?_
       refine s_qk (.pointer (some ⟨b98, 2, none⟩)) (by kernel_rfl) ?_
       refine s_ql (u99) (x := aLoad Tryd.prog 25 (.pointer (some ⟨b98, 2, none⟩)) H95) (by kernel_rfl) (r101.ld (by kernel_rfl)) ?_
       refine s_qk (u99) (by kernel_rfl) ?_
       refine s_nil ?_
       refine k69 _ _ ?_
       refine w_reg (by kernel_rfl) ?_
       obtain ⟨g115, r116⟩ := G_some r114
       refine s_w ((i0 + 1)) (k := .i64) (x := (i0 + 1)) (by kernel_rfl) (wrap64 (by have := g115; omega)) ?_
       refine s_qk (.int .i64 (i0 + 1)) (by kernel_rfl) ?_
       refine s_nil ?_
       obtain rfl := Option.some.inj r116
       exact k64 n60 _ _ (Nat.lt_succ_self _) ⟨(i0 + 1), (Er.fe e1), (u99), hn63, ⟨by kernel_rfl, by kernel_rfl, by kernel_rfl, by kernel_rfl, by kernel_rfl, by kernel_rfl, trivial⟩, (FrS.step e15.wf ((FrS.step e15.wf ((FrS.step e15.wf (FrS.refl (W := []) e15.wf) e54 Inn.nil).extR e76) e82 (hb77.fresh e54.next)).extR e87) e96 (hb88.fresh (ntr (ntr e54.next e76.next) e82.next))), v102⟩
     ·have r117 := ite_f h93 r72
      have u118 := (((m56.ext e76).fr e82 (hb77.djn (h_err.lt.le (ntr (ntr e4.next e15.next) e54.next)))).ext e87)
      refine d_ck 44 #[v57, .iface 88 (.pointer (some ⟨b85, 0, none⟩))] (by kernel_rfl) (a_asF_no r89 u118 h93) ?_
      rintro _ _ ⟨rfl, rfl⟩
      refine ⟨st_nil, ?_⟩
      refine d_qk (.bool true) (by kernel_rfl) ?_
      refine d_qk (.bool true) (by kernel_rfl) ?_
      refine d_idle (by kernel_rfl) ?_
      refine d_idle (by kernel_rfl) ?_
      refine d_qk (.bool true) (by kernel_rfl) ?_
      refine d_qk (.bool true) (by kernel_rfl) ?_
      refine d_idle (by kernel_rfl) ?_
      refine d_idle (by kernel_rfl) ?_
      refine d_idle (by kernel_rfl) ?_
      refine d_idle (by kernel_rfl) ?_
      refine d_idle (by kernel_rfl) ?_
      refine d_idle (by kernel_rfl) ?_
      refine d_qk (.bool true) (by kernel_rfl) ?_
      refine d_nil ?_
      refine k92 _ _ ?_
      refine w_cond true (by kernel_rfl) rfl (fun _ => ?_) (fun h => by cases h)
      refine w_seqk fun K119 k119 => ?_
      refine w_reg (by kernel_rfl) ?_
      refine s_qk (.bool false) (by kernel_rfl) ?_
      refine s_nil ?_
      refine k119 _ _ ?_
      refine w_ret (th_ret (bl_ret (th_ret (th_ret (bl_ret (th_ret (th_ret ?_)))))))
      obtain ⟨v120, hv121, hz122⟩ := map_some r117
      subst hz122
      obtain rfl := it_inr hn63
      have hq123 := elim_inl r42
      rw [hq123] at hv121
      refine b_ret (fn := Tryd.f14) (vs := [.bool false]) (aRes_tmp (by kernel_rfl) (rfl)) ?_
      obtain rfl := Option.some.inj hv121
      exact ⟨rfl, ((FrS.step wf ((FrS.step wf (FrS.step wf ((FrS.refl (W := []) wf).extR e4) e15 Inn.nil) e54 Inn.nil).extR e76) e82 (hb77.fresh (ntr (ntr e4.next e15.next) e54.next))).extR e87)⟩
    ·have r124 := ite_f h67 hz62
     refine w_exit (th_exit (th_exit (bl_eq ?_)))
     obtain rfl := Option.some.inj r124
     obtain rfl := it_inr hn63
     exact k49 _ _ ⟨_, rfl, (v57), ⟨by kernel_rfl, by kernel_rfl, by kernel_rfl, trivial⟩, (FrS.step e15.wf (FrS.refl (W := []) e15.wf) e54 Inn.nil), m56⟩
   ·obtain ⟨o40, rfl, v48, hh50, e45, m47⟩ := hM
    have r125 := elim_inr r42
    obtain ⟨β, rfl⟩ := has_ex hh50
    clear hh50
    refine k36 _ _ ?_
    refine w_seqk fun K126 k126 => ?_
    refine w_reg (by kernel_rfl) ?_
    refine s_rwk e45.wf [.pointer none] (by kernel_rfl) fun b127 H128 e129 hb130 r131 => ?_
    refine s_nil ?_
    refine k126 _ _ ?_
    refine w_seqk fun K133 k133 => ?_
    refine w_seqk fun K134 k134 => ?_
    refine w_reg (by kernel_rfl) ?_
    refine s_qk (v48) (by kernel_rfl) ?_
    refine s_qk (.iface 88 (.pointer (some ⟨b127, 0, none⟩))) (by kernel_rfl) ?_
    by_cases h135 : Er.isAt o40 = true
    ·have r136 := ite_t h135 r125
     have u145 := (m47.ext e129)
     refine s_ck 44 #[v48, .iface 88 (.pointer (some ⟨b127, 0, none⟩))] (by kernel_rfl) (a_asF_at e129.wf r131 (hb130.djn (h_err.lt.le (ntr (ntr e4.next e15.next) e45.next))) u145 h135) ?_
     rintro _ H137 ⟨rfl, e138, b140, u141, -, i142, r139, r143, v144⟩
     refine s_nil ?_
     refine k134 _ _ ?_
     refine w_cond true (by kernel_rfl) rfl (fun _ => ?_) (fun h => by cases h)
     refine w_seqk fun K148 k148 => ?_
     refine w_reg (by kernel_rfl) ?_
     refine s_qk (.bool false) (by kernel_rfl) ?_
     refine s_nil ?_
     refine k148 _ _ ?_
     refine w_ret (th_ret ?_)
     refine b_ret (fn := Tryd.f14) (vs := [.bool false]) (aRes_tmp (by kernel_rfl) (rfl)) ?_
     obtain rfl := Option.some.inj r136
     exact ⟨rfl, (FrS.step wf ((FrS.step wf (FrS.step wf ((FrS.refl (W := []) wf).extR e4) e15 Inn.nil) e45 Inn.nil).extR e129) e138 (hb130.fresh (ntr (ntr e4.next e15.next) e45.next)))⟩
    ·have r149 := ite_f h135 r125
     have u150 := (m47.ext e129)
     refine s_ck 44 #[v48, .iface 88 (.pointer (some ⟨b127, 0, none⟩))] (by kernel_rfl) (a_asF_no r131 u150 h135) ?_
     rintro _ _ ⟨rfl, rfl⟩
     refine s_nil ?_
     refine k134 _ _ ?_
     refine w_cond false (by kernel_rfl) rfl (fun h => by cases h) (fun _ => ?_)
     refine w_skip ?_
     refine k133 _ _ ?_
     refine w_seqk fun K151 k151 => ?_
     refine w_reg (by kernel_rfl) ?_
     refine s_rwk e129.wf [.int .i64 0] (by kernel_rfl) fun b152 H153 e154 hb155 r156 => ?_
     refine s_nil ?_
     refine k151 _ _ ?_
     refine w_seqk fun K158 k158 => ?_
     refine w_seqk fun K159 k159 => ?_
     obtain ⟨o160, hx161, r162⟩ := bind_some r149
     refine w_mid (fun α H163 => Has α [(0, .iface t29 x30), (3, .pointer (some ⟨b2, 0, none⟩)), (60, .bool o160)] ∧ FrS [b152] H153 H163) (fun K165 k165 => ?_) (fun α H163 hM => ?_)
     ·refine w_reg (by kernel_rfl) ?_
      refine s_qk (.iface t29 x30) (by kernel_rfl) ?_
      refine s_qk (.iface 91 (.pointer (some ⟨b152, 0, none⟩))) (by kernel_rfl) ?_
      by_cases h167 : (Er.num err).isSome = true
      ·have r168 := ite_t h167 hx161
       have u172 := (((u31.fr e45 Dj.nil_l).ext e129).ext e154)
       refine s_ck 44 #[.iface t29 x30, .iface 91 (.pointer (some ⟨b152, 0, none⟩))] (by kernel_rfl) (a_asN_y e154.wf r156 u172 h28 h167) ?_
       rintro _ H169 ⟨rfl, e170, r171⟩
       refine s_qk (.bool false) (by kernel_rfl) ?_
       refine s_qk (.bool false) (by kernel_rfl) ?_
       refine s_ql (.int .i64 ((Er.num err).getD 0)) (x := aLoad Tryd.prog 80 (.pointer (some ⟨b152, 0, none⟩)) H169) (by kernel_rfl) (r171.ld (by kernel_rfl)) ?_
       refine s_qk (.pointer (some ⟨b2, 0, none⟩)) (by kernel_rfl) ?_
       have u173 := ((((u38.frS e45 Dj.nil_l).ext e129).ext e154).frS e170 (hb155.djn (r6.ltF.le (ntr (ntr e15.next e45.next) e129.next))))
       refine s_ql (.int .i64 Code) (x := aLoad Tryd.prog 3 (.pointer (some ⟨b2, 0, none⟩)) H169) (by kernel_rfl) (u173.ld (by kernel_rfl)) ?_
       refine s_qk (.bool (!decide (((Er.num err).getD 0) = Code))) (by kernel_rfl) ?_
       refine s_qk (.bool (!decide (((Er.num err).getD 0) = Code))) (by kernel_rfl) ?_
       refine s_nil ?_
       obtain rfl := Option.some.inj r168
       exact k165 _ _ ⟨⟨by kernel_rfl, by kernel_rfl, by kernel_rfl, trivial⟩, (FrS.step e154.wf (FrS.refl (W := [b152]) e154.wf) e170 Inn.refl')⟩
      ·have r174 := ite_f h167 hx161
       have u178 := (((u31.fr e45 Dj.nil_l).ext e129).ext e154)
       refine s_ck 44 #[.iface t29 x30, .iface 91 (.pointer (some ⟨b152, 0, none⟩))] (by kernel_rfl) (a_asN_n e154.wf r156 u178 h28 h167) ?_
       rintro _ H175 ⟨rfl, e176, r177⟩
       refine s_qk (.bool true) (by kernel_rfl) ?_
       refine s_qk (.bool true) (by kernel_rfl) ?_
       refine s_no (by kernel_rfl) ?_
       refine s_no (by kernel_rfl) ?_
       refine s_no (by kernel_rfl) ?_
       refine s_no (by kernel_rfl) ?_
       refine s_qk (.bool true) (by kernel_rfl) ?_
       refine s_nil ?_
       obtain rfl := Option.some.inj r174
       exact k165 _ _ ⟨⟨by kernel_rfl, by kernel_rfl, by kernel_rfl, trivial⟩, (FrS.step e154.wf (FrS.refl (W := [b152]) e154.wf) e176 Inn.refl')⟩
     ·obtain ⟨hh166, e164⟩ := hM
      obtain ⟨β, rfl⟩ := has_ex hh166
      clear hh166
      refine k159 _ _ ?_
      refine w_cond (o160) (by kernel_rfl) rfl (fun h179 => ?_) (fun h179 => ?_)
      ·have r180 := ite_t h179 r162
       refine w_seqk fun K181 k181 => ?_
       refine w_reg (by kernel_rfl) ?_
       refine s_qk (.bool false) (by kernel_rfl) ?_
       refine s_nil ?_
       refine k181 _ _ ?_
       refine w_ret (th_ret ?_)
       refine b_ret (fn := Tryd.f14) (vs := [.bool false]) (aRes_tmp (by kernel_rfl) (rfl)) ?_
       obtain rfl := Option.some.inj r180
       exact ⟨rfl, (FrS.step wf (((FrS.step wf (FrS.step wf ((FrS.refl (W := []) wf).extR e4) e15 Inn.nil) e45 Inn.nil).extR e129).extR e154) e164 (hb155.fresh (ntr (ntr (ntr e4.next e15.next) e45.next) e129.next)))⟩
      ·have r182 := ite_bf h179 r162
       refine w_skip ?_
       refine k158 _ _ ?_
       refine w_seqk fun K183 k183 => ?_
       refine w_seqk fun K184 k184 => ?_
       refine w_reg (by kernel_rfl) ?_
       refine s_qk (.int .i64 1) (by kernel_rfl) ?_
       refine s_nil ?_
       refine k184 _ _ ?_
       obtain ⟨z188, hx186, r187⟩ := bind_some r182
       refine w_mid (fun α H189 => ∃ o185, z188 = Sum.inr o185 ∧ Has α [] ∧ H163 = H189) (fun K191 k191 => ?_) (fun α H189 hM => ?_)
       ·refine w_block ?_
        obtain ⟨n193, hn194⟩ := loopO_iff.1 hx186
        refine w_loopn (fun n α H195 => ∃ (i2 : Int), iterO (fun zz_ => z_viaductseen_Same_l1 err Code zz_) n i2 = some z188 ∧ Has α [(0, .iface t29 x30), (3, .pointer (some ⟨b2, 0, none⟩)), (11, .int .i64 i2)] ∧ H163 = H195) n193 ⟨1, hn194, ⟨by kernel_rfl, by kernel_rfl, by kernel_rfl, trivial⟩, rfl⟩ ?_
        rintro n193 α H195 ⟨i2, hi198, hh197, rfl⟩ K203 k203
        obtain ⟨n199, z200, rfl, hz201, hn202⟩ := iter_succ hi198
        obtain ⟨β, rfl⟩ := has_ex hh197
        clear hh197
        replace hz201 : z_viaductseen_Same_l1 err Code i2 = some z200 := hz201
        unfold z_viaductseen_Same_l1 at hz201
        refine w_seqk fun K204 k204 => ?_
        refine w_seqk fun K205 k205 => ?_
        refine w_reg (by kernel_rfl) ?_
        refine s_qk (.int .i64 i2) (by kernel_rfl) ?_
        refine s_qk (.bool (decide (i2 ≤ 20))) (by kernel_rfl) ?_
        refine s_nil ?_
        refine k205 _ _ ?_
        refine w_condp (i2 ≤ 20) (by kernel_rfl) rfl (fun h206 => ?_) (fun h206 => ?_)
        ·have r207 := ite_t h206 hz201
         refine w_skip ?_
         refine k204 _ _ ?_
         refine w_seqk fun K208 k208 => ?_
         refine w_block ?_
         refine w_seqk fun K209 k209 => ?_
         refine w_draw [0, 1, 2, 4, 5, 6, 7, 3, 8] (by kernel_rfl) ?_
         refine d_qk (.iface t29 x30) (by kernel_rfl) ?_
         refine d_qk (.int .i64 i2) (by kernel_rfl) ?_
         refine d_qk (.iface 80 (.int .i64 i2)) (by kernel_rfl) ?_
         refine d_qk (.int .i64 i2) (by kernel_rfl) ?_
         refine d_qk (.pointer (some ⟨b2, 0, none⟩)) (by kernel_rfl) ?_
         have u210 := ((((u38.frS e45 Dj.nil_l).ext e129).ext e154).frS e164 (hb155.djn (r6.ltF.le (ntr (ntr e15.next e45.next) e129.next))))
         refine d_fl (.int .i64 Code) (x := aLoad Tryd.prog 3 (.pointer (some ⟨b2, 0, none⟩)) H163) (by kernel_rfl) (u210.ld (by kernel_rfl)) ?_
         refine d_qk (.bool (decide (i2 = Code))) (by kernel_rfl) ?_
         have u211 := ((((u31.fr e45 Dj.nil_l).ext e129).ext e154).fr e164 (hb155.djn (h_err.lt.le (ntr (ntr (ntr e4.next e15.next) e45.next) e129.next))))
         refine d_ck 45 #[.iface t29 x30, .iface 80 (.int .i64 i2)] (by kernel_rfl) (a_isN u211 h28) ?_
         rintro _ _ ⟨rfl, rfl⟩
         refine ⟨st_ql (y := aLoad Tryd.prog 3 (.pointer (some ⟨b2, 0, none⟩)) H163) (by kernel_rfl) (u210.ld (by kernel_rfl)) (st_nil), ?_⟩
         refine d_qk (.bool (!decide ((decide (Er.num err = some i2)) = (decide (i2 = Code))))) (by kernel_rfl) ?_
         refine d_nil ?_
         refine k209 _ _ ?_
         refine w_condn ((decide (Er.num err = some i2)) = (decide (i2 = Code))) (by kernel_rfl) rfl (fun h212 => ?_) (fun h212 => ?_)
         ·have r213 := ite_f h212 r207
          refine w_seqk fun K214 k214 => ?_
          refine w_reg (by kernel_rfl) ?_
          refine s_qk (.bool false) (by kernel_rfl) ?_
          refine s_nil ?_
          refine k214 _ _ ?_
          refine w_ret (bl_ret (th_ret (th_ret (bl_ret (th_ret (th_ret ?_))))))
          obtain ⟨v215, hv216, hz217⟩ := map_some r213
          subst hz217
          obtain rfl := it_inr hn202
          have hq218 := elim_inl r187
          rw [hq218] at hv216
          refine b_ret (fn := Tryd.f14) (vs := [.bool false]) (aRes_tmp (by kernel_rfl) (rfl)) ?_
          obtain rfl := Option.some.inj hv216
          exact ⟨rfl, (FrS.step wf (((FrS.step wf (FrS.step wf ((FrS.refl (W := []) wf).extR e4) e15 Inn.nil) e45 Inn.nil).extR e129).extR e154) e164 (hb155.fresh (ntr (ntr (ntr e4.next e15.next) e45.next) e129.next)))⟩
         ·have r219 := ite_t h212 r207
          refine w_skip ?_
          refine k208 _ _ ?_
          refine w_reg (by kernel_rfl) ?_
          refine s_qk (.int .i64 i2) (by kernel_rfl) ?_
          obtain ⟨g220, r221⟩ := G_some r219
          refine s_w ((i2 + 1)) (k := .i64) (x := (i2 + 1)) (by kernel_rfl) (wrap64 g220) ?_
          refine s_qk (.int .i64 (i2 + 1)) (by kernel_rfl) ?_
          refine s_nil ?_
          obtain rfl := Option.some.inj r221
          exact k203 n199 _ _ (Nat.lt_succ_self _) ⟨(i2 + 1), hn202, ⟨by kernel_rfl, by kernel_rfl, by kernel_rfl, trivial⟩, rfl⟩
        ·have r222 := ite_f h206 hz201
         refine w_exit (th_exit (th_exit (bl_eq ?_)))
         obtain rfl := Option.some.inj r222
         obtain rfl := it_inr hn202
         exact k191 _ _ ⟨_, rfl, trivial, rfl⟩
       ·obtain ⟨o185, rfl, hh192, rfl⟩ := hM
        have r223 := elim_inr r187
        obtain ⟨β, rfl⟩ := has_ex hh192
        clear hh192
        refine k183 _ _ ?_
        refine w_seqk fun K224 k224 => ?_
        refine w_reg (by kernel_rfl) ?_
        refine s_qk (.bool true) (by kernel_rfl) ?_
        refine s_nil ?_
        refine k224 _ _ ?_
        refine w_ret ?_
        refine b_ret (fn := Tryd.f14) (vs := [.bool true]) (aRes_tmp (by kernel_rfl) (rfl)) ?_
        obtain rfl := Option.some.inj r223
        exact ⟨rfl, (FrS.step wf (((FrS.step wf (FrS.step wf ((FrS.refl (W := []) wf).extR e4) e15 Inn.nil) e45 Inn.nil).extR e129).extR e154) e164 (hb155.fresh (ntr (ntr (ntr e4.next e15.next) e45.next) e129.next)))⟩

theorem c_viaductref05_DocRow {H : AH} {hd_First : Value} {fp_First : Fp} {hd_To : Value} {fp_To : Fp} {hd_Weight : Value} {fp_Weight : Fp} {First : List (Int)} {To : List (Int)} {Weight : List (Int)} {v_ : Int} {r : List (Int × Int × Int) × Int × List (Int × Int)}
  (wf : WF H) (h_First : Sq (encI .i64) 1 H hd_First First fp_First) (h_To : Sq (encI .i64) 1 H hd_To To fp_To) (h_Weight : Sq (encI .i64) 1 H hd_Weight Weight fp_Weight) (hr : z_viaductref05_DocRow First To Weight v_ = some r) :
  ACalls Tryd.prog 82 #[.agg #[hd_First, hd_To, hd_Weight], .int .i64 v_] H fun v H' => ∃ (s3 : Value) (f4 : Fp) (s7 : Value) (f8 : Fp), v = .tuple #[s3, .agg #[.int .i64 r.2.1, s7]] ∧ FrS [] H H' ∧ Ow enc_i64_i64_i64 3 H' s3 r.1 f4 ∧ Ow enc_i64_i64 2 H' s7 r.2.2 f8 ∧ Inn [] H f4 ∧ Inn [] H f8 ∧ Dj f4 f8 := by
 refine acalls_of_body mixed Tryd.func82 rfl (Nat.le_of_ble_eq_true rfl) ?_
 unfold z_viaductref05_DocRow at hr
 refine w_seqk fun K12 k12 => ?_
 refine w_reg (by kernel_rfl) ?_
 refine s_rwl wf [hd_First, hd_To, hd_Weight] (one_cons (h_First.one1) (one_cons (h_To.one1) (one_cons (h_Weight.one1) (one_nil)))) (by kernel_rfl) fun b13 H14 e15 hb16 r17 => ?_
 refine s_qk (.slice none 0 0) (by kernel_rfl) ?_
 refine s_rwk e15.wf [.int .i64 0, .slice none 0 0] (by kernel_rfl) fun b19 H20 e21 hb22 r23 => ?_
 refine s_nil ?_
 refine k12 _ _ ?_
 refine w_seqk fun K25 k25 => ?_
 refine w_reg (by kernel_rfl) ?_
 have u26 := (r17.ext e21)
 refine s_ql (.agg #[hd_First, hd_To, hd_Weight]) (x := aLoad Tryd.prog 37 (.pointer (some ⟨b13, 0, none⟩)) H20) (by kernel_rfl) (u26.ld (by kernel_rfl)) ?_
 have u27 := ((h_First.ext e15).ext e21)
 have u28 := ((h_To.ext e15).ext e21)
 have u29 := ((h_Weight.ext e15).ext e21)
 obtain ⟨y30, hy31, r32⟩ := bind_some hr
 refine s_ck 48 #[.agg #[hd_First, hd_To, hd_Weight]] (by kernel_rfl) (c_viaductref05_DocCheck e21.wf u27 u28 u29 hy31) ?_
 rintro _ H35 ⟨s33, f34, rfl, e36, m37, i38⟩
 obtain ⟨a40, n41, c42, rfl⟩ := m37.form
 refine s_rwk e36.wf [.int .i64 0, .slice none 0 0] (by kernel_rfl) fun b43 H44 e45 hb46 r47 => ?_
 have u53 := (m37.ext e45)
 obtain ⟨H49, q50, e51, r52⟩ := Row.store (P := Tryd.prog) (t := 31) (p := 0) e45.wf r47 (.agg #[.int .i64 y30.1, .slice a40 n41 c42]) [.int .i64 y30.1, .slice a40 n41 c42] (by kernel_rfl) (by kernel_rfl) (one_cons (rfl) (one_cons (u53.one1) (one_nil))) (Nat.le_of_ble_eq_true (by kernel_rfl)) [.int .i64 y30.1, .slice a40 n41 c42] (by kernel_rfl)
 refine s_ek (undef) (by kernel_rfl) (map_ok q50) ?_
 refine s_nil ?_
 refine k25 _ _ ?_
 refine w_seqk fun K54 k54 => ?_
 refine w_seqk fun K55 k55 => ?_
 obtain ⟨o56, hx57, r58⟩ := bind_some r32
 refine w_mid (fun α H59 => Has α [(1, .int .i64 v_), (2, .pointer (some ⟨b13, 0, none⟩)), (5, .pointer (some ⟨b19, 0, none⟩)), (6, .pointer (some ⟨b43, 0, none⟩)), (17, .bool o56)] ∧ FrS [] H49 H59) (fun K61 k61 => ?_) (fun α H59 hM => ?_)
 ·refine w_reg (by kernel_rfl) ?_
  refine s_ql (.agg #[.int .i64 y30.1, .slice a40 n41 c42]) (x := aLoad Tryd.prog 31 (.pointer (some ⟨b43, 0, none⟩)) H49) (by kernel_rfl) (r52.ld (by kernel_rfl)) ?_
  have u63 := (u53.fr e51 (hb46.djn m37.lt))
  obtain ⟨y64, hy65, r66⟩ := bind_some hx57
  refine s_ck 24 #[.agg #[.int .i64 y30.1, .slice a40 n41 c42]] (by kernel_rfl) (c_viaductref01_Err_Bad e51.wf u63.sq hy65) ?_
  rintro _ H67 ⟨rfl, e68⟩
  by_cases h69 : y64 = true
  ·have r70 := ite_t h69 r66
   rw [h69]
   refine s_qk (.bool false) (by kernel_rfl) ?_
   refine s_qk (.bool false) (by kernel_rfl) ?_
   refine s_no (by kernel_rfl) ?_
   refine s_no (by kernel_rfl) ?_
   refine s_no (by kernel_rfl) ?_
   refine s_no (by kernel_rfl) ?_
   refine s_qk (.bool false) (by kernel_rfl) ?_
   refine s_nil ?_
   obtain rfl := Option.some.inj r70
   exact k61 _ _ ⟨⟨by kernel_rfl, by kernel_rfl, by kernel_rfl, by kernel_rfl, by kernel_rfl, trivial⟩, (FrS.step e51.wf (FrS.refl (W := []) e51.wf) e68 Inn.nil)⟩
  ·have r72 := ite_f h69 r66
   rw [nb h69]
   refine s_qk (.bool true) (by kernel_rfl) ?_
   refine s_qk (.bool true) (by kernel_rfl) ?_
   have u74 := ((((u26.frS e36 Dj.nil_l).ext e45).frS e51 (hb46.djn (r17.ltF.le (ntr e21.next e36.next)))).frS e68 Dj.nil_l)
   refine s_ql (.agg #[hd_First, hd_To, hd_Weight]) (x := aLoad Tryd.prog 37 (.pointer (some ⟨b13, 0, none⟩)) H67) (by kernel_rfl) (u74.ld (by kernel_rfl)) ?_
   refine s_qk (.int .i64 v_) (by kernel_rfl) ?_
   have u75 := ((((u27.fr e36 Dj.nil_l).ext e45).fr e51 (hb46.djn (h_First.lt.le (ntr (ntr e15.next e21.next) e36.next)))).fr e68 Dj.nil_l)
   have u76 := ((((u28.fr e36 Dj.nil_l).ext e45).fr e51 (hb46.djn (h_To.lt.le (ntr (ntr e15.next e21.next) e36.next)))).fr e68 Dj.nil_l)
   have u77 := ((((u29.fr e36 Dj.nil_l).ext e45).fr e51 (hb46.djn (h_Weight.lt.le (ntr (ntr e15.next e21.next) e36.next)))).fr e68 Dj.nil_l)
   obtain ⟨y78, hy79, r80⟩ := bind_some r72
   refine s_ck 55 #[.agg #[hd_First, hd_To, hd_Weight], .int .i64 v_] (by kernel_rfl) (c_viaductref05_Node e68.wf u75 u76 u77 hy79) ?_
   rintro _ H81 ⟨rfl, e82⟩
   refine s_qk (.bool (!y78)) (by kernel_rfl) ?_
   refine s_qk (.bool (!y78)) (by kernel_rfl) ?_
   refine s_nil ?_
   obtain rfl := Option.some.inj r80
   exact k61 _ _ ⟨⟨by kernel_rfl, by kernel_rfl, by kernel_rfl, by kernel_rfl, by kernel_rfl, trivial⟩, (FrS.step e51.wf (FrS.step e51.wf (FrS.refl (W := []) e51.wf) e68 Inn.nil) e82 Inn.nil)⟩
 ·obtain ⟨hh62, e60⟩ := hM
  obtain ⟨β, rfl⟩ := has_ex hh62
  clear hh62
  refine k55 _ _ ?_
  obtain ⟨o83, hx84, r85⟩ := bind_some r58
  refine w_mid (fun α H86 => ∃ (s90 : Value) (f91 : Fp), Has α [(1, .int .i64 v_), (2, .pointer (some ⟨b13, 0, none⟩)), (5, .pointer (some ⟨b19, 0, none⟩)), (6, .pointer (some ⟨b43, 0, none⟩))] ∧ FrS [b43] H59 H86 ∧ Ow enc_i64_i64 2 H86 s90 o83.2 f91 ∧ Row H86 b43 [.int .i64 o83.1, s90] ∧ Inn f34 H59 f91) (fun K95 k95 => ?_) (fun α H86 hM => ?_)
  ·refine w_cond (o56) (by kernel_rfl) rfl (fun h97 => ?_) (fun h97 => ?_)
   ·have r98 := ite_t h97 hx84
    refine w_reg (by kernel_rfl) ?_
    obtain ⟨y99, hy100, r101⟩ := bind_some r98
    refine s_ck 41 #[.int .i64 7] (by kernel_rfl) (c_viaductref01_E e60.wf hy100) ?_
    rintro _ H102 ⟨rfl, e103⟩
    have u108 := ((r52.frS e60 Dj.nil_l).frS e103 Dj.nil_l)
    obtain ⟨H104, q105, e106, r107⟩ := Row.store (P := Tryd.prog) (t := 31) (p := 0) e103.wf u108 (.agg #[.int .i64 y99, .slice none 0 0]) [.int .i64 y99, .slice none 0 0] (by kernel_rfl) (by kernel_rfl) (one_cons (rfl) (one_cons (rfl) (one_nil))) (Nat.le_of_ble_eq_true (by kernel_rfl)) [.int .i64 y99, .slice none 0 0] (by kernel_rfl)
    refine s_ek (undef) (by kernel_rfl) (map_ok q105) ?_
    refine s_nil ?_
    obtain rfl := Option.some.inj r101
    exact k95 _ _ ⟨(.slice none 0 0), [], ⟨by kernel_rfl, by kernel_rfl, by kernel_rfl, by kernel_rfl, trivial⟩, (FrS.step e60.wf (FrS.step e60.wf (FrS.refl (W := [b43]) e60.wf) e103 Inn.nil) e106 Inn.refl'), (Ow.nil (by decide)), r107, Inn.nil⟩
   ·have r109 := ite_bf h97 hx84
    refine w_skip ?_
    have u110 := ((u53.fr e51 (hb46.djn m37.lt)).fr e60 Dj.nil_l)
    have u111 := (r52.frS e60 Dj.nil_l)
    obtain rfl := Option.some.inj r109
    exact k95 _ _ ⟨(.slice a40 n41 c42), f34, ⟨by kernel_rfl, by kernel_rfl, by kernel_rfl, by kernel_rfl, trivial⟩, (FrS.refl (W := [b43]) e60.wf), u110, u111, Inn.refl'⟩
  ·obtain ⟨s90, f91, hh96, e87, m89, m93, i94⟩ := hM
   obtain ⟨β, rfl⟩ := has_ex hh96
   clear hh96
   obtain ⟨a112, n113, c114, rfl⟩ := m89.form
   refine k54 _ _ ?_
   refine w_seqk fun K115 k115 => ?_
   refine w_seqk fun K116 k116 => ?_
   refine w_reg (by kernel_rfl) ?_
   refine s_ql (.agg #[.int .i64 o83.1, .slice a112 n113 c114]) (x := aLoad Tryd.prog 31 (.pointer (some ⟨b43, 0, none⟩)) H86) (by kernel_rfl) (m93.ld (by kernel_rfl)) ?_
   obtain ⟨y117, hy118, r119⟩ := bind_some r85
   refine s_ck 24 #[.agg #[.int .i64 o83.1, .slice a112 n113 c114]] (by kernel_rfl) (c_viaductref01_Err_Bad e87.wf m89.sq hy118) ?_
   rintro _ H120 ⟨rfl, e121⟩
   refine s_nil ?_
   refine k116 _ _ ?_
   refine w_cond (y117) (by kernel_rfl) rfl (fun h122 => ?_) (fun h122 => ?_)
   ·have r123 := ite_t h122 r119
    refine w_seqk fun K124 k124 => ?_
    refine w_draw [0, 1, 2] (by kernel_rfl) ?_
    have u125 := (m93.frS e121 Dj.nil_l)
    refine d_ql (.agg #[.int .i64 o83.1, .slice a112 n113 c114]) (x := aLoad Tryd.prog 31 (.pointer (some ⟨b43, 0, none⟩)) H120) (by kernel_rfl) (u125.ld (by kernel_rfl)) ?_
    refine d_qk (.slice none 0 0) (by kernel_rfl) ?_
    have u130 := ((((((r23.frS e36 Dj.nil_l).ext e45).frS e51 (hb46.djn (r23.ltF.le e36.next))).frS e60 Dj.nil_l).frS e87 (hb46.djn (r23.ltF.le e36.next))).frS e121 Dj.nil_l)
    have u131 := (m89.fr e121 Dj.nil_l)
    obtain ⟨H126, q127, e128, r129⟩ := Row.store (P := Tryd.prog) (t := 31) (p := 0) e121.wf u130 (.agg #[.int .i64 o83.1, .slice a112 n113 c114]) [.int .i64 o83.1, .slice a112 n113 c114] (by kernel_rfl) (by kernel_rfl) (one_cons (rfl) (one_cons (u131.one1) (one_nil))) (Nat.le_of_ble_eq_true (by kernel_rfl)) [.int .i64 o83.1, .slice a112 n113 c114] (by kernel_rfl)
    refine d_ek (undef) (by kernel_rfl) (map_ok q127) (st_nil) ?_
    refine d_nil ?_
    refine k124 _ _ ?_
    refine w_ret (th_ret ?_)
    refine b_ret (fn := Tryd.f82) (vs := [.slice none 0 0, .agg #[.int .i64 o83.1, .slice a112 n113 c114]]) (aRes_tmp (by kernel_rfl) (aRes_cell (Eq.trans (b := aLoad Tryd.prog 31 (.pointer (some ⟨b19, 0, none⟩)) H126) (by kernel_rfl) (r129.ld (by kernel_rfl))) (rfl))) ?_
    have u132 := (u131.fr e128 (Dj.symm (i94.dj (i38.djn r23.ltF) (r23.ltF.le (ntr (ntr (ntr e36.next e45.next) e51.next) e60.next)))))
    obtain rfl := Option.some.inj r123
    exact ⟨(.slice none 0 0), [], (.slice a112 n113 c114), f91, rfl, (FrS.step wf (FrS.step wf (FrS.step wf (FrS.step wf (FrS.step wf ((FrS.step wf (((FrS.refl (W := []) wf).extR e15).extR e21) e36 Inn.nil).extR e45) e51 (hb46.fresh (ntr (ntr e15.next e21.next) e36.next))) e60 Inn.nil) e87 (hb46.fresh (ntr (ntr e15.next e21.next) e36.next))) e121 Inn.nil) e128 (hb22.fresh e15.next)), (Ow.nil (by decide)), u132, Inn.nil, (Inn.trans (i38.fresh (ntr e15.next e21.next)) (ntr (ntr (ntr (ntr (ntr e15.next e21.next) e36.next) e45.next) e51.next) e60.next) i94), Dj.nil_l⟩
   ·have r133 := ite_bf h122 r119
    refine w_skip ?_
    refine k115 _ _ ?_
    refine w_seqk fun K134 k134 => ?_
    refine w_draw [0, 1, 3, 2, 4, 5] (by kernel_rfl) ?_
    have u135 := ((((((u26.frS e36 Dj.nil_l).ext e45).frS e51 (hb46.djn (r17.ltF.le (ntr e21.next e36.next)))).frS e60 Dj.nil_l).frS e87 (hb46.djn (r17.ltF.le (ntr e21.next e36.next)))).frS e121 Dj.nil_l)
    refine d_ql (.agg #[hd_First, hd_To, hd_Weight]) (x := aLoad Tryd.prog 37 (.pointer (some ⟨b13, 0, none⟩)) H120) (by kernel_rfl) (u135.ld (by kernel_rfl)) ?_
    refine d_qk (.int .i64 v_) (by kernel_rfl) ?_
    have u136 := (m93.frS e121 Dj.nil_l)
    refine d_fl (.agg #[.int .i64 o83.1, .slice a112 n113 c114]) (x := aLoad Tryd.prog 31 (.pointer (some ⟨b43, 0, none⟩)) H120) (by kernel_rfl) (u136.ld (by kernel_rfl)) ?_
    have u137 := ((((((u27.fr e36 Dj.nil_l).ext e45).fr e51 (hb46.djn (h_First.lt.le (ntr (ntr e15.next e21.next) e36.next)))).fr e60 Dj.nil_l).fr e87 (hb46.djn (h_First.lt.le (ntr (ntr e15.next e21.next) e36.next)))).fr e121 Dj.nil_l)
    have u138 := ((((((u28.fr e36 Dj.nil_l).ext e45).fr e51 (hb46.djn (h_To.lt.le (ntr (ntr e15.next e21.next) e36.next)))).fr e60 Dj.nil_l).fr e87 (hb46.djn (h_To.lt.le (ntr (ntr e15.next e21.next) e36.next)))).fr e121 Dj.nil_l)
    have u139 := ((((((u29.fr e36 Dj.nil_l).ext e45).fr e51 (hb46.djn (h_Weight.lt.le (ntr (ntr e15.next e21.next) e36.next)))).fr e60 Dj.nil_l).fr e87 (hb46.djn (h_Weight.lt.le (ntr (ntr e15.next e21.next) e36.next)))).fr e121 Dj.nil_l)
    obtain ⟨y140, hy141, r142⟩ := bind_some r133
    refine d_ck 63 #[.agg #[hd_First, hd_To, hd_Weight], .int .i64 v_] (by kernel_rfl) (c_viaductref05_Row e121.wf u137 u138 u139 hy141) ?_
    rintro s143 H145 ⟨_, f144, rfl, e146, m147, i148⟩
    obtain ⟨a150, n151, c152, rfl⟩ := m147.form
    have u153 := (u136.frS e146 Dj.nil_l)
    refine ⟨st_ql (y := aLoad Tryd.prog 31 (.pointer (some ⟨b43, 0, none⟩)) H145) (by kernel_rfl) (u153.ld (by kernel_rfl)) (st_nil), ?_⟩
    refine d_qk (.slice a150 n151 c152) (by kernel_rfl) ?_
    have u158 := (((((((r23.frS e36 Dj.nil_l).ext e45).frS e51 (hb46.djn (r23.ltF.le e36.next))).frS e60 Dj.nil_l).frS e87 (hb46.djn (r23.ltF.le e36.next))).frS e121 Dj.nil_l).frS e146 Dj.nil_l)
    have u159 := ((m89.fr e121 Dj.nil_l).fr e146 Dj.nil_l)
    obtain ⟨H154, q155, e156, r157⟩ := Row.store (P := Tryd.prog) (t := 31) (p := 0) e146.wf u158 (.agg #[.int .i64 o83.1, .slice a112 n113 c114]) [.int .i64 o83.1, .slice a112 n113 c114] (by kernel_rfl) (by kernel_rfl) (one_cons (rfl) (one_cons (u159.one1) (one_nil))) (Nat.le_of_ble_eq_true (by kernel_rfl)) [.int .i64 o83.1, .slice a112 n113 c114] (by kernel_rfl)
    refine d_ek (undef) (by kernel_rfl) (map_ok q155) (st_anc (by kernel_rfl) (st_nil)) ?_
    refine d_nil ?_
    refine k134 _ _ ?_
    refine w_ret ?_
    refine b_ret (fn := Tryd.f82) (vs := [.slice a150 n151 c152, .agg #[.int .i64 o83.1, .slice a112 n113 c114]]) (aRes_tmp (by kernel_rfl) (aRes_cell (Eq.trans (b := aLoad Tryd.prog 31 (.pointer (some ⟨b19, 0, none⟩)) H154) (by kernel_rfl) (r157.ld (by kernel_rfl))) (rfl))) ?_
    have u160 := (m147.fr e156 (Dj.symm (i148.djn (r23.ltF.le (ntr (ntr (ntr (ntr (ntr e36.next e45.next) e51.next) e60.next) e87.next) e121.next)))))
    have u161 := (u159.fr e156 (Dj.symm (i94.dj (i38.djn r23.ltF) (r23.ltF.le (ntr (ntr (ntr e36.next e45.next) e51.next) e60.next)))))
    obtain rfl := Option.some.inj r142
    exact ⟨(.slice a150 n151 c152), f144, (.slice a112 n113 c114), f91, rfl, (FrS.step wf (FrS.step wf (FrS.step wf (FrS.step wf (FrS.step wf (FrS.step wf ((FrS.step wf (((FrS.refl (W := []) wf).extR e15).extR e21) e36 Inn.nil).extR e45) e51 (hb46.fresh (ntr (ntr e15.next e21.next) e36.next))) e60 Inn.nil) e87 (hb46.fresh (ntr (ntr e15.next e21.next) e36.next))) e121 Inn.nil) e146 Inn.nil) e156 (hb22.fresh e15.next)), u160, u161, (i148.fresh (ntr (ntr (ntr (ntr (ntr (ntr (ntr e15.next e21.next) e36.next) e45.next) e51.next) e60.next) e87.next) e121.next)), (Inn.trans (i38.fresh (ntr e15.next e21.next)) (ntr (ntr (ntr (ntr (ntr e15.next e21.next) e36.next) e45.next) e51.next) e60.next) i94), (i148.djn (m89.lt.le e121.next))⟩


end Go.Vd
