/- The walks of the functions (printed by a program of ours). -/
import Derived.Test.YtbjamignglibpaaDoorPkb2
import Derived.Test.YtbjamignglibpaaDoorISb
import Derived.Test.YtbjamignglibpaaDoorVeN
set_option linter.unusedVariables false
set_option linter.unusedSimpArgs false
set_option linter.unusedSectionVars false
/-! (KSb3) -/

set_option maxRecDepth 100000
set_option maxHeartbeats 4000000
set_option linter.unusedVariables false
namespace Go.Vd
open Go.Proofs
attribute [local irreducible] wpSeq wpOrd aWp
theorem c_search_state_settle {H : AH} {b_st : Nat} {hd_st_ : Value} {fp_st_ : Fp} {hd_st_2 : Value} {fp_st_2 : Fp} {hd_st_3 : Value} {fp_st_3 : Fp} {b_st_4 : Nat} {hd_st_5 : Value} {fp_st_5 : Fp} {hd_st_6 : Value} {fp_st_6 : Fp} {b_st_7 : Nat} {hd_st_8 : Value} {fp_st_8 : Fp} {hd_st_11 : Value} {fp_st_11 : Fp} {hd_st_12 : Value} {fp_st_12 : Fp} {st_ : List (Int)} {st_2 : List (Int)} {st_3 : List (Int)} {st_5 : List (Int × Int)} {st_6 : List (Int)} {st_8 : List (Int × Int)} {st_9 : Int} {st_10 : Int} {st_11 : List (Int)} {st_12 : List (Bool)} {v_ : Int} {d : Int} {hops : Int} {r : List (Int) × List (Int × Int) × List (Int × Int) × Int × List (Int) × List (Bool)}
  (wf : WF H) (h_st_ : Sq (encI .i64) 1 H hd_st_ st_ fp_st_) (h_st_2 : Sq (encI .i64) 1 H hd_st_2 st_2 fp_st_2) (h_st_3 : Sq (encI .i64) 1 H hd_st_3 st_3 fp_st_3) (h_st_5 : Ow enc_u64_u32 2 H hd_st_5 st_5 fp_st_5) (h_st_6 : Ow (encI .i64) 1 H hd_st_6 st_6 fp_st_6) (h_st_4 : Row H b_st_4 [hd_st_5, hd_st_6]) (h_st_8 : Ow enc_u64_u32 2 H hd_st_8 st_8 fp_st_8) (h_st_7 : Row H b_st_7 [hd_st_8, .int .u32 st_9, .int .i64 st_10]) (h_st_11 : Ow (encI .i64) 1 H hd_st_11 st_11 fp_st_11) (h_st_12 : Ow encB 1 H hd_st_12 st_12 fp_st_12) (h_st : Row H b_st [hd_st_, hd_st_2, hd_st_3, .pointer (some ⟨b_st_4, 0, none⟩), .pointer (some ⟨b_st_7, 0, none⟩), hd_st_11, hd_st_12]) (dj_fp_st_12_b_st : Dj fp_st_12 [b_st]) (dj_fp_st_12_fp_st_11 : Dj fp_st_12 fp_st_11) (dj_fp_st_12_fp_st_6 : Dj fp_st_12 fp_st_6) (dj_fp_st_12_fp_st_5 : Dj fp_st_12 fp_st_5) (dj_fp_st_12_b_st_4 : Dj fp_st_12 [b_st_4]) (dj_fp_st_12_fp_st_8 : Dj fp_st_12 fp_st_8) (dj_fp_st_12_b_st_7 : Dj fp_st_12 [b_st_7]) (dj_fp_st_12_fp_st_ : Dj fp_st_12 fp_st_) (dj_fp_st_12_fp_st_2 : Dj fp_st_12 fp_st_2) (dj_fp_st_12_fp_st_3 : Dj fp_st_12 fp_st_3) (dj_b_st_7_fp_st_8 : Dj [b_st_7] fp_st_8) (dj_fp_st_8_b_st : Dj fp_st_8 [b_st]) (dj_b_st_7_b_st : Dj [b_st_7] [b_st]) (dj_fp_st_8_fp_st_11 : Dj fp_st_8 fp_st_11) (dj_b_st_7_fp_st_11 : Dj [b_st_7] fp_st_11) (dj_fp_st_11_b_st : Dj fp_st_11 [b_st]) (dj_fp_st_8_fp_st_5 : Dj fp_st_8 fp_st_5) (dj_b_st_7_fp_st_5 : Dj [b_st_7] fp_st_5) (dj_fp_st_11_fp_st_5 : Dj fp_st_11 fp_st_5) (dj_fp_st_8_fp_st_6 : Dj fp_st_8 fp_st_6) (dj_b_st_7_fp_st_6 : Dj [b_st_7] fp_st_6) (dj_fp_st_11_fp_st_6 : Dj fp_st_11 fp_st_6) (dj_fp_st_8_b_st_4 : Dj fp_st_8 [b_st_4]) (dj_b_st_7_b_st_4 : Dj [b_st_7] [b_st_4]) (dj_fp_st_11_b_st_4 : Dj fp_st_11 [b_st_4]) (dj_fp_st_5_b_st_4 : Dj fp_st_5 [b_st_4]) (dj_fp_st_5_fp_st_6 : Dj fp_st_5 fp_st_6) (dj_b_st_4_fp_st_6 : Dj [b_st_4] fp_st_6) (dj_fp_st_6_b_st : Dj fp_st_6 [b_st]) (dj_fp_st_5_b_st : Dj fp_st_5 [b_st]) (dj_b_st_4_b_st : Dj [b_st_4] [b_st]) (dj_fp_st_8_fp_st_ : Dj fp_st_8 fp_st_) (dj_fp_st_6_fp_st_ : Dj fp_st_6 fp_st_) (dj_fp_st_5_fp_st_ : Dj fp_st_5 fp_st_) (dj_fp_st_11_fp_st_ : Dj fp_st_11 fp_st_) (dj_b_st_7_fp_st_ : Dj [b_st_7] fp_st_) (dj_b_st_4_fp_st_ : Dj [b_st_4] fp_st_) (dj_fp_st_8_fp_st_2 : Dj fp_st_8 fp_st_2) (dj_fp_st_6_fp_st_2 : Dj fp_st_6 fp_st_2) (dj_fp_st_5_fp_st_2 : Dj fp_st_5 fp_st_2) (dj_fp_st_11_fp_st_2 : Dj fp_st_11 fp_st_2) (dj_b_st_7_fp_st_2 : Dj [b_st_7] fp_st_2) (dj_b_st_4_fp_st_2 : Dj [b_st_4] fp_st_2) (dj_fp_st_8_fp_st_3 : Dj fp_st_8 fp_st_3) (dj_fp_st_6_fp_st_3 : Dj fp_st_6 fp_st_3) (dj_fp_st_5_fp_st_3 : Dj fp_st_5 fp_st_3) (dj_fp_st_11_fp_st_3 : Dj fp_st_11 fp_st_3) (dj_b_st_7_fp_st_3 : Dj [b_st_7] fp_st_3) (dj_b_st_4_fp_st_3 : Dj [b_st_4] fp_st_3) (dj_fp_st_8_fp_st_12 : Dj fp_st_8 fp_st_12) (dj_fp_st_6_fp_st_12 : Dj fp_st_6 fp_st_12) (dj_fp_st_5_fp_st_12 : Dj fp_st_5 fp_st_12) (dj_b_st_7_fp_st_12 : Dj [b_st_7] fp_st_12) (dj_b_st_4_fp_st_12 : Dj [b_st_4] fp_st_12) (dj_fp_st_5_fp_st_8 : Dj fp_st_5 fp_st_8) (dj_fp_st_5_b_st_7 : Dj fp_st_5 [b_st_7]) (dj_fp_st_5_fp_st_11 : Dj fp_st_5 fp_st_11) (hr : z_search_state_settle st_ st_2 st_3 st_5 st_6 st_8 st_9 st_10 st_11 st_12 v_ d hops = some r) :
  ACalls Tryd.prog 80 #[.pointer (some ⟨b_st, 0, none⟩), .int .i64 v_, .int .u64 d, .int .i64 hops] H fun v H' => ∃ (s5 : Value) (f6 : Fp), v = .tuple #[] ∧ FrS ([b_st_4] ++ ([b_st_7] ++ (fp_st_11 ++ (fp_st_12 ++ (fp_st_5 ++ (fp_st_6 ++ fp_st_8)))))) H H' ∧ Ow (encI .i64) 1 H' hd_st_6 r.1 fp_st_6 ∧ Ow enc_u64_u32 2 H' s5 r.2.1 f6 ∧ Row H' b_st_4 [s5, hd_st_6] ∧ Ow enc_u64_u32 2 H' hd_st_8 r.2.2.1 fp_st_8 ∧ Row H' b_st_7 [hd_st_8, .int .u32 st_9, .int .i64 r.2.2.2.1] ∧ Ow (encI .i64) 1 H' hd_st_11 r.2.2.2.2.1 fp_st_11 ∧ Ow encB 1 H' hd_st_12 r.2.2.2.2.2 fp_st_12 ∧ Inn fp_st_5 H f6 := by
 refine acalls_of_body mixed Tryd.func80 rfl (Nat.le_of_ble_eq_true rfl) ?_
 unfold z_search_state_settle at hr
 refine w_seqk fun K18 k18 => ?_
 refine w_reg (by kernel_rfl) ?_
 refine s_qk (.pointer (some ⟨b_st, 0, none⟩)) (by kernel_rfl) ?_
 refine s_qk (.pointer (some ⟨b_st, 0, none⟩)) (by kernel_rfl) ?_
 refine s_qk (.pointer (some ⟨b_st, 6, none⟩)) (by kernel_rfl) ?_
 refine s_ql (hd_st_12) (x := aLoad Tryd.prog 104 (.pointer (some ⟨b_st, 6, none⟩)) H) (by kernel_rfl) (h_st.ld (by kernel_rfl)) ?_
 refine s_qk (.int .i64 v_) (by kernel_rfl) ?_
 obtain ⟨g19, r20⟩ := G_some hr
 refine s_ql (elp hd_st_12 1 v_.toNat 0) (x := aIndexAddr Tryd.prog 104 hd_st_12 (.int .i64 v_)) (by kernel_rfl) (h_st_12.sq.idxb (by kernel_rfl) g19.1 g19.2) ?_
 obtain ⟨H21, q22, e23, hm24⟩ := Ow.store (P := Tryd.prog) (t := 4) (off := 0) wf h_st_12 g19.1 g19.2 (.bool true) [.bool true] (by kernel_rfl) (by kernel_rfl) rfl true (Nat.le_of_ble_eq_true rfl) (by kernel_rfl)
 refine s_ek (undef) (by kernel_rfl) (map_ok q22) ?_
 refine s_nil ?_
 refine k18 _ _ ?_
 refine w_seqk fun K25 k25 => ?_
 refine w_seqk fun K26 k26 => ?_
 refine w_reg (by kernel_rfl) ?_
 refine s_qk (.pointer (some ⟨b_st, 0, none⟩)) (by kernel_rfl) ?_
 refine s_qk (.pointer (some ⟨b_st, 0, none⟩)) (by kernel_rfl) ?_
 refine s_qk (.pointer (some ⟨b_st, 5, none⟩)) (by kernel_rfl) ?_
 have u27 := (h_st.frS e23 dj_fp_st_12_b_st)
 refine s_ql (hd_st_11) (x := aLoad Tryd.prog 22 (.pointer (some ⟨b_st, 5, none⟩)) H21) (by kernel_rfl) (u27.ld (by kernel_rfl)) ?_
 refine s_qk (.int .i64 v_) (by kernel_rfl) ?_
 obtain ⟨g28, r29⟩ := G_some r20
 have u30 := (h_st_11.fr e23 dj_fp_st_12_fp_st_11)
 refine s_ql (elp hd_st_11 1 v_.toNat 0) (x := aIndexAddr Tryd.prog 22 hd_st_11 (.int .i64 v_)) (by kernel_rfl) (u30.sq.idxb (by kernel_rfl) g19.1 g28) ?_
 refine s_ql (.int .i64 (gt st_11 v_)) (x := aLoad Tryd.prog 3 (elp hd_st_11 1 v_.toNat 0) H21) (by kernel_rfl) (u30.sq.ld g19.1 g28 (by kernel_rfl)) ?_
 refine s_qk (.int .i64 hops) (by kernel_rfl) ?_
 refine s_qk (.bool (decide ((gt st_11 v_) ≥ hops))) (by kernel_rfl) ?_
 refine s_nil ?_
 refine k26 _ _ ?_
 refine w_condp ((gt st_11 v_) ≥ hops) (by kernel_rfl) rfl (fun h31 => ?_) (fun h31 => ?_)
 ·have r32 := ite_t h31 r29
  refine w_ret (th_ret ?_)
  refine b_ret (fn := Tryd.f80) (vs := []) (rfl) ?_
  have u33 := (h_st_6.fr e23 dj_fp_st_12_fp_st_6)
  have u34 := (h_st_5.fr e23 dj_fp_st_12_fp_st_5)
  have u35 := (h_st_4.frS e23 dj_fp_st_12_b_st_4)
  have u36 := (h_st_8.fr e23 dj_fp_st_12_fp_st_8)
  have u37 := (h_st_7.frS e23 dj_fp_st_12_b_st_7)
  obtain rfl := Option.some.inj r32
  exact ⟨(hd_st_5), fp_st_5, rfl, (FrS.step wf (FrS.refl (W := ([b_st_4] ++ ([b_st_7] ++ (fp_st_11 ++ (fp_st_12 ++ (fp_st_5 ++ (fp_st_6 ++ fp_st_8))))))) wf) e23 (Inn.right (Inn.right (Inn.right Inn.left)))), u33, u34, u35, u36, u37, u30, hm24, Inn.refl'⟩
 ·have r38 := ite_f h31 r29
  refine w_skip ?_
  refine k25 _ _ ?_
  refine w_seqk fun K39 k39 => ?_
  refine w_reg (by kernel_rfl) ?_
  refine s_qk (.pointer (some ⟨b_st, 0, none⟩)) (by kernel_rfl) ?_
  refine s_qk (.pointer (some ⟨b_st, 0, none⟩)) (by kernel_rfl) ?_
  refine s_qk (.pointer (some ⟨b_st, 0, none⟩)) (by kernel_rfl) ?_
  refine s_qk (.pointer (some ⟨b_st, 0, none⟩)) (by kernel_rfl) ?_
  refine s_ql (hd_st_) (x := aLoad Tryd.prog 22 (.pointer (some ⟨b_st, 0, none⟩)) H21) (by kernel_rfl) (u27.ld (by kernel_rfl)) ?_
  refine s_qk (.int .i64 v_) (by kernel_rfl) ?_
  obtain ⟨g40, r41⟩ := G_some r38
  have u42 := (h_st_.fr e23 dj_fp_st_12_fp_st_)
  refine s_ql (elp hd_st_ 1 v_.toNat 0) (x := aIndexAddr Tryd.prog 22 hd_st_ (.int .i64 v_)) (by kernel_rfl) (u42.idxb (by kernel_rfl) g19.1 g40) ?_
  refine s_ql (.int .i64 (gt st_ v_)) (x := aLoad Tryd.prog 3 (elp hd_st_ 1 v_.toNat 0) H21) (by kernel_rfl) (u42.ld g19.1 g40 (by kernel_rfl)) ?_
  refine s_qk (.int .i64 (gt st_ v_)) (by kernel_rfl) ?_
  refine s_nil ?_
  refine k39 _ _ ?_
  obtain ⟨o43, hx44, r45⟩ := bind_some r41
  refine w_mid (fun α H46 => ∃ (s52 : Value) (f53 : Fp), Has α [] ∧ FrS ([b_st_4] ++ ([b_st_7] ++ (fp_st_11 ++ (fp_st_5 ++ (fp_st_6 ++ fp_st_8))))) H21 H46 ∧ Ow (encI .i64) 1 H46 hd_st_6 o43.1 fp_st_6 ∧ Ow enc_u64_u32 2 H46 s52 o43.2.1 f53 ∧ Row H46 b_st_4 [s52, hd_st_6] ∧ Ow enc_u64_u32 2 H46 hd_st_8 o43.2.2.1 fp_st_8 ∧ Row H46 b_st_7 [hd_st_8, .int .u32 st_9, .int .i64 o43.2.2.2.1] ∧ Ow (encI .i64) 1 H46 hd_st_11 o43.2.2.2.2 fp_st_11 ∧ Inn fp_st_5 H21 f53) (fun K63 k63 => ?_) (fun α H46 hM => ?_)
  ·refine w_block ?_
   obtain ⟨n65, hn66⟩ := loopO_iff.1 hx44
   have u90 := (h_st_5.fr e23 dj_fp_st_12_fp_st_5)
   have u91 := (h_st_6.fr e23 dj_fp_st_12_fp_st_6)
   have u92 := (h_st_4.frS e23 dj_fp_st_12_b_st_4)
   have u93 := (h_st_8.fr e23 dj_fp_st_12_fp_st_8)
   have u94 := (h_st_7.frS e23 dj_fp_st_12_b_st_7)
   refine w_loopn (fun n α H67 => ∃ (st0 : List (Int × Int)), ∃ (st1 : List (Int)), ∃ (st2 : List (Int × Int)), ∃ (st3 : Int), ∃ (st4 : List (Int)), ∃ (i5 : Int), ∃ (s71 : Value), ∃ (f72 : Fp), iterO (fun zz_ => z_search_state_settle_l0 st_ st_2 st_3 st_9 st_12 v_ d zz_.1 zz_.2.1 zz_.2.2.1 zz_.2.2.2.1 zz_.2.2.2.2.1 zz_.2.2.2.2.2) n (st0, st1, st2, st3, st4, i5) = some o43 ∧ Has α [(0, .pointer (some ⟨b_st, 0, none⟩)), (1, .int .i64 v_), (2, .int .u64 d), (8, .int .i64 i5)] ∧ FrS ([b_st_4] ++ ([b_st_7] ++ (fp_st_11 ++ (fp_st_5 ++ (fp_st_6 ++ fp_st_8))))) H21 H67 ∧ Ow enc_u64_u32 2 H67 s71 st0 f72 ∧ Ow (encI .i64) 1 H67 hd_st_6 st1 fp_st_6 ∧ Row H67 b_st_4 [s71, hd_st_6] ∧ Ow enc_u64_u32 2 H67 hd_st_8 st2 fp_st_8 ∧ Row H67 b_st_7 [hd_st_8, .int .u32 st_9, .int .i64 st3] ∧ Ow (encI .i64) 1 H67 hd_st_11 st4 fp_st_11 ∧ Inn fp_st_5 H21 f72) n65 ⟨st_5, st_6, st_8, st_10, st_11, (gt st_ v_), (hd_st_5), fp_st_5, hn66, ⟨by kernel_rfl, by kernel_rfl, by kernel_rfl, by kernel_rfl, trivial⟩, (FrS.refl (W := ([b_st_4] ++ ([b_st_7] ++ (fp_st_11 ++ (fp_st_5 ++ (fp_st_6 ++ fp_st_8)))))) e23.wf), u90, u91, u92, u93, u94, u30, Inn.refl'⟩ ?_
   rintro n65 α H67 ⟨st0, st1, st2, st3, st4, i5, s71, f72, hi85, hh84, e68, m70, m74, m76, m78, m80, m82, i83⟩ K95 k95
   obtain ⟨n86, z87, rfl, hz88, hn89⟩ := iter_succ hi85
   obtain ⟨β, rfl⟩ := has_ex hh84
   clear hh84
   replace hz88 : z_search_state_settle_l0 st_ st_2 st_3 st_9 st_12 v_ d st0 st1 st2 st3 st4 i5 = some z87 := hz88
   unfold z_search_state_settle_l0 at hz88
   obtain ⟨a96, n97, c98, rfl⟩ := m70.form
   refine w_seqk fun K99 k99 => ?_
   refine w_seqk fun K100 k100 => ?_
   refine w_reg (by kernel_rfl) ?_
   refine s_qk (.int .i64 i5) (by kernel_rfl) ?_
   refine s_qk (.pointer (some ⟨b_st, 0, none⟩)) (by kernel_rfl) ?_
   refine s_qk (.pointer (some ⟨b_st, 0, none⟩)) (by kernel_rfl) ?_
   refine s_qk (.pointer (some ⟨b_st, 0, none⟩)) (by kernel_rfl) ?_
   refine s_qk (.pointer (some ⟨b_st, 0, none⟩)) (by kernel_rfl) ?_
   have u101 := (u27.frS e68 (Dj.app dj_b_st_4_b_st (Dj.app dj_b_st_7_b_st (Dj.app dj_fp_st_11_b_st (Dj.app dj_fp_st_5_b_st (Dj.app dj_fp_st_6_b_st dj_fp_st_8_b_st))))))
   refine s_ql (hd_st_) (x := aLoad Tryd.prog 22 (.pointer (some ⟨b_st, 0, none⟩)) H67) (by kernel_rfl) (u101.ld (by kernel_rfl)) ?_
   refine s_qk (.int .i64 v_) (by kernel_rfl) ?_
   obtain ⟨g102, r103⟩ := G_some hz88
   refine s_w ((v_ + 1)) (k := .i64) (x := (v_ + 1)) (by kernel_rfl) (wrap64 (by have := g102; omega)) ?_
   obtain ⟨g104, r105⟩ := G_some r103
   have u106 := (u42.fr e68 (Dj.app dj_b_st_4_fp_st_ (Dj.app dj_b_st_7_fp_st_ (Dj.app dj_fp_st_11_fp_st_ (Dj.app dj_fp_st_5_fp_st_ (Dj.app dj_fp_st_6_fp_st_ dj_fp_st_8_fp_st_))))))
   refine s_ql (elp hd_st_ 1 (v_ + 1).toNat 0) (x := aIndexAddr Tryd.prog 22 hd_st_ (.int .i64 (v_ + 1))) (by kernel_rfl) (u106.idxb (by kernel_rfl) g104.1 g104.2) ?_
   refine s_ql (.int .i64 (gt st_ (v_ + 1))) (x := aLoad Tryd.prog 3 (elp hd_st_ 1 (v_ + 1).toNat 0) H67) (by kernel_rfl) (u106.ld g104.1 g104.2 (by kernel_rfl)) ?_
   refine s_qk (.bool (decide (i5 < (gt st_ (v_ + 1))))) (by kernel_rfl) ?_
   refine s_nil ?_
   refine k100 _ _ ?_
   refine w_condp (i5 < (gt st_ (v_ + 1))) (by kernel_rfl) rfl (fun h107 => ?_) (fun h107 => ?_)
   ·have r108 := ite_t h107 r105
    refine w_skip ?_
    refine k99 _ _ ?_
    refine w_seqk fun K109 k109 => ?_
    refine w_block ?_
    refine w_seqk fun K110 k110 => ?_
    refine w_draw [0, 1, 2, 3, 4, 5, 6, 7, 8, 9, 10, 11, 12, 13, 14, 15, 16, 17, 18, 19, 20] (by kernel_rfl) ?_
    refine d_qk (.pointer (some ⟨b_st, 0, none⟩)) (by kernel_rfl) ?_
    refine d_qk (.pointer (some ⟨b_st, 0, none⟩)) (by kernel_rfl) ?_
    refine d_qk (.pointer (some ⟨b_st, 0, none⟩)) (by kernel_rfl) ?_
    refine d_qk (.pointer (some ⟨b_st, 1, none⟩)) (by kernel_rfl) ?_
    refine d_ql (hd_st_2) (x := aLoad Tryd.prog 22 (.pointer (some ⟨b_st, 1, none⟩)) H67) (by kernel_rfl) (u101.ld (by kernel_rfl)) ?_
    refine d_qk (.int .i64 i5) (by kernel_rfl) ?_
    obtain ⟨g111, r112⟩ := G_some r108
    have u113 := ((h_st_2.fr e23 dj_fp_st_12_fp_st_2).fr e68 (Dj.app dj_b_st_4_fp_st_2 (Dj.app dj_b_st_7_fp_st_2 (Dj.app dj_fp_st_11_fp_st_2 (Dj.app dj_fp_st_5_fp_st_2 (Dj.app dj_fp_st_6_fp_st_2 dj_fp_st_8_fp_st_2))))))
    refine d_ql (elp hd_st_2 1 i5.toNat 0) (x := aIndexAddr Tryd.prog 22 hd_st_2 (.int .i64 i5)) (by kernel_rfl) (u113.idxb (by kernel_rfl) g111.1 g111.2) ?_
    refine d_ql (.int .i64 (gt st_2 i5)) (x := aLoad Tryd.prog 3 (elp hd_st_2 1 i5.toNat 0) H67) (by kernel_rfl) (u113.ld g111.1 g111.2 (by kernel_rfl)) ?_
    refine d_qk (.int .u64 d) (by kernel_rfl) ?_
    refine d_qk (.pointer (some ⟨b_st, 0, none⟩)) (by kernel_rfl) ?_
    refine d_qk (.pointer (some ⟨b_st, 0, none⟩)) (by kernel_rfl) ?_
    refine d_qk (.pointer (some ⟨b_st, 0, none⟩)) (by kernel_rfl) ?_
    refine d_qk (.pointer (some ⟨b_st, 2, none⟩)) (by kernel_rfl) ?_
    refine d_ql (hd_st_3) (x := aLoad Tryd.prog 22 (.pointer (some ⟨b_st, 2, none⟩)) H67) (by kernel_rfl) (u101.ld (by kernel_rfl)) ?_
    refine d_qk (.int .i64 i5) (by kernel_rfl) ?_
    obtain ⟨g114, r115⟩ := G_some r112
    have u116 := ((h_st_3.fr e23 dj_fp_st_12_fp_st_3).fr e68 (Dj.app dj_b_st_4_fp_st_3 (Dj.app dj_b_st_7_fp_st_3 (Dj.app dj_fp_st_11_fp_st_3 (Dj.app dj_fp_st_5_fp_st_3 (Dj.app dj_fp_st_6_fp_st_3 dj_fp_st_8_fp_st_3))))))
    refine d_ql (elp hd_st_3 1 i5.toNat 0) (x := aIndexAddr Tryd.prog 22 hd_st_3 (.int .i64 i5)) (by kernel_rfl) (u116.idxb (by kernel_rfl) g111.1 g114) ?_
    refine d_ql (.int .i64 (gt st_3 i5)) (x := aLoad Tryd.prog 3 (elp hd_st_3 1 i5.toNat 0) H67) (by kernel_rfl) (u116.ld g111.1 g114 (by kernel_rfl)) ?_
    obtain ⟨g117, r118⟩ := G_some r115
    refine d_w ((gt st_3 i5)) (k := .u64) (x := (gt st_3 i5)) (by kernel_rfl) (wrapu64 g117) ?_
    obtain ⟨g119, r120⟩ := G_some r118
    refine d_w ((d + (gt st_3 i5))) (k := .u64) (x := (d + (gt st_3 i5))) (by kernel_rfl) (wrapu64 g119) ?_
    refine d_qk (.int .i64 (gt st_2 i5)) (by kernel_rfl) ?_
    refine d_qk (.int .u64 (d + (gt st_3 i5))) (by kernel_rfl) ?_
    refine d_nil ?_
    refine k110 _ _ ?_
    refine w_seqk fun K121 k121 => ?_
    refine w_reg (by kernel_rfl) ?_
    refine s_qk (.pointer (some ⟨b_st, 0, none⟩)) (by kernel_rfl) ?_
    refine s_qk (.pointer (some ⟨b_st, 0, none⟩)) (by kernel_rfl) ?_
    refine s_qk (.pointer (some ⟨b_st, 4, none⟩)) (by kernel_rfl) ?_
    refine s_ql (.pointer (some ⟨b_st_7, 0, none⟩)) (x := aLoad Tryd.prog 103 (.pointer (some ⟨b_st, 4, none⟩)) H67) (by kernel_rfl) (u101.ld (by kernel_rfl)) ?_
    refine s_qk (.int .i64 (gt st_2 i5)) (by kernel_rfl) ?_
    obtain ⟨y122, hy123, r124⟩ := bind_some r120
    refine s_ck 62 #[.pointer (some ⟨b_st_7, 0, none⟩), .int .i64 (gt st_2 i5)] (by kernel_rfl) (c_stamp_Stamp_Get e68.wf m78.sq m80 hy123) ?_
    rintro _ _ ⟨rfl, rfl⟩
    refine s_qk (.tuple #[.int .u64 y122.1, .bool y122.2]) (by kernel_rfl) ?_
    refine s_qk (.int .u64 y122.1) (by kernel_rfl) ?_
    refine s_qk (.bool y122.2) (by kernel_rfl) ?_
    refine s_qk (.int .u64 y122.1) (by kernel_rfl) ?_
    refine s_qk (.bool y122.2) (by kernel_rfl) ?_
    refine s_nil ?_
    refine k121 _ _ ?_
    refine w_seqk fun K127 k127 => ?_
    obtain ⟨o128, hx129, r130⟩ := bind_some r124
    refine w_mid (fun α H131 => Has α [(0, .pointer (some ⟨b_st, 0, none⟩)), (1, .int .i64 v_), (2, .int .u64 d), (8, .int .i64 i5), (9, .int .i64 (gt st_2 i5)), (10, .int .u64 (d + (gt st_3 i5))), (93, .bool o128)] ∧ H67 = H131) (fun K133 k133 => ?_) (fun α H131 hM => ?_)
    ·refine w_reg (by kernel_rfl) ?_
     refine s_qk (.pointer (some ⟨b_st, 0, none⟩)) (by kernel_rfl) ?_
     refine s_qk (.pointer (some ⟨b_st, 0, none⟩)) (by kernel_rfl) ?_
     refine s_qk (.pointer (some ⟨b_st, 6, none⟩)) (by kernel_rfl) ?_
     refine s_ql (hd_st_12) (x := aLoad Tryd.prog 104 (.pointer (some ⟨b_st, 6, none⟩)) H67) (by kernel_rfl) (u101.ld (by kernel_rfl)) ?_
     refine s_qk (.int .i64 (gt st_2 i5)) (by kernel_rfl) ?_
     obtain ⟨g135, r136⟩ := G_some hx129
     have u137 := (hm24.fr e68 (Dj.app dj_b_st_4_fp_st_12 (Dj.app dj_b_st_7_fp_st_12 (Dj.app (Dj.symm dj_fp_st_12_fp_st_11) (Dj.app dj_fp_st_5_fp_st_12 (Dj.app dj_fp_st_6_fp_st_12 dj_fp_st_8_fp_st_12))))))
     refine s_ql (elp hd_st_12 1 (gt st_2 i5).toNat 0) (x := aIndexAddr Tryd.prog 104 hd_st_12 (.int .i64 (gt st_2 i5))) (by kernel_rfl) (u137.sq.idxb (by kernel_rfl) g135.1 g135.2) ?_
     refine s_ql (.bool (gt (st_12.set v_.toNat true) (gt st_2 i5))) (x := aLoad Tryd.prog 4 (elp hd_st_12 1 (gt st_2 i5).toNat 0) H67) (by kernel_rfl) (u137.sq.ld g135.1 g135.2 (by kernel_rfl)) ?_
     refine s_qk (.bool (!(gt (st_12.set v_.toNat true) (gt st_2 i5)))) (by kernel_rfl) ?_
     refine s_qk (.bool (!(gt (st_12.set v_.toNat true) (gt st_2 i5)))) (by kernel_rfl) ?_
     by_cases h138 : (!(gt (st_12.set v_.toNat true) (gt st_2 i5))) = true
     ·have r139 := ite_t h138 r136
      rw [h138]
      refine s_qk (.bool y122.2) (by kernel_rfl) ?_
      refine s_qk (.bool (!y122.2)) (by kernel_rfl) ?_
      refine s_qk (.bool (!y122.2)) (by kernel_rfl) ?_
      by_cases h140 : (!y122.2) = true
      ·have r141 := ite_t h140 r139
       rw [h140]
       refine s_no (by kernel_rfl) ?_
       refine s_no (by kernel_rfl) ?_
       refine s_no (by kernel_rfl) ?_
       refine s_qk (.bool true) (by kernel_rfl) ?_
       refine s_qk (.bool true) (by kernel_rfl) ?_
       refine s_nil ?_
       obtain rfl := Option.some.inj r141
       exact k133 _ _ ⟨⟨by kernel_rfl, by kernel_rfl, by kernel_rfl, by kernel_rfl, by kernel_rfl, by kernel_rfl, by kernel_rfl, trivial⟩, rfl⟩
      ·have r142 := ite_f h140 r139
       rw [nb h140]
       refine s_qk (.int .u64 (d + (gt st_3 i5))) (by kernel_rfl) ?_
       refine s_qk (.int .u64 y122.1) (by kernel_rfl) ?_
       refine s_qk (.bool (decide ((d + (gt st_3 i5)) < y122.1))) (by kernel_rfl) ?_
       refine s_qk (.bool (decide ((d + (gt st_3 i5)) < y122.1))) (by kernel_rfl) ?_
       refine s_qk (.bool (decide ((d + (gt st_3 i5)) < y122.1))) (by kernel_rfl) ?_
       refine s_nil ?_
       obtain rfl := Option.some.inj r142
       exact k133 _ _ ⟨⟨by kernel_rfl, by kernel_rfl, by kernel_rfl, by kernel_rfl, by kernel_rfl, by kernel_rfl, by kernel_rfl, trivial⟩, rfl⟩
     ·have r143 := ite_f h138 r136
      rw [nb h138]
      refine s_no (by kernel_rfl) ?_
      refine s_no (by kernel_rfl) ?_
      refine s_no (by kernel_rfl) ?_
      refine s_no (by kernel_rfl) ?_
      refine s_no (by kernel_rfl) ?_
      refine s_no (by kernel_rfl) ?_
      refine s_no (by kernel_rfl) ?_
      refine s_qk (.bool false) (by kernel_rfl) ?_
      refine s_nil ?_
      obtain rfl := Option.some.inj r143
      exact k133 _ _ ⟨⟨by kernel_rfl, by kernel_rfl, by kernel_rfl, by kernel_rfl, by kernel_rfl, by kernel_rfl, by kernel_rfl, trivial⟩, rfl⟩
    ·obtain ⟨hh134, rfl⟩ := hM
     obtain ⟨β, rfl⟩ := has_ex hh134
     clear hh134
     refine k127 _ _ ?_
     refine w_cond (o128) (by kernel_rfl) rfl (fun h144 => ?_) (fun h144 => ?_)
     ·have r145 := ite_t h144 r130
      refine w_reg (by kernel_rfl) ?_
      refine s_qk (.pointer (some ⟨b_st, 0, none⟩)) (by kernel_rfl) ?_
      refine s_qk (.int .i64 (gt st_2 i5)) (by kernel_rfl) ?_
      refine s_qk (.int .u64 (d + (gt st_3 i5))) (by kernel_rfl) ?_
      refine s_qk (.pointer (some ⟨b_st, 0, none⟩)) (by kernel_rfl) ?_
      refine s_qk (.pointer (some ⟨b_st, 0, none⟩)) (by kernel_rfl) ?_
      refine s_qk (.pointer (some ⟨b_st, 5, none⟩)) (by kernel_rfl) ?_
      refine s_ql (hd_st_11) (x := aLoad Tryd.prog 22 (.pointer (some ⟨b_st, 5, none⟩)) H67) (by kernel_rfl) (u101.ld (by kernel_rfl)) ?_
      refine s_qk (.int .i64 v_) (by kernel_rfl) ?_
      obtain ⟨g146, r147⟩ := G_some r145
      refine s_ql (elp hd_st_11 1 v_.toNat 0) (x := aIndexAddr Tryd.prog 22 hd_st_11 (.int .i64 v_)) (by kernel_rfl) (m82.sq.idxb (by kernel_rfl) g19.1 g146) ?_
      refine s_ql (.int .i64 (gt st4 v_)) (x := aLoad Tryd.prog 3 (elp hd_st_11 1 v_.toNat 0) H67) (by kernel_rfl) (m82.sq.ld g19.1 g146 (by kernel_rfl)) ?_
      obtain ⟨g148, r149⟩ := G_some r147
      refine s_w (((gt st4 v_) + 1)) (k := .i64) (x := ((gt st4 v_) + 1)) (by kernel_rfl) (wrap64 g148) ?_
      have u150 := (hm24.fr e68 (Dj.app dj_b_st_4_fp_st_12 (Dj.app dj_b_st_7_fp_st_12 (Dj.app (Dj.symm dj_fp_st_12_fp_st_11) (Dj.app dj_fp_st_5_fp_st_12 (Dj.app dj_fp_st_6_fp_st_12 dj_fp_st_8_fp_st_12))))))
      obtain ⟨y151, hy152, r153⟩ := bind_some r149
      refine s_ck 77 #[.pointer (some ⟨b_st, 0, none⟩), .int .i64 (gt st_2 i5), .int .u64 (d + (gt st_3 i5)), .int .i64 ((gt st4 v_) + 1)] (by kernel_rfl) (c_search_state_label e68.wf u106 u113 u116 m70 m74 m76 m78 m80 m82 u150.sq u101 dj_b_st_7_fp_st_8 dj_fp_st_8_b_st dj_b_st_7_b_st dj_fp_st_8_fp_st_11 dj_b_st_7_fp_st_11 dj_fp_st_11_b_st (Dj.symm (i83.dj dj_fp_st_5_fp_st_8 (h_st_8.lt.le e23.next))) (Dj.symm (i83.dj dj_fp_st_5_b_st_7 (h_st_7.ltF.le e23.next))) (Dj.symm (i83.dj dj_fp_st_5_fp_st_11 (h_st_11.lt.le e23.next))) dj_fp_st_8_fp_st_6 dj_b_st_7_fp_st_6 dj_fp_st_11_fp_st_6 dj_fp_st_8_b_st_4 dj_b_st_7_b_st_4 dj_fp_st_11_b_st_4 (i83.dj dj_fp_st_5_b_st_4 (h_st_4.ltF.le e23.next)) (i83.dj dj_fp_st_5_fp_st_6 (h_st_6.lt.le e23.next)) dj_b_st_4_fp_st_6 hy152) ?_
      rintro _ H156 ⟨s154, f155, rfl, e157, m158, m159, m160, m161, m162, m163, i164⟩
      obtain ⟨a166, n167, c168, rfl⟩ := m159.form
      refine s_nil ?_
      refine k109 _ _ ?_
      refine w_reg (by kernel_rfl) ?_
      refine s_qk (.int .i64 i5) (by kernel_rfl) ?_
      obtain ⟨g169, r170⟩ := G_some r153
      refine s_w ((i5 + 1)) (k := .i64) (x := (i5 + 1)) (by kernel_rfl) (wrap64 (by have := g169; omega)) ?_
      refine s_qk (.int .i64 (i5 + 1)) (by kernel_rfl) ?_
      refine s_nil ?_
      obtain rfl := Option.some.inj r170
      exact k95 n86 _ _ (Nat.lt_succ_self _) ⟨y151.2.1, y151.1, y151.2.2.1, y151.2.2.2.1, y151.2.2.2.2, (i5 + 1), (.slice a166 n167 c168), f155, hn89, ⟨by kernel_rfl, by kernel_rfl, by kernel_rfl, by kernel_rfl, trivial⟩, (FrS.step e23.wf (FrS.step e23.wf (FrS.refl (W := ([b_st_4] ++ ([b_st_7] ++ (fp_st_11 ++ (fp_st_5 ++ (fp_st_6 ++ fp_st_8)))))) e23.wf) e68 (Inn.app Inn.left (Inn.app (Inn.right Inn.left) (Inn.app (Inn.right (Inn.right Inn.left)) (Inn.app (Inn.right (Inn.right (Inn.right Inn.left))) (Inn.app (Inn.right (Inn.right (Inn.right (Inn.right Inn.left)))) (Inn.right (Inn.right (Inn.right (Inn.right (Inn.right Inn.refl'))))))))))) e157 (Inn.app Inn.left (Inn.app (Inn.right Inn.left) (Inn.app (Inn.right (Inn.right Inn.left)) (Inn.app (Inn.trans (Inn.right (Inn.right (Inn.right Inn.left))) (Nat.le_refl _) i83) (Inn.app (Inn.right (Inn.right (Inn.right (Inn.right Inn.left)))) (Inn.right (Inn.right (Inn.right (Inn.right (Inn.right Inn.refl'))))))))))), m159, m158, m160, m161, m162, m163, (Inn.trans (Inn.trans Inn.refl' (Nat.le_refl _) i83) e68.next i164)⟩
     ·have r171 := ite_bf h144 r130
      refine w_skip ?_
      refine k109 _ _ ?_
      refine w_reg (by kernel_rfl) ?_
      refine s_qk (.int .i64 i5) (by kernel_rfl) ?_
      obtain ⟨g172, r173⟩ := G_some r171
      refine s_w ((i5 + 1)) (k := .i64) (x := (i5 + 1)) (by kernel_rfl) (wrap64 (by have := g172; omega)) ?_
      refine s_qk (.int .i64 (i5 + 1)) (by kernel_rfl) ?_
      refine s_nil ?_
      obtain rfl := Option.some.inj r173
      exact k95 n86 _ _ (Nat.lt_succ_self _) ⟨st0, st1, st2, st3, st4, (i5 + 1), (.slice a96 n97 c98), f72, hn89, ⟨by kernel_rfl, by kernel_rfl, by kernel_rfl, by kernel_rfl, trivial⟩, (FrS.step e23.wf (FrS.refl (W := ([b_st_4] ++ ([b_st_7] ++ (fp_st_11 ++ (fp_st_5 ++ (fp_st_6 ++ fp_st_8)))))) e23.wf) e68 (Inn.app Inn.left (Inn.app (Inn.right Inn.left) (Inn.app (Inn.right (Inn.right Inn.left)) (Inn.app (Inn.right (Inn.right (Inn.right Inn.left))) (Inn.app (Inn.right (Inn.right (Inn.right (Inn.right Inn.left)))) (Inn.right (Inn.right (Inn.right (Inn.right (Inn.right Inn.refl'))))))))))), m70, m74, m76, m78, m80, m82, (Inn.trans Inn.refl' (Nat.le_refl _) i83)⟩
   ·have r174 := ite_f h107 r105
    refine w_exit (th_exit (th_exit (bl_eq ?_)))
    obtain rfl := Option.some.inj r174
    obtain rfl := it_inr hn89
    exact k63 _ _ ⟨(.slice a96 n97 c98), f72, trivial, (FrS.step e23.wf (FrS.refl (W := ([b_st_4] ++ ([b_st_7] ++ (fp_st_11 ++ (fp_st_5 ++ (fp_st_6 ++ fp_st_8)))))) e23.wf) e68 (Inn.app Inn.left (Inn.app (Inn.right Inn.left) (Inn.app (Inn.right (Inn.right Inn.left)) (Inn.app (Inn.right (Inn.right (Inn.right Inn.left))) (Inn.app (Inn.right (Inn.right (Inn.right (Inn.right Inn.left)))) (Inn.right (Inn.right (Inn.right (Inn.right (Inn.right Inn.refl'))))))))))), m74, m70, m76, m78, m80, m82, (Inn.trans Inn.refl' (Nat.le_refl _) i83)⟩
  ·obtain ⟨s52, f53, hh64, e47, m49, m51, m55, m57, m59, m61, i62⟩ := hM
   obtain ⟨β, rfl⟩ := has_ex hh64
   clear hh64
   obtain ⟨a175, n176, c177, rfl⟩ := m51.form
   refine b_nrm (fn := Tryd.f80) (vs := []) (rfl) ?_
   have u178 := (hm24.fr e47 (Dj.app dj_b_st_4_fp_st_12 (Dj.app dj_b_st_7_fp_st_12 (Dj.app (Dj.symm dj_fp_st_12_fp_st_11) (Dj.app dj_fp_st_5_fp_st_12 (Dj.app dj_fp_st_6_fp_st_12 dj_fp_st_8_fp_st_12))))))
   obtain rfl := Option.some.inj r45
   exact ⟨(.slice a175 n176 c177), f53, rfl, (FrS.step wf (FrS.step wf (FrS.refl (W := ([b_st_4] ++ ([b_st_7] ++ (fp_st_11 ++ (fp_st_12 ++ (fp_st_5 ++ (fp_st_6 ++ fp_st_8))))))) wf) e23 (Inn.right (Inn.right (Inn.right Inn.left)))) e47 (Inn.app Inn.left (Inn.app (Inn.right Inn.left) (Inn.app (Inn.right (Inn.right Inn.left)) (Inn.app (Inn.right (Inn.right (Inn.right (Inn.right Inn.left)))) (Inn.app (Inn.right (Inn.right (Inn.right (Inn.right (Inn.right Inn.left))))) (Inn.right (Inn.right (Inn.right (Inn.right (Inn.right (Inn.right Inn.refl')))))))))))), m49, m51, m55, m57, m59, m61, u178, (Inn.trans Inn.refl' e23.next i62)⟩

theorem c_search_run {H : AH} {hd_First : Value} {fp_First : Fp} {hd_To : Value} {fp_To : Fp} {hd_Weight : Value} {fp_Weight : Fp} {First : List (Int)} {To : List (Int)} {Weight : List (Int)} {s : Int} {hops : Int} {settles : Int} {most : Int} {r : List (Int × Int) × List (Int) × List (Int × Int) × Int × Int × List (Int) × List (Bool)}
  (wf : WF H) (h_First : Sq (encI .i64) 1 H hd_First First fp_First) (h_To : Sq (encI .i64) 1 H hd_To To fp_To) (h_Weight : Sq (encI .i64) 1 H hd_Weight Weight fp_Weight) (hr : z_search_run First To Weight s hops settles most = some r) :
  ACalls Tryd.prog 50 #[.agg #[hd_First, hd_To, hd_Weight], .int .i64 s, .agg #[.int .i64 hops, .int .i64 settles, .int .u64 most]] H fun v H' => ∃ (s3 : Value) (f4 : Fp) (s7 : Value) (f8 : Fp) (b11 : Nat) (s14 : Value) (f15 : Fp) (b18 : Nat) (s21 : Value) (f22 : Fp) (s25 : Value) (f26 : Fp) (b29 : Nat), v = .pointer (some ⟨b29, 0, none⟩) ∧ FrS [] H H' ∧ Ow enc_u64_u32 2 H' s3 r.1 f4 ∧ Ow (encI .i64) 1 H' s7 r.2.1 f8 ∧ Row H' b11 [s3, s7] ∧ Ow enc_u64_u32 2 H' s14 r.2.2.1 f15 ∧ Row H' b18 [s14, .int .u32 r.2.2.2.1, .int .i64 r.2.2.2.2.1] ∧ Ow (encI .i64) 1 H' s21 r.2.2.2.2.2.1 f22 ∧ Ow encB 1 H' s25 r.2.2.2.2.2.2 f26 ∧ Row H' b29 [hd_First, hd_To, hd_Weight, .pointer (some ⟨b11, 0, none⟩), .pointer (some ⟨b18, 0, none⟩), s21, s25] ∧ Inn [] H f4 ∧ Inn [] H f8 ∧ Inn [] H [b11] ∧ Inn [] H f15 ∧ Inn [] H [b18] ∧ Inn [] H f22 ∧ Inn [] H f26 ∧ Inn [] H [b29] ∧ Dj f4 f8 ∧ Dj f4 [b11] ∧ Dj f8 [b11] ∧ Dj f4 f15 ∧ Dj f8 f15 ∧ Dj [b11] f15 ∧ Dj f4 [b18] ∧ Dj f8 [b18] ∧ Dj [b11] [b18] ∧ Dj f15 [b18] ∧ Dj f4 f22 ∧ Dj f8 f22 ∧ Dj [b11] f22 ∧ Dj f15 f22 ∧ Dj [b18] f22 ∧ Dj f4 f26 ∧ Dj f8 f26 ∧ Dj [b11] f26 ∧ Dj f15 f26 ∧ Dj [b18] f26 ∧ Dj f22 f26 ∧ Dj f4 [b29] ∧ Dj f8 [b29] ∧ Dj [b11] [b29] ∧ Dj f15 [b29] ∧ Dj [b18] [b29] ∧ Dj f22 [b29] ∧ Dj f26 [b29] := by
 refine acalls_of_body mixed Tryd.func50 rfl (Nat.le_of_ble_eq_true rfl) ?_
 unfold z_search_run at hr
 refine w_seqk fun K66 k66 => ?_
 refine w_reg (by kernel_rfl) ?_
 refine s_rwl wf [hd_First, hd_To, hd_Weight] (one_cons (h_First.one1) (one_cons (h_To.one1) (one_cons (h_Weight.one1) (one_nil)))) (by kernel_rfl) fun b67 H68 e69 hb70 r71 => ?_
 refine s_rwl e69.wf [.int .i64 hops, .int .i64 settles, .int .u64 most] (one_cons (rfl) (one_cons (rfl) (one_cons (rfl) (one_nil)))) (by kernel_rfl) fun b73 H74 e75 hb76 r77 => ?_
 refine s_qk (.pointer none) (by kernel_rfl) ?_
 refine s_nil ?_
 refine k66 _ _ ?_
 refine w_seqk fun K79 k79 => ?_
 refine w_reg (by kernel_rfl) ?_
 have u80 := (r71.ext e75)
 refine s_ql (.agg #[hd_First, hd_To, hd_Weight]) (x := aLoad Tryd.prog 40 (.pointer (some ⟨b67, 0, none⟩)) H74) (by kernel_rfl) (u80.ld (by kernel_rfl)) ?_
 have u81 := ((h_First.ext e69).ext e75)
 have u82 := ((h_To.ext e69).ext e75)
 have u83 := ((h_Weight.ext e69).ext e75)
 obtain ⟨y84, hy85, r86⟩ := bind_some hr
 refine s_ck 60 #[.agg #[hd_First, hd_To, hd_Weight]] (by kernel_rfl) (c_search_nodes e75.wf u81 u82 u83 hy85) ?_
 rintro _ H87 ⟨rfl, e88⟩
 refine s_qk (.int .i64 y84) (by kernel_rfl) ?_
 refine s_nil ?_
 refine k79 _ _ ?_
 refine w_seqk fun K89 k89 => ?_
 refine w_draw [0, 1, 2, 3, 4, 5, 6, 7] (by kernel_rfl) ?_
 have u90 := (u80.frS e88 Dj.nil_l)
 refine d_ql (.agg #[hd_First, hd_To, hd_Weight]) (x := aLoad Tryd.prog 40 (.pointer (some ⟨b67, 0, none⟩)) H87) (by kernel_rfl) (u90.ld (by kernel_rfl)) ?_
 refine d_qk (.int .i64 y84) (by kernel_rfl) ?_
 obtain ⟨g91, r92⟩ := G_some r86
 refine d_mks (t := 22) (m := 8) (l := y84) (c := y84) (enc := (encI .i64)) (sz := 1) e88.wf (0 : Int) (by kernel_rfl) (by decide) g91.1 (Int.le_refl _) (by omega) (by have := g91; omega) (by kernel_rfl) fun s93 f94 H95 e96 hf97 hm98 => ?_
 obtain ⟨a99, n100, c101, rfl⟩ := hm98.form
 have hm98 : Ow (encI .i64) 1 H95 (.slice a99 n100 c101) (List.replicate y84.toNat (0 : Int)) f94 := hm98
 refine d_qk (.int .i64 y84) (by kernel_rfl) ?_
 obtain ⟨g103, r104⟩ := G_some r92
 refine d_mks (t := 104) (m := 1) (l := y84) (c := y84) (enc := encB) (sz := 1) e96.wf (false : Bool) (by kernel_rfl) (by decide) g103.1 (Int.le_refl _) (by omega) (by have := g103; omega) (by kernel_rfl) fun s105 f106 H107 e108 hf109 hm110 => ?_
 obtain ⟨a111, n112, c113, rfl⟩ := hm110.form
 have hm110 : Ow encB 1 H107 (.slice a111 n112 c113) (List.replicate y84.toNat (false : Bool)) f106 := hm110
 refine d_qk (.agg #[hd_First, hd_To, hd_Weight, .pointer none, .pointer none, .slice a99 n100 c101, .slice a111 n112 c113]) (by kernel_rfl) ?_
 have u120 := (hm98.ext e108)
 have u121 := (((u83.fr e88 Dj.nil_l).ext e96).ext e108)
 have u122 := (((u82.fr e88 Dj.nil_l).ext e96).ext e108)
 have u123 := (((u81.fr e88 Dj.nil_l).ext e96).ext e108)
 refine d_rwl e108.wf [hd_First, hd_To, hd_Weight, .pointer none, .pointer none, .slice a99 n100 c101, .slice a111 n112 c113] (one_cons (u123.one1) (one_cons (u122.one1) (one_cons (u121.one1) (one_cons (rfl) (one_cons (rfl) (one_cons (u120.one1) (one_cons (hm110.one1) (one_nil)))))))) (by kernel_rfl) fun b115 H116 e117 hb118 r119 => ?_
 refine d_qk (.pointer (some ⟨b115, 0, none⟩)) (by kernel_rfl) ?_
 refine d_nil ?_
 refine k89 _ _ ?_
 refine w_seqk fun K125 k125 => ?_
 refine w_reg (by kernel_rfl) ?_
 refine s_qk (.pointer (some ⟨b115, 0, none⟩)) (by kernel_rfl) ?_
 refine s_qk (.int .i64 y84) (by kernel_rfl) ?_
 obtain ⟨y126, hy127, r128⟩ := bind_some r104
 rcases y126 with y129 | y130
 ·exact (no_none (elim_l r128)).elim
 ·have r131 := elim_r r128
  refine s_ck 75 #[.int .i64 y84] (by kernel_rfl) (c_heap_New e117.wf hy127) ?_
  rintro _ H135 ⟨s132, f133, b134, rfl, e136, m137, m138, i139, i140, d141⟩
  obtain ⟨a144, n145, c146, rfl⟩ := m137.form
  refine s_qk (.tuple #[.pointer (some ⟨b134, 0, none⟩), .nilIface]) (by kernel_rfl) ?_
  refine s_qk (.pointer (some ⟨b134, 0, none⟩)) (by kernel_rfl) ?_
  refine s_qk (.nilIface) (by kernel_rfl) ?_
  refine s_qk (.pointer (some ⟨b115, 0, none⟩)) (by kernel_rfl) ?_
  refine s_qk (.pointer (some ⟨b115, 3, none⟩)) (by kernel_rfl) ?_
  have u151 := (r119.frS e136 Dj.nil_l)
  obtain ⟨H147, q148, e149, r150⟩ := Row.store (P := Tryd.prog) (t := 102) (p := 3) e136.wf u151 (.pointer (some ⟨b134, 0, none⟩)) [.pointer (some ⟨b134, 0, none⟩)] (by kernel_rfl) (by kernel_rfl) (one_cons (rfl) (one_nil)) (Nat.le_of_ble_eq_true (by kernel_rfl)) [hd_First, hd_To, hd_Weight, .pointer (some ⟨b134, 0, none⟩), .pointer none, .slice a99 n100 c101, .slice a111 n112 c113] (by kernel_rfl)
  refine s_ek (undef) (by kernel_rfl) (map_ok q148) ?_
  refine s_nil ?_
  refine k125 _ _ ?_
  refine w_seqk fun K152 k152 => ?_
  refine w_reg (by kernel_rfl) ?_
  refine s_qk (.pointer (some ⟨b115, 0, none⟩)) (by kernel_rfl) ?_
  refine s_qk (.int .i64 y84) (by kernel_rfl) ?_
  obtain ⟨y153, hy154, r155⟩ := bind_some r131
  rcases y153 with y156 | y157
  ·exact (no_none (elim_l r155)).elim
  ·have r158 := elim_r r155
   refine s_ck 76 #[.int .i64 y84, .int .u32 1] (by kernel_rfl) (c_stamp_New e149.wf hy154) ?_
   rintro _ H162 ⟨s159, f160, b161, rfl, e163, m164, m165, i166, i167, d168⟩
   obtain ⟨a171, n172, c173, rfl⟩ := m164.form
   refine s_qk (.tuple #[.pointer (some ⟨b161, 0, none⟩), .nilIface]) (by kernel_rfl) ?_
   refine s_qk (.pointer (some ⟨b161, 0, none⟩)) (by kernel_rfl) ?_
   refine s_qk (.nilIface) (by kernel_rfl) ?_
   refine s_qk (.pointer (some ⟨b115, 0, none⟩)) (by kernel_rfl) ?_
   refine s_qk (.pointer (some ⟨b115, 4, none⟩)) (by kernel_rfl) ?_
   have u178 := (r150.frS e163 Dj.nil_l)
   obtain ⟨H174, q175, e176, r177⟩ := Row.store (P := Tryd.prog) (t := 103) (p := 4) e163.wf u178 (.pointer (some ⟨b161, 0, none⟩)) [.pointer (some ⟨b161, 0, none⟩)] (by kernel_rfl) (by kernel_rfl) (one_cons (rfl) (one_nil)) (Nat.le_of_ble_eq_true (by kernel_rfl)) [hd_First, hd_To, hd_Weight, .pointer (some ⟨b134, 0, none⟩), .pointer (some ⟨b161, 0, none⟩), .slice a99 n100 c101, .slice a111 n112 c113] (by kernel_rfl)
   refine s_ek (undef) (by kernel_rfl) (map_ok q175) ?_
   refine s_nil ?_
   refine k152 _ _ ?_
   refine w_seqk fun K179 k179 => ?_
   refine w_reg (by kernel_rfl) ?_
   refine s_qk (.pointer (some ⟨b115, 0, none⟩)) (by kernel_rfl) ?_
   refine s_qk (.int .i64 s) (by kernel_rfl) ?_
   have u180 := (((((u123.ext e117).fr e136 Dj.nil_l).fr e149 (hb118.djn (h_First.lt.le (ntr (ntr (ntr (ntr e69.next e75.next) e88.next) e96.next) e108.next)))).fr e163 Dj.nil_l).fr e176 (hb118.djn (h_First.lt.le (ntr (ntr (ntr (ntr e69.next e75.next) e88.next) e96.next) e108.next))))
   have u181 := (((((u122.ext e117).fr e136 Dj.nil_l).fr e149 (hb118.djn (h_To.lt.le (ntr (ntr (ntr (ntr e69.next e75.next) e88.next) e96.next) e108.next)))).fr e163 Dj.nil_l).fr e176 (hb118.djn (h_To.lt.le (ntr (ntr (ntr (ntr e69.next e75.next) e88.next) e96.next) e108.next))))
   have u182 := (((((u121.ext e117).fr e136 Dj.nil_l).fr e149 (hb118.djn (h_Weight.lt.le (ntr (ntr (ntr (ntr e69.next e75.next) e88.next) e96.next) e108.next)))).fr e163 Dj.nil_l).fr e176 (hb118.djn (h_Weight.lt.le (ntr (ntr (ntr (ntr e69.next e75.next) e88.next) e96.next) e108.next))))
   have u183 := (((m137.fr e149 (Dj.symm (i139.djn r119.ltF))).fr e163 Dj.nil_l).fr e176 (Dj.symm (i139.djn r119.ltF)))
   have u184 := (((m138.frS e149 (Dj.symm (i140.djn r119.ltF))).frS e163 Dj.nil_l).frS e176 (Dj.symm (i140.djn r119.ltF)))
   have u185 := (m164.fr e176 (Dj.symm (i166.djn (r119.ltF.le (ntr e136.next e149.next)))))
   have u186 := (m165.frS e176 (Dj.symm (i167.djn (r119.ltF.le (ntr e136.next e149.next)))))
   have u187 := (((((u120.ext e117).fr e136 Dj.nil_l).fr e149 (hb118.djn (hm98.lt.le e108.next))).fr e163 Dj.nil_l).fr e176 (hb118.djn (hm98.lt.le e108.next)))
   have u188 := (((((hm110.ext e117).fr e136 Dj.nil_l).fr e149 (hb118.djn hm110.lt)).fr e163 Dj.nil_l).fr e176 (hb118.djn hm110.lt))
   obtain ⟨y189, hy190, r191⟩ := bind_some r158
   refine s_ck 77 #[.pointer (some ⟨b115, 0, none⟩), .int .i64 s, .int .u64 0, .int .i64 0] (by kernel_rfl) (c_search_state_label e176.wf u180 u181 u182 (Ow.nil (enc := enc_u64_u32) (sz := 2) (by decide)) u183 u184 u185 u186 u187 u188.sq r177 (Dj.symm d168) (i166.djn (r119.ltF.le (ntr e136.next e149.next))) (i167.djn (r119.ltF.le (ntr e136.next e149.next))) (i166.djn (hm98.lt.le (ntr (ntr (ntr e108.next e117.next) e136.next) e149.next))) (i167.djn (hm98.lt.le (ntr (ntr (ntr e108.next e117.next) e136.next) e149.next))) (Dj.symm (hb118.djn (hm98.lt.le e108.next))) Dj.nil_r Dj.nil_r Dj.nil_r (i166.djn (m137.lt.le e149.next)) (i167.djn (m137.lt.le e149.next)) (Dj.symm (i139.djn (hm98.lt.le (ntr e108.next e117.next)))) (i166.djn (m138.ltF.le e149.next)) (i167.djn (m138.ltF.le e149.next)) (Dj.symm (i140.djn (hm98.lt.le (ntr e108.next e117.next)))) Dj.nil_l Dj.nil_l (Dj.symm d141) hy190) ?_
   rintro _ H194 ⟨s192, f193, rfl, e195, m196, m197, m198, m199, m200, m201, i202⟩
   obtain ⟨a204, n205, c206, rfl⟩ := m197.form
   refine s_nil ?_
   refine k179 _ _ ?_
   refine w_seqk fun K207 k207 => ?_
   refine w_seqk fun K208 k208 => ?_
   refine w_reg (by kernel_rfl) ?_
   refine s_qk (.int .i64 0) (by kernel_rfl) ?_
   refine s_nil ?_
   refine k208 _ _ ?_
   obtain ⟨o209, hx210, r211⟩ := bind_some r191
   refine w_mid (fun α H212 => ∃ (s216 : Value) (f217 : Fp), Has α [(8, .pointer (some ⟨b115, 0, none⟩))] ∧ FrS ([b134] ++ ([b161] ++ (f106 ++ (f133 ++ (f160 ++ (f193 ++ f94)))))) H194 H212 ∧ Ow enc_u64_u32 2 H212 s216 o209.1 f217 ∧ Ow (encI .i64) 1 H212 (.slice a144 n145 c146) o209.2.1 f133 ∧ Row H212 b134 [s216, .slice a144 n145 c146] ∧ Ow enc_u64_u32 2 H212 (.slice a171 n172 c173) o209.2.2.1 f160 ∧ Row H212 b161 [.slice a171 n172 c173, .int .u32 y157.2, .int .i64 o209.2.2.2.1] ∧ Ow (encI .i64) 1 H212 (.slice a99 n100 c101) o209.2.2.2.2.1 f94 ∧ Ow encB 1 H212 (.slice a111 n112 c113) o209.2.2.2.2.2 f106 ∧ Inn f193 H194 f217) (fun K231 k231 => ?_) (fun α H212 hM => ?_)
   ·refine w_block ?_
    obtain ⟨n233, hn234⟩ := loopO_iff.1 hx210
    have u260 := (u188.fr e195 (Dj.app (i140.djn (hm110.lt.le e117.next)) (Dj.app (i167.djn (hm110.lt.le (ntr (ntr e117.next e136.next) e149.next))) (Dj.app (Dj.symm (hf109.djn hm98.lt)) (Dj.app Dj.nil_l (Dj.app (i139.djn (hm110.lt.le e117.next)) (i166.djn (hm110.lt.le (ntr (ntr e117.next e136.next) e149.next)))))))))
    refine w_loopn (fun n α H235 => ∃ (st0 : List (Int × Int)), ∃ (st1 : List (Int)), ∃ (st2 : List (Int × Int)), ∃ (st3 : Int), ∃ (st4 : List (Int)), ∃ (st5 : List (Bool)), ∃ (count6 : Int), ∃ (s239 : Value), ∃ (f240 : Fp), iterO (fun zz_ => z_search_run_l0 First To Weight hops settles most y157 zz_.1 zz_.2.1 zz_.2.2.1 zz_.2.2.2.1 zz_.2.2.2.2.1 zz_.2.2.2.2.2.1 zz_.2.2.2.2.2.2) n (st0, st1, st2, st3, st4, st5, count6) = some o209 ∧ Has α [(5, .pointer (some ⟨b73, 0, none⟩)), (8, .pointer (some ⟨b115, 0, none⟩)), (9, .int .i64 count6)] ∧ FrS ([b134] ++ ([b161] ++ (f106 ++ (f133 ++ (f160 ++ (f193 ++ f94)))))) H194 H235 ∧ Ow enc_u64_u32 2 H235 s239 st0 f240 ∧ Ow (encI .i64) 1 H235 (.slice a144 n145 c146) st1 f133 ∧ Row H235 b134 [s239, .slice a144 n145 c146] ∧ Ow enc_u64_u32 2 H235 (.slice a171 n172 c173) st2 f160 ∧ Row H235 b161 [.slice a171 n172 c173, .int .u32 y157.2, .int .i64 st3] ∧ Ow (encI .i64) 1 H235 (.slice a99 n100 c101) st4 f94 ∧ Ow encB 1 H235 (.slice a111 n112 c113) st5 f106 ∧ Inn f193 H194 f240) n233 ⟨y189.2.1, y189.1, y189.2.2.1, y189.2.2.2.1, y189.2.2.2.2, (List.replicate y84.toNat (false : Bool)), 0, (.slice a204 n205 c206), f193, hn234, ⟨by kernel_rfl, by kernel_rfl, by kernel_rfl, trivial⟩, (FrS.refl (W := ([b134] ++ ([b161] ++ (f106 ++ (f133 ++ (f160 ++ (f193 ++ f94))))))) e195.wf), m197, m196, m198, m199, m200, m201, u260, Inn.refl'⟩ ?_
    rintro n233 α H235 ⟨st0, st1, st2, st3, st4, st5, count6, s239, f240, hi255, hh254, e236, m238, m242, m244, m246, m248, m250, m252, i253⟩ K261 k261
    obtain ⟨n256, z257, rfl, hz258, hn259⟩ := iter_succ hi255
    obtain ⟨β, rfl⟩ := has_ex hh254
    clear hh254
    replace hz258 : z_search_run_l0 First To Weight hops settles most y157 st0 st1 st2 st3 st4 st5 count6 = some z257 := hz258
    unfold z_search_run_l0 at hz258
    obtain ⟨a262, n263, c264, rfl⟩ := m238.form
    refine w_seqk fun K265 k265 => ?_
    refine w_seqk fun K266 k266 => ?_
    refine w_reg (by kernel_rfl) ?_
    refine s_qk (.int .i64 count6) (by kernel_rfl) ?_
    refine s_qk (.pointer (some ⟨b73, 1, none⟩)) (by kernel_rfl) ?_
    have u267 := ((((((((((r77.frS e88 Dj.nil_l).ext e96).ext e108).ext e117).frS e136 Dj.nil_l).frS e149 (hb118.djn (r77.ltF.le (ntr (ntr e88.next e96.next) e108.next)))).frS e163 Dj.nil_l).frS e176 (hb118.djn (r77.ltF.le (ntr (ntr e88.next e96.next) e108.next)))).frS e195 (Dj.app (i140.djn (r77.ltF.le (ntr (ntr (ntr e88.next e96.next) e108.next) e117.next))) (Dj.app (i167.djn (r77.ltF.le (ntr (ntr (ntr (ntr (ntr e88.next e96.next) e108.next) e117.next) e136.next) e149.next))) (Dj.app (hf97.djn (r77.ltF.le e88.next)) (Dj.app Dj.nil_l (Dj.app (i139.djn (r77.ltF.le (ntr (ntr (ntr e88.next e96.next) e108.next) e117.next))) (i166.djn (r77.ltF.le (ntr (ntr (ntr (ntr (ntr e88.next e96.next) e108.next) e117.next) e136.next) e149.next))))))))).frS e236 (Dj.app (i140.djn (r77.ltF.le (ntr (ntr (ntr e88.next e96.next) e108.next) e117.next))) (Dj.app (i167.djn (r77.ltF.le (ntr (ntr (ntr (ntr (ntr e88.next e96.next) e108.next) e117.next) e136.next) e149.next))) (Dj.app (hf109.djn (r77.ltF.le (ntr e88.next e96.next))) (Dj.app (i139.djn (r77.ltF.le (ntr (ntr (ntr e88.next e96.next) e108.next) e117.next))) (Dj.app (i166.djn (r77.ltF.le (ntr (ntr (ntr (ntr (ntr e88.next e96.next) e108.next) e117.next) e136.next) e149.next))) (Dj.app (i202.djn (r77.ltF.le (ntr (ntr (ntr (ntr (ntr (ntr (ntr e88.next e96.next) e108.next) e117.next) e136.next) e149.next) e163.next) e176.next))) (hf97.djn (r77.ltF.le e88.next)))))))))
    refine s_ql (.int .i64 settles) (x := aLoad Tryd.prog 3 (.pointer (some ⟨b73, 1, none⟩)) H235) (by kernel_rfl) (u267.ld (by kernel_rfl)) ?_
    refine s_qk (.bool (decide (count6 < settles))) (by kernel_rfl) ?_
    refine s_nil ?_
    refine k266 _ _ ?_
    refine w_condp (count6 < settles) (by kernel_rfl) rfl (fun h268 => ?_) (fun h268 => ?_)
    ·have r269 := ite_t h268 hz258
     refine w_skip ?_
     refine k265 _ _ ?_
     refine w_seqk fun K270 k270 => ?_
     refine w_block ?_
     refine w_seqk fun K271 k271 => ?_
     refine w_reg (by kernel_rfl) ?_
     refine s_qk (.pointer (some ⟨b115, 0, none⟩)) (by kernel_rfl) ?_
     refine s_qk (.pointer (some ⟨b115, 0, none⟩)) (by kernel_rfl) ?_
     refine s_qk (.pointer (some ⟨b115, 3, none⟩)) (by kernel_rfl) ?_
     have u272 := ((r177.frS e195 (Dj.app (i140.djn r119.ltF) (Dj.app (i167.djn (r119.ltF.le (ntr e136.next e149.next))) (Dj.app (Dj.symm (hb118.djn (hm98.lt.le e108.next))) (Dj.app Dj.nil_l (Dj.app (i139.djn r119.ltF) (i166.djn (r119.ltF.le (ntr e136.next e149.next))))))))).frS e236 (Dj.app (i140.djn r119.ltF) (Dj.app (i167.djn (r119.ltF.le (ntr e136.next e149.next))) (Dj.app (Dj.symm (hb118.djn hm110.lt)) (Dj.app (i139.djn r119.ltF) (Dj.app (i166.djn (r119.ltF.le (ntr e136.next e149.next))) (Dj.app (i202.djn (r119.ltF.le (ntr (ntr (ntr e136.next e149.next) e163.next) e176.next))) (Dj.symm (hb118.djn (hm98.lt.le e108.next))))))))))
     refine s_ql (.pointer (some ⟨b134, 0, none⟩)) (x := aLoad Tryd.prog 102 (.pointer (some ⟨b115, 3, none⟩)) H235) (by kernel_rfl) (u272.ld (by kernel_rfl)) ?_
     obtain ⟨y273, hy274, r275⟩ := bind_some r269
     refine s_ck 78 #[.pointer (some ⟨b134, 0, none⟩)] (by kernel_rfl) (c_heap_Heap_Top e236.wf m238.sq m242.sq m244 hy274) ?_
     rintro _ _ ⟨rfl, rfl⟩
     refine s_qk (.tuple #[.int .u32 y273.1, .int .u64 y273.2.1, .bool y273.2.2]) (by kernel_rfl) ?_
     refine s_qk (.int .u32 y273.1) (by kernel_rfl) ?_
     refine s_qk (.int .u64 y273.2.1) (by kernel_rfl) ?_
     refine s_qk (.bool y273.2.2) (by kernel_rfl) ?_
     refine s_qk (.int .u32 y273.1) (by kernel_rfl) ?_
     refine s_qk (.int .u64 y273.2.1) (by kernel_rfl) ?_
     refine s_qk (.bool y273.2.2) (by kernel_rfl) ?_
     refine s_nil ?_
     refine k271 _ _ ?_
     refine w_seqk fun K278 k278 => ?_
     refine w_seqk fun K279 k279 => ?_
     obtain ⟨o280, hx281, r282⟩ := bind_some r275
     refine w_mid (fun α H283 => Has α [(5, .pointer (some ⟨b73, 0, none⟩)), (8, .pointer (some ⟨b115, 0, none⟩)), (9, .int .i64 count6), (10, .int .u32 y273.1), (11, .int .u64 y273.2.1), (63, .bool o280)] ∧ H235 = H283) (fun K285 k285 => ?_) (fun α H283 hM => ?_)
     ·refine w_reg (by kernel_rfl) ?_
      refine s_qk (.bool y273.2.2) (by kernel_rfl) ?_
      refine s_qk (.bool (!y273.2.2)) (by kernel_rfl) ?_
      refine s_qk (.bool (!y273.2.2)) (by kernel_rfl) ?_
      by_cases h287 : (!y273.2.2) = true
      ·have r288 := ite_t h287 hx281
       rw [h287]
       refine s_no (by kernel_rfl) ?_
       refine s_no (by kernel_rfl) ?_
       refine s_no (by kernel_rfl) ?_
       refine s_no (by kernel_rfl) ?_
       refine s_qk (.bool true) (by kernel_rfl) ?_
       refine s_nil ?_
       obtain rfl := Option.some.inj r288
       exact k285 _ _ ⟨⟨by kernel_rfl, by kernel_rfl, by kernel_rfl, by kernel_rfl, by kernel_rfl, by kernel_rfl, trivial⟩, rfl⟩
      ·have r289 := ite_f h287 hx281
       rw [nb h287]
       refine s_qk (.int .u64 y273.2.1) (by kernel_rfl) ?_
       refine s_qk (.pointer (some ⟨b73, 2, none⟩)) (by kernel_rfl) ?_
       refine s_ql (.int .u64 most) (x := aLoad Tryd.prog 42 (.pointer (some ⟨b73, 2, none⟩)) H235) (by kernel_rfl) (u267.ld (by kernel_rfl)) ?_
       refine s_qk (.bool (decide (y273.2.1 > most))) (by kernel_rfl) ?_
       refine s_qk (.bool (decide (y273.2.1 > most))) (by kernel_rfl) ?_
       refine s_nil ?_
       obtain rfl := Option.some.inj r289
       exact k285 _ _ ⟨⟨by kernel_rfl, by kernel_rfl, by kernel_rfl, by kernel_rfl, by kernel_rfl, by kernel_rfl, trivial⟩, rfl⟩
     ·obtain ⟨hh286, rfl⟩ := hM
      obtain ⟨β, rfl⟩ := has_ex hh286
      clear hh286
      refine k279 _ _ ?_
      refine w_cond (o280) (by kernel_rfl) rfl (fun h290 => ?_) (fun h290 => ?_)
      ·have r291 := ite_t h290 r282
       refine w_exit (th_exit (bl_ne (by decide) (th_exit (th_exit (bl_eq ?_)))))
       obtain rfl := Option.some.inj r291
       obtain rfl := it_inr hn259
       exact k231 _ _ ⟨(.slice a262 n263 c264), f240, ⟨by kernel_rfl, trivial⟩, (FrS.step e195.wf (FrS.refl (W := ([b134] ++ ([b161] ++ (f106 ++ (f133 ++ (f160 ++ (f193 ++ f94))))))) e195.wf) e236 (Inn.app Inn.left (Inn.app (Inn.right Inn.left) (Inn.app (Inn.right (Inn.right Inn.left)) (Inn.app (Inn.right (Inn.right (Inn.right Inn.left))) (Inn.app (Inn.right (Inn.right (Inn.right (Inn.right Inn.left)))) (Inn.app (Inn.right (Inn.right (Inn.right (Inn.right (Inn.right Inn.left))))) (Inn.right (Inn.right (Inn.right (Inn.right (Inn.right (Inn.right Inn.refl'))))))))))))), m238, m242, m244, m246, m248, m250, m252, (Inn.trans Inn.refl' (Nat.le_refl _) i253)⟩
      ·have r292 := ite_bf h290 r282
       refine w_skip ?_
       refine k278 _ _ ?_
       refine w_seqk fun K293 k293 => ?_
       refine w_reg (by kernel_rfl) ?_
       refine s_qk (.pointer (some ⟨b115, 0, none⟩)) (by kernel_rfl) ?_
       refine s_qk (.pointer (some ⟨b115, 0, none⟩)) (by kernel_rfl) ?_
       refine s_qk (.pointer (some ⟨b115, 3, none⟩)) (by kernel_rfl) ?_
       refine s_ql (.pointer (some ⟨b134, 0, none⟩)) (x := aLoad Tryd.prog 102 (.pointer (some ⟨b115, 3, none⟩)) H235) (by kernel_rfl) (u272.ld (by kernel_rfl)) ?_
       obtain ⟨y294, hy295, r296⟩ := bind_some r292
       refine s_ck 79 #[.pointer (some ⟨b134, 0, none⟩)] (by kernel_rfl) (c_heap_Heap_Pop e236.wf m238 m242 m244 (Dj.symm d141) (Dj.symm (i253.dj (i202.djn (m138.ltF.le (ntr (ntr e149.next e163.next) e176.next))) (m138.ltF.le (ntr (ntr (ntr e149.next e163.next) e176.next) e195.next)))) (Dj.symm (i253.dj (i202.djn (m137.lt.le (ntr (ntr e149.next e163.next) e176.next))) (m137.lt.le (ntr (ntr (ntr e149.next e163.next) e176.next) e195.next)))) hy295) ?_
       rintro _ H298 ⟨s297, rfl, e299, m300, m301, m302⟩
       obtain ⟨a304, n305, c306, rfl⟩ := m301.form
       refine s_nil ?_
       refine k293 _ _ ?_
       refine w_reg (by kernel_rfl) ?_
       refine s_qk (.pointer (some ⟨b115, 0, none⟩)) (by kernel_rfl) ?_
       refine s_qk (.int .u32 y273.1) (by kernel_rfl) ?_
       obtain ⟨g307, r308⟩ := G_some r296
       refine s_w (y273.1) (k := .i64) (x := y273.1) (by kernel_rfl) (wrap64 g307) ?_
       refine s_qk (.int .u64 y273.2.1) (by kernel_rfl) ?_
       refine s_qk (.pointer (some ⟨b73, 0, none⟩)) (by kernel_rfl) ?_
       have u309 := (u267.frS e299 (Dj.app (i140.djn (r77.ltF.le (ntr (ntr (ntr e88.next e96.next) e108.next) e117.next))) (Dj.app (i253.dj (i202.djn (r77.ltF.le (ntr (ntr (ntr (ntr (ntr (ntr (ntr e88.next e96.next) e108.next) e117.next) e136.next) e149.next) e163.next) e176.next))) (r77.ltF.le (ntr (ntr (ntr (ntr (ntr (ntr (ntr (ntr e88.next e96.next) e108.next) e117.next) e136.next) e149.next) e163.next) e176.next) e195.next))) (i139.djn (r77.ltF.le (ntr (ntr (ntr e88.next e96.next) e108.next) e117.next))))))
       refine s_ql (.int .i64 hops) (x := aLoad Tryd.prog 3 (.pointer (some ⟨b73, 0, none⟩)) H298) (by kernel_rfl) (u309.ld (by kernel_rfl)) ?_
       have u310 := (((u180.fr e195 (Dj.app (i140.djn (h_First.lt.le (ntr (ntr (ntr (ntr (ntr e69.next e75.next) e88.next) e96.next) e108.next) e117.next))) (Dj.app (i167.djn (h_First.lt.le (ntr (ntr (ntr (ntr (ntr (ntr (ntr e69.next e75.next) e88.next) e96.next) e108.next) e117.next) e136.next) e149.next))) (Dj.app (hf97.djn (h_First.lt.le (ntr (ntr e69.next e75.next) e88.next))) (Dj.app Dj.nil_l (Dj.app (i139.djn (h_First.lt.le (ntr (ntr (ntr (ntr (ntr e69.next e75.next) e88.next) e96.next) e108.next) e117.next))) (i166.djn (h_First.lt.le (ntr (ntr (ntr (ntr (ntr (ntr (ntr e69.next e75.next) e88.next) e96.next) e108.next) e117.next) e136.next) e149.next))))))))).fr e236 (Dj.app (i140.djn (h_First.lt.le (ntr (ntr (ntr (ntr (ntr e69.next e75.next) e88.next) e96.next) e108.next) e117.next))) (Dj.app (i167.djn (h_First.lt.le (ntr (ntr (ntr (ntr (ntr (ntr (ntr e69.next e75.next) e88.next) e96.next) e108.next) e117.next) e136.next) e149.next))) (Dj.app (hf109.djn (h_First.lt.le (ntr (ntr (ntr e69.next e75.next) e88.next) e96.next))) (Dj.app (i139.djn (h_First.lt.le (ntr (ntr (ntr (ntr (ntr e69.next e75.next) e88.next) e96.next) e108.next) e117.next))) (Dj.app (i166.djn (h_First.lt.le (ntr (ntr (ntr (ntr (ntr (ntr (ntr e69.next e75.next) e88.next) e96.next) e108.next) e117.next) e136.next) e149.next))) (Dj.app (i202.djn (h_First.lt.le (ntr (ntr (ntr (ntr (ntr (ntr (ntr (ntr (ntr e69.next e75.next) e88.next) e96.next) e108.next) e117.next) e136.next) e149.next) e163.next) e176.next))) (hf97.djn (h_First.lt.le (ntr (ntr e69.next e75.next) e88.next)))))))))).fr e299 (Dj.app (i140.djn (h_First.lt.le (ntr (ntr (ntr (ntr (ntr e69.next e75.next) e88.next) e96.next) e108.next) e117.next))) (Dj.app (i253.dj (i202.djn (h_First.lt.le (ntr (ntr (ntr (ntr (ntr (ntr (ntr (ntr (ntr e69.next e75.next) e88.next) e96.next) e108.next) e117.next) e136.next) e149.next) e163.next) e176.next))) (h_First.lt.le (ntr (ntr (ntr (ntr (ntr (ntr (ntr (ntr (ntr (ntr e69.next e75.next) e88.next) e96.next) e108.next) e117.next) e136.next) e149.next) e163.next) e176.next) e195.next))) (i139.djn (h_First.lt.le (ntr (ntr (ntr (ntr (ntr e69.next e75.next) e88.next) e96.next) e108.next) e117.next))))))
       have u311 := (((u181.fr e195 (Dj.app (i140.djn (h_To.lt.le (ntr (ntr (ntr (ntr (ntr e69.next e75.next) e88.next) e96.next) e108.next) e117.next))) (Dj.app (i167.djn (h_To.lt.le (ntr (ntr (ntr (ntr (ntr (ntr (ntr e69.next e75.next) e88.next) e96.next) e108.next) e117.next) e136.next) e149.next))) (Dj.app (hf97.djn (h_To.lt.le (ntr (ntr e69.next e75.next) e88.next))) (Dj.app Dj.nil_l (Dj.app (i139.djn (h_To.lt.le (ntr (ntr (ntr (ntr (ntr e69.next e75.next) e88.next) e96.next) e108.next) e117.next))) (i166.djn (h_To.lt.le (ntr (ntr (ntr (ntr (ntr (ntr (ntr e69.next e75.next) e88.next) e96.next) e108.next) e117.next) e136.next) e149.next))))))))).fr e236 (Dj.app (i140.djn (h_To.lt.le (ntr (ntr (ntr (ntr (ntr e69.next e75.next) e88.next) e96.next) e108.next) e117.next))) (Dj.app (i167.djn (h_To.lt.le (ntr (ntr (ntr (ntr (ntr (ntr (ntr e69.next e75.next) e88.next) e96.next) e108.next) e117.next) e136.next) e149.next))) (Dj.app (hf109.djn (h_To.lt.le (ntr (ntr (ntr e69.next e75.next) e88.next) e96.next))) (Dj.app (i139.djn (h_To.lt.le (ntr (ntr (ntr (ntr (ntr e69.next e75.next) e88.next) e96.next) e108.next) e117.next))) (Dj.app (i166.djn (h_To.lt.le (ntr (ntr (ntr (ntr (ntr (ntr (ntr e69.next e75.next) e88.next) e96.next) e108.next) e117.next) e136.next) e149.next))) (Dj.app (i202.djn (h_To.lt.le (ntr (ntr (ntr (ntr (ntr (ntr (ntr (ntr (ntr e69.next e75.next) e88.next) e96.next) e108.next) e117.next) e136.next) e149.next) e163.next) e176.next))) (hf97.djn (h_To.lt.le (ntr (ntr e69.next e75.next) e88.next)))))))))).fr e299 (Dj.app (i140.djn (h_To.lt.le (ntr (ntr (ntr (ntr (ntr e69.next e75.next) e88.next) e96.next) e108.next) e117.next))) (Dj.app (i253.dj (i202.djn (h_To.lt.le (ntr (ntr (ntr (ntr (ntr (ntr (ntr (ntr (ntr e69.next e75.next) e88.next) e96.next) e108.next) e117.next) e136.next) e149.next) e163.next) e176.next))) (h_To.lt.le (ntr (ntr (ntr (ntr (ntr (ntr (ntr (ntr (ntr (ntr e69.next e75.next) e88.next) e96.next) e108.next) e117.next) e136.next) e149.next) e163.next) e176.next) e195.next))) (i139.djn (h_To.lt.le (ntr (ntr (ntr (ntr (ntr e69.next e75.next) e88.next) e96.next) e108.next) e117.next))))))
       have u312 := (((u182.fr e195 (Dj.app (i140.djn (h_Weight.lt.le (ntr (ntr (ntr (ntr (ntr e69.next e75.next) e88.next) e96.next) e108.next) e117.next))) (Dj.app (i167.djn (h_Weight.lt.le (ntr (ntr (ntr (ntr (ntr (ntr (ntr e69.next e75.next) e88.next) e96.next) e108.next) e117.next) e136.next) e149.next))) (Dj.app (hf97.djn (h_Weight.lt.le (ntr (ntr e69.next e75.next) e88.next))) (Dj.app Dj.nil_l (Dj.app (i139.djn (h_Weight.lt.le (ntr (ntr (ntr (ntr (ntr e69.next e75.next) e88.next) e96.next) e108.next) e117.next))) (i166.djn (h_Weight.lt.le (ntr (ntr (ntr (ntr (ntr (ntr (ntr e69.next e75.next) e88.next) e96.next) e108.next) e117.next) e136.next) e149.next))))))))).fr e236 (Dj.app (i140.djn (h_Weight.lt.le (ntr (ntr (ntr (ntr (ntr e69.next e75.next) e88.next) e96.next) e108.next) e117.next))) (Dj.app (i167.djn (h_Weight.lt.le (ntr (ntr (ntr (ntr (ntr (ntr (ntr e69.next e75.next) e88.next) e96.next) e108.next) e117.next) e136.next) e149.next))) (Dj.app (hf109.djn (h_Weight.lt.le (ntr (ntr (ntr e69.next e75.next) e88.next) e96.next))) (Dj.app (i139.djn (h_Weight.lt.le (ntr (ntr (ntr (ntr (ntr e69.next e75.next) e88.next) e96.next) e108.next) e117.next))) (Dj.app (i166.djn (h_Weight.lt.le (ntr (ntr (ntr (ntr (ntr (ntr (ntr e69.next e75.next) e88.next) e96.next) e108.next) e117.next) e136.next) e149.next))) (Dj.app (i202.djn (h_Weight.lt.le (ntr (ntr (ntr (ntr (ntr (ntr (ntr (ntr (ntr e69.next e75.next) e88.next) e96.next) e108.next) e117.next) e136.next) e149.next) e163.next) e176.next))) (hf97.djn (h_Weight.lt.le (ntr (ntr e69.next e75.next) e88.next)))))))))).fr e299 (Dj.app (i140.djn (h_Weight.lt.le (ntr (ntr (ntr (ntr (ntr e69.next e75.next) e88.next) e96.next) e108.next) e117.next))) (Dj.app (i253.dj (i202.djn (h_Weight.lt.le (ntr (ntr (ntr (ntr (ntr (ntr (ntr (ntr (ntr e69.next e75.next) e88.next) e96.next) e108.next) e117.next) e136.next) e149.next) e163.next) e176.next))) (h_Weight.lt.le (ntr (ntr (ntr (ntr (ntr (ntr (ntr (ntr (ntr (ntr e69.next e75.next) e88.next) e96.next) e108.next) e117.next) e136.next) e149.next) e163.next) e176.next) e195.next))) (i139.djn (h_Weight.lt.le (ntr (ntr (ntr (ntr (ntr e69.next e75.next) e88.next) e96.next) e108.next) e117.next))))))
       have u313 := (m246.fr e299 (Dj.app (Dj.symm (i166.djn (m138.ltF.le e149.next))) (Dj.app (i253.dj (i202.djn (m164.lt.le e176.next)) (m164.lt.le (ntr e176.next e195.next))) (Dj.symm (i166.djn (m137.lt.le e149.next))))))
       have u314 := (m248.frS e299 (Dj.app (Dj.symm (i167.djn (m138.ltF.le e149.next))) (Dj.app (i253.dj (i202.djn (m165.ltF.le e176.next)) (m165.ltF.le (ntr e176.next e195.next))) (Dj.symm (i167.djn (m137.lt.le e149.next))))))
       have u315 := (m250.fr e299 (Dj.app (i140.djn (hm98.lt.le (ntr e108.next e117.next))) (Dj.app (i253.dj (i202.djn (hm98.lt.le (ntr (ntr (ntr (ntr (ntr e108.next e117.next) e136.next) e149.next) e163.next) e176.next))) (hm98.lt.le (ntr (ntr (ntr (ntr (ntr (ntr e108.next e117.next) e136.next) e149.next) e163.next) e176.next) e195.next))) (i139.djn (hm98.lt.le (ntr e108.next e117.next))))))
       have u316 := (m252.fr e299 (Dj.app (i140.djn (hm110.lt.le e117.next)) (Dj.app (i253.dj (i202.djn (hm110.lt.le (ntr (ntr (ntr (ntr e117.next e136.next) e149.next) e163.next) e176.next))) (hm110.lt.le (ntr (ntr (ntr (ntr (ntr e117.next e136.next) e149.next) e163.next) e176.next) e195.next))) (i139.djn (hm110.lt.le e117.next)))))
       have u317 := (u272.frS e299 (Dj.app (i140.djn r119.ltF) (Dj.app (i253.dj (i202.djn (r119.ltF.le (ntr (ntr (ntr e136.next e149.next) e163.next) e176.next))) (r119.ltF.le (ntr (ntr (ntr (ntr e136.next e149.next) e163.next) e176.next) e195.next))) (i139.djn r119.ltF))))
       obtain ⟨y318, hy319, r320⟩ := bind_some r308
       refine s_ck 80 #[.pointer (some ⟨b115, 0, none⟩), .int .i64 y273.1, .int .u64 y273.2.1, .int .i64 hops] (by kernel_rfl) (c_search_state_settle e299.wf u310 u311 u312 m301 m300 m302 u313 u314 u315 u316 u317 (Dj.symm (hb118.djn hm110.lt)) (hf109.djn hm98.lt) (Dj.symm (i139.djn (hm110.lt.le e117.next))) (Dj.symm (i253.dj (i202.djn (hm110.lt.le (ntr (ntr (ntr (ntr e117.next e136.next) e149.next) e163.next) e176.next))) (hm110.lt.le (ntr (ntr (ntr (ntr (ntr e117.next e136.next) e149.next) e163.next) e176.next) e195.next)))) (Dj.symm (i140.djn (hm110.lt.le e117.next))) (Dj.symm (i166.djn (hm110.lt.le (ntr (ntr e117.next e136.next) e149.next)))) (Dj.symm (i167.djn (hm110.lt.le (ntr (ntr e117.next e136.next) e149.next)))) (hf109.djn (h_First.lt.le (ntr (ntr (ntr e69.next e75.next) e88.next) e96.next))) (hf109.djn (h_To.lt.le (ntr (ntr (ntr e69.next e75.next) e88.next) e96.next))) (hf109.djn (h_Weight.lt.le (ntr (ntr (ntr e69.next e75.next) e88.next) e96.next))) (Dj.symm d168) (i166.djn (r119.ltF.le (ntr e136.next e149.next))) (i167.djn (r119.ltF.le (ntr e136.next e149.next))) (i166.djn (hm98.lt.le (ntr (ntr (ntr e108.next e117.next) e136.next) e149.next))) (i167.djn (hm98.lt.le (ntr (ntr (ntr e108.next e117.next) e136.next) e149.next))) (Dj.symm (hb118.djn (hm98.lt.le e108.next))) (Dj.symm (i253.dj (i202.djn (m164.lt.le e176.next)) (m164.lt.le (ntr e176.next e195.next)))) (Dj.symm (i253.dj (i202.djn (m165.ltF.le e176.next)) (m165.ltF.le (ntr e176.next e195.next)))) (Dj.symm (i253.dj (i202.djn (hm98.lt.le (ntr (ntr (ntr (ntr (ntr e108.next e117.next) e136.next) e149.next) e163.next) e176.next))) (hm98.lt.le (ntr (ntr (ntr (ntr (ntr (ntr e108.next e117.next) e136.next) e149.next) e163.next) e176.next) e195.next)))) (i166.djn (m137.lt.le e149.next)) (i167.djn (m137.lt.le e149.next)) (Dj.symm (i139.djn (hm98.lt.le (ntr e108.next e117.next)))) (i166.djn (m138.ltF.le e149.next)) (i167.djn (m138.ltF.le e149.next)) (Dj.symm (i140.djn (hm98.lt.le (ntr e108.next e117.next)))) (i253.dj (i202.djn (m138.ltF.le (ntr (ntr e149.next e163.next) e176.next))) (m138.ltF.le (ntr (ntr (ntr e149.next e163.next) e176.next) e195.next))) (i253.dj (i202.djn (m137.lt.le (ntr (ntr e149.next e163.next) e176.next))) (m137.lt.le (ntr (ntr (ntr e149.next e163.next) e176.next) e195.next))) (Dj.symm d141) (i139.djn r119.ltF) (i253.dj (i202.djn (r119.ltF.le (ntr (ntr (ntr e136.next e149.next) e163.next) e176.next))) (r119.ltF.le (ntr (ntr (ntr (ntr e136.next e149.next) e163.next) e176.next) e195.next))) (i140.djn r119.ltF) (i166.djn (h_First.lt.le (ntr (ntr (ntr (ntr (ntr (ntr (ntr e69.next e75.next) e88.next) e96.next) e108.next) e117.next) e136.next) e149.next))) (i139.djn (h_First.lt.le (ntr (ntr (ntr (ntr (ntr e69.next e75.next) e88.next) e96.next) e108.next) e117.next))) (i253.dj (i202.djn (h_First.lt.le (ntr (ntr (ntr (ntr (ntr (ntr (ntr (ntr (ntr e69.next e75.next) e88.next) e96.next) e108.next) e117.next) e136.next) e149.next) e163.next) e176.next))) (h_First.lt.le (ntr (ntr (ntr (ntr (ntr (ntr (ntr (ntr (ntr (ntr e69.next e75.next) e88.next) e96.next) e108.next) e117.next) e136.next) e149.next) e163.next) e176.next) e195.next))) (hf97.djn (h_First.lt.le (ntr (ntr e69.next e75.next) e88.next))) (i167.djn (h_First.lt.le (ntr (ntr (ntr (ntr (ntr (ntr (ntr e69.next e75.next) e88.next) e96.next) e108.next) e117.next) e136.next) e149.next))) (i140.djn (h_First.lt.le (ntr (ntr (ntr (ntr (ntr e69.next e75.next) e88.next) e96.next) e108.next) e117.next))) (i166.djn (h_To.lt.le (ntr (ntr (ntr (ntr (ntr (ntr (ntr e69.next e75.next) e88.next) e96.next) e108.next) e117.next) e136.next) e149.next))) (i139.djn (h_To.lt.le (ntr (ntr (ntr (ntr (ntr e69.next e75.next) e88.next) e96.next) e108.next) e117.next))) (i253.dj (i202.djn (h_To.lt.le (ntr (ntr (ntr (ntr (ntr (ntr (ntr (ntr (ntr e69.next e75.next) e88.next) e96.next) e108.next) e117.next) e136.next) e149.next) e163.next) e176.next))) (h_To.lt.le (ntr (ntr (ntr (ntr (ntr (ntr (ntr (ntr (ntr (ntr e69.next e75.next) e88.next) e96.next) e108.next) e117.next) e136.next) e149.next) e163.next) e176.next) e195.next))) (hf97.djn (h_To.lt.le (ntr (ntr e69.next e75.next) e88.next))) (i167.djn (h_To.lt.le (ntr (ntr (ntr (ntr (ntr (ntr (ntr e69.next e75.next) e88.next) e96.next) e108.next) e117.next) e136.next) e149.next))) (i140.djn (h_To.lt.le (ntr (ntr (ntr (ntr (ntr e69.next e75.next) e88.next) e96.next) e108.next) e117.next))) (i166.djn (h_Weight.lt.le (ntr (ntr (ntr (ntr (ntr (ntr (ntr e69.next e75.next) e88.next) e96.next) e108.next) e117.next) e136.next) e149.next))) (i139.djn (h_Weight.lt.le (ntr (ntr (ntr (ntr (ntr e69.next e75.next) e88.next) e96.next) e108.next) e117.next))) (i253.dj (i202.djn (h_Weight.lt.le (ntr (ntr (ntr (ntr (ntr (ntr (ntr (ntr (ntr e69.next e75.next) e88.next) e96.next) e108.next) e117.next) e136.next) e149.next) e163.next) e176.next))) (h_Weight.lt.le (ntr (ntr (ntr (ntr (ntr (ntr (ntr (ntr (ntr (ntr e69.next e75.next) e88.next) e96.next) e108.next) e117.next) e136.next) e149.next) e163.next) e176.next) e195.next))) (hf97.djn (h_Weight.lt.le (ntr (ntr e69.next e75.next) e88.next))) (i167.djn (h_Weight.lt.le (ntr (ntr (ntr (ntr (ntr (ntr (ntr e69.next e75.next) e88.next) e96.next) e108.next) e117.next) e136.next) e149.next))) (i140.djn (h_Weight.lt.le (ntr (ntr (ntr (ntr (ntr e69.next e75.next) e88.next) e96.next) e108.next) e117.next))) (i166.djn (hm110.lt.le (ntr (ntr e117.next e136.next) e149.next))) (i139.djn (hm110.lt.le e117.next)) (i253.dj (i202.djn (hm110.lt.le (ntr (ntr (ntr (ntr e117.next e136.next) e149.next) e163.next) e176.next))) (hm110.lt.le (ntr (ntr (ntr (ntr (ntr e117.next e136.next) e149.next) e163.next) e176.next) e195.next))) (i167.djn (hm110.lt.le (ntr (ntr e117.next e136.next) e149.next))) (i140.djn (hm110.lt.le e117.next)) (i253.dj (i202.djn (m164.lt.le e176.next)) (m164.lt.le (ntr e176.next e195.next))) (i253.dj (i202.djn (m165.ltF.le e176.next)) (m165.ltF.le (ntr e176.next e195.next))) (i253.dj (i202.djn (hm98.lt.le (ntr (ntr (ntr (ntr (ntr e108.next e117.next) e136.next) e149.next) e163.next) e176.next))) (hm98.lt.le (ntr (ntr (ntr (ntr (ntr (ntr e108.next e117.next) e136.next) e149.next) e163.next) e176.next) e195.next))) hy319) ?_
       rintro _ H323 ⟨s321, f322, rfl, e324, m325, m326, m327, m328, m329, m330, m331, i332⟩
       obtain ⟨a334, n335, c336, rfl⟩ := m326.form
       refine s_nil ?_
       refine k270 _ _ ?_
       refine w_reg (by kernel_rfl) ?_
       refine s_qk (.int .i64 count6) (by kernel_rfl) ?_
       obtain ⟨g337, r338⟩ := G_some r320
       refine s_w ((count6 + 1)) (k := .i64) (x := (count6 + 1)) (by kernel_rfl) (wrap64 g337) ?_
       refine s_qk (.int .i64 (count6 + 1)) (by kernel_rfl) ?_
       refine s_nil ?_
       obtain rfl := Option.some.inj r338
       exact k261 n256 _ _ (Nat.lt_succ_self _) ⟨y318.2.1, y318.1, y318.2.2.1, y318.2.2.2.1, y318.2.2.2.2.1, y318.2.2.2.2.2, (count6 + 1), (.slice a334 n335 c336), f322, hn259, ⟨by kernel_rfl, by kernel_rfl, by kernel_rfl, trivial⟩, (FrS.step e195.wf (FrS.step e195.wf (FrS.step e195.wf (FrS.refl (W := ([b134] ++ ([b161] ++ (f106 ++ (f133 ++ (f160 ++ (f193 ++ f94))))))) e195.wf) e236 (Inn.app Inn.left (Inn.app (Inn.right Inn.left) (Inn.app (Inn.right (Inn.right Inn.left)) (Inn.app (Inn.right (Inn.right (Inn.right Inn.left))) (Inn.app (Inn.right (Inn.right (Inn.right (Inn.right Inn.left)))) (Inn.app (Inn.right (Inn.right (Inn.right (Inn.right (Inn.right Inn.left))))) (Inn.right (Inn.right (Inn.right (Inn.right (Inn.right (Inn.right Inn.refl'))))))))))))) e299 (Inn.app Inn.left (Inn.app (Inn.trans (Inn.right (Inn.right (Inn.right (Inn.right (Inn.right Inn.left))))) (Nat.le_refl _) i253) (Inn.right (Inn.right (Inn.right Inn.left)))))) e324 (Inn.app Inn.left (Inn.app (Inn.right Inn.left) (Inn.app (Inn.right (Inn.right (Inn.right (Inn.right (Inn.right (Inn.right Inn.refl')))))) (Inn.app (Inn.right (Inn.right Inn.left)) (Inn.app (Inn.trans (Inn.right (Inn.right (Inn.right (Inn.right (Inn.right Inn.left))))) (Nat.le_refl _) i253) (Inn.app (Inn.right (Inn.right (Inn.right Inn.left))) (Inn.right (Inn.right (Inn.right (Inn.right Inn.left))))))))))), m326, m325, m327, m328, m329, m330, m331, (Inn.trans (Inn.trans Inn.refl' (Nat.le_refl _) i253) (ntr e236.next e299.next) i332)⟩
    ·have r339 := ite_f h268 hz258
     refine w_exit (th_exit (th_exit (bl_eq ?_)))
     obtain rfl := Option.some.inj r339
     obtain rfl := it_inr hn259
     exact k231 _ _ ⟨(.slice a262 n263 c264), f240, ⟨by kernel_rfl, trivial⟩, (FrS.step e195.wf (FrS.refl (W := ([b134] ++ ([b161] ++ (f106 ++ (f133 ++ (f160 ++ (f193 ++ f94))))))) e195.wf) e236 (Inn.app Inn.left (Inn.app (Inn.right Inn.left) (Inn.app (Inn.right (Inn.right Inn.left)) (Inn.app (Inn.right (Inn.right (Inn.right Inn.left))) (Inn.app (Inn.right (Inn.right (Inn.right (Inn.right Inn.left)))) (Inn.app (Inn.right (Inn.right (Inn.right (Inn.right (Inn.right Inn.left))))) (Inn.right (Inn.right (Inn.right (Inn.right (Inn.right (Inn.right Inn.refl'))))))))))))), m238, m242, m244, m246, m248, m250, m252, (Inn.trans Inn.refl' (Nat.le_refl _) i253)⟩
   ·obtain ⟨s216, f217, hh232, e213, m215, m219, m221, m223, m225, m227, m229, i230⟩ := hM
    obtain ⟨β, rfl⟩ := has_ex hh232
    clear hh232
    obtain ⟨a340, n341, c342, rfl⟩ := m215.form
    refine k207 _ _ ?_
    refine w_seqk fun K343 k343 => ?_
    refine w_reg (by kernel_rfl) ?_
    refine s_qk (.pointer (some ⟨b115, 0, none⟩)) (by kernel_rfl) ?_
    refine s_qk (.pointer (some ⟨b115, 0, none⟩)) (by kernel_rfl) ?_
    refine s_nil ?_
    refine k343 _ _ ?_
    refine w_ret ?_
    refine b_ret (fn := Tryd.f50) (vs := [.pointer (some ⟨b115, 0, none⟩)]) (aRes_tmp (by kernel_rfl) (rfl)) ?_
    have u344 := ((r177.frS e195 (Dj.app (i140.djn r119.ltF) (Dj.app (i167.djn (r119.ltF.le (ntr e136.next e149.next))) (Dj.app (Dj.symm (hb118.djn (hm98.lt.le e108.next))) (Dj.app Dj.nil_l (Dj.app (i139.djn r119.ltF) (i166.djn (r119.ltF.le (ntr e136.next e149.next))))))))).frS e213 (Dj.app (i140.djn r119.ltF) (Dj.app (i167.djn (r119.ltF.le (ntr e136.next e149.next))) (Dj.app (Dj.symm (hb118.djn hm110.lt)) (Dj.app (i139.djn r119.ltF) (Dj.app (i166.djn (r119.ltF.le (ntr e136.next e149.next))) (Dj.app (i202.djn (r119.ltF.le (ntr (ntr (ntr e136.next e149.next) e163.next) e176.next))) (Dj.symm (hb118.djn (hm98.lt.le e108.next))))))))))
    obtain rfl := Option.some.inj r211
    exact ⟨(.slice a340 n341 c342), f217, (.slice a144 n145 c146), f133, b134, (.slice a171 n172 c173), f160, b161, (.slice a99 n100 c101), f94, (.slice a111 n112 c113), f106, b115, rfl, (FrS.step wf (FrS.step wf (FrS.step wf (FrS.step wf (FrS.step wf (FrS.step wf ((((FrS.step wf (((FrS.refl (W := []) wf).extR e69).extR e75) e88 Inn.nil).extR e96).extR e108).extR e117) e136 Inn.nil) e149 (hb118.fresh (ntr (ntr (ntr (ntr e69.next e75.next) e88.next) e96.next) e108.next))) e163 Inn.nil) e176 (hb118.fresh (ntr (ntr (ntr (ntr e69.next e75.next) e88.next) e96.next) e108.next))) e195 (Inn.app (i140.fresh (ntr (ntr (ntr (ntr (ntr e69.next e75.next) e88.next) e96.next) e108.next) e117.next)) (Inn.app (i167.fresh (ntr (ntr (ntr (ntr (ntr (ntr (ntr e69.next e75.next) e88.next) e96.next) e108.next) e117.next) e136.next) e149.next)) (Inn.app (hf97.fresh (ntr (ntr e69.next e75.next) e88.next)) (Inn.app Inn.nil (Inn.app (i139.fresh (ntr (ntr (ntr (ntr (ntr e69.next e75.next) e88.next) e96.next) e108.next) e117.next)) (i166.fresh (ntr (ntr (ntr (ntr (ntr (ntr (ntr e69.next e75.next) e88.next) e96.next) e108.next) e117.next) e136.next) e149.next)))))))) e213 (Inn.app (i140.fresh (ntr (ntr (ntr (ntr (ntr e69.next e75.next) e88.next) e96.next) e108.next) e117.next)) (Inn.app (i167.fresh (ntr (ntr (ntr (ntr (ntr (ntr (ntr e69.next e75.next) e88.next) e96.next) e108.next) e117.next) e136.next) e149.next)) (Inn.app (hf109.fresh (ntr (ntr (ntr e69.next e75.next) e88.next) e96.next)) (Inn.app (i139.fresh (ntr (ntr (ntr (ntr (ntr e69.next e75.next) e88.next) e96.next) e108.next) e117.next)) (Inn.app (i166.fresh (ntr (ntr (ntr (ntr (ntr (ntr (ntr e69.next e75.next) e88.next) e96.next) e108.next) e117.next) e136.next) e149.next)) (Inn.app (i202.fresh (ntr (ntr (ntr (ntr (ntr (ntr (ntr (ntr (ntr e69.next e75.next) e88.next) e96.next) e108.next) e117.next) e136.next) e149.next) e163.next) e176.next)) (hf97.fresh (ntr (ntr e69.next e75.next) e88.next))))))))), m215, m219, m221, m223, m225, m227, m229, u344, (Inn.trans (i202.fresh (ntr (ntr (ntr (ntr (ntr (ntr (ntr (ntr (ntr e69.next e75.next) e88.next) e96.next) e108.next) e117.next) e136.next) e149.next) e163.next) e176.next)) (ntr (ntr (ntr (ntr (ntr (ntr (ntr (ntr (ntr (ntr e69.next e75.next) e88.next) e96.next) e108.next) e117.next) e136.next) e149.next) e163.next) e176.next) e195.next) i230), (i139.fresh (ntr (ntr (ntr (ntr (ntr e69.next e75.next) e88.next) e96.next) e108.next) e117.next)), (i140.fresh (ntr (ntr (ntr (ntr (ntr e69.next e75.next) e88.next) e96.next) e108.next) e117.next)), (i166.fresh (ntr (ntr (ntr (ntr (ntr (ntr (ntr e69.next e75.next) e88.next) e96.next) e108.next) e117.next) e136.next) e149.next)), (i167.fresh (ntr (ntr (ntr (ntr (ntr (ntr (ntr e69.next e75.next) e88.next) e96.next) e108.next) e117.next) e136.next) e149.next)), (hf97.fresh (ntr (ntr e69.next e75.next) e88.next)), (hf109.fresh (ntr (ntr (ntr e69.next e75.next) e88.next) e96.next)), (hb118.fresh (ntr (ntr (ntr (ntr e69.next e75.next) e88.next) e96.next) e108.next)), (i230.dj (i202.djn (m137.lt.le (ntr (ntr e149.next e163.next) e176.next))) (m137.lt.le (ntr (ntr (ntr e149.next e163.next) e176.next) e195.next))), (i230.dj (i202.djn (m138.ltF.le (ntr (ntr e149.next e163.next) e176.next))) (m138.ltF.le (ntr (ntr (ntr e149.next e163.next) e176.next) e195.next))), d141, (i230.dj (i202.djn (m164.lt.le e176.next)) (m164.lt.le (ntr e176.next e195.next))), (Dj.symm (i166.djn (m137.lt.le e149.next))), (Dj.symm (i166.djn (m138.ltF.le e149.next))), (i230.dj (i202.djn (m165.ltF.le e176.next)) (m165.ltF.le (ntr e176.next e195.next))), (Dj.symm (i167.djn (m137.lt.le e149.next))), (Dj.symm (i167.djn (m138.ltF.le e149.next))), d168, (i230.dj (i202.djn (hm98.lt.le (ntr (ntr (ntr (ntr (ntr e108.next e117.next) e136.next) e149.next) e163.next) e176.next))) (hm98.lt.le (ntr (ntr (ntr (ntr (ntr (ntr e108.next e117.next) e136.next) e149.next) e163.next) e176.next) e195.next))), (i139.djn (hm98.lt.le (ntr e108.next e117.next))), (i140.djn (hm98.lt.le (ntr e108.next e117.next))), (i166.djn (hm98.lt.le (ntr (ntr (ntr e108.next e117.next) e136.next) e149.next))), (i167.djn (hm98.lt.le (ntr (ntr (ntr e108.next e117.next) e136.next) e149.next))), (i230.dj (i202.djn (hm110.lt.le (ntr (ntr (ntr (ntr e117.next e136.next) e149.next) e163.next) e176.next))) (hm110.lt.le (ntr (ntr (ntr (ntr (ntr e117.next e136.next) e149.next) e163.next) e176.next) e195.next))), (i139.djn (hm110.lt.le e117.next)), (i140.djn (hm110.lt.le e117.next)), (i166.djn (hm110.lt.le (ntr (ntr e117.next e136.next) e149.next))), (i167.djn (hm110.lt.le (ntr (ntr e117.next e136.next) e149.next))), (Dj.symm (hf109.djn hm98.lt)), (i230.dj (i202.djn (r119.ltF.le (ntr (ntr (ntr e136.next e149.next) e163.next) e176.next))) (r119.ltF.le (ntr (ntr (ntr (ntr e136.next e149.next) e163.next) e176.next) e195.next))), (i139.djn r119.ltF), (i140.djn r119.ltF), (i166.djn (r119.ltF.le (ntr e136.next e149.next))), (i167.djn (r119.ltF.le (ntr e136.next e149.next))), (Dj.symm (hb118.djn (hm98.lt.le e108.next))), (Dj.symm (hb118.djn hm110.lt))⟩

theorem c_stamp_Stamp_All {H : AH} {b_s : Nat} {hd_s_ : Value} {fp_s_ : Fp} {s_ : List (Int × Int)} {s_2 : Int} {s_3 : Int} {r : List (Int)}
  (wf : WF H) (h_s_ : Sq enc_u64_u32 2 H hd_s_ s_ fp_s_) (h_s : Row H b_s [hd_s_, .int .u32 s_2, .int .i64 s_3]) (hr : z_stamp_Stamp_All s_ s_2 s_3 = some r) :
  ACalls Tryd.prog 61 #[.pointer (some ⟨b_s, 0, none⟩)] H fun v H' => ∃ (s3 : Value) (f4 : Fp), v = s3 ∧ FrS [] H H' ∧ Ow (encI .i64) 1 H' s3 r f4 ∧ Inn [] H f4 := by
 refine acalls_of_body mixed Tryd.func61 rfl (Nat.le_of_ble_eq_true rfl) ?_
 unfold z_stamp_Stamp_All at hr
 refine w_seqk fun K6 k6 => ?_
 refine w_reg (by kernel_rfl) ?_
 refine s_qk (.slice none 0 0) (by kernel_rfl) ?_
 refine s_nil ?_
 refine k6 _ _ ?_
 refine w_seqk fun K7 k7 => ?_
 refine w_seqk fun K8 k8 => ?_
 refine w_reg (by kernel_rfl) ?_
 refine s_qk (.pointer (some ⟨b_s, 0, none⟩)) (by kernel_rfl) ?_
 refine s_qk (.bool false) (by kernel_rfl) ?_
 refine s_nil ?_
 refine k8 _ _ ?_
 refine w_cond false (by kernel_rfl) rfl (fun h => by cases h) (fun _ => ?_)
 refine w_skip ?_
 refine k7 _ _ ?_
 refine w_seqk fun K9 k9 => ?_
 refine w_reg (by kernel_rfl) ?_
 refine s_qk (.slice none 0 0) (by kernel_rfl) ?_
 refine s_nil ?_
 refine k9 _ _ ?_
 refine w_seqk fun K10 k10 => ?_
 refine w_seqk fun K11 k11 => ?_
 refine w_reg (by kernel_rfl) ?_
 refine s_qk (.pointer (some ⟨b_s, 0, none⟩)) (by kernel_rfl) ?_
 refine s_qk (.pointer (some ⟨b_s, 0, none⟩)) (by kernel_rfl) ?_
 refine s_qk (.pointer (some ⟨b_s, 0, none⟩)) (by kernel_rfl) ?_
 refine s_ql (hd_s_) (x := aLoad Tryd.prog 165 (.pointer (some ⟨b_s, 0, none⟩)) H) (by kernel_rfl) (h_s.ld (by kernel_rfl)) ?_
 refine s_ql (.int .i64 (s_.length : Int)) (x := aLen Tryd.prog 165 hd_s_ H) (by kernel_rfl) (h_s_.lenb (by kernel_rfl)) ?_
 refine s_qk (.int .i64 0) (by kernel_rfl) ?_
 refine s_nil ?_
 refine k11 _ _ ?_
 obtain ⟨o12, hx13, r14⟩ := bind_some hr
 refine w_mid (fun α H15 => ∃ (s19 : Value) (f20 : Fp), Has α [(3, s19)] ∧ FrS [] H H15 ∧ Ow (encI .i64) 1 H15 s19 o12 f20 ∧ Inn [] H f20) (fun K22 k22 => ?_) (fun α H15 hM => ?_)
 ·refine w_block ?_
  obtain ⟨n24, hn25⟩ := loopO_iff.1 hx13
  refine w_loopn (fun n α H26 => ∃ (i0 : Int), ∃ (l1 : List (Int)), ∃ (s30 : Value), ∃ (f31 : Fp), iterO (fun zz_ => z_stamp_Stamp_All_l0 s_ s_2 zz_.1 zz_.2) n (i0, l1) = some o12 ∧ Has α [(0, .pointer (some ⟨b_s, 0, none⟩)), (3, s30), (11, hd_s_), (12, .int .i64 (s_.length : Int)), (13, .int .i64 i0)] ∧ FrS [] H H26 ∧ Ow (encI .i64) 1 H26 s30 l1 f31 ∧ Inn [] H f31) n24 ⟨0, [], (.slice none 0 0), [], hn25, ⟨by kernel_rfl, by kernel_rfl, by kernel_rfl, by kernel_rfl, by kernel_rfl, trivial⟩, (FrS.refl (W := []) wf), (Ow.nil (by decide)), Inn.nil⟩ ?_
  rintro n24 α H26 ⟨i0, l1, s30, f31, hi34, hh33, e27, m29, i32⟩ K39 k39
  obtain ⟨n35, z36, rfl, hz37, hn38⟩ := iter_succ hi34
  obtain ⟨β, rfl⟩ := has_ex hh33
  clear hh33
  replace hz37 : z_stamp_Stamp_All_l0 s_ s_2 i0 l1 = some z36 := hz37
  unfold z_stamp_Stamp_All_l0 at hz37
  obtain ⟨a40, n41, c42, rfl⟩ := m29.form
  refine w_seqk fun K43 k43 => ?_
  refine w_reg (by kernel_rfl) ?_
  refine s_qk (.bool (decide (i0 < (s_.length : Int)))) (by kernel_rfl) ?_
  refine s_nil ?_
  refine k43 _ _ ?_
  refine w_seqk fun K44 k44 => ?_
  refine w_condp (i0 < (s_.length : Int)) (by kernel_rfl) rfl (fun h45 => ?_) (fun h45 => ?_)
  ·have r46 := ite_t h45 hz37
   refine w_skip ?_
   refine k44 _ _ ?_
   refine w_seqk fun K47 k47 => ?_
   refine w_block ?_
   refine w_seqk fun K48 k48 => ?_
   refine w_reg (by kernel_rfl) ?_
   refine s_qk (.int .i64 i0) (by kernel_rfl) ?_
   obtain ⟨g49, r50⟩ := G_some r46
   have u51 := (h_s_.fr e27 Dj.nil_l)
   refine s_ql (elp hd_s_ 2 i0.toNat 0) (x := aIndexAddr Tryd.prog 165 hd_s_ (.int .i64 i0)) (by kernel_rfl) (u51.idxb (by kernel_rfl) g49 h45) ?_
   refine s_ql (.agg #[.int .u64 ((gt s_ i0).1), .int .u32 ((gt s_ i0).2)]) (x := aLoad Tryd.prog 169 (elp hd_s_ 2 i0.toNat 0) H26) (by kernel_rfl) (u51.ld g49 h45 (by kernel_rfl)) ?_
   refine s_rwk e27.wf [.int .u64 0, .int .u32 0] (by kernel_rfl) fun b52 H53 e54 hb55 r56 => ?_
   refine s_qk (.int .i64 i0) (by kernel_rfl) ?_
   obtain ⟨H58, q59, e60, r61⟩ := Row.store (P := Tryd.prog) (t := 169) (p := 0) e54.wf r56 (.agg #[.int .u64 ((gt s_ i0).1), .int .u32 ((gt s_ i0).2)]) [.int .u64 ((gt s_ i0).1), .int .u32 ((gt s_ i0).2)] (by kernel_rfl) (by kernel_rfl) (one_cons (rfl) (one_cons (rfl) (one_nil))) (Nat.le_of_ble_eq_true (by kernel_rfl)) [.int .u64 ((gt s_ i0).1), .int .u32 ((gt s_ i0).2)] (by kernel_rfl)
   refine s_ek (undef) (by kernel_rfl) (map_ok q59) ?_
   refine s_nil ?_
   refine k48 _ _ ?_
   refine w_seqk fun K62 k62 => ?_
   refine w_draw [0, 1, 2, 3, 4, 5, 6] (by kernel_rfl) ?_
   refine d_qk (.pointer (some ⟨b52, 1, none⟩)) (by kernel_rfl) ?_
   refine d_ql (.int .u32 ((gt s_ i0).2)) (x := aLoad Tryd.prog 156 (.pointer (some ⟨b52, 1, none⟩)) H58) (by kernel_rfl) (r61.ld (by kernel_rfl)) ?_
   refine d_qk (.pointer (some ⟨b_s, 0, none⟩)) (by kernel_rfl) ?_
   refine d_qk (.pointer (some ⟨b_s, 0, none⟩)) (by kernel_rfl) ?_
   refine d_qk (.pointer (some ⟨b_s, 1, none⟩)) (by kernel_rfl) ?_
   have u63 := (((h_s.frS e27 Dj.nil_l).ext e54).frS e60 (hb55.djn (h_s.ltF.le e27.next)))
   refine d_ql (.int .u32 s_2) (x := aLoad Tryd.prog 156 (.pointer (some ⟨b_s, 1, none⟩)) H58) (by kernel_rfl) (u63.ld (by kernel_rfl)) ?_
   refine d_qk (.bool (decide (((gt s_ i0).2) = s_2))) (by kernel_rfl) ?_
   refine d_nil ?_
   refine k62 _ _ ?_
   refine w_condp (((gt s_ i0).2) = s_2) (by kernel_rfl) rfl (fun h64 => ?_) (fun h64 => ?_)
   ·have r65 := ite_t h64 r50
    refine w_reg (by kernel_rfl) ?_
    refine s_qk (.slice a40 n41 c42) (by kernel_rfl) ?_
    refine s_qk (.int .i64 i0) (by kernel_rfl) ?_
    refine s_owk (enc := (encI .i64)) (sz := 1) e60.wf [i0] 1 (by decide) (fun _ _ => rfl) (fun _ _ => rfl) rfl (by kernel_rfl) fun s66 f67 H68 e69 hf70 hm71 => ?_
    obtain ⟨a72, n73, c74, rfl⟩ := hm71.form
    have u76 := (((m29.ext e54).fr e60 (hb55.djn m29.lt)).ext e69)
    obtain ⟨g77, r78⟩ := G_some r65
    obtain ⟨s79, H80, f81, q85, e82, hm83, hf84⟩ := Ow.append (P := Tryd.prog) 8 e69.wf u76 hm71.sq (fun _ _ => rfl) (at_ := #[22, 22]) rfl rfl (by kernel_rfl) (by kernel_rfl) (by decide) (by have := g77; first | omega | (simp only [List.length_cons, List.length_nil] at this ⊢; omega) | (simp at this ⊢; omega))
    obtain ⟨a86, n87, c88, rfl⟩ := hm83.form
    refine s_ek (.slice a86 n87 c88) (by kernel_rfl) (q85) ?_
    refine s_qk (.slice a86 n87 c88) (by kernel_rfl) ?_
    refine s_nil ?_
    refine k47 _ _ ?_
    refine w_reg (by kernel_rfl) ?_
    obtain ⟨g90, r91⟩ := G_some r78
    refine s_w ((i0 + 1)) (k := .i64) (x := (i0 + 1)) (by kernel_rfl) (wrap64 (by have := g90; omega)) ?_
    refine s_qk (.int .i64 (i0 + 1)) (by kernel_rfl) ?_
    refine s_nil ?_
    obtain rfl := Option.some.inj r91
    exact k39 n35 _ _ (Nat.lt_succ_self _) ⟨(i0 + 1), (l1 ++ [i0]), (.slice a86 n87 c88), f81, hn38, ⟨by kernel_rfl, by kernel_rfl, by kernel_rfl, by kernel_rfl, by kernel_rfl, trivial⟩, (FrS.step wf ((FrS.step wf ((FrS.step wf (FrS.refl (W := []) wf) e27 Inn.nil).extR e54) e60 (hb55.fresh e27.next)).extR e69) e82 (i32.fresh (Nat.le_refl _))), hm83, (Inn.trans (i32.fresh (Nat.le_refl _)) (ntr (ntr (ntr e27.next e54.next) e60.next) e69.next) hf84)⟩
   ·have r92 := ite_f h64 r50
    refine w_skip ?_
    refine k47 _ _ ?_
    refine w_reg (by kernel_rfl) ?_
    obtain ⟨g93, r94⟩ := G_some r92
    refine s_w ((i0 + 1)) (k := .i64) (x := (i0 + 1)) (by kernel_rfl) (wrap64 (by have := g93; omega)) ?_
    refine s_qk (.int .i64 (i0 + 1)) (by kernel_rfl) ?_
    refine s_nil ?_
    have u95 := ((m29.ext e54).fr e60 (hb55.djn m29.lt))
    obtain rfl := Option.some.inj r94
    exact k39 n35 _ _ (Nat.lt_succ_self _) ⟨(i0 + 1), l1, (.slice a40 n41 c42), f31, hn38, ⟨by kernel_rfl, by kernel_rfl, by kernel_rfl, by kernel_rfl, by kernel_rfl, trivial⟩, (FrS.step wf ((FrS.step wf (FrS.refl (W := []) wf) e27 Inn.nil).extR e54) e60 (hb55.fresh e27.next)), u95, (i32.fresh (Nat.le_refl _))⟩
  ·have r96 := ite_f h45 hz37
   refine w_exit (th_exit (th_exit (bl_eq ?_)))
   obtain rfl := Option.some.inj r96
   obtain rfl := it_inr hn38
   exact k22 _ _ ⟨(.slice a40 n41 c42), f31, ⟨by kernel_rfl, trivial⟩, (FrS.step wf (FrS.refl (W := []) wf) e27 Inn.nil), m29, (i32.fresh (Nat.le_refl _))⟩
 ·obtain ⟨s19, f20, hh23, e16, m18, i21⟩ := hM
  obtain ⟨β, rfl⟩ := has_ex hh23
  clear hh23
  obtain ⟨a97, n98, c99, rfl⟩ := m18.form
  refine k10 _ _ ?_
  refine w_seqk fun K100 k100 => ?_
  refine w_reg (by kernel_rfl) ?_
  refine s_qk (.slice a97 n98 c99) (by kernel_rfl) ?_
  refine s_qk (.slice a97 n98 c99) (by kernel_rfl) ?_
  refine s_nil ?_
  refine k100 _ _ ?_
  refine w_ret ?_
  refine b_ret (fn := Tryd.f61) (vs := [.slice a97 n98 c99]) (aRes_tmp (by kernel_rfl) (rfl)) ?_
  obtain rfl := Option.some.inj r14
  exact ⟨(.slice a97 n98 c99), f20, rfl, (FrS.step wf (FrS.refl (W := []) wf) e16 Inn.nil), m18, (i21.fresh (Nat.le_refl _))⟩


end Go.Vd

/-! (KSb4) -/

set_option maxRecDepth 100000
set_option maxHeartbeats 4000000
set_option linter.unusedVariables false
namespace Go.Vd
open Go.Proofs
attribute [local irreducible] wpSeq wpOrd aWp
theorem c_search_Bounded {H : AH} {hd_First : Value} {fp_First : Fp} {hd_To : Value} {fp_To : Fp} {hd_Weight : Value} {fp_Weight : Fp} {First : List (Int)} {To : List (Int)} {Weight : List (Int)} {s : Int} {hops : Int} {settles : Int} {most : Int} {r : List (Int × Int × Int × Bool) × Er}
  (wf : WF H) (h_First : Sq (encI .i64) 1 H hd_First First fp_First) (h_To : Sq (encI .i64) 1 H hd_To To fp_To) (h_Weight : Sq (encI .i64) 1 H hd_Weight Weight fp_Weight) (hr : z_search_Bounded First To Weight s hops settles most = some r) :
  ACalls Tryd.prog 32 #[.agg #[hd_First, hd_To, hd_Weight], .int .i64 s, .int .i64 hops, .int .i64 settles, .int .u64 most] H fun v H' => ∃ (s3 : Value) (f4 : Fp) (v7 : Value) (f8 : Fp), v = .tuple #[s3, v7] ∧ FrS [] H H' ∧ Ow enc_i64_u64_i64_bool 4 H' s3 r.1 f4 ∧ Ev 80 86 H' v7 r.2 f8 ∧ Inn [] H f4 ∧ Inn [] H f8 ∧ Dj f4 f8 := by
 refine acalls_of_body mixed Tryd.func32 rfl (Nat.le_of_ble_eq_true rfl) ?_
 unfold z_search_Bounded at hr
 refine w_seqk fun K12 k12 => ?_
 refine w_reg (by kernel_rfl) ?_
 refine s_rwl wf [hd_First, hd_To, hd_Weight] (one_cons (h_First.one1) (one_cons (h_To.one1) (one_cons (h_Weight.one1) (one_nil)))) (by kernel_rfl) fun b13 H14 e15 hb16 r17 => ?_
 refine s_qk (.slice none 0 0) (by kernel_rfl) ?_
 refine s_qk (.nilIface) (by kernel_rfl) ?_
 refine s_nil ?_
 refine k12 _ _ ?_
 refine w_seqk fun K19 k19 => ?_
 refine w_seqk fun K20 k20 => ?_
 refine w_reg (by kernel_rfl) ?_
 refine s_ql (.agg #[hd_First, hd_To, hd_Weight]) (x := aLoad Tryd.prog 40 (.pointer (some ⟨b13, 0, none⟩)) H14) (by kernel_rfl) (r17.ld (by kernel_rfl)) ?_
 refine s_qk (.int .i64 s) (by kernel_rfl) ?_
 refine s_owk (enc := (encI .i64)) (sz := 1) e15.wf [s] 1 (by decide) (fun _ _ => rfl) (fun _ _ => rfl) rfl (by kernel_rfl) fun s21 f22 H23 e24 hf25 hm26 => ?_
 obtain ⟨a27, n28, c29, rfl⟩ := hm26.form
 have u31 := ((h_First.ext e15).ext e24)
 have u32 := ((h_To.ext e15).ext e24)
 have u33 := ((h_Weight.ext e15).ext e24)
 obtain ⟨y34, hy35, r36⟩ := bind_some hr
 refine s_ck 49 #[.agg #[hd_First, hd_To, hd_Weight], .slice a27 n28 c29] (by kernel_rfl) (c_search_node e24.wf u31 u32 u33 hm26.sq hy35) ?_
 rintro v37 H39 ⟨_, f38, rfl, e40, m41, i42⟩
 refine s_qk (v37) (by kernel_rfl) ?_
 refine s_nil ?_
 refine k20 _ _ ?_
 refine w_seqk fun K44 k44 => ?_
 refine w_reg (by kernel_rfl) ?_
 refine s_qk (v37) (by kernel_rfl) ?_
 rcases (m41).cases with ⟨h45, rfl⟩ | ⟨h45, t46, x47, rfl⟩
 ·have r48 := ite_t h45 r36
  refine s_qk (.bool false) (by kernel_rfl) ?_
  refine s_nil ?_
  refine k44 _ _ ?_
  refine w_cond false (by kernel_rfl) rfl (fun h => by cases h) (fun _ => ?_)
  refine w_skip ?_
  refine k19 _ _ ?_
  refine w_seqk fun K49 k49 => ?_
  refine w_reg (by kernel_rfl) ?_
  have u50 := ((r17.ext e24).frS e40 Dj.nil_l)
  refine s_ql (.agg #[hd_First, hd_To, hd_Weight]) (x := aLoad Tryd.prog 40 (.pointer (some ⟨b13, 0, none⟩)) H39) (by kernel_rfl) (u50.ld (by kernel_rfl)) ?_
  refine s_qk (.int .i64 s) (by kernel_rfl) ?_
  refine s_qk (.int .i64 hops) (by kernel_rfl) ?_
  refine s_qk (.int .i64 settles) (by kernel_rfl) ?_
  refine s_qk (.int .u64 most) (by kernel_rfl) ?_
  refine s_qk (.agg #[.int .i64 hops, .int .i64 settles, .int .u64 most]) (by kernel_rfl) ?_
  have u51 := (u31.fr e40 Dj.nil_l)
  have u52 := (u32.fr e40 Dj.nil_l)
  have u53 := (u33.fr e40 Dj.nil_l)
  obtain ⟨y54, hy55, r56⟩ := bind_some r48
  refine s_ck 50 #[.agg #[hd_First, hd_To, hd_Weight], .int .i64 s, .agg #[.int .i64 hops, .int .i64 settles, .int .u64 most]] (by kernel_rfl) (c_search_run e40.wf u51 u52 u53 hy55) ?_
  rintro _ H70 ⟨s57, f58, s59, f60, b61, s62, f63, b64, s65, f66, s67, f68, b69, rfl, e71, m72, m73, m74, m75, m76, m77, m78, m79, i80, i81, i82, i83, i84, i85, i86, i87, d88, d89, d90, d91, d92, d93, d94, d95, d96, d97, d98, d99, d100, d101, d102, d103, d104, d105, d106, d107, d108, d109, d110, d111, d112, d113, d114, d115⟩
  obtain ⟨a124, n125, c126, rfl⟩ := m72.form
  obtain ⟨a127, n128, c129, rfl⟩ := m73.form
  obtain ⟨a130, n131, c132, rfl⟩ := m75.form
  obtain ⟨a133, n134, c135, rfl⟩ := m77.form
  obtain ⟨a136, n137, c138, rfl⟩ := m78.form
  refine s_qk (.pointer (some ⟨b69, 0, none⟩)) (by kernel_rfl) ?_
  refine s_nil ?_
  refine k49 _ _ ?_
  refine w_seqk fun K139 k139 => ?_
  refine w_reg (by kernel_rfl) ?_
  refine s_qk (.slice none 0 0) (by kernel_rfl) ?_
  refine s_nil ?_
  refine k139 _ _ ?_
  refine w_seqk fun K140 k140 => ?_
  refine w_seqk fun K141 k141 => ?_
  refine w_reg (by kernel_rfl) ?_
  refine s_qk (.pointer (some ⟨b69, 0, none⟩)) (by kernel_rfl) ?_
  refine s_qk (.pointer (some ⟨b69, 0, none⟩)) (by kernel_rfl) ?_
  refine s_qk (.pointer (some ⟨b69, 4, none⟩)) (by kernel_rfl) ?_
  refine s_ql (.pointer (some ⟨b64, 0, none⟩)) (x := aLoad Tryd.prog 103 (.pointer (some ⟨b69, 4, none⟩)) H70) (by kernel_rfl) (m79.ld (by kernel_rfl)) ?_
  obtain ⟨y142, hy143, r144⟩ := bind_some r56
  refine s_ck 61 #[.pointer (some ⟨b64, 0, none⟩)] (by kernel_rfl) (c_stamp_Stamp_All e71.wf m75.sq m76 hy143) ?_
  rintro s145 H147 ⟨_, f146, rfl, e148, m149, i150⟩
  obtain ⟨a152, n153, c154, rfl⟩ := m149.form
  refine s_ql (.int .i64 (y142.length : Int)) (x := aLen Tryd.prog 22 (.slice a152 n153 c154) H147) (by kernel_rfl) (m149.sq.lenb (by kernel_rfl)) ?_
  refine s_qk (.int .i64 0) (by kernel_rfl) ?_
  refine s_nil ?_
  refine k141 _ _ ?_
  obtain ⟨o155, hx156, r157⟩ := bind_some r144
  refine w_mid (fun α H158 => ∃ (s162 : Value) (f163 : Fp), Has α [(14, s162)] ∧ FrS [] H147 H158 ∧ Ow enc_i64_u64_i64_bool 4 H158 s162 o155 f163 ∧ Inn [] H147 f163) (fun K165 k165 => ?_) (fun α H158 hM => ?_)
  ·refine w_block ?_
   obtain ⟨n167, hn168⟩ := loopO_iff.1 hx156
   refine w_loopn (fun n α H169 => ∃ (l0 : List (Int × Int × Int × Bool)), ∃ (i1 : Int), ∃ (s173 : Value), ∃ (f174 : Fp), iterO (fun zz_ => z_search_Bounded_l0 y54 y142 zz_.1 zz_.2) n (l0, i1) = some o155 ∧ Has α [(13, .pointer (some ⟨b69, 0, none⟩)), (14, s173), (37, .slice a152 n153 c154), (38, .int .i64 (y142.length : Int)), (39, .int .i64 i1)] ∧ FrS [] H147 H169 ∧ Ow enc_i64_u64_i64_bool 4 H169 s173 l0 f174 ∧ Inn [] H147 f174) n167 ⟨[], 0, (.slice none 0 0), [], hn168, ⟨by kernel_rfl, by kernel_rfl, by kernel_rfl, by kernel_rfl, by kernel_rfl, trivial⟩, (FrS.refl (W := []) e148.wf), (Ow.nil (by decide)), Inn.nil⟩ ?_
   rintro n167 α H169 ⟨l0, i1, s173, f174, hi177, hh176, e170, m172, i175⟩ K182 k182
   obtain ⟨n178, z179, rfl, hz180, hn181⟩ := iter_succ hi177
   obtain ⟨β, rfl⟩ := has_ex hh176
   clear hh176
   replace hz180 : z_search_Bounded_l0 y54 y142 l0 i1 = some z179 := hz180
   unfold z_search_Bounded_l0 at hz180
   obtain ⟨a183, n184, c185, rfl⟩ := m172.form
   refine w_seqk fun K186 k186 => ?_
   refine w_reg (by kernel_rfl) ?_
   refine s_qk (.bool (decide (i1 < (y142.length : Int)))) (by kernel_rfl) ?_
   refine s_nil ?_
   refine k186 _ _ ?_
   refine w_seqk fun K187 k187 => ?_
   refine w_condp (i1 < (y142.length : Int)) (by kernel_rfl) rfl (fun h188 => ?_) (fun h188 => ?_)
   ·have r189 := ite_t h188 hz180
    refine w_skip ?_
    refine k187 _ _ ?_
    refine w_seqk fun K190 k190 => ?_
    refine w_block ?_
    refine w_seqk fun K191 k191 => ?_
    refine w_reg (by kernel_rfl) ?_
    obtain ⟨g192, r193⟩ := G_some r189
    have u194 := (m149.fr e170 Dj.nil_l)
    refine s_ql (elp (.slice a152 n153 c154) 1 i1.toNat 0) (x := aIndexAddr Tryd.prog 22 (.slice a152 n153 c154) (.int .i64 i1)) (by kernel_rfl) (u194.sq.idxb (by kernel_rfl) g192 h188) ?_
    refine s_ql (.int .i64 (gt y142 i1)) (x := aLoad Tryd.prog 3 (elp (.slice a152 n153 c154) 1 i1.toNat 0) H169) (by kernel_rfl) (u194.sq.ld g192 h188 (by kernel_rfl)) ?_
    refine s_qk (.int .i64 (gt y142 i1)) (by kernel_rfl) ?_
    refine s_nil ?_
    refine k191 _ _ ?_
    refine w_seqk fun K195 k195 => ?_
    refine w_reg (by kernel_rfl) ?_
    refine s_qk (.pointer (some ⟨b69, 0, none⟩)) (by kernel_rfl) ?_
    refine s_qk (.pointer (some ⟨b69, 0, none⟩)) (by kernel_rfl) ?_
    refine s_qk (.pointer (some ⟨b69, 4, none⟩)) (by kernel_rfl) ?_
    have u196 := ((m79.frS e148 Dj.nil_l).frS e170 Dj.nil_l)
    refine s_ql (.pointer (some ⟨b64, 0, none⟩)) (x := aLoad Tryd.prog 103 (.pointer (some ⟨b69, 4, none⟩)) H169) (by kernel_rfl) (u196.ld (by kernel_rfl)) ?_
    refine s_qk (.int .i64 (gt y142 i1)) (by kernel_rfl) ?_
    have u197 := ((m75.fr e148 Dj.nil_l).fr e170 Dj.nil_l)
    have u198 := ((m76.frS e148 Dj.nil_l).frS e170 Dj.nil_l)
    obtain ⟨y199, hy200, r201⟩ := bind_some r193
    refine s_ck 62 #[.pointer (some ⟨b64, 0, none⟩), .int .i64 (gt y142 i1)] (by kernel_rfl) (c_stamp_Stamp_Get e170.wf u197.sq u198 hy200) ?_
    rintro _ _ ⟨rfl, rfl⟩
    refine s_qk (.tuple #[.int .u64 y199.1, .bool y199.2]) (by kernel_rfl) ?_
    refine s_qk (.int .u64 y199.1) (by kernel_rfl) ?_
    refine s_qk (.bool y199.2) (by kernel_rfl) ?_
    refine s_qk (.int .u64 y199.1) (by kernel_rfl) ?_
    refine s_qk (.bool y199.2) (by kernel_rfl) ?_
    refine s_nil ?_
    refine k195 _ _ ?_
    refine w_draw [0, 1, 2, 3, 4, 5, 6, 7, 8, 9, 10, 11, 12, 13, 14, 15, 16, 17, 18, 19, 20] (by kernel_rfl) ?_
    refine d_qk (.slice a183 n184 c185) (by kernel_rfl) ?_
    refine d_qk (.int .i64 (gt y142 i1)) (by kernel_rfl) ?_
    refine d_qk (.int .u64 y199.1) (by kernel_rfl) ?_
    refine d_qk (.pointer (some ⟨b69, 0, none⟩)) (by kernel_rfl) ?_
    refine d_qk (.pointer (some ⟨b69, 0, none⟩)) (by kernel_rfl) ?_
    refine d_qk (.pointer (some ⟨b69, 5, none⟩)) (by kernel_rfl) ?_
    refine d_ql (.slice a133 n134 c135) (x := aLoad Tryd.prog 22 (.pointer (some ⟨b69, 5, none⟩)) H169) (by kernel_rfl) (u196.ld (by kernel_rfl)) ?_
    refine d_qk (.int .i64 (gt y142 i1)) (by kernel_rfl) ?_
    obtain ⟨g204, r205⟩ := G_some r201
    have u206 := ((m77.fr e148 Dj.nil_l).fr e170 Dj.nil_l)
    refine d_ql (elp (.slice a133 n134 c135) 1 (gt y142 i1).toNat 0) (x := aIndexAddr Tryd.prog 22 (.slice a133 n134 c135) (.int .i64 (gt y142 i1))) (by kernel_rfl) (u206.sq.idxb (by kernel_rfl) g204.1 g204.2) ?_
    refine d_ql (.int .i64 (gt y54.2.2.2.2.2.1 (gt y142 i1))) (x := aLoad Tryd.prog 3 (elp (.slice a133 n134 c135) 1 (gt y142 i1).toNat 0) H169) (by kernel_rfl) (u206.sq.ld g204.1 g204.2 (by kernel_rfl)) ?_
    refine d_qk (.pointer (some ⟨b69, 0, none⟩)) (by kernel_rfl) ?_
    refine d_qk (.pointer (some ⟨b69, 0, none⟩)) (by kernel_rfl) ?_
    refine d_qk (.pointer (some ⟨b69, 6, none⟩)) (by kernel_rfl) ?_
    refine d_ql (.slice a136 n137 c138) (x := aLoad Tryd.prog 104 (.pointer (some ⟨b69, 6, none⟩)) H169) (by kernel_rfl) (u196.ld (by kernel_rfl)) ?_
    refine d_qk (.int .i64 (gt y142 i1)) (by kernel_rfl) ?_
    obtain ⟨g207, r208⟩ := G_some r205
    have u209 := ((m78.fr e148 Dj.nil_l).fr e170 Dj.nil_l)
    refine d_ql (elp (.slice a136 n137 c138) 1 (gt y142 i1).toNat 0) (x := aIndexAddr Tryd.prog 104 (.slice a136 n137 c138) (.int .i64 (gt y142 i1))) (by kernel_rfl) (u209.sq.idxb (by kernel_rfl) g204.1 g207) ?_
    refine d_ql (.bool (gt y54.2.2.2.2.2.2 (gt y142 i1))) (x := aLoad Tryd.prog 4 (elp (.slice a136 n137 c138) 1 (gt y142 i1).toNat 0) H169) (by kernel_rfl) (u209.sq.ld g204.1 g207 (by kernel_rfl)) ?_
    refine d_qk (.agg #[.int .i64 (gt y142 i1), .int .u64 y199.1, .int .i64 (gt y54.2.2.2.2.2.1 (gt y142 i1)), .bool (gt y54.2.2.2.2.2.2 (gt y142 i1))]) (by kernel_rfl) ?_
    refine d_owk (enc := enc_i64_u64_i64_bool) (sz := 4) e170.wf [((gt y142 i1), y199.1, (gt y54.2.2.2.2.2.1 (gt y142 i1)), (gt y54.2.2.2.2.2.2 (gt y142 i1)))] 1 (by decide) (fun _ _ => rfl) (fun _ _ => rfl) rfl (by kernel_rfl) fun s210 f211 H212 e213 hf214 hm215 => ?_
    obtain ⟨a216, n217, c218, rfl⟩ := hm215.form
    have u220 := (m172.ext e213)
    obtain ⟨g221, r222⟩ := G_some r208
    obtain ⟨s223, H224, f225, q229, e226, hm227, hf228⟩ := Ow.append (P := Tryd.prog) 32 e213.wf u220 hm215.sq (fun _ _ => rfl) (at_ := #[60, 60]) rfl rfl (by kernel_rfl) (by kernel_rfl) (by decide) (by have := g221; first | omega | (simp only [List.length_cons, List.length_nil] at this ⊢; omega) | (simp at this ⊢; omega))
    obtain ⟨a230, n231, c232, rfl⟩ := hm227.form
    refine d_ek (.slice a230 n231 c232) (by kernel_rfl) (q229) (st_nil) ?_
    refine d_qk (.slice a230 n231 c232) (by kernel_rfl) ?_
    refine d_nil ?_
    refine k190 _ _ ?_
    refine w_reg (by kernel_rfl) ?_
    obtain ⟨g234, r235⟩ := G_some r222
    refine s_w ((i1 + 1)) (k := .i64) (x := (i1 + 1)) (by kernel_rfl) (wrap64 (by have := g234; omega)) ?_
    refine s_qk (.int .i64 (i1 + 1)) (by kernel_rfl) ?_
    refine s_nil ?_
    obtain rfl := Option.some.inj r235
    exact k182 n178 _ _ (Nat.lt_succ_self _) ⟨(l0 ++ [((gt y142 i1), y199.1, (gt y54.2.2.2.2.2.1 (gt y142 i1)), (gt y54.2.2.2.2.2.2 (gt y142 i1)))]), (i1 + 1), (.slice a230 n231 c232), f225, hn181, ⟨by kernel_rfl, by kernel_rfl, by kernel_rfl, by kernel_rfl, by kernel_rfl, trivial⟩, (FrS.step e148.wf ((FrS.step e148.wf (FrS.refl (W := []) e148.wf) e170 Inn.nil).extR e213) e226 (i175.fresh (Nat.le_refl _))), hm227, (Inn.trans (i175.fresh (Nat.le_refl _)) (ntr e170.next e213.next) hf228)⟩
   ·have r236 := ite_f h188 hz180
    refine w_exit (th_exit (th_exit (bl_eq ?_)))
    obtain rfl := Option.some.inj r236
    obtain rfl := it_inr hn181
    exact k165 _ _ ⟨(.slice a183 n184 c185), f174, ⟨by kernel_rfl, trivial⟩, (FrS.step e148.wf (FrS.refl (W := []) e148.wf) e170 Inn.nil), m172, (i175.fresh (Nat.le_refl _))⟩
  ·obtain ⟨s162, f163, hh166, e159, m161, i164⟩ := hM
   obtain ⟨β, rfl⟩ := has_ex hh166
   clear hh166
   obtain ⟨a237, n238, c239, rfl⟩ := m161.form
   refine k140 _ _ ?_
   refine w_seqk fun K240 k240 => ?_
   refine w_reg (by kernel_rfl) ?_
   refine s_qk (.slice a237 n238 c239) (by kernel_rfl) ?_
   refine s_qk (.slice a237 n238 c239) (by kernel_rfl) ?_
   refine s_qk (.nilIface) (by kernel_rfl) ?_
   refine s_nil ?_
   refine k240 _ _ ?_
   refine w_ret ?_
   refine b_ret (fn := Tryd.f32) (vs := [.slice a237 n238 c239, .nilIface]) (aRes_tmp (by kernel_rfl) (aRes_tmp (by kernel_rfl) (rfl))) ?_
   obtain rfl := Option.some.inj r157
   exact ⟨(.slice a237 n238 c239), f163, (.nilIface), [], rfl, (FrS.step wf (FrS.step wf (FrS.step wf (FrS.step wf (((FrS.refl (W := []) wf).extR e15).extR e24) e40 Inn.nil) e71 Inn.nil) e148 Inn.nil) e159 Inn.nil), m161, Ev.nil, (i164.fresh (ntr (ntr (ntr (ntr e15.next e24.next) e40.next) e71.next) e148.next)), Inn.nil, Dj.nil_r⟩
 ·have r241 := ite_f h45 r36
  refine s_ql (.bool true) (x := aBin Tryd.prog .neq 25 (.tmp 23) (.const .nilIface) (.iface t46 x47) .nilIface) (by kernel_rfl) (aBin_nnil (by kernel_rfl)) ?_
  refine s_nil ?_
  refine k44 _ _ ?_
  refine w_cond true (by kernel_rfl) rfl (fun _ => ?_) (fun h => by cases h)
  refine w_seqk fun K242 k242 => ?_
  refine w_reg (by kernel_rfl) ?_
  refine s_qk (.iface t46 x47) (by kernel_rfl) ?_
  refine s_qk (.slice none 0 0) (by kernel_rfl) ?_
  refine s_qk (.iface t46 x47) (by kernel_rfl) ?_
  refine s_nil ?_
  refine k242 _ _ ?_
  refine w_ret (th_ret ?_)
  refine b_ret (fn := Tryd.f32) (vs := [.slice none 0 0, .iface t46 x47]) (aRes_tmp (by kernel_rfl) (aRes_tmp (by kernel_rfl) (rfl))) ?_
  obtain rfl := Option.some.inj r241
  exact ⟨(.slice none 0 0), [], (.iface t46 x47), f38, rfl, (FrS.step wf (((FrS.refl (W := []) wf).extR e15).extR e24) e40 Inn.nil), (Ow.nil (by decide)), m41, Inn.nil, (i42.fresh (ntr e15.next e24.next)), Dj.nil_l⟩

theorem c_viaductref05_Node {H : AH} {hd_First : Value} {fp_First : Fp} {hd_To : Value} {fp_To : Fp} {hd_Weight : Value} {fp_Weight : Fp} {First : List (Int)} {To : List (Int)} {Weight : List (Int)} {v_ : Int} {r : Bool}
  (wf : WF H) (h_First : Sq (encI .i64) 1 H hd_First First fp_First) (h_To : Sq (encI .i64) 1 H hd_To To fp_To) (h_Weight : Sq (encI .i64) 1 H hd_Weight Weight fp_Weight) (hr : z_viaductref05_Node First To Weight v_ = some r) :
  ACalls Tryd.prog 55 #[.agg #[hd_First, hd_To, hd_Weight], .int .i64 v_] H fun v H' => v = .bool r ∧ FrS [] H H' := by
 refine acalls_of_body mixed Tryd.func55 rfl (Nat.le_of_ble_eq_true rfl) ?_
 unfold z_viaductref05_Node at hr
 refine w_seqk fun K1 k1 => ?_
 refine w_reg (by kernel_rfl) ?_
 refine s_rwl wf [hd_First, hd_To, hd_Weight] (one_cons (h_First.one1) (one_cons (h_To.one1) (one_cons (h_Weight.one1) (one_nil)))) (by kernel_rfl) fun b2 H3 e4 hb5 r6 => ?_
 refine s_qk (.bool false) (by kernel_rfl) ?_
 refine s_nil ?_
 refine k1 _ _ ?_
 refine w_seqk fun K8 k8 => ?_
 refine w_reg (by kernel_rfl) ?_
 refine s_qk (.int .i64 v_) (by kernel_rfl) ?_
 refine s_b (v_ ≥ 0) (by kernel_rfl) (fun h9 => ?_) (fun h9 => ?_)
 ·have r10 := ite_t h9 hr
  refine s_qk (.bool true) (by kernel_rfl) ?_
  refine s_qk (.int .i64 v_) (by kernel_rfl) ?_
  refine s_qk (.pointer (some ⟨b2, 0, none⟩)) (by kernel_rfl) ?_
  refine s_ql (hd_First) (x := aLoad Tryd.prog 22 (.pointer (some ⟨b2, 0, none⟩)) H3) (by kernel_rfl) (r6.ld (by kernel_rfl)) ?_
  have u11 := (h_First.ext e4)
  refine s_ql (.int .i64 (First.length : Int)) (x := aLen Tryd.prog 22 hd_First H3) (by kernel_rfl) (u11.lenb (by kernel_rfl)) ?_
  obtain ⟨g12, r13⟩ := G_some r10
  refine s_w (((First.length : Int) - 1)) (k := .i64) (x := ((First.length : Int) - 1)) (by kernel_rfl) (wrap64 g12) ?_
  refine s_qk (.bool (decide (v_ < ((First.length : Int) - 1)))) (by kernel_rfl) ?_
  refine s_qk (.bool (decide (v_ < ((First.length : Int) - 1)))) (by kernel_rfl) ?_
  refine s_qk (.bool (decide (v_ < ((First.length : Int) - 1)))) (by kernel_rfl) ?_
  refine s_nil ?_
  refine k8 _ _ ?_
  refine w_ret ?_
  refine b_ret (fn := Tryd.f55) (vs := [.bool (decide (v_ < ((First.length : Int) - 1)))]) (aRes_tmp (by kernel_rfl) (rfl)) ?_
  obtain rfl := Option.some.inj r13
  exact ⟨rfl, ((FrS.refl (W := []) wf).extR e4)⟩
 ·have r14 := ite_f h9 hr
  refine s_qk (.bool false) (by kernel_rfl) ?_
  refine s_no (by kernel_rfl) ?_
  refine s_no (by kernel_rfl) ?_
  refine s_no (by kernel_rfl) ?_
  refine s_no (by kernel_rfl) ?_
  refine s_no (by kernel_rfl) ?_
  refine s_no (by kernel_rfl) ?_
  refine s_qk (.bool false) (by kernel_rfl) ?_
  refine s_qk (.bool false) (by kernel_rfl) ?_
  refine s_nil ?_
  refine k8 _ _ ?_
  refine w_ret ?_
  refine b_ret (fn := Tryd.f55) (vs := [.bool false]) (aRes_tmp (by kernel_rfl) (rfl)) ?_
  obtain rfl := Option.some.inj r14
  exact ⟨rfl, ((FrS.refl (W := []) wf).extR e4)⟩

theorem c_viaductref08_node {H : AH} {hd_First : Value} {fp_First : Fp} {hd_To : Value} {fp_To : Fp} {hd_Weight : Value} {fp_Weight : Fp} {First : List (Int)} {To : List (Int)} {Weight : List (Int)} {s : Int} {r : Int × List (Int × Int)}
  (wf : WF H) (h_First : Sq (encI .i64) 1 H hd_First First fp_First) (h_To : Sq (encI .i64) 1 H hd_To To fp_To) (h_Weight : Sq (encI .i64) 1 H hd_Weight Weight fp_Weight) (hr : z_viaductref08_node First To Weight s = some r) :
  ACalls Tryd.prog 54 #[.agg #[hd_First, hd_To, hd_Weight], .int .i64 s] H fun v H' => ∃ (s3 : Value) (f4 : Fp), v = .agg #[.int .i64 r.1, s3] ∧ FrS [] H H' ∧ Ow enc_i64_i64 2 H' s3 r.2 f4 ∧ Inn [] H f4 := by
 refine acalls_of_body mixed Tryd.func54 rfl (Nat.le_of_ble_eq_true rfl) ?_
 unfold z_viaductref08_node at hr
 refine w_seqk fun K6 k6 => ?_
 refine w_reg (by kernel_rfl) ?_
 refine s_rwl wf [hd_First, hd_To, hd_Weight] (one_cons (h_First.one1) (one_cons (h_To.one1) (one_cons (h_Weight.one1) (one_nil)))) (by kernel_rfl) fun b7 H8 e9 hb10 r11 => ?_
 refine s_rwk e9.wf [.int .i64 0, .slice none 0 0] (by kernel_rfl) fun b13 H14 e15 hb16 r17 => ?_
 refine s_nil ?_
 refine k6 _ _ ?_
 refine w_seqk fun K19 k19 => ?_
 refine w_reg (by kernel_rfl) ?_
 have u20 := (r11.ext e15)
 refine s_ql (.agg #[hd_First, hd_To, hd_Weight]) (x := aLoad Tryd.prog 37 (.pointer (some ⟨b7, 0, none⟩)) H14) (by kernel_rfl) (u20.ld (by kernel_rfl)) ?_
 have u21 := ((h_First.ext e9).ext e15)
 have u22 := ((h_To.ext e9).ext e15)
 have u23 := ((h_Weight.ext e9).ext e15)
 obtain ⟨y24, hy25, r26⟩ := bind_some hr
 refine s_ck 48 #[.agg #[hd_First, hd_To, hd_Weight]] (by kernel_rfl) (c_viaductref05_DocCheck e15.wf u21 u22 u23 hy25) ?_
 rintro _ H29 ⟨s27, f28, rfl, e30, m31, i32⟩
 obtain ⟨a34, n35, c36, rfl⟩ := m31.form
 refine s_rwk e30.wf [.int .i64 0, .slice none 0 0] (by kernel_rfl) fun b37 H38 e39 hb40 r41 => ?_
 have u47 := (m31.ext e39)
 obtain ⟨H43, q44, e45, r46⟩ := Row.store (P := Tryd.prog) (t := 31) (p := 0) e39.wf r41 (.agg #[.int .i64 y24.1, .slice a34 n35 c36]) [.int .i64 y24.1, .slice a34 n35 c36] (by kernel_rfl) (by kernel_rfl) (one_cons (rfl) (one_cons (u47.one1) (one_nil))) (Nat.le_of_ble_eq_true (by kernel_rfl)) [.int .i64 y24.1, .slice a34 n35 c36] (by kernel_rfl)
 refine s_ek (undef) (by kernel_rfl) (map_ok q44) ?_
 refine s_nil ?_
 refine k19 _ _ ?_
 refine w_seqk fun K48 k48 => ?_
 refine w_seqk fun K49 k49 => ?_
 obtain ⟨o50, hx51, r52⟩ := bind_some r26
 refine w_mid (fun α H53 => Has α [(4, .pointer (some ⟨b13, 0, none⟩)), (5, .pointer (some ⟨b37, 0, none⟩)), (16, .bool o50)] ∧ FrS [] H43 H53) (fun K55 k55 => ?_) (fun α H53 hM => ?_)
 ·refine w_reg (by kernel_rfl) ?_
  refine s_ql (.agg #[.int .i64 y24.1, .slice a34 n35 c36]) (x := aLoad Tryd.prog 31 (.pointer (some ⟨b37, 0, none⟩)) H43) (by kernel_rfl) (r46.ld (by kernel_rfl)) ?_
  have u57 := (u47.fr e45 (hb40.djn m31.lt))
  obtain ⟨y58, hy59, r60⟩ := bind_some hx51
  refine s_ck 24 #[.agg #[.int .i64 y24.1, .slice a34 n35 c36]] (by kernel_rfl) (c_viaductref01_Err_Bad e45.wf u57.sq hy59) ?_
  rintro _ H61 ⟨rfl, e62⟩
  by_cases h63 : y58 = true
  ·have r64 := ite_t h63 r60
   rw [h63]
   refine s_qk (.bool false) (by kernel_rfl) ?_
   refine s_qk (.bool false) (by kernel_rfl) ?_
   refine s_no (by kernel_rfl) ?_
   refine s_no (by kernel_rfl) ?_
   refine s_no (by kernel_rfl) ?_
   refine s_no (by kernel_rfl) ?_
   refine s_qk (.bool false) (by kernel_rfl) ?_
   refine s_nil ?_
   obtain rfl := Option.some.inj r64
   exact k55 _ _ ⟨⟨by kernel_rfl, by kernel_rfl, by kernel_rfl, trivial⟩, (FrS.step e45.wf (FrS.refl (W := []) e45.wf) e62 Inn.nil)⟩
  ·have r66 := ite_f h63 r60
   rw [nb h63]
   refine s_qk (.bool true) (by kernel_rfl) ?_
   refine s_qk (.bool true) (by kernel_rfl) ?_
   have u68 := ((((u20.frS e30 Dj.nil_l).ext e39).frS e45 (hb40.djn (r11.ltF.le (ntr e15.next e30.next)))).frS e62 Dj.nil_l)
   refine s_ql (.agg #[hd_First, hd_To, hd_Weight]) (x := aLoad Tryd.prog 37 (.pointer (some ⟨b7, 0, none⟩)) H61) (by kernel_rfl) (u68.ld (by kernel_rfl)) ?_
   refine s_qk (.int .i64 s) (by kernel_rfl) ?_
   have u69 := ((((u21.fr e30 Dj.nil_l).ext e39).fr e45 (hb40.djn (h_First.lt.le (ntr (ntr e9.next e15.next) e30.next)))).fr e62 Dj.nil_l)
   have u70 := ((((u22.fr e30 Dj.nil_l).ext e39).fr e45 (hb40.djn (h_To.lt.le (ntr (ntr e9.next e15.next) e30.next)))).fr e62 Dj.nil_l)
   have u71 := ((((u23.fr e30 Dj.nil_l).ext e39).fr e45 (hb40.djn (h_Weight.lt.le (ntr (ntr e9.next e15.next) e30.next)))).fr e62 Dj.nil_l)
   obtain ⟨y72, hy73, r74⟩ := bind_some r66
   refine s_ck 55 #[.agg #[hd_First, hd_To, hd_Weight], .int .i64 s] (by kernel_rfl) (c_viaductref05_Node e62.wf u69 u70 u71 hy73) ?_
   rintro _ H75 ⟨rfl, e76⟩
   refine s_qk (.bool (!y72)) (by kernel_rfl) ?_
   refine s_qk (.bool (!y72)) (by kernel_rfl) ?_
   refine s_nil ?_
   obtain rfl := Option.some.inj r74
   exact k55 _ _ ⟨⟨by kernel_rfl, by kernel_rfl, by kernel_rfl, trivial⟩, (FrS.step e45.wf (FrS.step e45.wf (FrS.refl (W := []) e45.wf) e62 Inn.nil) e76 Inn.nil)⟩
 ·obtain ⟨hh56, e54⟩ := hM
  obtain ⟨β, rfl⟩ := has_ex hh56
  clear hh56
  refine k49 _ _ ?_
  refine w_cond (o50) (by kernel_rfl) rfl (fun h77 => ?_) (fun h77 => ?_)
  ·have r78 := ite_t h77 r52
   refine w_reg (by kernel_rfl) ?_
   obtain ⟨y79, hy80, r81⟩ := bind_some r78
   refine s_ck 41 #[.int .i64 7] (by kernel_rfl) (c_viaductref01_E e54.wf hy80) ?_
   rintro _ H82 ⟨rfl, e83⟩
   have u88 := ((r46.frS e54 Dj.nil_l).frS e83 Dj.nil_l)
   obtain ⟨H84, q85, e86, r87⟩ := Row.store (P := Tryd.prog) (t := 31) (p := 0) e83.wf u88 (.agg #[.int .i64 y79, .slice none 0 0]) [.int .i64 y79, .slice none 0 0] (by kernel_rfl) (by kernel_rfl) (one_cons (rfl) (one_cons (rfl) (one_nil))) (Nat.le_of_ble_eq_true (by kernel_rfl)) [.int .i64 y79, .slice none 0 0] (by kernel_rfl)
   refine s_ek (undef) (by kernel_rfl) (map_ok q85) ?_
   refine s_nil ?_
   refine k48 _ _ ?_
   refine w_seqk fun K89 k89 => ?_
   refine w_reg (by kernel_rfl) ?_
   refine s_ql (.agg #[.int .i64 y79, .slice none 0 0]) (x := aLoad Tryd.prog 31 (.pointer (some ⟨b37, 0, none⟩)) H84) (by kernel_rfl) (r87.ld (by kernel_rfl)) ?_
   have u94 := ((((((r17.frS e30 Dj.nil_l).ext e39).frS e45 (hb40.djn (r17.ltF.le e30.next))).frS e54 Dj.nil_l).frS e83 Dj.nil_l).frS e86 (hb40.djn (r17.ltF.le e30.next)))
   obtain ⟨H90, q91, e92, r93⟩ := Row.store (P := Tryd.prog) (t := 31) (p := 0) e86.wf u94 (.agg #[.int .i64 y79, .slice none 0 0]) [.int .i64 y79, .slice none 0 0] (by kernel_rfl) (by kernel_rfl) (one_cons (rfl) (one_cons (rfl) (one_nil))) (Nat.le_of_ble_eq_true (by kernel_rfl)) [.int .i64 y79, .slice none 0 0] (by kernel_rfl)
   refine s_ek (undef) (by kernel_rfl) (map_ok q91) ?_
   refine s_nil ?_
   refine k89 _ _ ?_
   refine w_ret ?_
   refine b_ret (fn := Tryd.f54) (vs := [.agg #[.int .i64 y79, .slice none 0 0]]) (aRes_cell (Eq.trans (b := aLoad Tryd.prog 31 (.pointer (some ⟨b13, 0, none⟩)) H90) (by kernel_rfl) (r93.ld (by kernel_rfl))) (rfl)) ?_
   obtain rfl := Option.some.inj r81
   exact ⟨(.slice none 0 0), [], rfl, (FrS.step wf (FrS.step wf (FrS.step wf (FrS.step wf (FrS.step wf ((FrS.step wf (((FrS.refl (W := []) wf).extR e9).extR e15) e30 Inn.nil).extR e39) e45 (hb40.fresh (ntr (ntr e9.next e15.next) e30.next))) e54 Inn.nil) e83 Inn.nil) e86 (hb40.fresh (ntr (ntr e9.next e15.next) e30.next))) e92 (hb16.fresh e9.next)), (Ow.nil (by decide)), Inn.nil⟩
  ·have r95 := ite_bf h77 r52
   refine w_skip ?_
   refine k48 _ _ ?_
   refine w_seqk fun K96 k96 => ?_
   refine w_reg (by kernel_rfl) ?_
   have u97 := (r46.frS e54 Dj.nil_l)
   refine s_ql (.agg #[.int .i64 y24.1, .slice a34 n35 c36]) (x := aLoad Tryd.prog 31 (.pointer (some ⟨b37, 0, none⟩)) H53) (by kernel_rfl) (u97.ld (by kernel_rfl)) ?_
   have u102 := ((((r17.frS e30 Dj.nil_l).ext e39).frS e45 (hb40.djn (r17.ltF.le e30.next))).frS e54 Dj.nil_l)
   have u103 := ((u47.fr e45 (hb40.djn m31.lt)).fr e54 Dj.nil_l)
   obtain ⟨H98, q99, e100, r101⟩ := Row.store (P := Tryd.prog) (t := 31) (p := 0) e54.wf u102 (.agg #[.int .i64 y24.1, .slice a34 n35 c36]) [.int .i64 y24.1, .slice a34 n35 c36] (by kernel_rfl) (by kernel_rfl) (one_cons (rfl) (one_cons (u103.one1) (one_nil))) (Nat.le_of_ble_eq_true (by kernel_rfl)) [.int .i64 y24.1, .slice a34 n35 c36] (by kernel_rfl)
   refine s_ek (undef) (by kernel_rfl) (map_ok q99) ?_
   refine s_nil ?_
   refine k96 _ _ ?_
   refine w_ret ?_
   refine b_ret (fn := Tryd.f54) (vs := [.agg #[.int .i64 y24.1, .slice a34 n35 c36]]) (aRes_cell (Eq.trans (b := aLoad Tryd.prog 31 (.pointer (some ⟨b13, 0, none⟩)) H98) (by kernel_rfl) (r101.ld (by kernel_rfl))) (rfl)) ?_
   have u104 := (u103.fr e100 (Dj.symm (i32.djn r17.ltF)))
   obtain rfl := Option.some.inj r95
   exact ⟨(.slice a34 n35 c36), f28, rfl, (FrS.step wf (FrS.step wf (FrS.step wf ((FrS.step wf (((FrS.refl (W := []) wf).extR e9).extR e15) e30 Inn.nil).extR e39) e45 (hb40.fresh (ntr (ntr e9.next e15.next) e30.next))) e54 Inn.nil) e100 (hb16.fresh e9.next)), u104, (i32.fresh (ntr e9.next e15.next))⟩

theorem c_viaductref05_Row {H : AH} {hd_First : Value} {fp_First : Fp} {hd_To : Value} {fp_To : Fp} {hd_Weight : Value} {fp_Weight : Fp} {First : List (Int)} {To : List (Int)} {Weight : List (Int)} {v_ : Int} {r : List (Int × Int × Int)}
  (wf : WF H) (h_First : Sq (encI .i64) 1 H hd_First First fp_First) (h_To : Sq (encI .i64) 1 H hd_To To fp_To) (h_Weight : Sq (encI .i64) 1 H hd_Weight Weight fp_Weight) (hr : z_viaductref05_Row First To Weight v_ = some r) :
  ACalls Tryd.prog 63 #[.agg #[hd_First, hd_To, hd_Weight], .int .i64 v_] H fun v H' => ∃ (s3 : Value) (f4 : Fp), v = s3 ∧ FrS [] H H' ∧ Ow enc_i64_i64_i64 3 H' s3 r f4 ∧ Inn [] H f4 := by
 refine acalls_of_body mixed Tryd.func63 rfl (Nat.le_of_ble_eq_true rfl) ?_
 unfold z_viaductref05_Row at hr
 refine w_seqk fun K6 k6 => ?_
 refine w_reg (by kernel_rfl) ?_
 refine s_rwl wf [hd_First, hd_To, hd_Weight] (one_cons (h_First.one1) (one_cons (h_To.one1) (one_cons (h_Weight.one1) (one_nil)))) (by kernel_rfl) fun b7 H8 e9 hb10 r11 => ?_
 refine s_qk (.slice none 0 0) (by kernel_rfl) ?_
 refine s_nil ?_
 refine k6 _ _ ?_
 refine w_seqk fun K13 k13 => ?_
 refine w_reg (by kernel_rfl) ?_
 refine s_qk (.slice none 0 0) (by kernel_rfl) ?_
 refine s_nil ?_
 refine k13 _ _ ?_
 refine w_seqk fun K14 k14 => ?_
 refine w_seqk fun K15 k15 => ?_
 refine w_reg (by kernel_rfl) ?_
 refine s_qk (.pointer (some ⟨b7, 0, none⟩)) (by kernel_rfl) ?_
 refine s_ql (hd_First) (x := aLoad Tryd.prog 22 (.pointer (some ⟨b7, 0, none⟩)) H8) (by kernel_rfl) (r11.ld (by kernel_rfl)) ?_
 refine s_qk (.int .i64 v_) (by kernel_rfl) ?_
 obtain ⟨g16, r17⟩ := G_some hr
 have u18 := (h_First.ext e9)
 refine s_ql (elp hd_First 1 v_.toNat 0) (x := aIndexAddr Tryd.prog 22 hd_First (.int .i64 v_)) (by kernel_rfl) (u18.idxb (by kernel_rfl) g16.1 g16.2) ?_
 refine s_ql (.int .i64 (gt First v_)) (x := aLoad Tryd.prog 3 (elp hd_First 1 v_.toNat 0) H8) (by kernel_rfl) (u18.ld g16.1 g16.2 (by kernel_rfl)) ?_
 refine s_qk (.int .i64 (gt First v_)) (by kernel_rfl) ?_
 refine s_nil ?_
 refine k15 _ _ ?_
 obtain ⟨o19, hx20, r21⟩ := bind_some r17
 refine w_mid (fun α H22 => ∃ (s26 : Value) (f27 : Fp), Has α [(5, s26)] ∧ FrS [] H8 H22 ∧ Ow enc_i64_i64_i64 3 H22 s26 o19 f27 ∧ Inn [] H8 f27) (fun K29 k29 => ?_) (fun α H22 hM => ?_)
 ·refine w_block ?_
  obtain ⟨n31, hn32⟩ := loopO_iff.1 hx20
  refine w_loopn (fun n α H33 => ∃ (l0 : List (Int × Int × Int)), ∃ (i1 : Int), ∃ (s37 : Value), ∃ (f38 : Fp), iterO (fun zz_ => z_viaductref05_Row_l0 First To Weight v_ zz_.1 zz_.2) n (l0, i1) = some o19 ∧ Has α [(1, .int .i64 v_), (2, .pointer (some ⟨b7, 0, none⟩)), (5, s37), (6, .int .i64 i1)] ∧ FrS [] H8 H33 ∧ Ow enc_i64_i64_i64 3 H33 s37 l0 f38 ∧ Inn [] H8 f38) n31 ⟨[], (gt First v_), (.slice none 0 0), [], hn32, ⟨by kernel_rfl, by kernel_rfl, by kernel_rfl, by kernel_rfl, trivial⟩, (FrS.refl (W := []) e9.wf), (Ow.nil (by decide)), Inn.nil⟩ ?_
  rintro n31 α H33 ⟨l0, i1, s37, f38, hi41, hh40, e34, m36, i39⟩ K46 k46
  obtain ⟨n42, z43, rfl, hz44, hn45⟩ := iter_succ hi41
  obtain ⟨β, rfl⟩ := has_ex hh40
  clear hh40
  replace hz44 : z_viaductref05_Row_l0 First To Weight v_ l0 i1 = some z43 := hz44
  unfold z_viaductref05_Row_l0 at hz44
  obtain ⟨a47, n48, c49, rfl⟩ := m36.form
  refine w_seqk fun K50 k50 => ?_
  refine w_seqk fun K51 k51 => ?_
  refine w_reg (by kernel_rfl) ?_
  refine s_qk (.int .i64 i1) (by kernel_rfl) ?_
  refine s_qk (.pointer (some ⟨b7, 0, none⟩)) (by kernel_rfl) ?_
  have u52 := (r11.frS e34 Dj.nil_l)
  refine s_ql (hd_First) (x := aLoad Tryd.prog 22 (.pointer (some ⟨b7, 0, none⟩)) H33) (by kernel_rfl) (u52.ld (by kernel_rfl)) ?_
  refine s_qk (.int .i64 v_) (by kernel_rfl) ?_
  obtain ⟨g53, r54⟩ := G_some hz44
  refine s_w ((v_ + 1)) (k := .i64) (x := (v_ + 1)) (by kernel_rfl) (wrap64 (by have := g53; omega)) ?_
  obtain ⟨g55, r56⟩ := G_some r54
  have u57 := (u18.fr e34 Dj.nil_l)
  refine s_ql (elp hd_First 1 (v_ + 1).toNat 0) (x := aIndexAddr Tryd.prog 22 hd_First (.int .i64 (v_ + 1))) (by kernel_rfl) (u57.idxb (by kernel_rfl) g55.1 g55.2) ?_
  refine s_ql (.int .i64 (gt First (v_ + 1))) (x := aLoad Tryd.prog 3 (elp hd_First 1 (v_ + 1).toNat 0) H33) (by kernel_rfl) (u57.ld g55.1 g55.2 (by kernel_rfl)) ?_
  refine s_qk (.bool (decide (i1 < (gt First (v_ + 1))))) (by kernel_rfl) ?_
  refine s_nil ?_
  refine k51 _ _ ?_
  refine w_condp (i1 < (gt First (v_ + 1))) (by kernel_rfl) rfl (fun h58 => ?_) (fun h58 => ?_)
  ·have r59 := ite_t h58 r56
   refine w_skip ?_
   refine k50 _ _ ?_
   refine w_seqk fun K60 k60 => ?_
   refine w_block ?_
   refine w_draw [0, 1, 2, 3, 4, 5, 6, 7, 8, 9, 10, 11, 12, 13, 14, 15] (by kernel_rfl) ?_
   refine d_qk (.slice a47 n48 c49) (by kernel_rfl) ?_
   refine d_qk (.int .i64 v_) (by kernel_rfl) ?_
   refine d_qk (.pointer (some ⟨b7, 1, none⟩)) (by kernel_rfl) ?_
   refine d_ql (hd_To) (x := aLoad Tryd.prog 22 (.pointer (some ⟨b7, 1, none⟩)) H33) (by kernel_rfl) (u52.ld (by kernel_rfl)) ?_
   refine d_qk (.int .i64 i1) (by kernel_rfl) ?_
   obtain ⟨g61, r62⟩ := G_some r59
   have u63 := ((h_To.ext e9).fr e34 Dj.nil_l)
   refine d_ql (elp hd_To 1 i1.toNat 0) (x := aIndexAddr Tryd.prog 22 hd_To (.int .i64 i1)) (by kernel_rfl) (u63.idxb (by kernel_rfl) g61.1 g61.2) ?_
   refine d_ql (.int .i64 (gt To i1)) (x := aLoad Tryd.prog 3 (elp hd_To 1 i1.toNat 0) H33) (by kernel_rfl) (u63.ld g61.1 g61.2 (by kernel_rfl)) ?_
   refine d_qk (.pointer (some ⟨b7, 2, none⟩)) (by kernel_rfl) ?_
   refine d_ql (hd_Weight) (x := aLoad Tryd.prog 22 (.pointer (some ⟨b7, 2, none⟩)) H33) (by kernel_rfl) (u52.ld (by kernel_rfl)) ?_
   refine d_qk (.int .i64 i1) (by kernel_rfl) ?_
   obtain ⟨g64, r65⟩ := G_some r62
   have u66 := ((h_Weight.ext e9).fr e34 Dj.nil_l)
   refine d_ql (elp hd_Weight 1 i1.toNat 0) (x := aIndexAddr Tryd.prog 22 hd_Weight (.int .i64 i1)) (by kernel_rfl) (u66.idxb (by kernel_rfl) g61.1 g64) ?_
   refine d_ql (.int .i64 (gt Weight i1)) (x := aLoad Tryd.prog 3 (elp hd_Weight 1 i1.toNat 0) H33) (by kernel_rfl) (u66.ld g61.1 g64 (by kernel_rfl)) ?_
   refine d_qk (.agg #[.int .i64 v_, .int .i64 (gt To i1), .int .i64 (gt Weight i1)]) (by kernel_rfl) ?_
   refine d_owk (enc := enc_i64_i64_i64) (sz := 3) e34.wf [(v_, (gt To i1), (gt Weight i1))] 1 (by decide) (fun _ _ => rfl) (fun _ _ => rfl) rfl (by kernel_rfl) fun s67 f68 H69 e70 hf71 hm72 => ?_
   obtain ⟨a73, n74, c75, rfl⟩ := hm72.form
   have u77 := (m36.ext e70)
   obtain ⟨g78, r79⟩ := G_some r65
   obtain ⟨s80, H81, f82, q86, e83, hm84, hf85⟩ := Ow.append (P := Tryd.prog) 24 e70.wf u77 hm72.sq (fun _ _ => rfl) (at_ := #[120, 120]) rfl rfl (by kernel_rfl) (by kernel_rfl) (by decide) (by have := g78; first | omega | (simp only [List.length_cons, List.length_nil] at this ⊢; omega) | (simp at this ⊢; omega))
   obtain ⟨a87, n88, c89, rfl⟩ := hm84.form
   refine d_ek (.slice a87 n88 c89) (by kernel_rfl) (q86) (st_nil) ?_
   refine d_qk (.slice a87 n88 c89) (by kernel_rfl) ?_
   refine d_nil ?_
   refine k60 _ _ ?_
   refine w_reg (by kernel_rfl) ?_
   refine s_qk (.int .i64 i1) (by kernel_rfl) ?_
   obtain ⟨g91, r92⟩ := G_some r79
   refine s_w ((i1 + 1)) (k := .i64) (x := (i1 + 1)) (by kernel_rfl) (wrap64 (by have := g91; omega)) ?_
   refine s_qk (.int .i64 (i1 + 1)) (by kernel_rfl) ?_
   refine s_nil ?_
   obtain rfl := Option.some.inj r92
   exact k46 n42 _ _ (Nat.lt_succ_self _) ⟨(l0 ++ [(v_, (gt To i1), (gt Weight i1))]), (i1 + 1), (.slice a87 n88 c89), f82, hn45, ⟨by kernel_rfl, by kernel_rfl, by kernel_rfl, by kernel_rfl, trivial⟩, (FrS.step e9.wf ((FrS.step e9.wf (FrS.refl (W := []) e9.wf) e34 Inn.nil).extR e70) e83 (i39.fresh (Nat.le_refl _))), hm84, (Inn.trans (i39.fresh (Nat.le_refl _)) (ntr e34.next e70.next) hf85)⟩
  ·have r93 := ite_f h58 r56
   refine w_exit (th_exit (th_exit (bl_eq ?_)))
   obtain rfl := Option.some.inj r93
   obtain rfl := it_inr hn45
   exact k29 _ _ ⟨(.slice a47 n48 c49), f38, ⟨by kernel_rfl, trivial⟩, (FrS.step e9.wf (FrS.refl (W := []) e9.wf) e34 Inn.nil), m36, (i39.fresh (Nat.le_refl _))⟩
 ·obtain ⟨s26, f27, hh30, e23, m25, i28⟩ := hM
  obtain ⟨β, rfl⟩ := has_ex hh30
  clear hh30
  obtain ⟨a94, n95, c96, rfl⟩ := m25.form
  refine k14 _ _ ?_
  refine w_seqk fun K97 k97 => ?_
  refine w_reg (by kernel_rfl) ?_
  refine s_qk (.slice a94 n95 c96) (by kernel_rfl) ?_
  refine s_qk (.slice a94 n95 c96) (by kernel_rfl) ?_
  refine s_nil ?_
  refine k97 _ _ ?_
  refine w_ret ?_
  refine b_ret (fn := Tryd.f63) (vs := [.slice a94 n95 c96]) (aRes_tmp (by kernel_rfl) (rfl)) ?_
  obtain rfl := Option.some.inj r21
  exact ⟨(.slice a94 n95 c96), f27, rfl, (FrS.step wf ((FrS.refl (W := []) wf).extR e9) e23 Inn.nil), m25, (i28.fresh e9.next)⟩

theorem c_viaductref08_Search_take {H : AH} {hd_Dist : Value} {fp_Dist : Fp} {hd_Hops : Value} {fp_Hops : Fp} {hd_Has_ : Value} {fp_Has_ : Fp} {hd_Settled : Value} {fp_Settled : Fp} {Dist : List (Int)} {Hops : List (Int)} {Has_ : List (Bool)} {Settled : List (Bool)} {r : Int}
  (wf : WF H) (h_Dist : Sq (encI .u64) 1 H hd_Dist Dist fp_Dist) (h_Hops : Sq (encI .i64) 1 H hd_Hops Hops fp_Hops) (h_Has_ : Sq encB 1 H hd_Has_ Has_ fp_Has_) (h_Settled : Sq encB 1 H hd_Settled Settled fp_Settled) (hr : z_viaductref08_Search_take Dist Hops Has_ Settled = some r) :
  ACalls Tryd.prog 85 #[.agg #[hd_Dist, hd_Hops, hd_Has_, hd_Settled]] H fun v H' => v = .int .i64 r ∧ FrS [] H H' := by
 refine acalls_of_body mixed Tryd.func85 rfl (Nat.le_of_ble_eq_true rfl) ?_
 unfold z_viaductref08_Search_take at hr
 refine w_seqk fun K1 k1 => ?_
 refine w_reg (by kernel_rfl) ?_
 refine s_rwl wf [hd_Dist, hd_Hops, hd_Has_, hd_Settled] (one_cons (h_Dist.one1) (one_cons (h_Hops.one1) (one_cons (h_Has_.one1) (one_cons (h_Settled.one1) (one_nil))))) (by kernel_rfl) fun b2 H3 e4 hb5 r6 => ?_
 refine s_qk (.int .i64 0) (by kernel_rfl) ?_
 refine s_nil ?_
 refine k1 _ _ ?_
 refine w_seqk fun K8 k8 => ?_
 refine w_reg (by kernel_rfl) ?_
 refine s_qk (.int .i64 (-1)) (by kernel_rfl) ?_
 refine s_nil ?_
 refine k8 _ _ ?_
 refine w_seqk fun K9 k9 => ?_
 refine w_seqk fun K10 k10 => ?_
 refine w_reg (by kernel_rfl) ?_
 refine s_qk (.pointer (some ⟨b2, 2, none⟩)) (by kernel_rfl) ?_
 refine s_ql (hd_Has_) (x := aLoad Tryd.prog 104 (.pointer (some ⟨b2, 2, none⟩)) H3) (by kernel_rfl) (r6.ld (by kernel_rfl)) ?_
 have u11 := (h_Has_.ext e4)
 refine s_ql (.int .i64 (Has_.length : Int)) (x := aLen Tryd.prog 104 hd_Has_ H3) (by kernel_rfl) (u11.lenb (by kernel_rfl)) ?_
 refine s_qk (.int .i64 0) (by kernel_rfl) ?_
 refine s_nil ?_
 refine k10 _ _ ?_
 obtain ⟨o12, hx13, r14⟩ := bind_some hr
 refine w_mid (fun α H15 => Has α [(3, .int .i64 o12)] ∧ H3 = H15) (fun K17 k17 => ?_) (fun α H15 hM => ?_)
 ·refine w_block ?_
  obtain ⟨n19, hn20⟩ := loopO_iff.1 hx13
  refine w_loopn (fun n α H21 => ∃ (at0 : Int), ∃ (i1 : Int), iterO (fun zz_ => z_viaductref08_Search_take_l0 Dist Has_ Settled zz_.1 zz_.2) n (at0, i1) = some o12 ∧ Has α [(1, .pointer (some ⟨b2, 0, none⟩)), (3, .int .i64 at0), (7, .int .i64 (Has_.length : Int)), (8, .int .i64 i1)] ∧ H3 = H21) n19 ⟨(-1), 0, hn20, ⟨by kernel_rfl, by kernel_rfl, by kernel_rfl, by kernel_rfl, trivial⟩, rfl⟩ ?_
  rintro n19 α H21 ⟨at0, i1, hi24, hh23, rfl⟩ K29 k29
  obtain ⟨n25, z26, rfl, hz27, hn28⟩ := iter_succ hi24
  obtain ⟨β, rfl⟩ := has_ex hh23
  clear hh23
  replace hz27 : z_viaductref08_Search_take_l0 Dist Has_ Settled at0 i1 = some z26 := hz27
  unfold z_viaductref08_Search_take_l0 at hz27
  refine w_seqk fun K30 k30 => ?_
  refine w_reg (by kernel_rfl) ?_
  refine s_qk (.bool (decide (i1 < (Has_.length : Int)))) (by kernel_rfl) ?_
  refine s_nil ?_
  refine k30 _ _ ?_
  refine w_seqk fun K31 k31 => ?_
  refine w_condp (i1 < (Has_.length : Int)) (by kernel_rfl) rfl (fun h32 => ?_) (fun h32 => ?_)
  ·have r33 := ite_t h32 hz27
   refine w_skip ?_
   refine k31 _ _ ?_
   refine w_seqk fun K34 k34 => ?_
   refine w_block ?_
   refine w_seqk fun K35 k35 => ?_
   refine w_reg (by kernel_rfl) ?_
   refine s_qk (.int .i64 i1) (by kernel_rfl) ?_
   refine s_qk (.int .i64 i1) (by kernel_rfl) ?_
   refine s_nil ?_
   refine k35 _ _ ?_
   refine w_seqk fun K36 k36 => ?_
   refine w_draw [0, 1, 2, 3, 4, 5, 6, 7, 8, 9, 10, 11, 12, 13, 14, 15, 16, 17, 18, 19, 20, 21, 22, 23, 24, 25, 26, 27, 28, 29] (by kernel_rfl) ?_
   refine d_qk (.pointer (some ⟨b2, 2, none⟩)) (by kernel_rfl) ?_
   refine d_ql (hd_Has_) (x := aLoad Tryd.prog 104 (.pointer (some ⟨b2, 2, none⟩)) H3) (by kernel_rfl) (r6.ld (by kernel_rfl)) ?_
   refine d_qk (.int .i64 i1) (by kernel_rfl) ?_
   obtain ⟨g37, r38⟩ := G_some r33
   refine d_ql (elp hd_Has_ 1 i1.toNat 0) (x := aIndexAddr Tryd.prog 104 hd_Has_ (.int .i64 i1)) (by kernel_rfl) (u11.idxb (by kernel_rfl) g37 h32) ?_
   refine d_ql (.bool (gt Has_ i1)) (x := aLoad Tryd.prog 4 (elp hd_Has_ 1 i1.toNat 0) H3) (by kernel_rfl) (u11.ld g37 h32 (by kernel_rfl)) ?_
   refine d_qk (.bool (gt Has_ i1)) (by kernel_rfl) ?_
   by_cases h39 : (gt Has_ i1) = true
   ·have r40 := ite_t h39 r38
    rw [h39]
    refine d_qk (.pointer (some ⟨b2, 3, none⟩)) (by kernel_rfl) ?_
    refine d_ql (hd_Settled) (x := aLoad Tryd.prog 104 (.pointer (some ⟨b2, 3, none⟩)) H3) (by kernel_rfl) (r6.ld (by kernel_rfl)) ?_
    refine d_qk (.int .i64 i1) (by kernel_rfl) ?_
    obtain ⟨g41, r42⟩ := G_some r40
    have u43 := (h_Settled.ext e4)
    refine d_ql (elp hd_Settled 1 i1.toNat 0) (x := aIndexAddr Tryd.prog 104 hd_Settled (.int .i64 i1)) (by kernel_rfl) (u43.idxb (by kernel_rfl) g37 g41) ?_
    refine d_ql (.bool (gt Settled i1)) (x := aLoad Tryd.prog 4 (elp hd_Settled 1 i1.toNat 0) H3) (by kernel_rfl) (u43.ld g37 g41 (by kernel_rfl)) ?_
    refine d_qk (.bool (!(gt Settled i1))) (by kernel_rfl) ?_
    refine d_qk (.bool (!(gt Settled i1))) (by kernel_rfl) ?_
    refine d_qk (.bool (!(gt Settled i1))) (by kernel_rfl) ?_
    by_cases h44 : (!(gt Settled i1)) = true
    ·have r45 := ite_t h44 r42
     rw [h44]
     refine d_qk (.int .i64 at0) (by kernel_rfl) ?_
     refine d_b (at0 < 0) (by kernel_rfl) (fun h46 => ?_) (fun h46 => ?_)
     ·have r47 := ite_t h46 r45
      refine d_qk (.bool true) (by kernel_rfl) ?_
      refine d_idle (by kernel_rfl) ?_
      refine d_idle (by kernel_rfl) ?_
      refine d_idle (by kernel_rfl) ?_
      refine d_idle (by kernel_rfl) ?_
      refine d_idle (by kernel_rfl) ?_
      refine d_idle (by kernel_rfl) ?_
      refine d_idle (by kernel_rfl) ?_
      refine d_idle (by kernel_rfl) ?_
      refine d_idle (by kernel_rfl) ?_
      refine d_idle (by kernel_rfl) ?_
      refine d_idle (by kernel_rfl) ?_
      refine d_qk (.bool true) (by kernel_rfl) ?_
      refine d_qk (.bool true) (by kernel_rfl) ?_
      refine d_nil ?_
      refine k36 _ _ ?_
      refine w_cond true (by kernel_rfl) rfl (fun _ => ?_) (fun h => by cases h)
      refine w_reg (by kernel_rfl) ?_
      refine s_qk (.int .i64 i1) (by kernel_rfl) ?_
      refine s_qk (.int .i64 i1) (by kernel_rfl) ?_
      refine s_nil ?_
      refine k34 _ _ ?_
      refine w_reg (by kernel_rfl) ?_
      obtain ⟨g48, r49⟩ := G_some r47
      refine s_w ((i1 + 1)) (k := .i64) (x := (i1 + 1)) (by kernel_rfl) (wrap64 (by have := g48; omega)) ?_
      refine s_qk (.int .i64 (i1 + 1)) (by kernel_rfl) ?_
      refine s_nil ?_
      obtain rfl := Option.some.inj r49
      exact k29 n25 _ _ (Nat.lt_succ_self _) ⟨i1, (i1 + 1), hn28, ⟨by kernel_rfl, by kernel_rfl, by kernel_rfl, by kernel_rfl, trivial⟩, rfl⟩
     ·have r50 := ite_f h46 r45
      refine d_qk (.bool false) (by kernel_rfl) ?_
      refine d_qk (.pointer (some ⟨b2, 0, none⟩)) (by kernel_rfl) ?_
      refine d_ql (hd_Dist) (x := aLoad Tryd.prog 47 (.pointer (some ⟨b2, 0, none⟩)) H3) (by kernel_rfl) (r6.ld (by kernel_rfl)) ?_
      refine d_qk (.int .i64 i1) (by kernel_rfl) ?_
      obtain ⟨g51, r52⟩ := G_some r50
      have u53 := (h_Dist.ext e4)
      refine d_ql (elp hd_Dist 1 i1.toNat 0) (x := aIndexAddr Tryd.prog 47 hd_Dist (.int .i64 i1)) (by kernel_rfl) (u53.idxb (by kernel_rfl) g37 g51) ?_
      refine d_ql (.int .u64 (gt Dist i1)) (x := aLoad Tryd.prog 42 (elp hd_Dist 1 i1.toNat 0) H3) (by kernel_rfl) (u53.ld g37 g51 (by kernel_rfl)) ?_
      refine d_qk (.pointer (some ⟨b2, 0, none⟩)) (by kernel_rfl) ?_
      refine d_ql (hd_Dist) (x := aLoad Tryd.prog 47 (.pointer (some ⟨b2, 0, none⟩)) H3) (by kernel_rfl) (r6.ld (by kernel_rfl)) ?_
      refine d_qk (.int .i64 at0) (by kernel_rfl) ?_
      obtain ⟨g54, r55⟩ := G_some r52
      refine d_ql (elp hd_Dist 1 at0.toNat 0) (x := aIndexAddr Tryd.prog 47 hd_Dist (.int .i64 at0)) (by kernel_rfl) (u53.idxb (by kernel_rfl) g54.1 g54.2) ?_
      refine d_ql (.int .u64 (gt Dist at0)) (x := aLoad Tryd.prog 42 (elp hd_Dist 1 at0.toNat 0) H3) (by kernel_rfl) (u53.ld g54.1 g54.2 (by kernel_rfl)) ?_
      refine d_qk (.bool (decide ((gt Dist i1) < (gt Dist at0)))) (by kernel_rfl) ?_
      refine d_qk (.bool (decide ((gt Dist i1) < (gt Dist at0)))) (by kernel_rfl) ?_
      refine d_qk (.bool (decide ((gt Dist i1) < (gt Dist at0)))) (by kernel_rfl) ?_
      refine d_nil ?_
      refine k36 _ _ ?_
      refine w_condp ((gt Dist i1) < (gt Dist at0)) (by kernel_rfl) rfl (fun h56 => ?_) (fun h56 => ?_)
      ·have r57 := ite_t h56 r55
       refine w_reg (by kernel_rfl) ?_
       refine s_qk (.int .i64 i1) (by kernel_rfl) ?_
       refine s_qk (.int .i64 i1) (by kernel_rfl) ?_
       refine s_nil ?_
       refine k34 _ _ ?_
       refine w_reg (by kernel_rfl) ?_
       obtain ⟨g58, r59⟩ := G_some r57
       refine s_w ((i1 + 1)) (k := .i64) (x := (i1 + 1)) (by kernel_rfl) (wrap64 (by have := g58; omega)) ?_
       refine s_qk (.int .i64 (i1 + 1)) (by kernel_rfl) ?_
       refine s_nil ?_
       obtain rfl := Option.some.inj r59
       exact k29 n25 _ _ (Nat.lt_succ_self _) ⟨i1, (i1 + 1), hn28, ⟨by kernel_rfl, by kernel_rfl, by kernel_rfl, by kernel_rfl, trivial⟩, rfl⟩
      ·have r60 := ite_f h56 r55
       refine w_skip ?_
       refine k34 _ _ ?_
       refine w_reg (by kernel_rfl) ?_
       obtain ⟨g61, r62⟩ := G_some r60
       refine s_w ((i1 + 1)) (k := .i64) (x := (i1 + 1)) (by kernel_rfl) (wrap64 (by have := g61; omega)) ?_
       refine s_qk (.int .i64 (i1 + 1)) (by kernel_rfl) ?_
       refine s_nil ?_
       obtain rfl := Option.some.inj r62
       exact k29 n25 _ _ (Nat.lt_succ_self _) ⟨at0, (i1 + 1), hn28, ⟨by kernel_rfl, by kernel_rfl, by kernel_rfl, by kernel_rfl, trivial⟩, rfl⟩
    ·have r63 := ite_f h44 r42
     rw [nb h44]
     refine d_idle (by kernel_rfl) ?_
     refine d_idle (by kernel_rfl) ?_
     refine d_idle (by kernel_rfl) ?_
     refine d_idle (by kernel_rfl) ?_
     refine d_idle (by kernel_rfl) ?_
     refine d_idle (by kernel_rfl) ?_
     refine d_idle (by kernel_rfl) ?_
     refine d_idle (by kernel_rfl) ?_
     refine d_idle (by kernel_rfl) ?_
     refine d_idle (by kernel_rfl) ?_
     refine d_idle (by kernel_rfl) ?_
     refine d_idle (by kernel_rfl) ?_
     refine d_idle (by kernel_rfl) ?_
     refine d_idle (by kernel_rfl) ?_
     refine d_idle (by kernel_rfl) ?_
     refine d_qk (.bool false) (by kernel_rfl) ?_
     refine d_nil ?_
     refine k36 _ _ ?_
     refine w_cond false (by kernel_rfl) rfl (fun h => by cases h) (fun _ => ?_)
     refine w_skip ?_
     refine k34 _ _ ?_
     refine w_reg (by kernel_rfl) ?_
     obtain ⟨g64, r65⟩ := G_some r63
     refine s_w ((i1 + 1)) (k := .i64) (x := (i1 + 1)) (by kernel_rfl) (wrap64 (by have := g64; omega)) ?_
     refine s_qk (.int .i64 (i1 + 1)) (by kernel_rfl) ?_
     refine s_nil ?_
     obtain rfl := Option.some.inj r65
     exact k29 n25 _ _ (Nat.lt_succ_self _) ⟨at0, (i1 + 1), hn28, ⟨by kernel_rfl, by kernel_rfl, by kernel_rfl, by kernel_rfl, trivial⟩, rfl⟩
   ·have r66 := ite_f h39 r38
    rw [nb h39]
    refine d_idle (by kernel_rfl) ?_
    refine d_idle (by kernel_rfl) ?_
    refine d_idle (by kernel_rfl) ?_
    refine d_idle (by kernel_rfl) ?_
    refine d_idle (by kernel_rfl) ?_
    refine d_idle (by kernel_rfl) ?_
    refine d_qk (.bool false) (by kernel_rfl) ?_
    refine d_qk (.bool false) (by kernel_rfl) ?_
    refine d_idle (by kernel_rfl) ?_
    refine d_idle (by kernel_rfl) ?_
    refine d_idle (by kernel_rfl) ?_
    refine d_idle (by kernel_rfl) ?_
    refine d_idle (by kernel_rfl) ?_
    refine d_idle (by kernel_rfl) ?_
    refine d_idle (by kernel_rfl) ?_
    refine d_idle (by kernel_rfl) ?_
    refine d_idle (by kernel_rfl) ?_
    refine d_idle (by kernel_rfl) ?_
    refine d_idle (by kernel_rfl) ?_
    refine d_idle (by kernel_rfl) ?_
    refine d_idle (by kernel_rfl) ?_
    refine d_idle (by kernel_rfl) ?_
    refine d_idle (by kernel_rfl) ?_
    refine d_qk (.bool false) (by kernel_rfl) ?_
    refine d_nil ?_
    refine k36 _ _ ?_
    refine w_cond false (by kernel_rfl) rfl (fun h => by cases h) (fun _ => ?_)
    refine w_skip ?_
    refine k34 _ _ ?_
    refine w_reg (by kernel_rfl) ?_
    obtain ⟨g67, r68⟩ := G_some r66
    refine s_w ((i1 + 1)) (k := .i64) (x := (i1 + 1)) (by kernel_rfl) (wrap64 (by have := g67; omega)) ?_
    refine s_qk (.int .i64 (i1 + 1)) (by kernel_rfl) ?_
    refine s_nil ?_
    obtain rfl := Option.some.inj r68
    exact k29 n25 _ _ (Nat.lt_succ_self _) ⟨at0, (i1 + 1), hn28, ⟨by kernel_rfl, by kernel_rfl, by kernel_rfl, by kernel_rfl, trivial⟩, rfl⟩
  ·have r69 := ite_f h32 hz27
   refine w_exit (th_exit (th_exit (bl_eq ?_)))
   obtain rfl := Option.some.inj r69
   obtain rfl := it_inr hn28
   exact k17 _ _ ⟨⟨by kernel_rfl, trivial⟩, rfl⟩
 ·obtain ⟨hh18, rfl⟩ := hM
  obtain ⟨β, rfl⟩ := has_ex hh18
  clear hh18
  refine k9 _ _ ?_
  refine w_seqk fun K70 k70 => ?_
  refine w_reg (by kernel_rfl) ?_
  refine s_qk (.int .i64 o12) (by kernel_rfl) ?_
  refine s_qk (.int .i64 o12) (by kernel_rfl) ?_
  refine s_nil ?_
  refine k70 _ _ ?_
  refine w_ret ?_
  refine b_ret (fn := Tryd.f85) (vs := [.int .i64 o12]) (aRes_tmp (by kernel_rfl) (rfl)) ?_
  obtain rfl := Option.some.inj r14
  exact ⟨rfl, ((FrS.refl (W := []) wf).extR e4)⟩


end Go.Vd

/-! (KSb5) -/

set_option maxRecDepth 100000
set_option maxHeartbeats 4000000
set_option linter.unusedVariables false
namespace Go.Vd
open Go.Proofs
attribute [local irreducible] wpSeq wpOrd aWp
theorem c_viaductref08_Run {H : AH} {hd_rows : Value} {fp_rows : Fp} {rows : List (List (Int × Int))} {s : Int} {hops : Int} {settles : Int} {most : Int} {r : List (Int) × List (Int) × List (Bool) × List (Bool)}
  (wf : WF H) (h_rows : Nst (CR.sl enc_i64_u64 2) H hd_rows rows fp_rows) (hr : z_viaductref08_Run rows s hops settles most = some r) :
  ACalls Tryd.prog 64 #[hd_rows, .int .i64 s, .int .i64 hops, .int .i64 settles, .int .u64 most] H fun v H' => ∃ (s3 : Value) (f4 : Fp) (s7 : Value) (f8 : Fp) (s11 : Value) (f12 : Fp) (s15 : Value) (f16 : Fp), v = .agg #[s3, s7, s11, s15] ∧ FrS [] H H' ∧ Ow (encI .u64) 1 H' s3 r.1 f4 ∧ Ow (encI .i64) 1 H' s7 r.2.1 f8 ∧ Ow encB 1 H' s11 r.2.2.1 f12 ∧ Ow encB 1 H' s15 r.2.2.2 f16 ∧ Inn [] H f4 ∧ Inn [] H f8 ∧ Inn [] H f12 ∧ Inn [] H f16 ∧ Dj f4 f8 ∧ Dj f4 f12 ∧ Dj f8 f12 ∧ Dj f4 f16 ∧ Dj f8 f16 ∧ Dj f12 f16 := by
 refine acalls_of_body mixed Tryd.func64 rfl (Nat.le_of_ble_eq_true rfl) ?_
 unfold z_viaductref08_Run at hr
 refine w_seqk fun K27 k27 => ?_
 refine w_reg (by kernel_rfl) ?_
 refine s_rwk wf [.slice none 0 0, .slice none 0 0, .slice none 0 0, .slice none 0 0] (by kernel_rfl) fun b28 H29 e30 hb31 r32 => ?_
 refine s_nil ?_
 refine k27 _ _ ?_
 refine w_seqk fun K34 k34 => ?_
 refine w_reg (by kernel_rfl) ?_
 refine s_qk (hd_rows) (by kernel_rfl) ?_
 have u35 := (h_rows.ext e30)
 refine s_ql (.int .i64 (rows.length : Int)) (x := aLen Tryd.prog 119 hd_rows H29) (by kernel_rfl) (u35.lenb (by kernel_rfl)) ?_
 refine s_qk (.int .i64 (rows.length : Int)) (by kernel_rfl) ?_
 refine s_nil ?_
 refine k34 _ _ ?_
 refine w_seqk fun K36 k36 => ?_
 refine w_draw [0, 1, 2, 3, 4, 5, 6, 7, 8, 9, 10] (by kernel_rfl) ?_
 refine d_qk (.int .i64 (rows.length : Int)) (by kernel_rfl) ?_
 obtain ⟨g37, r38⟩ := G_some hr
 refine d_mks (t := 47) (m := 8) (l := (rows.length : Int)) (c := (rows.length : Int)) (enc := (encI .u64)) (sz := 1) e30.wf (0 : Int) (by kernel_rfl) (by decide) g37.1 (Int.le_refl _) (by omega) (by have := g37; omega) (by kernel_rfl) fun s39 f40 H41 e42 hf43 hm44 => ?_
 obtain ⟨a45, n46, c47, rfl⟩ := hm44.form
 have hm44 : Ow (encI .u64) 1 H41 (.slice a45 n46 c47) (List.replicate rows.length (0 : Int)) f40 := hm44
 refine d_qk (.int .i64 (rows.length : Int)) (by kernel_rfl) ?_
 refine d_mks (t := 22) (m := 8) (l := (rows.length : Int)) (c := (rows.length : Int)) (enc := (encI .i64)) (sz := 1) e42.wf (0 : Int) (by kernel_rfl) (by decide) g37.1 (Int.le_refl _) (by omega) (by have := g37; omega) (by kernel_rfl) fun s49 f50 H51 e52 hf53 hm54 => ?_
 obtain ⟨a55, n56, c57, rfl⟩ := hm54.form
 have hm54 : Ow (encI .i64) 1 H51 (.slice a55 n56 c57) (List.replicate rows.length (0 : Int)) f50 := hm54
 refine d_qk (.int .i64 (rows.length : Int)) (by kernel_rfl) ?_
 obtain ⟨g59, r60⟩ := G_some r38
 refine d_mks (t := 104) (m := 1) (l := (rows.length : Int)) (c := (rows.length : Int)) (enc := encB) (sz := 1) e52.wf (false : Bool) (by kernel_rfl) (by decide) g59.1 (Int.le_refl _) (by omega) (by have := g59; omega) (by kernel_rfl) fun s61 f62 H63 e64 hf65 hm66 => ?_
 obtain ⟨a67, n68, c69, rfl⟩ := hm66.form
 have hm66 : Ow encB 1 H63 (.slice a67 n68 c69) (List.replicate rows.length (false : Bool)) f62 := hm66
 refine d_qk (.int .i64 (rows.length : Int)) (by kernel_rfl) ?_
 refine d_mks (t := 104) (m := 1) (l := (rows.length : Int)) (c := (rows.length : Int)) (enc := encB) (sz := 1) e64.wf (false : Bool) (by kernel_rfl) (by decide) g59.1 (Int.le_refl _) (by omega) (by have := g59; omega) (by kernel_rfl) fun s71 f72 H73 e74 hf75 hm76 => ?_
 obtain ⟨a77, n78, c79, rfl⟩ := hm76.form
 have hm76 : Ow encB 1 H73 (.slice a77 n78 c79) (List.replicate rows.length (false : Bool)) f72 := hm76
 refine d_qk (.agg #[.slice a45 n46 c47, .slice a55 n56 c57, .slice a67 n68 c69, .slice a77 n78 c79]) (by kernel_rfl) ?_
 refine d_rwk e74.wf [.slice none 0 0, .slice none 0 0, .slice none 0 0, .slice none 0 0] (by kernel_rfl) fun b81 H82 e83 hb84 r85 => ?_
 have u91 := (hm76.ext e83)
 have u92 := ((hm66.ext e74).ext e83)
 have u93 := (((hm54.ext e64).ext e74).ext e83)
 have u94 := ((((hm44.ext e52).ext e64).ext e74).ext e83)
 obtain ⟨H87, q88, e89, r90⟩ := Row.store (P := Tryd.prog) (t := 128) (p := 0) e83.wf r85 (.agg #[.slice a45 n46 c47, .slice a55 n56 c57, .slice a67 n68 c69, .slice a77 n78 c79]) [.slice a45 n46 c47, .slice a55 n56 c57, .slice a67 n68 c69, .slice a77 n78 c79] (by kernel_rfl) (by kernel_rfl) (one_cons (u94.one1) (one_cons (u93.one1) (one_cons (u92.one1) (one_cons (u91.one1) (one_nil))))) (Nat.le_of_ble_eq_true (by kernel_rfl)) [.slice a45 n46 c47, .slice a55 n56 c57, .slice a67 n68 c69, .slice a77 n78 c79] (by kernel_rfl)
 refine d_ek (undef) (by kernel_rfl) (map_ok q88) (st_nil) ?_
 refine d_nil ?_
 refine k36 _ _ ?_
 refine w_seqk fun K95 k95 => ?_
 refine w_reg (by kernel_rfl) ?_
 refine s_qk (.pointer (some ⟨b81, 2, none⟩)) (by kernel_rfl) ?_
 refine s_ql (.slice a67 n68 c69) (x := aLoad Tryd.prog 104 (.pointer (some ⟨b81, 2, none⟩)) H87) (by kernel_rfl) (r90.ld (by kernel_rfl)) ?_
 refine s_qk (.int .i64 s) (by kernel_rfl) ?_
 obtain ⟨g96, r97⟩ := G_some r60
 have u98 := (u92.fr e89 (hb84.djn (hm66.lt.le e74.next)))
 refine s_ql (elp (.slice a67 n68 c69) 1 s.toNat 0) (x := aIndexAddr Tryd.prog 104 (.slice a67 n68 c69) (.int .i64 s)) (by kernel_rfl) (u98.sq.idxb (by kernel_rfl) g96.1 g96.2) ?_
 obtain ⟨H99, q100, e101, hm102⟩ := Ow.store (P := Tryd.prog) (t := 4) (off := 0) e89.wf u98 g96.1 g96.2 (.bool true) [.bool true] (by kernel_rfl) (by kernel_rfl) rfl true (Nat.le_of_ble_eq_true rfl) (by kernel_rfl)
 refine s_ek (undef) (by kernel_rfl) (map_ok q100) ?_
 refine s_nil ?_
 refine k95 _ _ ?_
 refine w_seqk fun K103 k103 => ?_
 refine w_seqk fun K104 k104 => ?_
 refine w_reg (by kernel_rfl) ?_
 refine s_qk (.int .i64 0) (by kernel_rfl) ?_
 refine s_nil ?_
 refine k104 _ _ ?_
 obtain ⟨o105, hx106, r107⟩ := bind_some r97
 refine w_mid (fun α H108 => Has α [(10, .pointer (some ⟨b28, 0, none⟩)), (12, .pointer (some ⟨b81, 0, none⟩))] ∧ FrS (f40 ++ (f50 ++ (f62 ++ f72))) H99 H108 ∧ Ow (encI .u64) 1 H108 (.slice a45 n46 c47) o105.1 f40 ∧ Ow (encI .i64) 1 H108 (.slice a55 n56 c57) o105.2.1 f50 ∧ Ow encB 1 H108 (.slice a67 n68 c69) o105.2.2.1 f62 ∧ Ow encB 1 H108 (.slice a77 n78 c79) o105.2.2.2 f72) (fun K118 k118 => ?_) (fun α H108 hM => ?_)
 ·refine w_block ?_
  obtain ⟨n120, hn121⟩ := loopO_iff.1 hx106
  have u138 := ((u94.fr e89 (hb84.djn (hm44.lt.le (ntr (ntr e52.next e64.next) e74.next)))).fr e101 (hf65.djn (hm44.lt.le e52.next)))
  have u139 := ((u93.fr e89 (hb84.djn (hm54.lt.le (ntr e64.next e74.next)))).fr e101 (hf65.djn hm54.lt))
  have u140 := ((u91.fr e89 (hb84.djn hm76.lt)).fr e101 (Dj.symm (hf75.djn hm66.lt)))
  refine w_loopn (fun n α H122 => ∃ (b4 : List (Int)), ∃ (b5 : List (Int)), ∃ (b6 : List (Bool)), ∃ (b7 : List (Bool)), ∃ (count8 : Int), iterO (fun zz_ => z_viaductref08_Run_l1 rows hops settles most zz_.1 zz_.2.1 zz_.2.2.1 zz_.2.2.2.1 zz_.2.2.2.2) n (b4, b5, b6, b7, count8) = some o105 ∧ Has α [(0, hd_rows), (2, .int .i64 hops), (3, .int .i64 settles), (4, .int .u64 most), (10, .pointer (some ⟨b28, 0, none⟩)), (12, .pointer (some ⟨b81, 0, none⟩)), (13, .int .i64 count8)] ∧ FrS (f40 ++ (f50 ++ (f62 ++ f72))) H99 H122 ∧ Ow (encI .u64) 1 H122 (.slice a45 n46 c47) b4 f40 ∧ Ow (encI .i64) 1 H122 (.slice a55 n56 c57) b5 f50 ∧ Ow encB 1 H122 (.slice a67 n68 c69) b6 f62 ∧ Ow encB 1 H122 (.slice a77 n78 c79) b7 f72) n120 ⟨(List.replicate rows.length (0 : Int)), (List.replicate rows.length (0 : Int)), ((List.replicate rows.length (false : Bool)).set s.toNat true), (List.replicate rows.length (false : Bool)), 0, hn121, ⟨by kernel_rfl, by kernel_rfl, by kernel_rfl, by kernel_rfl, by kernel_rfl, by kernel_rfl, by kernel_rfl, trivial⟩, (FrS.refl (W := (f40 ++ (f50 ++ (f62 ++ f72)))) e101.wf), u138, u139, hm102, u140⟩ ?_
  rintro n120 α H122 ⟨b4, b5, b6, b7, count8, hi133, hh132, e123, m125, m127, m129, m131⟩ K141 k141
  obtain ⟨n134, z135, rfl, hz136, hn137⟩ := iter_succ hi133
  obtain ⟨β, rfl⟩ := has_ex hh132
  clear hh132
  replace hz136 : z_viaductref08_Run_l1 rows hops settles most b4 b5 b6 b7 count8 = some z135 := hz136
  unfold z_viaductref08_Run_l1 at hz136
  refine w_seqk fun K142 k142 => ?_
  refine w_seqk fun K143 k143 => ?_
  refine w_reg (by kernel_rfl) ?_
  refine s_qk (.int .i64 count8) (by kernel_rfl) ?_
  refine s_qk (.int .i64 settles) (by kernel_rfl) ?_
  refine s_qk (.bool (decide (count8 < settles))) (by kernel_rfl) ?_
  refine s_nil ?_
  refine k143 _ _ ?_
  refine w_condp (count8 < settles) (by kernel_rfl) rfl (fun h144 => ?_) (fun h144 => ?_)
  ·have r145 := ite_t h144 hz136
   refine w_skip ?_
   refine k142 _ _ ?_
   refine w_seqk fun K146 k146 => ?_
   refine w_block ?_
   refine w_seqk fun K147 k147 => ?_
   refine w_reg (by kernel_rfl) ?_
   have u148 := ((r90.frS e101 (Dj.symm (hb84.djn (hm66.lt.le e74.next)))).frS e123 (Dj.app (Dj.symm (hb84.djn (hm44.lt.le (ntr (ntr e52.next e64.next) e74.next)))) (Dj.app (Dj.symm (hb84.djn (hm54.lt.le (ntr e64.next e74.next)))) (Dj.app (Dj.symm (hb84.djn (hm66.lt.le e74.next))) (Dj.symm (hb84.djn hm76.lt))))))
   refine s_ql (.agg #[.slice a45 n46 c47, .slice a55 n56 c57, .slice a67 n68 c69, .slice a77 n78 c79]) (x := aLoad Tryd.prog 128 (.pointer (some ⟨b81, 0, none⟩)) H122) (by kernel_rfl) (u148.ld (by kernel_rfl)) ?_
   obtain ⟨y149, hy150, r151⟩ := bind_some r145
   refine s_ck 85 #[.agg #[.slice a45 n46 c47, .slice a55 n56 c57, .slice a67 n68 c69, .slice a77 n78 c79]] (by kernel_rfl) (c_viaductref08_Search_take e123.wf m125.sq m127.sq m129.sq m131.sq hy150) ?_
   rintro _ H152 ⟨rfl, e153⟩
   refine s_qk (.int .i64 y149) (by kernel_rfl) ?_
   refine s_nil ?_
   refine k147 _ _ ?_
   refine w_seqk fun K154 k154 => ?_
   refine w_seqk fun K155 k155 => ?_
   obtain ⟨o156, hx157, r158⟩ := bind_some r151
   refine w_mid (fun α H159 => Has α [(0, hd_rows), (2, .int .i64 hops), (3, .int .i64 settles), (4, .int .u64 most), (10, .pointer (some ⟨b28, 0, none⟩)), (12, .pointer (some ⟨b81, 0, none⟩)), (13, .int .i64 count8), (14, .int .i64 y149), (50, .bool o156)] ∧ H152 = H159) (fun K161 k161 => ?_) (fun α H159 hM => ?_)
   ·refine w_reg (by kernel_rfl) ?_
    refine s_qk (.int .i64 y149) (by kernel_rfl) ?_
    refine s_b (y149 < 0) (by kernel_rfl) (fun h163 => ?_) (fun h163 => ?_)
    ·have r164 := ite_t h163 hx157
     refine s_qk (.bool true) (by kernel_rfl) ?_
     refine s_no (by kernel_rfl) ?_
     refine s_no (by kernel_rfl) ?_
     refine s_no (by kernel_rfl) ?_
     refine s_no (by kernel_rfl) ?_
     refine s_no (by kernel_rfl) ?_
     refine s_no (by kernel_rfl) ?_
     refine s_no (by kernel_rfl) ?_
     refine s_qk (.bool true) (by kernel_rfl) ?_
     refine s_nil ?_
     obtain rfl := Option.some.inj r164
     exact k161 _ _ ⟨⟨by kernel_rfl, by kernel_rfl, by kernel_rfl, by kernel_rfl, by kernel_rfl, by kernel_rfl, by kernel_rfl, by kernel_rfl, by kernel_rfl, trivial⟩, rfl⟩
    ·have r165 := ite_f h163 hx157
     refine s_qk (.bool false) (by kernel_rfl) ?_
     refine s_qk (.pointer (some ⟨b81, 0, none⟩)) (by kernel_rfl) ?_
     have u166 := (u148.frS e153 Dj.nil_l)
     refine s_ql (.slice a45 n46 c47) (x := aLoad Tryd.prog 47 (.pointer (some ⟨b81, 0, none⟩)) H152) (by kernel_rfl) (u166.ld (by kernel_rfl)) ?_
     refine s_qk (.int .i64 y149) (by kernel_rfl) ?_
     obtain ⟨g167, r168⟩ := G_some r165
     have u169 := (m125.fr e153 Dj.nil_l)
     refine s_ql (elp (.slice a45 n46 c47) 1 y149.toNat 0) (x := aIndexAddr Tryd.prog 47 (.slice a45 n46 c47) (.int .i64 y149)) (by kernel_rfl) (u169.sq.idxb (by kernel_rfl) g167.1 g167.2) ?_
     refine s_ql (.int .u64 (gt b4 y149)) (x := aLoad Tryd.prog 42 (elp (.slice a45 n46 c47) 1 y149.toNat 0) H152) (by kernel_rfl) (u169.sq.ld g167.1 g167.2 (by kernel_rfl)) ?_
     refine s_qk (.int .u64 most) (by kernel_rfl) ?_
     refine s_qk (.bool (decide ((gt b4 y149) > most))) (by kernel_rfl) ?_
     refine s_qk (.bool (decide ((gt b4 y149) > most))) (by kernel_rfl) ?_
     refine s_nil ?_
     obtain rfl := Option.some.inj r168
     exact k161 _ _ ⟨⟨by kernel_rfl, by kernel_rfl, by kernel_rfl, by kernel_rfl, by kernel_rfl, by kernel_rfl, by kernel_rfl, by kernel_rfl, by kernel_rfl, trivial⟩, rfl⟩
   ·obtain ⟨hh162, rfl⟩ := hM
    obtain ⟨β, rfl⟩ := has_ex hh162
    clear hh162
    refine k155 _ _ ?_
    refine w_cond (o156) (by kernel_rfl) rfl (fun h170 => ?_) (fun h170 => ?_)
    ·have r171 := ite_t h170 r158
     refine w_exit (th_exit (bl_ne (by decide) (th_exit (th_exit (bl_eq ?_)))))
     have u172 := (m125.fr e153 Dj.nil_l)
     have u173 := (m127.fr e153 Dj.nil_l)
     have u174 := (m129.fr e153 Dj.nil_l)
     have u175 := (m131.fr e153 Dj.nil_l)
     obtain rfl := Option.some.inj r171
     obtain rfl := it_inr hn137
     exact k118 _ _ ⟨⟨by kernel_rfl, by kernel_rfl, trivial⟩, (FrS.step e101.wf (FrS.step e101.wf (FrS.refl (W := (f40 ++ (f50 ++ (f62 ++ f72)))) e101.wf) e123 (Inn.app Inn.left (Inn.app (Inn.right Inn.left) (Inn.app (Inn.right (Inn.right Inn.left)) (Inn.right (Inn.right (Inn.right Inn.refl'))))))) e153 Inn.nil), u172, u173, u174, u175⟩
    ·have r176 := ite_bf h170 r158
     refine w_skip ?_
     refine k154 _ _ ?_
     refine w_seqk fun K177 k177 => ?_
     refine w_reg (by kernel_rfl) ?_
     refine s_qk (.pointer (some ⟨b81, 3, none⟩)) (by kernel_rfl) ?_
     have u178 := (u148.frS e153 Dj.nil_l)
     refine s_ql (.slice a77 n78 c79) (x := aLoad Tryd.prog 104 (.pointer (some ⟨b81, 3, none⟩)) H152) (by kernel_rfl) (u178.ld (by kernel_rfl)) ?_
     refine s_qk (.int .i64 y149) (by kernel_rfl) ?_
     obtain ⟨g179, r180⟩ := G_some r176
     have u181 := (m131.fr e153 Dj.nil_l)
     refine s_ql (elp (.slice a77 n78 c79) 1 y149.toNat 0) (x := aIndexAddr Tryd.prog 104 (.slice a77 n78 c79) (.int .i64 y149)) (by kernel_rfl) (u181.sq.idxb (by kernel_rfl) g179.1 g179.2) ?_
     obtain ⟨H182, q183, e184, hm185⟩ := Ow.store (P := Tryd.prog) (t := 4) (off := 0) e153.wf u181 g179.1 g179.2 (.bool true) [.bool true] (by kernel_rfl) (by kernel_rfl) rfl true (Nat.le_of_ble_eq_true rfl) (by kernel_rfl)
     refine s_ek (undef) (by kernel_rfl) (map_ok q183) ?_
     refine s_nil ?_
     refine k177 _ _ ?_
     refine w_seqk fun K186 k186 => ?_
     refine w_seqk fun K187 k187 => ?_
     refine w_reg (by kernel_rfl) ?_
     refine s_qk (.pointer (some ⟨b81, 1, none⟩)) (by kernel_rfl) ?_
     have u188 := (u178.frS e184 (Dj.symm (hb84.djn hm76.lt)))
     refine s_ql (.slice a55 n56 c57) (x := aLoad Tryd.prog 22 (.pointer (some ⟨b81, 1, none⟩)) H182) (by kernel_rfl) (u188.ld (by kernel_rfl)) ?_
     refine s_qk (.int .i64 y149) (by kernel_rfl) ?_
     obtain ⟨g189, r190⟩ := G_some r180
     have u191 := ((m127.fr e153 Dj.nil_l).fr e184 (hf75.djn (hm54.lt.le e64.next)))
     refine s_ql (elp (.slice a55 n56 c57) 1 y149.toNat 0) (x := aIndexAddr Tryd.prog 22 (.slice a55 n56 c57) (.int .i64 y149)) (by kernel_rfl) (u191.sq.idxb (by kernel_rfl) g179.1 g189) ?_
     refine s_ql (.int .i64 (gt b5 y149)) (x := aLoad Tryd.prog 3 (elp (.slice a55 n56 c57) 1 y149.toNat 0) H182) (by kernel_rfl) (u191.sq.ld g179.1 g189 (by kernel_rfl)) ?_
     refine s_qk (.int .i64 hops) (by kernel_rfl) ?_
     refine s_qk (.bool (decide ((gt b5 y149) ≥ hops))) (by kernel_rfl) ?_
     refine s_nil ?_
     refine k187 _ _ ?_
     refine w_condp ((gt b5 y149) ≥ hops) (by kernel_rfl) rfl (fun h192 => ?_) (fun h192 => ?_)
     ·have r193 := ite_t h192 r190
      refine w_exit (th_exit (bl_eq ?_))
      refine k146 _ _ ?_
      refine w_reg (by kernel_rfl) ?_
      refine s_qk (.int .i64 count8) (by kernel_rfl) ?_
      obtain ⟨g194, r195⟩ := G_some r193
      refine s_w ((count8 + 1)) (k := .i64) (x := (count8 + 1)) (by kernel_rfl) (wrap64 g194) ?_
      refine s_qk (.int .i64 (count8 + 1)) (by kernel_rfl) ?_
      refine s_nil ?_
      have u196 := ((m125.fr e153 Dj.nil_l).fr e184 (hf75.djn (hm44.lt.le (ntr e52.next e64.next))))
      have u197 := ((m129.fr e153 Dj.nil_l).fr e184 (hf75.djn hm66.lt))
      obtain rfl := Option.some.inj r195
      exact k141 n134 _ _ (Nat.lt_succ_self _) ⟨b4, b5, b6, (b7.set y149.toNat true), (count8 + 1), hn137, ⟨by kernel_rfl, by kernel_rfl, by kernel_rfl, by kernel_rfl, by kernel_rfl, by kernel_rfl, by kernel_rfl, trivial⟩, (FrS.step e101.wf (FrS.step e101.wf (FrS.step e101.wf (FrS.refl (W := (f40 ++ (f50 ++ (f62 ++ f72)))) e101.wf) e123 (Inn.app Inn.left (Inn.app (Inn.right Inn.left) (Inn.app (Inn.right (Inn.right Inn.left)) (Inn.right (Inn.right (Inn.right Inn.refl'))))))) e153 Inn.nil) e184 (Inn.right (Inn.right (Inn.right Inn.refl')))), u196, u191, u197, hm185⟩
     ·have r198 := ite_f h192 r190
      refine w_skip ?_
      refine k186 _ _ ?_
      refine w_seqk fun K199 k199 => ?_
      refine w_reg (by kernel_rfl) ?_
      refine s_qk (hd_rows) (by kernel_rfl) ?_
      refine s_qk (.int .i64 y149) (by kernel_rfl) ?_
      obtain ⟨g200, r201⟩ := G_some r198
      have u202 := ((((((((((u35.ext e42).ext e52).ext e64).ext e74).ext e83).fr e89 (hb84.djn (h_rows.lt.le (ntr (ntr (ntr (ntr e30.next e42.next) e52.next) e64.next) e74.next)))).fr e101 (hf65.djn (h_rows.lt.le (ntr (ntr e30.next e42.next) e52.next)))).fr e123 (Dj.app (hf43.djn (h_rows.lt.le e30.next)) (Dj.app (hf53.djn (h_rows.lt.le (ntr e30.next e42.next))) (Dj.app (hf65.djn (h_rows.lt.le (ntr (ntr e30.next e42.next) e52.next))) (hf75.djn (h_rows.lt.le (ntr (ntr (ntr e30.next e42.next) e52.next) e64.next))))))).fr e153 Dj.nil_l).fr e184 (hf75.djn (h_rows.lt.le (ntr (ntr (ntr e30.next e42.next) e52.next) e64.next))))
      refine s_ql (elp hd_rows 1 y149.toNat 0) (x := aIndexAddr Tryd.prog 119 hd_rows (.int .i64 y149)) (by kernel_rfl) (u202.idxb (by kernel_rfl) g179.1 g200) ?_
      obtain ⟨cs203, f204, hk205, hs206, hl207, hq208⟩ := u202.kid g179.1 g200
      obtain ⟨s209, rfl, ho211⟩ := cr_sl_open hk205
      have kd212 : KdS enc_i64_u64 2 H182 s209 (gt rows y149) fp_rows hd_rows 1 y149.toNat 0 := ⟨ho211.sq.up hs206 u202.lt, hq208 0 _ rfl (by decide)⟩
      obtain ⟨a213, n214, c215, rfl⟩ := kd212.sq.form
      refine s_ql (.slice a213 n214 c215) (x := aLoad Tryd.prog 124 (elp hd_rows 1 y149.toNat 0) H182) (by kernel_rfl) (hl207 _ _ _ _ (by kernel_rfl)) ?_
      refine s_ql (.int .i64 ((gt rows y149).length : Int)) (x := aLen Tryd.prog 124 (.slice a213 n214 c215) H182) (by kernel_rfl) (kd212.sq.lenb (by kernel_rfl)) ?_
      refine s_qk (.int .i64 0) (by kernel_rfl) ?_
      refine s_nil ?_
      refine k199 _ _ ?_
      obtain ⟨o217, hx218, r219⟩ := bind_some r201
      refine w_mid (fun α H220 => Has α [(0, hd_rows), (2, .int .i64 hops), (3, .int .i64 settles), (4, .int .u64 most), (10, .pointer (some ⟨b28, 0, none⟩)), (12, .pointer (some ⟨b81, 0, none⟩)), (13, .int .i64 count8)] ∧ FrS (f40 ++ (f50 ++ f62)) H182 H220 ∧ Ow (encI .u64) 1 H220 (.slice a45 n46 c47) o217.1 f40 ∧ Ow (encI .i64) 1 H220 (.slice a55 n56 c57) o217.2.1 f50 ∧ Ow encB 1 H220 (.slice a67 n68 c69) o217.2.2 f62) (fun K228 k228 => ?_) (fun α H220 hM => ?_)
      ·refine w_block ?_
       obtain ⟨n230, hn231⟩ := loopO_iff.1 hx218
       have u246 := ((m125.fr e153 Dj.nil_l).fr e184 (hf75.djn (hm44.lt.le (ntr e52.next e64.next))))
       have u247 := ((m129.fr e153 Dj.nil_l).fr e184 (hf75.djn hm66.lt))
       refine w_loopn (fun n α H232 => ∃ (b0 : List (Int)), ∃ (b1 : List (Int)), ∃ (b2 : List (Bool)), ∃ (i3 : Int), iterO (fun zz_ => z_viaductref08_Run_l0 rows b7 y149 zz_.1 zz_.2.1 zz_.2.2.1 zz_.2.2.2) n (b0, b1, b2, i3) = some o217 ∧ Has α [(0, hd_rows), (2, .int .i64 hops), (3, .int .i64 settles), (4, .int .u64 most), (10, .pointer (some ⟨b28, 0, none⟩)), (12, .pointer (some ⟨b81, 0, none⟩)), (13, .int .i64 count8), (14, .int .i64 y149), (65, .slice a213 n214 c215), (66, .int .i64 ((gt rows y149).length : Int)), (67, .int .i64 i3)] ∧ FrS (f40 ++ (f50 ++ f62)) H182 H232 ∧ Ow (encI .u64) 1 H232 (.slice a45 n46 c47) b0 f40 ∧ Ow (encI .i64) 1 H232 (.slice a55 n56 c57) b1 f50 ∧ Ow encB 1 H232 (.slice a67 n68 c69) b2 f62) n230 ⟨b4, b5, b6, 0, hn231, ⟨by kernel_rfl, by kernel_rfl, by kernel_rfl, by kernel_rfl, by kernel_rfl, by kernel_rfl, by kernel_rfl, by kernel_rfl, by kernel_rfl, by kernel_rfl, by kernel_rfl, trivial⟩, (FrS.refl (W := (f40 ++ (f50 ++ f62))) e184.wf), u246, u191, u247⟩ ?_
       rintro n230 α H232 ⟨b0, b1, b2, i3, hi241, hh240, e233, m235, m237, m239⟩ K248 k248
       obtain ⟨n242, z243, rfl, hz244, hn245⟩ := iter_succ hi241
       obtain ⟨β, rfl⟩ := has_ex hh240
       clear hh240
       replace hz244 : z_viaductref08_Run_l0 rows b7 y149 b0 b1 b2 i3 = some z243 := hz244
       unfold z_viaductref08_Run_l0 at hz244
       refine w_seqk fun K249 k249 => ?_
       refine w_reg (by kernel_rfl) ?_
       refine s_qk (.bool (decide (i3 < ((gt rows y149).length : Int)))) (by kernel_rfl) ?_
       refine s_nil ?_
       refine k249 _ _ ?_
       refine w_seqk fun K250 k250 => ?_
       refine w_condp (i3 < ((gt rows y149).length : Int)) (by kernel_rfl) rfl (fun h251 => ?_) (fun h251 => ?_)
       ·have r252 := ite_t h251 hz244
        refine w_skip ?_
        refine k250 _ _ ?_
        refine w_seqk fun K253 k253 => ?_
        refine w_block ?_
        refine w_seqk fun K254 k254 => ?_
        refine w_reg (by kernel_rfl) ?_
        obtain ⟨g255, r256⟩ := G_some r252
        have u257 := (kd212.fr e233 (Dj.app (hf43.djn (h_rows.lt.le e30.next)) (Dj.app (hf53.djn (h_rows.lt.le (ntr e30.next e42.next))) (hf65.djn (h_rows.lt.le (ntr (ntr e30.next e42.next) e52.next))))))
        refine s_ql (elp (.slice a213 n214 c215) 2 i3.toNat 0) (x := aIndexAddr Tryd.prog 124 (.slice a213 n214 c215) (.int .i64 i3)) (by kernel_rfl) (u257.sq.idxb (by kernel_rfl) g255 h251) ?_
        refine s_ql (.agg #[.int .i64 ((gt (gt rows y149) i3).1), .int .u64 ((gt (gt rows y149) i3).2)]) (x := aLoad Tryd.prog 126 (elp (.slice a213 n214 c215) 2 i3.toNat 0) H232) (by kernel_rfl) (u257.sq.ld g255 h251 (by kernel_rfl)) ?_
        refine s_rwk e233.wf [.int .i64 0, .int .u64 0] (by kernel_rfl) fun b258 H259 e260 hb261 r262 => ?_
        obtain ⟨H264, q265, e266, r267⟩ := Row.store (P := Tryd.prog) (t := 126) (p := 0) e260.wf r262 (.agg #[.int .i64 ((gt (gt rows y149) i3).1), .int .u64 ((gt (gt rows y149) i3).2)]) [.int .i64 ((gt (gt rows y149) i3).1), .int .u64 ((gt (gt rows y149) i3).2)] (by kernel_rfl) (by kernel_rfl) (one_cons (rfl) (one_cons (rfl) (one_nil))) (Nat.le_of_ble_eq_true (by kernel_rfl)) [.int .i64 ((gt (gt rows y149) i3).1), .int .u64 ((gt (gt rows y149) i3).2)] (by kernel_rfl)
        refine s_ek (undef) (by kernel_rfl) (map_ok q265) ?_
        refine s_nil ?_
        refine k254 _ _ ?_
        refine w_seqk fun K268 k268 => ?_
        refine w_draw [0, 1, 2, 3, 4, 5, 6, 7, 8] (by kernel_rfl) ?_
        refine d_qk (.pointer (some ⟨b81, 0, none⟩)) (by kernel_rfl) ?_
        have u269 := (((u188.frS e233 (Dj.app (Dj.symm (hb84.djn (hm44.lt.le (ntr (ntr e52.next e64.next) e74.next)))) (Dj.app (Dj.symm (hb84.djn (hm54.lt.le (ntr e64.next e74.next)))) (Dj.symm (hb84.djn (hm66.lt.le e74.next)))))).ext e260).frS e266 (hb261.djn (r85.ltF.le (ntr (ntr (ntr (ntr (ntr e89.next e101.next) e123.next) e153.next) e184.next) e233.next))))
        refine d_ql (.slice a45 n46 c47) (x := aLoad Tryd.prog 47 (.pointer (some ⟨b81, 0, none⟩)) H264) (by kernel_rfl) (u269.ld (by kernel_rfl)) ?_
        refine d_qk (.int .i64 y149) (by kernel_rfl) ?_
        obtain ⟨g270, r271⟩ := G_some r256
        have u272 := ((m235.ext e260).fr e266 (hb261.djn (hm44.lt.le (ntr (ntr (ntr (ntr (ntr (ntr (ntr (ntr (ntr e52.next e64.next) e74.next) e83.next) e89.next) e101.next) e123.next) e153.next) e184.next) e233.next))))
        refine d_ql (elp (.slice a45 n46 c47) 1 y149.toNat 0) (x := aIndexAddr Tryd.prog 47 (.slice a45 n46 c47) (.int .i64 y149)) (by kernel_rfl) (u272.sq.idxb (by kernel_rfl) g179.1 g270) ?_
        refine d_ql (.int .u64 (gt b0 y149)) (x := aLoad Tryd.prog 42 (elp (.slice a45 n46 c47) 1 y149.toNat 0) H264) (by kernel_rfl) (u272.sq.ld g179.1 g270 (by kernel_rfl)) ?_
        refine d_qk (.pointer (some ⟨b258, 1, none⟩)) (by kernel_rfl) ?_
        refine d_ql (.int .u64 ((gt (gt rows y149) i3).2)) (x := aLoad Tryd.prog 42 (.pointer (some ⟨b258, 1, none⟩)) H264) (by kernel_rfl) (r267.ld (by kernel_rfl)) ?_
        obtain ⟨g273, r274⟩ := G_some r271
        refine d_w (((gt b0 y149) + ((gt (gt rows y149) i3).2))) (k := .u64) (x := ((gt b0 y149) + ((gt (gt rows y149) i3).2))) (by kernel_rfl) (wrapu64 g273) ?_
        refine d_qk (.int .u64 ((gt b0 y149) + ((gt (gt rows y149) i3).2))) (by kernel_rfl) ?_
        refine d_nil ?_
        refine k268 _ _ ?_
        refine w_seqk fun K275 k275 => ?_
        obtain ⟨o276, hx277, r278⟩ := bind_some r274
        refine w_mid (fun α H279 => Has α [(0, hd_rows), (2, .int .i64 hops), (3, .int .i64 settles), (4, .int .u64 most), (10, .pointer (some ⟨b28, 0, none⟩)), (12, .pointer (some ⟨b81, 0, none⟩)), (13, .int .i64 count8), (14, .int .i64 y149), (16, .pointer (some ⟨b258, 0, none⟩)), (17, .int .u64 ((gt b0 y149) + ((gt (gt rows y149) i3).2))), (65, .slice a213 n214 c215), (66, .int .i64 ((gt rows y149).length : Int)), (67, .int .i64 i3), (104, .bool o276)] ∧ H264 = H279) (fun K281 k281 => ?_) (fun α H279 hM => ?_)
        ·refine w_reg (by kernel_rfl) ?_
         refine s_qk (.pointer (some ⟨b81, 3, none⟩)) (by kernel_rfl) ?_
         refine s_ql (.slice a77 n78 c79) (x := aLoad Tryd.prog 104 (.pointer (some ⟨b81, 3, none⟩)) H264) (by kernel_rfl) (u269.ld (by kernel_rfl)) ?_
         refine s_qk (.pointer (some ⟨b258, 0, none⟩)) (by kernel_rfl) ?_
         refine s_ql (.int .i64 ((gt (gt rows y149) i3).1)) (x := aLoad Tryd.prog 3 (.pointer (some ⟨b258, 0, none⟩)) H264) (by kernel_rfl) (r267.ld (by kernel_rfl)) ?_
         obtain ⟨g283, r284⟩ := G_some hx277
         have u285 := (((hm185.fr e233 (Dj.app (Dj.symm (hf75.djn (hm44.lt.le (ntr e52.next e64.next)))) (Dj.app (Dj.symm (hf75.djn (hm54.lt.le e64.next))) (Dj.symm (hf75.djn hm66.lt))))).ext e260).fr e266 (hb261.djn (hm76.lt.le (ntr (ntr (ntr (ntr (ntr (ntr e83.next e89.next) e101.next) e123.next) e153.next) e184.next) e233.next))))
         refine s_ql (elp (.slice a77 n78 c79) 1 ((gt (gt rows y149) i3).1).toNat 0) (x := aIndexAddr Tryd.prog 104 (.slice a77 n78 c79) (.int .i64 ((gt (gt rows y149) i3).1))) (by kernel_rfl) (u285.sq.idxb (by kernel_rfl) g283.1 g283.2) ?_
         refine s_ql (.bool (gt (b7.set y149.toNat true) ((gt (gt rows y149) i3).1))) (x := aLoad Tryd.prog 4 (elp (.slice a77 n78 c79) 1 ((gt (gt rows y149) i3).1).toNat 0) H264) (by kernel_rfl) (u285.sq.ld g283.1 g283.2 (by kernel_rfl)) ?_
         refine s_qk (.bool (!(gt (b7.set y149.toNat true) ((gt (gt rows y149) i3).1)))) (by kernel_rfl) ?_
         refine s_qk (.bool (!(gt (b7.set y149.toNat true) ((gt (gt rows y149) i3).1)))) (by kernel_rfl) ?_
         by_cases h286 : (!(gt (b7.set y149.toNat true) ((gt (gt rows y149) i3).1))) = true
         ·have r287 := ite_t h286 r284
          rw [h286]
          refine s_qk (.pointer (some ⟨b81, 2, none⟩)) (by kernel_rfl) ?_
          refine s_ql (.slice a67 n68 c69) (x := aLoad Tryd.prog 104 (.pointer (some ⟨b81, 2, none⟩)) H264) (by kernel_rfl) (u269.ld (by kernel_rfl)) ?_
          refine s_qk (.pointer (some ⟨b258, 0, none⟩)) (by kernel_rfl) ?_
          refine s_ql (.int .i64 ((gt (gt rows y149) i3).1)) (x := aLoad Tryd.prog 3 (.pointer (some ⟨b258, 0, none⟩)) H264) (by kernel_rfl) (r267.ld (by kernel_rfl)) ?_
          obtain ⟨g288, r289⟩ := G_some r287
          have u290 := ((m239.ext e260).fr e266 (hb261.djn (hm66.lt.le (ntr (ntr (ntr (ntr (ntr (ntr (ntr e74.next e83.next) e89.next) e101.next) e123.next) e153.next) e184.next) e233.next))))
          refine s_ql (elp (.slice a67 n68 c69) 1 ((gt (gt rows y149) i3).1).toNat 0) (x := aIndexAddr Tryd.prog 104 (.slice a67 n68 c69) (.int .i64 ((gt (gt rows y149) i3).1))) (by kernel_rfl) (u290.sq.idxb (by kernel_rfl) g283.1 g288) ?_
          refine s_ql (.bool (gt b2 ((gt (gt rows y149) i3).1))) (x := aLoad Tryd.prog 4 (elp (.slice a67 n68 c69) 1 ((gt (gt rows y149) i3).1).toNat 0) H264) (by kernel_rfl) (u290.sq.ld g283.1 g288 (by kernel_rfl)) ?_
          refine s_qk (.bool (!(gt b2 ((gt (gt rows y149) i3).1)))) (by kernel_rfl) ?_
          refine s_qk (.bool (!(gt b2 ((gt (gt rows y149) i3).1)))) (by kernel_rfl) ?_
          by_cases h291 : (!(gt b2 ((gt (gt rows y149) i3).1))) = true
          ·have r292 := ite_t h291 r289
           rw [h291]
           refine s_no (by kernel_rfl) ?_
           refine s_no (by kernel_rfl) ?_
           refine s_no (by kernel_rfl) ?_
           refine s_no (by kernel_rfl) ?_
           refine s_no (by kernel_rfl) ?_
           refine s_no (by kernel_rfl) ?_
           refine s_no (by kernel_rfl) ?_
           refine s_no (by kernel_rfl) ?_
           refine s_qk (.bool true) (by kernel_rfl) ?_
           refine s_qk (.bool true) (by kernel_rfl) ?_
           refine s_nil ?_
           obtain rfl := Option.some.inj r292
           exact k281 _ _ ⟨⟨by kernel_rfl, by kernel_rfl, by kernel_rfl, by kernel_rfl, by kernel_rfl, by kernel_rfl, by kernel_rfl, by kernel_rfl, by kernel_rfl, by kernel_rfl, by kernel_rfl, by kernel_rfl, by kernel_rfl, by kernel_rfl, trivial⟩, rfl⟩
          ·have r293 := ite_f h291 r289
           rw [nb h291]
           refine s_qk (.int .u64 ((gt b0 y149) + ((gt (gt rows y149) i3).2))) (by kernel_rfl) ?_
           refine s_qk (.pointer (some ⟨b81, 0, none⟩)) (by kernel_rfl) ?_
           refine s_ql (.slice a45 n46 c47) (x := aLoad Tryd.prog 47 (.pointer (some ⟨b81, 0, none⟩)) H264) (by kernel_rfl) (u269.ld (by kernel_rfl)) ?_
           refine s_qk (.pointer (some ⟨b258, 0, none⟩)) (by kernel_rfl) ?_
           refine s_ql (.int .i64 ((gt (gt rows y149) i3).1)) (x := aLoad Tryd.prog 3 (.pointer (some ⟨b258, 0, none⟩)) H264) (by kernel_rfl) (r267.ld (by kernel_rfl)) ?_
           obtain ⟨g294, r295⟩ := G_some r293
           refine s_ql (elp (.slice a45 n46 c47) 1 ((gt (gt rows y149) i3).1).toNat 0) (x := aIndexAddr Tryd.prog 47 (.slice a45 n46 c47) (.int .i64 ((gt (gt rows y149) i3).1))) (by kernel_rfl) (u272.sq.idxb (by kernel_rfl) g283.1 g294) ?_
           refine s_ql (.int .u64 (gt b0 ((gt (gt rows y149) i3).1))) (x := aLoad Tryd.prog 42 (elp (.slice a45 n46 c47) 1 ((gt (gt rows y149) i3).1).toNat 0) H264) (by kernel_rfl) (u272.sq.ld g283.1 g294 (by kernel_rfl)) ?_
           refine s_qk (.bool (decide (((gt b0 y149) + ((gt (gt rows y149) i3).2)) < (gt b0 ((gt (gt rows y149) i3).1))))) (by kernel_rfl) ?_
           refine s_qk (.bool (decide (((gt b0 y149) + ((gt (gt rows y149) i3).2)) < (gt b0 ((gt (gt rows y149) i3).1))))) (by kernel_rfl) ?_
           refine s_qk (.bool (decide (((gt b0 y149) + ((gt (gt rows y149) i3).2)) < (gt b0 ((gt (gt rows y149) i3).1))))) (by kernel_rfl) ?_
           refine s_nil ?_
           obtain rfl := Option.some.inj r295
           exact k281 _ _ ⟨⟨by kernel_rfl, by kernel_rfl, by kernel_rfl, by kernel_rfl, by kernel_rfl, by kernel_rfl, by kernel_rfl, by kernel_rfl, by kernel_rfl, by kernel_rfl, by kernel_rfl, by kernel_rfl, by kernel_rfl, by kernel_rfl, trivial⟩, rfl⟩
         ·have r296 := ite_f h286 r284
          rw [nb h286]
          refine s_no (by kernel_rfl) ?_
          refine s_no (by kernel_rfl) ?_
          refine s_no (by kernel_rfl) ?_
          refine s_no (by kernel_rfl) ?_
          refine s_no (by kernel_rfl) ?_
          refine s_no (by kernel_rfl) ?_
          refine s_no (by kernel_rfl) ?_
          refine s_no (by kernel_rfl) ?_
          refine s_no (by kernel_rfl) ?_
          refine s_no (by kernel_rfl) ?_
          refine s_no (by kernel_rfl) ?_
          refine s_no (by kernel_rfl) ?_
          refine s_no (by kernel_rfl) ?_
          refine s_no (by kernel_rfl) ?_
          refine s_no (by kernel_rfl) ?_
          refine s_no (by kernel_rfl) ?_
          refine s_no (by kernel_rfl) ?_
          refine s_qk (.bool false) (by kernel_rfl) ?_
          refine s_nil ?_
          obtain rfl := Option.some.inj r296
          exact k281 _ _ ⟨⟨by kernel_rfl, by kernel_rfl, by kernel_rfl, by kernel_rfl, by kernel_rfl, by kernel_rfl, by kernel_rfl, by kernel_rfl, by kernel_rfl, by kernel_rfl, by kernel_rfl, by kernel_rfl, by kernel_rfl, by kernel_rfl, trivial⟩, rfl⟩
        ·obtain ⟨hh282, rfl⟩ := hM
         obtain ⟨β, rfl⟩ := has_ex hh282
         clear hh282
         refine k275 _ _ ?_
         refine w_cond (o276) (by kernel_rfl) rfl (fun h297 => ?_) (fun h297 => ?_)
         ·have r298 := ite_t h297 r278
          refine w_seqk fun K299 k299 => ?_
          refine w_reg (by kernel_rfl) ?_
          refine s_qk (.pointer (some ⟨b81, 2, none⟩)) (by kernel_rfl) ?_
          refine s_ql (.slice a67 n68 c69) (x := aLoad Tryd.prog 104 (.pointer (some ⟨b81, 2, none⟩)) H264) (by kernel_rfl) (u269.ld (by kernel_rfl)) ?_
          refine s_qk (.pointer (some ⟨b258, 0, none⟩)) (by kernel_rfl) ?_
          refine s_ql (.int .i64 ((gt (gt rows y149) i3).1)) (x := aLoad Tryd.prog 3 (.pointer (some ⟨b258, 0, none⟩)) H264) (by kernel_rfl) (r267.ld (by kernel_rfl)) ?_
          obtain ⟨g300, r301⟩ := G_some r298
          have u302 := ((m239.ext e260).fr e266 (hb261.djn (hm66.lt.le (ntr (ntr (ntr (ntr (ntr (ntr (ntr e74.next e83.next) e89.next) e101.next) e123.next) e153.next) e184.next) e233.next))))
          refine s_ql (elp (.slice a67 n68 c69) 1 ((gt (gt rows y149) i3).1).toNat 0) (x := aIndexAddr Tryd.prog 104 (.slice a67 n68 c69) (.int .i64 ((gt (gt rows y149) i3).1))) (by kernel_rfl) (u302.sq.idxb (by kernel_rfl) g300.1 g300.2) ?_
          obtain ⟨H303, q304, e305, hm306⟩ := Ow.store (P := Tryd.prog) (t := 4) (off := 0) e266.wf u302 g300.1 g300.2 (.bool true) [.bool true] (by kernel_rfl) (by kernel_rfl) rfl true (Nat.le_of_ble_eq_true rfl) (by kernel_rfl)
          refine s_ek (undef) (by kernel_rfl) (map_ok q304) ?_
          refine s_nil ?_
          refine k299 _ _ ?_
          refine w_seqk fun K307 k307 => ?_
          refine w_reg (by kernel_rfl) ?_
          refine s_qk (.pointer (some ⟨b81, 0, none⟩)) (by kernel_rfl) ?_
          have u308 := (u269.frS e305 (Dj.symm (hb84.djn (hm66.lt.le e74.next))))
          refine s_ql (.slice a45 n46 c47) (x := aLoad Tryd.prog 47 (.pointer (some ⟨b81, 0, none⟩)) H303) (by kernel_rfl) (u308.ld (by kernel_rfl)) ?_
          refine s_qk (.pointer (some ⟨b258, 0, none⟩)) (by kernel_rfl) ?_
          have u309 := (r267.frS e305 (Dj.symm (hb261.djn (hm66.lt.le (ntr (ntr (ntr (ntr (ntr (ntr (ntr e74.next e83.next) e89.next) e101.next) e123.next) e153.next) e184.next) e233.next)))))
          refine s_ql (.int .i64 ((gt (gt rows y149) i3).1)) (x := aLoad Tryd.prog 3 (.pointer (some ⟨b258, 0, none⟩)) H303) (by kernel_rfl) (u309.ld (by kernel_rfl)) ?_
          refine s_qk (.int .u64 ((gt b0 y149) + ((gt (gt rows y149) i3).2))) (by kernel_rfl) ?_
          obtain ⟨g310, r311⟩ := G_some r301
          have u312 := (u272.fr e305 (hf65.djn (hm44.lt.le e52.next)))
          refine s_ql (elp (.slice a45 n46 c47) 1 ((gt (gt rows y149) i3).1).toNat 0) (x := aIndexAddr Tryd.prog 47 (.slice a45 n46 c47) (.int .i64 ((gt (gt rows y149) i3).1))) (by kernel_rfl) (u312.sq.idxb (by kernel_rfl) g300.1 g310) ?_
          obtain ⟨H313, q314, e315, hm316⟩ := Ow.store (P := Tryd.prog) (t := 42) (off := 0) e305.wf u312 g300.1 g310 (.int .u64 ((gt b0 y149) + ((gt (gt rows y149) i3).2))) [.int .u64 ((gt b0 y149) + ((gt (gt rows y149) i3).2))] (by kernel_rfl) (by kernel_rfl) rfl ((gt b0 y149) + ((gt (gt rows y149) i3).2)) (Nat.le_of_ble_eq_true rfl) (by kernel_rfl)
          refine s_ek (undef) (by kernel_rfl) (map_ok q314) ?_
          refine s_nil ?_
          refine k307 _ _ ?_
          refine w_draw [0, 1, 2, 3, 4, 5, 6, 7, 8, 9, 10, 11] (by kernel_rfl) ?_
          refine d_qk (.pointer (some ⟨b81, 1, none⟩)) (by kernel_rfl) ?_
          have u317 := (u308.frS e315 (Dj.symm (hb84.djn (hm44.lt.le (ntr (ntr e52.next e64.next) e74.next)))))
          refine d_ql (.slice a55 n56 c57) (x := aLoad Tryd.prog 22 (.pointer (some ⟨b81, 1, none⟩)) H313) (by kernel_rfl) (u317.ld (by kernel_rfl)) ?_
          refine d_qk (.pointer (some ⟨b258, 0, none⟩)) (by kernel_rfl) ?_
          have u318 := (u309.frS e315 (Dj.symm (hb261.djn (hm44.lt.le (ntr (ntr (ntr (ntr (ntr (ntr (ntr (ntr (ntr e52.next e64.next) e74.next) e83.next) e89.next) e101.next) e123.next) e153.next) e184.next) e233.next)))))
          refine d_ql (.int .i64 ((gt (gt rows y149) i3).1)) (x := aLoad Tryd.prog 3 (.pointer (some ⟨b258, 0, none⟩)) H313) (by kernel_rfl) (u318.ld (by kernel_rfl)) ?_
          refine d_qk (.pointer (some ⟨b81, 1, none⟩)) (by kernel_rfl) ?_
          refine d_ql (.slice a55 n56 c57) (x := aLoad Tryd.prog 22 (.pointer (some ⟨b81, 1, none⟩)) H313) (by kernel_rfl) (u317.ld (by kernel_rfl)) ?_
          refine d_qk (.int .i64 y149) (by kernel_rfl) ?_
          obtain ⟨g319, r320⟩ := G_some r311
          have u321 := ((((m237.ext e260).fr e266 (hb261.djn (hm54.lt.le (ntr (ntr (ntr (ntr (ntr (ntr (ntr (ntr e64.next e74.next) e83.next) e89.next) e101.next) e123.next) e153.next) e184.next) e233.next)))).fr e305 (hf65.djn hm54.lt)).fr e315 (Dj.symm (hf53.djn hm44.lt)))
          refine d_ql (elp (.slice a55 n56 c57) 1 y149.toNat 0) (x := aIndexAddr Tryd.prog 22 (.slice a55 n56 c57) (.int .i64 y149)) (by kernel_rfl) (u321.sq.idxb (by kernel_rfl) g179.1 g319) ?_
          refine d_ql (.int .i64 (gt b1 y149)) (x := aLoad Tryd.prog 3 (elp (.slice a55 n56 c57) 1 y149.toNat 0) H313) (by kernel_rfl) (u321.sq.ld g179.1 g319 (by kernel_rfl)) ?_
          obtain ⟨g322, r323⟩ := G_some r320
          refine d_w (((gt b1 y149) + 1)) (k := .i64) (x := ((gt b1 y149) + 1)) (by kernel_rfl) (wrap64 g322) ?_
          obtain ⟨g324, r325⟩ := G_some r323
          refine d_ql (elp (.slice a55 n56 c57) 1 ((gt (gt rows y149) i3).1).toNat 0) (x := aIndexAddr Tryd.prog 22 (.slice a55 n56 c57) (.int .i64 ((gt (gt rows y149) i3).1))) (by kernel_rfl) (u321.sq.idxb (by kernel_rfl) g300.1 g324) ?_
          obtain ⟨H326, q327, e328, hm329⟩ := Ow.store (P := Tryd.prog) (t := 3) (off := 0) e315.wf u321 g300.1 g324 (.int .i64 ((gt b1 y149) + 1)) [.int .i64 ((gt b1 y149) + 1)] (by kernel_rfl) (by kernel_rfl) rfl ((gt b1 y149) + 1) (Nat.le_of_ble_eq_true rfl) (by kernel_rfl)
          refine d_ek (undef) (by kernel_rfl) (map_ok q327) (st_nil) ?_
          refine d_nil ?_
          refine k253 _ _ ?_
          refine w_reg (by kernel_rfl) ?_
          obtain ⟨g330, r331⟩ := G_some r325
          refine s_w ((i3 + 1)) (k := .i64) (x := (i3 + 1)) (by kernel_rfl) (wrap64 (by have := g330; omega)) ?_
          refine s_qk (.int .i64 (i3 + 1)) (by kernel_rfl) ?_
          refine s_nil ?_
          have u332 := (hm316.fr e328 (hf53.djn hm44.lt))
          have u333 := ((hm306.fr e315 (Dj.symm (hf65.djn (hm44.lt.le e52.next)))).fr e328 (Dj.symm (hf65.djn hm54.lt)))
          obtain rfl := Option.some.inj r331
          exact k248 n242 _ _ (Nat.lt_succ_self _) ⟨(b0.set ((gt (gt rows y149) i3).1).toNat ((gt b0 y149) + ((gt (gt rows y149) i3).2))), (b1.set ((gt (gt rows y149) i3).1).toNat ((gt b1 y149) + 1)), (b2.set ((gt (gt rows y149) i3).1).toNat true), (i3 + 1), hn245, ⟨by kernel_rfl, by kernel_rfl, by kernel_rfl, by kernel_rfl, by kernel_rfl, by kernel_rfl, by kernel_rfl, by kernel_rfl, by kernel_rfl, by kernel_rfl, by kernel_rfl, trivial⟩, (FrS.step e184.wf (FrS.step e184.wf (FrS.step e184.wf (FrS.step e184.wf ((FrS.step e184.wf (FrS.refl (W := (f40 ++ (f50 ++ f62))) e184.wf) e233 (Inn.app Inn.left (Inn.app (Inn.right Inn.left) (Inn.right (Inn.right Inn.refl'))))).extR e260) e266 (hb261.fresh e233.next)) e305 (Inn.right (Inn.right Inn.refl'))) e315 Inn.left) e328 (Inn.right Inn.left)), u332, hm329, u333⟩
         ·have r334 := ite_bf h297 r278
          refine w_skip ?_
          refine k253 _ _ ?_
          refine w_reg (by kernel_rfl) ?_
          obtain ⟨g335, r336⟩ := G_some r334
          refine s_w ((i3 + 1)) (k := .i64) (x := (i3 + 1)) (by kernel_rfl) (wrap64 (by have := g335; omega)) ?_
          refine s_qk (.int .i64 (i3 + 1)) (by kernel_rfl) ?_
          refine s_nil ?_
          have u337 := ((m237.ext e260).fr e266 (hb261.djn (hm54.lt.le (ntr (ntr (ntr (ntr (ntr (ntr (ntr (ntr e64.next e74.next) e83.next) e89.next) e101.next) e123.next) e153.next) e184.next) e233.next))))
          have u338 := ((m239.ext e260).fr e266 (hb261.djn (hm66.lt.le (ntr (ntr (ntr (ntr (ntr (ntr (ntr e74.next e83.next) e89.next) e101.next) e123.next) e153.next) e184.next) e233.next))))
          obtain rfl := Option.some.inj r336
          exact k248 n242 _ _ (Nat.lt_succ_self _) ⟨b0, b1, b2, (i3 + 1), hn245, ⟨by kernel_rfl, by kernel_rfl, by kernel_rfl, by kernel_rfl, by kernel_rfl, by kernel_rfl, by kernel_rfl, by kernel_rfl, by kernel_rfl, by kernel_rfl, by kernel_rfl, trivial⟩, (FrS.step e184.wf ((FrS.step e184.wf (FrS.refl (W := (f40 ++ (f50 ++ f62))) e184.wf) e233 (Inn.app Inn.left (Inn.app (Inn.right Inn.left) (Inn.right (Inn.right Inn.refl'))))).extR e260) e266 (hb261.fresh e233.next)), u272, u337, u338⟩
       ·have r339 := ite_f h251 hz244
        refine w_exit (th_exit (th_exit (bl_eq ?_)))
        obtain rfl := Option.some.inj r339
        obtain rfl := it_inr hn245
        exact k228 _ _ ⟨⟨by kernel_rfl, by kernel_rfl, by kernel_rfl, by kernel_rfl, by kernel_rfl, by kernel_rfl, by kernel_rfl, trivial⟩, (FrS.step e184.wf (FrS.refl (W := (f40 ++ (f50 ++ f62))) e184.wf) e233 (Inn.app Inn.left (Inn.app (Inn.right Inn.left) (Inn.right (Inn.right Inn.refl'))))), m235, m237, m239⟩
      ·obtain ⟨hh229, e221, m223, m225, m227⟩ := hM
       obtain ⟨β, rfl⟩ := has_ex hh229
       clear hh229
       refine k146 _ _ ?_
       refine w_reg (by kernel_rfl) ?_
       refine s_qk (.int .i64 count8) (by kernel_rfl) ?_
       obtain ⟨g340, r341⟩ := G_some r219
       refine s_w ((count8 + 1)) (k := .i64) (x := (count8 + 1)) (by kernel_rfl) (wrap64 g340) ?_
       refine s_qk (.int .i64 (count8 + 1)) (by kernel_rfl) ?_
       refine s_nil ?_
       have u342 := (hm185.fr e221 (Dj.app (Dj.symm (hf75.djn (hm44.lt.le (ntr e52.next e64.next)))) (Dj.app (Dj.symm (hf75.djn (hm54.lt.le e64.next))) (Dj.symm (hf75.djn hm66.lt)))))
       obtain rfl := Option.some.inj r341
       exact k141 n134 _ _ (Nat.lt_succ_self _) ⟨o217.1, o217.2.1, o217.2.2, (b7.set y149.toNat true), (count8 + 1), hn137, ⟨by kernel_rfl, by kernel_rfl, by kernel_rfl, by kernel_rfl, by kernel_rfl, by kernel_rfl, by kernel_rfl, trivial⟩, (FrS.step e101.wf (FrS.step e101.wf (FrS.step e101.wf (FrS.step e101.wf (FrS.refl (W := (f40 ++ (f50 ++ (f62 ++ f72)))) e101.wf) e123 (Inn.app Inn.left (Inn.app (Inn.right Inn.left) (Inn.app (Inn.right (Inn.right Inn.left)) (Inn.right (Inn.right (Inn.right Inn.refl'))))))) e153 Inn.nil) e184 (Inn.right (Inn.right (Inn.right Inn.refl')))) e221 (Inn.app Inn.left (Inn.app (Inn.right Inn.left) (Inn.right (Inn.right Inn.left))))), m223, m225, m227, u342⟩
  ·have r343 := ite_f h144 hz136
   refine w_exit (th_exit (th_exit (bl_eq ?_)))
   obtain rfl := Option.some.inj r343
   obtain rfl := it_inr hn137
   exact k118 _ _ ⟨⟨by kernel_rfl, by kernel_rfl, trivial⟩, (FrS.step e101.wf (FrS.refl (W := (f40 ++ (f50 ++ (f62 ++ f72)))) e101.wf) e123 (Inn.app Inn.left (Inn.app (Inn.right Inn.left) (Inn.app (Inn.right (Inn.right Inn.left)) (Inn.right (Inn.right (Inn.right Inn.refl'))))))), m125, m127, m129, m131⟩
 ·obtain ⟨hh119, e109, m111, m113, m115, m117⟩ := hM
  obtain ⟨β, rfl⟩ := has_ex hh119
  clear hh119
  refine k103 _ _ ?_
  refine w_seqk fun K344 k344 => ?_
  refine w_reg (by kernel_rfl) ?_
  have u345 := ((r90.frS e101 (Dj.symm (hb84.djn (hm66.lt.le e74.next)))).frS e109 (Dj.app (Dj.symm (hb84.djn (hm44.lt.le (ntr (ntr e52.next e64.next) e74.next)))) (Dj.app (Dj.symm (hb84.djn (hm54.lt.le (ntr e64.next e74.next)))) (Dj.app (Dj.symm (hb84.djn (hm66.lt.le e74.next))) (Dj.symm (hb84.djn hm76.lt))))))
  refine s_ql (.agg #[.slice a45 n46 c47, .slice a55 n56 c57, .slice a67 n68 c69, .slice a77 n78 c79]) (x := aLoad Tryd.prog 128 (.pointer (some ⟨b81, 0, none⟩)) H108) (by kernel_rfl) (u345.ld (by kernel_rfl)) ?_
  have u350 := ((((((((r32.ext e42).ext e52).ext e64).ext e74).ext e83).frS e89 (hb84.djn (r32.ltF.le (ntr (ntr (ntr e42.next e52.next) e64.next) e74.next)))).frS e101 (hf65.djn (r32.ltF.le (ntr e42.next e52.next)))).frS e109 (Dj.app (hf43.djn r32.ltF) (Dj.app (hf53.djn (r32.ltF.le e42.next)) (Dj.app (hf65.djn (r32.ltF.le (ntr e42.next e52.next))) (hf75.djn (r32.ltF.le (ntr (ntr e42.next e52.next) e64.next)))))))
  obtain ⟨H346, q347, e348, r349⟩ := Row.store (P := Tryd.prog) (t := 128) (p := 0) e109.wf u350 (.agg #[.slice a45 n46 c47, .slice a55 n56 c57, .slice a67 n68 c69, .slice a77 n78 c79]) [.slice a45 n46 c47, .slice a55 n56 c57, .slice a67 n68 c69, .slice a77 n78 c79] (by kernel_rfl) (by kernel_rfl) (one_cons (m111.one1) (one_cons (m113.one1) (one_cons (m115.one1) (one_cons (m117.one1) (one_nil))))) (Nat.le_of_ble_eq_true (by kernel_rfl)) [.slice a45 n46 c47, .slice a55 n56 c57, .slice a67 n68 c69, .slice a77 n78 c79] (by kernel_rfl)
  refine s_ek (undef) (by kernel_rfl) (map_ok q347) ?_
  refine s_nil ?_
  refine k344 _ _ ?_
  refine w_ret ?_
  refine b_ret (fn := Tryd.f64) (vs := [.agg #[.slice a45 n46 c47, .slice a55 n56 c57, .slice a67 n68 c69, .slice a77 n78 c79]]) (aRes_cell (Eq.trans (b := aLoad Tryd.prog 128 (.pointer (some ⟨b28, 0, none⟩)) H346) (by kernel_rfl) (r349.ld (by kernel_rfl))) (rfl)) ?_
  have u351 := (m111.fr e348 (Dj.symm (hf43.djn r32.ltF)))
  have u352 := (m113.fr e348 (Dj.symm (hf53.djn (r32.ltF.le e42.next))))
  have u353 := (m115.fr e348 (Dj.symm (hf65.djn (r32.ltF.le (ntr e42.next e52.next)))))
  have u354 := (m117.fr e348 (Dj.symm (hf75.djn (r32.ltF.le (ntr (ntr e42.next e52.next) e64.next)))))
  obtain rfl := Option.some.inj r107
  exact ⟨(.slice a45 n46 c47), f40, (.slice a55 n56 c57), f50, (.slice a67 n68 c69), f62, (.slice a77 n78 c79), f72, rfl, (FrS.step wf (FrS.step wf (FrS.step wf (FrS.step wf (((((((FrS.refl (W := []) wf).extR e30).extR e42).extR e52).extR e64).extR e74).extR e83) e89 (hb84.fresh (ntr (ntr (ntr (ntr e30.next e42.next) e52.next) e64.next) e74.next))) e101 (hf65.fresh (ntr (ntr e30.next e42.next) e52.next))) e109 (Inn.app (hf43.fresh e30.next) (Inn.app (hf53.fresh (ntr e30.next e42.next)) (Inn.app (hf65.fresh (ntr (ntr e30.next e42.next) e52.next)) (hf75.fresh (ntr (ntr (ntr e30.next e42.next) e52.next) e64.next)))))) e348 (hb31.fresh (Nat.le_refl _))), u351, u352, u353, u354, (hf43.fresh e30.next), (hf53.fresh (ntr e30.next e42.next)), (hf65.fresh (ntr (ntr e30.next e42.next) e52.next)), (hf75.fresh (ntr (ntr (ntr e30.next e42.next) e52.next) e64.next)), (Dj.symm (hf53.djn hm44.lt)), (Dj.symm (hf65.djn (hm44.lt.le e52.next))), (Dj.symm (hf65.djn hm54.lt)), (Dj.symm (hf75.djn (hm44.lt.le (ntr e52.next e64.next)))), (Dj.symm (hf75.djn (hm54.lt.le e64.next))), (Dj.symm (hf75.djn hm66.lt))⟩

theorem c_viaductref08_DocBounded {H : AH} {hd_First : Value} {fp_First : Fp} {hd_To : Value} {fp_To : Fp} {hd_Weight : Value} {fp_Weight : Fp} {First : List (Int)} {To : List (Int)} {Weight : List (Int)} {s : Int} {hops : Int} {settles : Int} {most : Int} {r : List (Int × Int × Int × Bool) × Int × List (Int × Int)}
  (wf : WF H) (h_First : Sq (encI .i64) 1 H hd_First First fp_First) (h_To : Sq (encI .i64) 1 H hd_To To fp_To) (h_Weight : Sq (encI .i64) 1 H hd_Weight Weight fp_Weight) (hr : z_viaductref08_DocBounded First To Weight s hops settles most = some r) :
  ACalls Tryd.prog 33 #[.agg #[hd_First, hd_To, hd_Weight], .int .i64 s, .int .i64 hops, .int .i64 settles, .int .u64 most] H fun v H' => ∃ (s3 : Value) (f4 : Fp) (s7 : Value) (f8 : Fp), v = .tuple #[s3, .agg #[.int .i64 r.2.1, s7]] ∧ FrS [] H H' ∧ Ow enc_i64_u64_i64_bool 4 H' s3 r.1 f4 ∧ Ow enc_i64_i64 2 H' s7 r.2.2 f8 ∧ Inn [] H f4 ∧ Inn [] H f8 ∧ Dj f4 f8 := by
 refine acalls_of_body mixed Tryd.func33 rfl (Nat.le_of_ble_eq_true rfl) ?_
 unfold z_viaductref08_DocBounded at hr
 refine w_seqk fun K12 k12 => ?_
 refine w_reg (by kernel_rfl) ?_
 refine s_rwl wf [hd_First, hd_To, hd_Weight] (one_cons (h_First.one1) (one_cons (h_To.one1) (one_cons (h_Weight.one1) (one_nil)))) (by kernel_rfl) fun b13 H14 e15 hb16 r17 => ?_
 refine s_qk (.slice none 0 0) (by kernel_rfl) ?_
 refine s_rwk e15.wf [.int .i64 0, .slice none 0 0] (by kernel_rfl) fun b19 H20 e21 hb22 r23 => ?_
 refine s_nil ?_
 refine k12 _ _ ?_
 refine w_seqk fun K25 k25 => ?_
 refine w_seqk fun K26 k26 => ?_
 refine w_reg (by kernel_rfl) ?_
 have u27 := (r17.ext e21)
 refine s_ql (.agg #[hd_First, hd_To, hd_Weight]) (x := aLoad Tryd.prog 37 (.pointer (some ⟨b13, 0, none⟩)) H20) (by kernel_rfl) (u27.ld (by kernel_rfl)) ?_
 refine s_qk (.int .i64 s) (by kernel_rfl) ?_
 have u28 := ((h_First.ext e15).ext e21)
 have u29 := ((h_To.ext e15).ext e21)
 have u30 := ((h_Weight.ext e15).ext e21)
 obtain ⟨y31, hy32, r33⟩ := bind_some hr
 refine s_ck 54 #[.agg #[hd_First, hd_To, hd_Weight], .int .i64 s] (by kernel_rfl) (c_viaductref08_node e21.wf u28 u29 u30 hy32) ?_
 rintro _ H36 ⟨s34, f35, rfl, e37, m38, i39⟩
 obtain ⟨a41, n42, c43, rfl⟩ := m38.form
 refine s_rwk e37.wf [.int .i64 0, .slice none 0 0] (by kernel_rfl) fun b44 H45 e46 hb47 r48 => ?_
 have u54 := (m38.ext e46)
 obtain ⟨H50, q51, e52, r53⟩ := Row.store (P := Tryd.prog) (t := 31) (p := 0) e46.wf r48 (.agg #[.int .i64 y31.1, .slice a41 n42 c43]) [.int .i64 y31.1, .slice a41 n42 c43] (by kernel_rfl) (by kernel_rfl) (one_cons (rfl) (one_cons (u54.one1) (one_nil))) (Nat.le_of_ble_eq_true (by kernel_rfl)) [.int .i64 y31.1, .slice a41 n42 c43] (by kernel_rfl)
 refine s_ek (undef) (by kernel_rfl) (map_ok q51) ?_
 refine s_nil ?_
 refine k26 _ _ ?_
 refine w_seqk fun K55 k55 => ?_
 refine w_reg (by kernel_rfl) ?_
 refine s_ql (.agg #[.int .i64 y31.1, .slice a41 n42 c43]) (x := aLoad Tryd.prog 31 (.pointer (some ⟨b44, 0, none⟩)) H50) (by kernel_rfl) (r53.ld (by kernel_rfl)) ?_
 have u56 := (u54.fr e52 (hb47.djn m38.lt))
 obtain ⟨y57, hy58, r59⟩ := bind_some r33
 refine s_ck 24 #[.agg #[.int .i64 y31.1, .slice a41 n42 c43]] (by kernel_rfl) (c_viaductref01_Err_Bad e52.wf u56.sq hy58) ?_
 rintro _ H60 ⟨rfl, e61⟩
 refine s_nil ?_
 refine k55 _ _ ?_
 refine w_cond (y57) (by kernel_rfl) rfl (fun h62 => ?_) (fun h62 => ?_)
 ·have r63 := ite_t h62 r59
  refine w_seqk fun K64 k64 => ?_
  refine w_draw [0, 1, 2] (by kernel_rfl) ?_
  have u65 := (r53.frS e61 Dj.nil_l)
  refine d_ql (.agg #[.int .i64 y31.1, .slice a41 n42 c43]) (x := aLoad Tryd.prog 31 (.pointer (some ⟨b44, 0, none⟩)) H60) (by kernel_rfl) (u65.ld (by kernel_rfl)) ?_
  refine d_qk (.slice none 0 0) (by kernel_rfl) ?_
  have u70 := ((((r23.frS e37 Dj.nil_l).ext e46).frS e52 (hb47.djn (r23.ltF.le e37.next))).frS e61 Dj.nil_l)
  have u71 := (u56.fr e61 Dj.nil_l)
  obtain ⟨H66, q67, e68, r69⟩ := Row.store (P := Tryd.prog) (t := 31) (p := 0) e61.wf u70 (.agg #[.int .i64 y31.1, .slice a41 n42 c43]) [.int .i64 y31.1, .slice a41 n42 c43] (by kernel_rfl) (by kernel_rfl) (one_cons (rfl) (one_cons (u71.one1) (one_nil))) (Nat.le_of_ble_eq_true (by kernel_rfl)) [.int .i64 y31.1, .slice a41 n42 c43] (by kernel_rfl)
  refine d_ek (undef) (by kernel_rfl) (map_ok q67) (st_nil) ?_
  refine d_nil ?_
  refine k64 _ _ ?_
  refine w_ret (th_ret ?_)
  refine b_ret (fn := Tryd.f33) (vs := [.slice none 0 0, .agg #[.int .i64 y31.1, .slice a41 n42 c43]]) (aRes_tmp (by kernel_rfl) (aRes_cell (Eq.trans (b := aLoad Tryd.prog 31 (.pointer (some ⟨b19, 0, none⟩)) H66) (by kernel_rfl) (r69.ld (by kernel_rfl))) (rfl))) ?_
  have u72 := (u71.fr e68 (Dj.symm (i39.djn r23.ltF)))
  obtain rfl := Option.some.inj r63
  exact ⟨(.slice none 0 0), [], (.slice a41 n42 c43), f35, rfl, (FrS.step wf (FrS.step wf (FrS.step wf ((FrS.step wf (((FrS.refl (W := []) wf).extR e15).extR e21) e37 Inn.nil).extR e46) e52 (hb47.fresh (ntr (ntr e15.next e21.next) e37.next))) e61 Inn.nil) e68 (hb22.fresh e15.next)), (Ow.nil (by decide)), u72, Inn.nil, (i39.fresh (ntr e15.next e21.next)), Dj.nil_l⟩
 ·have r73 := ite_bf h62 r59
  refine w_skip ?_
  refine k25 _ _ ?_
  refine w_seqk fun K74 k74 => ?_
  refine w_reg (by kernel_rfl) ?_
  refine s_qk (.pointer (some ⟨b13, 0, none⟩)) (by kernel_rfl) ?_
  have u75 := ((((u27.frS e37 Dj.nil_l).ext e46).frS e52 (hb47.djn (r17.ltF.le (ntr e21.next e37.next)))).frS e61 Dj.nil_l)
  refine s_ql (hd_First) (x := aLoad Tryd.prog 22 (.pointer (some ⟨b13, 0, none⟩)) H60) (by kernel_rfl) (u75.ld (by kernel_rfl)) ?_
  have u76 := ((((u28.fr e37 Dj.nil_l).ext e46).fr e52 (hb47.djn (h_First.lt.le (ntr (ntr e15.next e21.next) e37.next)))).fr e61 Dj.nil_l)
  refine s_ql (.int .i64 (First.length : Int)) (x := aLen Tryd.prog 22 hd_First H60) (by kernel_rfl) (u76.lenb (by kernel_rfl)) ?_
  obtain ⟨g77, r78⟩ := G_some r73
  refine s_w (((First.length : Int) - 1)) (k := .i64) (x := ((First.length : Int) - 1)) (by kernel_rfl) (wrap64 g77) ?_
  obtain ⟨g79, r80⟩ := G_some r78
  refine s_mks (t := 119) (m := 24) (l := ((First.length : Int) - 1)) (c := ((First.length : Int) - 1)) (enc := id) (sz := 1) e61.wf [.slice none 0 0] (by kernel_rfl) (by decide) g79.1 (Int.le_refl _) (by omega) (by have := g79; omega) (by kernel_rfl) fun s81 f82 H83 e84 hf85 hm86 => ?_
  replace hm86 := Nst.zeros (C := (CR.sl enc_i64_u64 2)) (x0 := ([] : List (Int × Int))) hm86 (fun _ => cr_sl_mk (Ow.nil (by decide)))
  obtain ⟨a87, n88, c89, rfl⟩ := hm86.form
  have hm86 : Nst (CR.sl enc_i64_u64 2) H83 (.slice a87 n88 c89) (List.replicate ((First.length : Int) - 1).toNat ([] : List (Int × Int))) f82 := hm86
  refine s_qk (.slice a87 n88 c89) (by kernel_rfl) ?_
  refine s_nil ?_
  refine k74 _ _ ?_
  refine w_seqk fun K91 k91 => ?_
  refine w_seqk fun K92 k92 => ?_
  refine w_reg (by kernel_rfl) ?_
  refine s_qk (.slice a87 n88 c89) (by kernel_rfl) ?_
  refine s_ql (.int .i64 ((List.replicate ((First.length : Int) - 1).toNat ([] : List (Int × Int))).length : Int)) (x := aLen Tryd.prog 119 (.slice a87 n88 c89) H83) (by kernel_rfl) (hm86.lenb (by kernel_rfl)) ?_
  refine s_qk (.int .i64 0) (by kernel_rfl) ?_
  refine s_nil ?_
  refine k92 _ _ ?_
  obtain ⟨o93, hx94, r95⟩ := bind_some r80
  refine w_mid (fun α H96 => ∃ (f100 : Fp), Has α [(1, .int .i64 s), (2, .int .i64 hops), (3, .int .i64 settles), (4, .int .u64 most), (11, .pointer (some ⟨b19, 0, none⟩)), (13, .slice a87 n88 c89)] ∧ FrS f82 H83 H96 ∧ Nst (CR.sl enc_i64_u64 2) H96 (.slice a87 n88 c89) o93 f100 ∧ Inn f82 H83 f100) (fun K102 k102 => ?_) (fun α H96 hM => ?_)
  ·refine w_block ?_
   obtain ⟨n104, hn105⟩ := loopO_iff.1 hx94
   refine w_loopn (fun n α H106 => ∃ (rows2 : List (List (Int × Int))), ∃ (i3 : Int), ∃ (f110 : Fp), iterO (fun zz_ => z_viaductref08_DocBounded_l1 First To Weight zz_.1 zz_.2) n (rows2, i3) = some o93 ∧ Has α [(1, .int .i64 s), (2, .int .i64 hops), (3, .int .i64 settles), (4, .int .u64 most), (5, .pointer (some ⟨b13, 0, none⟩)), (11, .pointer (some ⟨b19, 0, none⟩)), (13, .slice a87 n88 c89), (32, .int .i64 ((List.replicate ((First.length : Int) - 1).toNat ([] : List (Int × Int))).length : Int)), (33, .int .i64 i3)] ∧ FrS f82 H83 H106 ∧ Nst (CR.sl enc_i64_u64 2) H106 (.slice a87 n88 c89) rows2 f110 ∧ Inn f82 H83 f110) n104 ⟨(List.replicate ((First.length : Int) - 1).toNat ([] : List (Int × Int))), 0, f82, hn105, ⟨by kernel_rfl, by kernel_rfl, by kernel_rfl, by kernel_rfl, by kernel_rfl, by kernel_rfl, by kernel_rfl, by kernel_rfl, by kernel_rfl, trivial⟩, (FrS.refl (W := f82) e84.wf), hm86, Inn.refl'⟩ ?_
   rintro n104 α H106 ⟨rows2, i3, f110, hi113, hh112, e107, m109, i111⟩ K118 k118
   obtain ⟨n114, z115, rfl, hz116, hn117⟩ := iter_succ hi113
   obtain ⟨β, rfl⟩ := has_ex hh112
   clear hh112
   replace hz116 : z_viaductref08_DocBounded_l1 First To Weight rows2 i3 = some z115 := hz116
   unfold z_viaductref08_DocBounded_l1 at hz116
   refine w_seqk fun K119 k119 => ?_
   refine w_reg (by kernel_rfl) ?_
   refine s_qk (.bool (decide (i3 < ((List.replicate ((First.length : Int) - 1).toNat ([] : List (Int × Int))).length : Int)))) (by kernel_rfl) ?_
   refine s_nil ?_
   refine k119 _ _ ?_
   refine w_seqk fun K120 k120 => ?_
   refine w_condp (i3 < ((List.replicate ((First.length : Int) - 1).toNat ([] : List (Int × Int))).length : Int)) (by kernel_rfl) rfl (fun h121 => ?_) (fun h121 => ?_)
   ·have r122 := ite_t h121 hz116
    refine w_skip ?_
    refine k120 _ _ ?_
    refine w_seqk fun K123 k123 => ?_
    refine w_block ?_
    refine w_seqk fun K124 k124 => ?_
    refine w_reg (by kernel_rfl) ?_
    refine s_qk (.int .i64 i3) (by kernel_rfl) ?_
    refine s_qk (.int .i64 i3) (by kernel_rfl) ?_
    refine s_nil ?_
    refine k124 _ _ ?_
    refine w_seqk fun K125 k125 => ?_
    refine w_reg (by kernel_rfl) ?_
    have u126 := ((u75.ext e84).frS e107 (hf85.djn (r17.ltF.le (ntr (ntr (ntr (ntr e21.next e37.next) e46.next) e52.next) e61.next))))
    refine s_ql (.agg #[hd_First, hd_To, hd_Weight]) (x := aLoad Tryd.prog 37 (.pointer (some ⟨b13, 0, none⟩)) H106) (by kernel_rfl) (u126.ld (by kernel_rfl)) ?_
    refine s_qk (.int .i64 i3) (by kernel_rfl) ?_
    have u127 := ((u76.ext e84).fr e107 (hf85.djn (h_First.lt.le (ntr (ntr (ntr (ntr (ntr e15.next e21.next) e37.next) e46.next) e52.next) e61.next))))
    have u128 := ((((((u29.fr e37 Dj.nil_l).ext e46).fr e52 (hb47.djn (h_To.lt.le (ntr (ntr e15.next e21.next) e37.next)))).fr e61 Dj.nil_l).ext e84).fr e107 (hf85.djn (h_To.lt.le (ntr (ntr (ntr (ntr (ntr e15.next e21.next) e37.next) e46.next) e52.next) e61.next))))
    have u129 := ((((((u30.fr e37 Dj.nil_l).ext e46).fr e52 (hb47.djn (h_Weight.lt.le (ntr (ntr e15.next e21.next) e37.next)))).fr e61 Dj.nil_l).ext e84).fr e107 (hf85.djn (h_Weight.lt.le (ntr (ntr (ntr (ntr (ntr e15.next e21.next) e37.next) e46.next) e52.next) e61.next))))
    obtain ⟨y130, hy131, r132⟩ := bind_some r122
    refine s_ck 63 #[.agg #[hd_First, hd_To, hd_Weight], .int .i64 i3] (by kernel_rfl) (c_viaductref05_Row e107.wf u127 u128 u129 hy131) ?_
    rintro s133 H135 ⟨_, f134, rfl, e136, m137, i138⟩
    obtain ⟨a140, n141, c142, rfl⟩ := m137.form
    refine s_ql (.int .i64 (y130.length : Int)) (x := aLen Tryd.prog 120 (.slice a140 n141 c142) H135) (by kernel_rfl) (m137.sq.lenb (by kernel_rfl)) ?_
    refine s_qk (.int .i64 0) (by kernel_rfl) ?_
    refine s_nil ?_
    refine k125 _ _ ?_
    obtain ⟨o143, hx144, r145⟩ := bind_some r132
    refine w_mid (fun α H146 => ∃ (f150 : Fp), Has α [(1, .int .i64 s), (2, .int .i64 hops), (3, .int .i64 settles), (4, .int .u64 most), (5, .pointer (some ⟨b13, 0, none⟩)), (11, .pointer (some ⟨b19, 0, none⟩)), (13, .slice a87 n88 c89), (32, .int .i64 ((List.replicate ((First.length : Int) - 1).toNat ([] : List (Int × Int))).length : Int)), (33, .int .i64 i3)] ∧ FrS f110 H135 H146 ∧ Nst (CR.sl enc_i64_u64 2) H146 (.slice a87 n88 c89) o143 f150 ∧ Inn f110 H135 f150) (fun K152 k152 => ?_) (fun α H146 hM => ?_)
    ·refine w_block ?_
     obtain ⟨n154, hn155⟩ := loopO_iff.1 hx144
     have u168 := (m109.fr e136 Dj.nil_l)
     refine w_loopn (fun n α H156 => ∃ (rows0 : List (List (Int × Int))), ∃ (i1 : Int), ∃ (f160 : Fp), iterO (fun zz_ => z_viaductref08_DocBounded_l0 i3 y130 zz_.1 zz_.2) n (rows0, i1) = some o143 ∧ Has α [(1, .int .i64 s), (2, .int .i64 hops), (3, .int .i64 settles), (4, .int .u64 most), (5, .pointer (some ⟨b13, 0, none⟩)), (11, .pointer (some ⟨b19, 0, none⟩)), (13, .slice a87 n88 c89), (14, .int .i64 i3), (32, .int .i64 ((List.replicate ((First.length : Int) - 1).toNat ([] : List (Int × Int))).length : Int)), (33, .int .i64 i3), (38, .slice a140 n141 c142), (39, .int .i64 (y130.length : Int)), (40, .int .i64 i1)] ∧ FrS f110 H135 H156 ∧ Nst (CR.sl enc_i64_u64 2) H156 (.slice a87 n88 c89) rows0 f160 ∧ Inn f110 H135 f160) n154 ⟨rows2, 0, f110, hn155, ⟨by kernel_rfl, by kernel_rfl, by kernel_rfl, by kernel_rfl, by kernel_rfl, by kernel_rfl, by kernel_rfl, by kernel_rfl, by kernel_rfl, by kernel_rfl, by kernel_rfl, by kernel_rfl, by kernel_rfl, trivial⟩, (FrS.refl (W := f110) e136.wf), u168, Inn.refl'⟩ ?_
     rintro n154 α H156 ⟨rows0, i1, f160, hi163, hh162, e157, m159, i161⟩ K169 k169
     obtain ⟨n164, z165, rfl, hz166, hn167⟩ := iter_succ hi163
     obtain ⟨β, rfl⟩ := has_ex hh162
     clear hh162
     replace hz166 : z_viaductref08_DocBounded_l0 i3 y130 rows0 i1 = some z165 := hz166
     unfold z_viaductref08_DocBounded_l0 at hz166
     refine w_seqk fun K170 k170 => ?_
     refine w_reg (by kernel_rfl) ?_
     refine s_qk (.bool (decide (i1 < (y130.length : Int)))) (by kernel_rfl) ?_
     refine s_nil ?_
     refine k170 _ _ ?_
     refine w_seqk fun K171 k171 => ?_
     refine w_condp (i1 < (y130.length : Int)) (by kernel_rfl) rfl (fun h172 => ?_) (fun h172 => ?_)
     ·have r173 := ite_t h172 hz166
      refine w_skip ?_
      refine k171 _ _ ?_
      refine w_seqk fun K174 k174 => ?_
      refine w_block ?_
      refine w_seqk fun K175 k175 => ?_
      refine w_reg (by kernel_rfl) ?_
      obtain ⟨g176, r177⟩ := G_some r173
      have u178 := (m137.fr e157 (Dj.symm (i138.djn m109.lt)))
      refine s_ql (elp (.slice a140 n141 c142) 3 i1.toNat 0) (x := aIndexAddr Tryd.prog 120 (.slice a140 n141 c142) (.int .i64 i1)) (by kernel_rfl) (u178.sq.idxb (by kernel_rfl) g176 h172) ?_
      refine s_ql (.agg #[.int .i64 ((gt y130 i1).1), .int .i64 ((gt y130 i1).2.1), .int .i64 ((gt y130 i1).2.2)]) (x := aLoad Tryd.prog 123 (elp (.slice a140 n141 c142) 3 i1.toNat 0) H156) (by kernel_rfl) (u178.sq.ld g176 h172 (by kernel_rfl)) ?_
      refine s_rwk e157.wf [.int .i64 0, .int .i64 0, .int .i64 0] (by kernel_rfl) fun b179 H180 e181 hb182 r183 => ?_
      obtain ⟨H185, q186, e187, r188⟩ := Row.store (P := Tryd.prog) (t := 123) (p := 0) e181.wf r183 (.agg #[.int .i64 ((gt y130 i1).1), .int .i64 ((gt y130 i1).2.1), .int .i64 ((gt y130 i1).2.2)]) [.int .i64 ((gt y130 i1).1), .int .i64 ((gt y130 i1).2.1), .int .i64 ((gt y130 i1).2.2)] (by kernel_rfl) (by kernel_rfl) (one_cons (rfl) (one_cons (rfl) (one_cons (rfl) (one_nil)))) (Nat.le_of_ble_eq_true (by kernel_rfl)) [.int .i64 ((gt y130 i1).1), .int .i64 ((gt y130 i1).2.1), .int .i64 ((gt y130 i1).2.2)] (by kernel_rfl)
      refine s_ek (undef) (by kernel_rfl) (map_ok q186) ?_
      refine s_nil ?_
      refine k175 _ _ ?_
      refine w_draw [0, 1, 2, 3, 4, 5, 6, 7, 8, 9, 10, 11, 12, 13, 14, 15] (by kernel_rfl) ?_
      refine d_qk (.slice a87 n88 c89) (by kernel_rfl) ?_
      refine d_qk (.int .i64 i3) (by kernel_rfl) ?_
      refine d_qk (.slice a87 n88 c89) (by kernel_rfl) ?_
      refine d_qk (.int .i64 i3) (by kernel_rfl) ?_
      obtain ⟨g189, r190⟩ := G_some r177
      have u191 := ((m159.ext e181).fr e187 (hb182.djn m159.lt))
      refine d_ql (elp (.slice a87 n88 c89) 1 i3.toNat 0) (x := aIndexAddr Tryd.prog 119 (.slice a87 n88 c89) (.int .i64 i3)) (by kernel_rfl) (u191.idxb (by kernel_rfl) g189.1 g189.2) ?_
      obtain ⟨cs192, f193, hk194, hs195, hl196, hq197⟩ := u191.kid g189.1 g189.2
      obtain ⟨s198, rfl, ho200⟩ := cr_sl_open hk194
      have kd201 : KdS enc_i64_u64 2 H185 s198 (gt rows0 i3) f160 (.slice a87 n88 c89) 1 i3.toNat 0 := ⟨ho200.sq.up hs195 u191.lt, hq197 0 _ rfl (by decide)⟩
      obtain ⟨a202, n203, c204, rfl⟩ := kd201.sq.form
      refine d_ql (.slice a202 n203 c204) (x := aLoad Tryd.prog 124 (elp (.slice a87 n88 c89) 1 i3.toNat 0) H185) (by kernel_rfl) (hl196 _ _ _ _ (by kernel_rfl)) ?_
      refine d_qk (.pointer (some ⟨b179, 1, none⟩)) (by kernel_rfl) ?_
      refine d_ql (.int .i64 ((gt y130 i1).2.1)) (x := aLoad Tryd.prog 3 (.pointer (some ⟨b179, 1, none⟩)) H185) (by kernel_rfl) (r188.ld (by kernel_rfl)) ?_
      refine d_qk (.pointer (some ⟨b179, 2, none⟩)) (by kernel_rfl) ?_
      refine d_ql (.int .i64 ((gt y130 i1).2.2)) (x := aLoad Tryd.prog 3 (.pointer (some ⟨b179, 2, none⟩)) H185) (by kernel_rfl) (r188.ld (by kernel_rfl)) ?_
      obtain ⟨g206, r207⟩ := G_some r190
      refine d_w ((gt y130 i1).2.2) (k := .u64) (x := (gt y130 i1).2.2) (by kernel_rfl) (wrapu64 g206) ?_
      refine d_qk (.agg #[.int .i64 ((gt y130 i1).2.1), .int .u64 ((gt y130 i1).2.2)]) (by kernel_rfl) ?_
      refine d_owk (enc := enc_i64_u64) (sz := 2) e187.wf [((gt y130 i1).2.1, (gt y130 i1).2.2)] 1 (by decide) (fun _ _ => rfl) (fun _ _ => rfl) rfl (by kernel_rfl) fun s208 f209 H210 e211 hf212 hm213 => ?_
      obtain ⟨a214, n215, c216, rfl⟩ := hm213.form
      have u218 := (u191.ext e211)
      have u219 := (kd201.ext e211)
      obtain ⟨f220, f221, hh222, ho223, d224, hs225, hs226⟩ := Nst.borrow cr_sl_lens2 u218 g189.1 g189.2 u219 rfl
      have w227 := Inn.sub' (H := H210) hs225
      have w228 := Inn.sub' (H := H210) hs226
      obtain ⟨g229, r230⟩ := G_some r207
      obtain ⟨s231, H232, f233, q237, e234, hm235, hf236⟩ := Ow.append (P := Tryd.prog) 16 e211.wf ho223 hm213.sq (fun _ _ => rfl) (at_ := #[124, 124]) rfl rfl (by kernel_rfl) (by kernel_rfl) (by decide) (by have := g229; first | omega | (simp only [List.length_cons, List.length_nil] at this ⊢; omega) | (simp at this ⊢; omega))
      obtain ⟨a238, n239, c240, rfl⟩ := hm235.form
      refine d_ek (.slice a238 n239 c240) (by kernel_rfl) (q237) (st_nil) ?_
      have u242 := (hh222.fr e234 (Dj.symm d224))
      refine d_ql (elp (.slice a87 n88 c89) 1 i3.toNat 0) (x := aIndexAddr Tryd.prog 119 (.slice a87 n88 c89) (.int .i64 i3)) (by kernel_rfl) (u242.idxb (by kernel_rfl) g189.1 g189.2) ?_
      obtain ⟨H243, f244, q245, e246, hm247, hf248⟩ := Hol.close (P := Tryd.prog) (t := 124) e234.wf u242 hm235 (Dj.symm (hf236.dj (Dj.symm d224) hh222.lt)) g189.1 g189.2 (by kernel_rfl) (by kernel_rfl) (by kernel_rfl)
      have hm247 : Nst (CR.sl enc_i64_u64 2) H243 (.slice a87 n88 c89) (rows0.set i3.toNat ((gt rows0 i3) ++ [((gt y130 i1).2.1, (gt y130 i1).2.2)])) f244 := hm247
      have w249 := hf248.grow3 (Inn.trans Inn.refl' (Nat.le_refl _) w227) (Inn.trans (Inn.trans Inn.refl' (Nat.le_refl _) w228) (Nat.le_refl _) hf236) e234.next
      refine d_ek (undef) (by kernel_rfl) (map_ok q245) (st_nil) ?_
      refine d_nil ?_
      refine k174 _ _ ?_
      refine w_reg (by kernel_rfl) ?_
      obtain ⟨g250, r251⟩ := G_some r230
      refine s_w ((i1 + 1)) (k := .i64) (x := (i1 + 1)) (by kernel_rfl) (wrap64 (by have := g250; omega)) ?_
      refine s_qk (.int .i64 (i1 + 1)) (by kernel_rfl) ?_
      refine s_nil ?_
      obtain rfl := Option.some.inj r251
      exact k169 n164 _ _ (Nat.lt_succ_self _) ⟨(rows0.set i3.toNat ((gt rows0 i3) ++ [((gt y130 i1).2.1, (gt y130 i1).2.2)])), (i1 + 1), f244, hn167, ⟨by kernel_rfl, by kernel_rfl, by kernel_rfl, by kernel_rfl, by kernel_rfl, by kernel_rfl, by kernel_rfl, by kernel_rfl, by kernel_rfl, by kernel_rfl, by kernel_rfl, by kernel_rfl, by kernel_rfl, trivial⟩, (FrS.step e136.wf (FrS.step e136.wf ((FrS.step e136.wf ((FrS.step e136.wf (FrS.refl (W := f110) e136.wf) e157 Inn.refl').extR e181) e187 (hb182.fresh e157.next)).extR e211) e234 (Inn.trans (Inn.trans Inn.refl' (Nat.le_refl _) i161) (ntr (ntr (ntr e157.next e181.next) e187.next) e211.next) w228)) e246 (Inn.trans (Inn.trans Inn.refl' (Nat.le_refl _) i161) (ntr (ntr (ntr e157.next e181.next) e187.next) e211.next) w227)), hm247, (Inn.trans (Inn.trans Inn.refl' (Nat.le_refl _) i161) (ntr (ntr (ntr e157.next e181.next) e187.next) e211.next) w249)⟩
     ·have r252 := ite_f h172 hz166
      refine w_exit (th_exit (th_exit (bl_eq ?_)))
      obtain rfl := Option.some.inj r252
      obtain rfl := it_inr hn167
      exact k152 _ _ ⟨f160, ⟨by kernel_rfl, by kernel_rfl, by kernel_rfl, by kernel_rfl, by kernel_rfl, by kernel_rfl, by kernel_rfl, by kernel_rfl, by kernel_rfl, trivial⟩, (FrS.step e136.wf (FrS.refl (W := f110) e136.wf) e157 Inn.refl'), m159, (Inn.trans Inn.refl' (Nat.le_refl _) i161)⟩
    ·obtain ⟨f150, hh153, e147, m149, i151⟩ := hM
     obtain ⟨β, rfl⟩ := has_ex hh153
     clear hh153
     refine k123 _ _ ?_
     refine w_reg (by kernel_rfl) ?_
     obtain ⟨g253, r254⟩ := G_some r145
     refine s_w ((i3 + 1)) (k := .i64) (x := (i3 + 1)) (by kernel_rfl) (wrap64 g253) ?_
     refine s_qk (.int .i64 (i3 + 1)) (by kernel_rfl) ?_
     refine s_nil ?_
     obtain rfl := Option.some.inj r254
     exact k118 n114 _ _ (Nat.lt_succ_self _) ⟨o143, (i3 + 1), f150, hn117, ⟨by kernel_rfl, by kernel_rfl, by kernel_rfl, by kernel_rfl, by kernel_rfl, by kernel_rfl, by kernel_rfl, by kernel_rfl, by kernel_rfl, trivial⟩, (FrS.step e84.wf (FrS.step e84.wf (FrS.step e84.wf (FrS.refl (W := f82) e84.wf) e107 Inn.refl') e136 Inn.nil) e147 (Inn.trans Inn.refl' (Nat.le_refl _) i111)), m149, (Inn.trans (Inn.trans Inn.refl' (Nat.le_refl _) i111) (ntr e107.next e136.next) i151)⟩
   ·have r255 := ite_f h121 hz116
    refine w_exit (th_exit (th_exit (bl_eq ?_)))
    obtain rfl := Option.some.inj r255
    obtain rfl := it_inr hn117
    exact k102 _ _ ⟨f110, ⟨by kernel_rfl, by kernel_rfl, by kernel_rfl, by kernel_rfl, by kernel_rfl, by kernel_rfl, trivial⟩, (FrS.step e84.wf (FrS.refl (W := f82) e84.wf) e107 Inn.refl'), m109, (Inn.trans Inn.refl' (Nat.le_refl _) i111)⟩
  ·obtain ⟨f100, hh103, e97, m99, i101⟩ := hM
   obtain ⟨β, rfl⟩ := has_ex hh103
   clear hh103
   refine k91 _ _ ?_
   refine w_seqk fun K256 k256 => ?_
   refine w_reg (by kernel_rfl) ?_
   refine s_qk (.slice a87 n88 c89) (by kernel_rfl) ?_
   refine s_qk (.int .i64 s) (by kernel_rfl) ?_
   refine s_qk (.int .i64 hops) (by kernel_rfl) ?_
   refine s_qk (.int .i64 settles) (by kernel_rfl) ?_
   refine s_qk (.int .u64 most) (by kernel_rfl) ?_
   obtain ⟨y257, hy258, r259⟩ := bind_some r95
   refine s_ck 64 #[.slice a87 n88 c89, .int .i64 s, .int .i64 hops, .int .i64 settles, .int .u64 most] (by kernel_rfl) (c_viaductref08_Run e97.wf m99 hy258) ?_
   rintro _ H268 ⟨s260, f261, s262, f263, s264, f265, s266, f267, rfl, e269, m270, m271, m272, m273, i274, i275, i276, i277, d278, d279, d280, d281, d282, d283⟩
   obtain ⟨a288, n289, c290, rfl⟩ := m270.form
   obtain ⟨a291, n292, c293, rfl⟩ := m271.form
   obtain ⟨a294, n295, c296, rfl⟩ := m272.form
   obtain ⟨a297, n298, c299, rfl⟩ := m273.form
   refine s_rwk e269.wf [.slice none 0 0, .slice none 0 0, .slice none 0 0, .slice none 0 0] (by kernel_rfl) fun b300 H301 e302 hb303 r304 => ?_
   have u310 := (m273.ext e302)
   have u311 := (m272.ext e302)
   have u312 := (m271.ext e302)
   have u313 := (m270.ext e302)
   obtain ⟨H306, q307, e308, r309⟩ := Row.store (P := Tryd.prog) (t := 128) (p := 0) e302.wf r304 (.agg #[.slice a288 n289 c290, .slice a291 n292 c293, .slice a294 n295 c296, .slice a297 n298 c299]) [.slice a288 n289 c290, .slice a291 n292 c293, .slice a294 n295 c296, .slice a297 n298 c299] (by kernel_rfl) (by kernel_rfl) (one_cons (u313.one1) (one_cons (u312.one1) (one_cons (u311.one1) (one_cons (u310.one1) (one_nil))))) (Nat.le_of_ble_eq_true (by kernel_rfl)) [.slice a288 n289 c290, .slice a291 n292 c293, .slice a294 n295 c296, .slice a297 n298 c299] (by kernel_rfl)
   refine s_ek (undef) (by kernel_rfl) (map_ok q307) ?_
   refine s_nil ?_
   refine k256 _ _ ?_
   refine w_seqk fun K314 k314 => ?_
   refine w_reg (by kernel_rfl) ?_
   refine s_qk (.slice none 0 0) (by kernel_rfl) ?_
   refine s_nil ?_
   refine k314 _ _ ?_
   refine w_seqk fun K315 k315 => ?_
   refine w_seqk fun K316 k316 => ?_
   refine w_reg (by kernel_rfl) ?_
   refine s_qk (.slice a87 n88 c89) (by kernel_rfl) ?_
   have u317 := (((m99.fr e269 Dj.nil_l).ext e302).fr e308 (hb303.djn (m99.lt.le e269.next)))
   refine s_ql (.int .i64 (o93.length : Int)) (x := aLen Tryd.prog 119 (.slice a87 n88 c89) H306) (by kernel_rfl) (u317.lenb (by kernel_rfl)) ?_
   refine s_qk (.int .i64 0) (by kernel_rfl) ?_
   refine s_nil ?_
   refine k316 _ _ ?_
   obtain ⟨o318, hx319, r320⟩ := bind_some r259
   refine w_mid (fun α H321 => ∃ (s325 : Value) (f326 : Fp), Has α [(11, .pointer (some ⟨b19, 0, none⟩)), (18, s325)] ∧ FrS [] H306 H321 ∧ Ow enc_i64_u64_i64_bool 4 H321 s325 o318 f326 ∧ Inn [] H306 f326) (fun K328 k328 => ?_) (fun α H321 hM => ?_)
   ·refine w_block ?_
    obtain ⟨n330, hn331⟩ := loopO_iff.1 hx319
    refine w_loopn (fun n α H332 => ∃ (l4 : List (Int × Int × Int × Bool)), ∃ (i5 : Int), ∃ (s336 : Value), ∃ (f337 : Fp), iterO (fun zz_ => z_viaductref08_DocBounded_l2 o93 y257 zz_.1 zz_.2) n (l4, i5) = some o318 ∧ Has α [(11, .pointer (some ⟨b19, 0, none⟩)), (17, .pointer (some ⟨b300, 0, none⟩)), (18, s336), (68, .int .i64 (o93.length : Int)), (69, .int .i64 i5)] ∧ FrS [] H306 H332 ∧ Ow enc_i64_u64_i64_bool 4 H332 s336 l4 f337 ∧ Inn [] H306 f337) n330 ⟨[], 0, (.slice none 0 0), [], hn331, ⟨by kernel_rfl, by kernel_rfl, by kernel_rfl, by kernel_rfl, by kernel_rfl, trivial⟩, (FrS.refl (W := []) e308.wf), (Ow.nil (by decide)), Inn.nil⟩ ?_
    rintro n330 α H332 ⟨l4, i5, s336, f337, hi340, hh339, e333, m335, i338⟩ K345 k345
    obtain ⟨n341, z342, rfl, hz343, hn344⟩ := iter_succ hi340
    obtain ⟨β, rfl⟩ := has_ex hh339
    clear hh339
    replace hz343 : z_viaductref08_DocBounded_l2 o93 y257 l4 i5 = some z342 := hz343
    unfold z_viaductref08_DocBounded_l2 at hz343
    obtain ⟨a346, n347, c348, rfl⟩ := m335.form
    refine w_seqk fun K349 k349 => ?_
    refine w_reg (by kernel_rfl) ?_
    refine s_qk (.bool (decide (i5 < (o93.length : Int)))) (by kernel_rfl) ?_
    refine s_nil ?_
    refine k349 _ _ ?_
    refine w_seqk fun K350 k350 => ?_
    refine w_condp (i5 < (o93.length : Int)) (by kernel_rfl) rfl (fun h351 => ?_) (fun h351 => ?_)
    ·have r352 := ite_t h351 hz343
     refine w_skip ?_
     refine k350 _ _ ?_
     refine w_seqk fun K353 k353 => ?_
     refine w_block ?_
     refine w_seqk fun K354 k354 => ?_
     refine w_reg (by kernel_rfl) ?_
     refine s_qk (.int .i64 i5) (by kernel_rfl) ?_
     refine s_qk (.int .i64 i5) (by kernel_rfl) ?_
     refine s_nil ?_
     refine k354 _ _ ?_
     refine w_seqk fun K355 k355 => ?_
     refine w_reg (by kernel_rfl) ?_
     refine s_qk (.pointer (some ⟨b300, 2, none⟩)) (by kernel_rfl) ?_
     have u356 := (r309.frS e333 Dj.nil_l)
     refine s_ql (.slice a294 n295 c296) (x := aLoad Tryd.prog 104 (.pointer (some ⟨b300, 2, none⟩)) H332) (by kernel_rfl) (u356.ld (by kernel_rfl)) ?_
     refine s_qk (.int .i64 i5) (by kernel_rfl) ?_
     obtain ⟨g357, r358⟩ := G_some r352
     have u359 := ((u311.fr e308 (hb303.djn m272.lt)).fr e333 Dj.nil_l)
     refine s_ql (elp (.slice a294 n295 c296) 1 i5.toNat 0) (x := aIndexAddr Tryd.prog 104 (.slice a294 n295 c296) (.int .i64 i5)) (by kernel_rfl) (u359.sq.idxb (by kernel_rfl) g357.1 g357.2) ?_
     refine s_ql (.bool (gt y257.2.2.1 i5)) (x := aLoad Tryd.prog 4 (elp (.slice a294 n295 c296) 1 i5.toNat 0) H332) (by kernel_rfl) (u359.sq.ld g357.1 g357.2 (by kernel_rfl)) ?_
     refine s_nil ?_
     refine k355 _ _ ?_
     refine w_cond ((gt y257.2.2.1 i5)) (by kernel_rfl) rfl (fun h360 => ?_) (fun h360 => ?_)
     ·have r361 := ite_t h360 r358
      refine w_draw [0, 1, 2, 3, 4, 5, 6, 7, 8, 9, 10, 11, 12, 13, 14, 15, 16, 17, 18, 19, 20] (by kernel_rfl) ?_
      refine d_qk (.slice a346 n347 c348) (by kernel_rfl) ?_
      refine d_qk (.int .i64 i5) (by kernel_rfl) ?_
      refine d_qk (.pointer (some ⟨b300, 0, none⟩)) (by kernel_rfl) ?_
      refine d_ql (.slice a288 n289 c290) (x := aLoad Tryd.prog 47 (.pointer (some ⟨b300, 0, none⟩)) H332) (by kernel_rfl) (u356.ld (by kernel_rfl)) ?_
      refine d_qk (.int .i64 i5) (by kernel_rfl) ?_
      obtain ⟨g362, r363⟩ := G_some r361
      have u364 := ((u313.fr e308 (hb303.djn m270.lt)).fr e333 Dj.nil_l)
      refine d_ql (elp (.slice a288 n289 c290) 1 i5.toNat 0) (x := aIndexAddr Tryd.prog 47 (.slice a288 n289 c290) (.int .i64 i5)) (by kernel_rfl) (u364.sq.idxb (by kernel_rfl) g357.1 g362) ?_
      refine d_ql (.int .u64 (gt y257.1 i5)) (x := aLoad Tryd.prog 42 (elp (.slice a288 n289 c290) 1 i5.toNat 0) H332) (by kernel_rfl) (u364.sq.ld g357.1 g362 (by kernel_rfl)) ?_
      refine d_qk (.pointer (some ⟨b300, 1, none⟩)) (by kernel_rfl) ?_
      refine d_ql (.slice a291 n292 c293) (x := aLoad Tryd.prog 22 (.pointer (some ⟨b300, 1, none⟩)) H332) (by kernel_rfl) (u356.ld (by kernel_rfl)) ?_
      refine d_qk (.int .i64 i5) (by kernel_rfl) ?_
      obtain ⟨g365, r366⟩ := G_some r363
      have u367 := ((u312.fr e308 (hb303.djn m271.lt)).fr e333 Dj.nil_l)
      refine d_ql (elp (.slice a291 n292 c293) 1 i5.toNat 0) (x := aIndexAddr Tryd.prog 22 (.slice a291 n292 c293) (.int .i64 i5)) (by kernel_rfl) (u367.sq.idxb (by kernel_rfl) g357.1 g365) ?_
      refine d_ql (.int .i64 (gt y257.2.1 i5)) (x := aLoad Tryd.prog 3 (elp (.slice a291 n292 c293) 1 i5.toNat 0) H332) (by kernel_rfl) (u367.sq.ld g357.1 g365 (by kernel_rfl)) ?_
      refine d_qk (.pointer (some ⟨b300, 3, none⟩)) (by kernel_rfl) ?_
      refine d_ql (.slice a297 n298 c299) (x := aLoad Tryd.prog 104 (.pointer (some ⟨b300, 3, none⟩)) H332) (by kernel_rfl) (u356.ld (by kernel_rfl)) ?_
      refine d_qk (.int .i64 i5) (by kernel_rfl) ?_
      obtain ⟨g368, r369⟩ := G_some r366
      have u370 := ((u310.fr e308 (hb303.djn m273.lt)).fr e333 Dj.nil_l)
      refine d_ql (elp (.slice a297 n298 c299) 1 i5.toNat 0) (x := aIndexAddr Tryd.prog 104 (.slice a297 n298 c299) (.int .i64 i5)) (by kernel_rfl) (u370.sq.idxb (by kernel_rfl) g357.1 g368) ?_
      refine d_ql (.bool (gt y257.2.2.2 i5)) (x := aLoad Tryd.prog 4 (elp (.slice a297 n298 c299) 1 i5.toNat 0) H332) (by kernel_rfl) (u370.sq.ld g357.1 g368 (by kernel_rfl)) ?_
      refine d_qk (.agg #[.int .i64 i5, .int .u64 (gt y257.1 i5), .int .i64 (gt y257.2.1 i5), .bool (gt y257.2.2.2 i5)]) (by kernel_rfl) ?_
      refine d_owk (enc := enc_i64_u64_i64_bool) (sz := 4) e333.wf [(i5, (gt y257.1 i5), (gt y257.2.1 i5), (gt y257.2.2.2 i5))] 1 (by decide) (fun _ _ => rfl) (fun _ _ => rfl) rfl (by kernel_rfl) fun s371 f372 H373 e374 hf375 hm376 => ?_
      obtain ⟨a377, n378, c379, rfl⟩ := hm376.form
      have u381 := (m335.ext e374)
      obtain ⟨g382, r383⟩ := G_some r369
      obtain ⟨s384, H385, f386, q390, e387, hm388, hf389⟩ := Ow.append (P := Tryd.prog) 32 e374.wf u381 hm376.sq (fun _ _ => rfl) (at_ := #[63, 63]) rfl rfl (by kernel_rfl) (by kernel_rfl) (by decide) (by have := g382; first | omega | (simp only [List.length_cons, List.length_nil] at this ⊢; omega) | (simp at this ⊢; omega))
      obtain ⟨a391, n392, c393, rfl⟩ := hm388.form
      refine d_ek (.slice a391 n392 c393) (by kernel_rfl) (q390) (st_nil) ?_
      refine d_qk (.slice a391 n392 c393) (by kernel_rfl) ?_
      refine d_nil ?_
      refine k353 _ _ ?_
      refine w_reg (by kernel_rfl) ?_
      obtain ⟨g395, r396⟩ := G_some r383
      refine s_w ((i5 + 1)) (k := .i64) (x := (i5 + 1)) (by kernel_rfl) (wrap64 (by have := g395; omega)) ?_
      refine s_qk (.int .i64 (i5 + 1)) (by kernel_rfl) ?_
      refine s_nil ?_
      obtain rfl := Option.some.inj r396
      exact k345 n341 _ _ (Nat.lt_succ_self _) ⟨(l4 ++ [(i5, (gt y257.1 i5), (gt y257.2.1 i5), (gt y257.2.2.2 i5))]), (i5 + 1), (.slice a391 n392 c393), f386, hn344, ⟨by kernel_rfl, by kernel_rfl, by kernel_rfl, by kernel_rfl, by kernel_rfl, trivial⟩, (FrS.step e308.wf ((FrS.step e308.wf (FrS.refl (W := []) e308.wf) e333 Inn.nil).extR e374) e387 (i338.fresh (Nat.le_refl _))), hm388, (Inn.trans (i338.fresh (Nat.le_refl _)) (ntr e333.next e374.next) hf389)⟩
     ·have r397 := ite_bf h360 r358
      refine w_skip ?_
      refine k353 _ _ ?_
      refine w_reg (by kernel_rfl) ?_
      obtain ⟨g398, r399⟩ := G_some r397
      refine s_w ((i5 + 1)) (k := .i64) (x := (i5 + 1)) (by kernel_rfl) (wrap64 (by have := g398; omega)) ?_
      refine s_qk (.int .i64 (i5 + 1)) (by kernel_rfl) ?_
      refine s_nil ?_
      obtain rfl := Option.some.inj r399
      exact k345 n341 _ _ (Nat.lt_succ_self _) ⟨l4, (i5 + 1), (.slice a346 n347 c348), f337, hn344, ⟨by kernel_rfl, by kernel_rfl, by kernel_rfl, by kernel_rfl, by kernel_rfl, trivial⟩, (FrS.step e308.wf (FrS.refl (W := []) e308.wf) e333 Inn.nil), m335, (i338.fresh (Nat.le_refl _))⟩
    ·have r400 := ite_f h351 hz343
     refine w_exit (th_exit (th_exit (bl_eq ?_)))
     obtain rfl := Option.some.inj r400
     obtain rfl := it_inr hn344
     exact k328 _ _ ⟨(.slice a346 n347 c348), f337, ⟨by kernel_rfl, by kernel_rfl, trivial⟩, (FrS.step e308.wf (FrS.refl (W := []) e308.wf) e333 Inn.nil), m335, (i338.fresh (Nat.le_refl _))⟩
   ·obtain ⟨s325, f326, hh329, e322, m324, i327⟩ := hM
    obtain ⟨β, rfl⟩ := has_ex hh329
    clear hh329
    obtain ⟨a401, n402, c403, rfl⟩ := m324.form
    refine k315 _ _ ?_
    refine w_seqk fun K404 k404 => ?_
    refine w_reg (by kernel_rfl) ?_
    refine s_qk (.slice a401 n402 c403) (by kernel_rfl) ?_
    refine s_qk (.agg #[.int .i64 0, .slice none 0 0]) (by kernel_rfl) ?_
    refine s_qk (.slice a401 n402 c403) (by kernel_rfl) ?_
    have u409 := ((((((((((r23.frS e37 Dj.nil_l).ext e46).frS e52 (hb47.djn (r23.ltF.le e37.next))).frS e61 Dj.nil_l).ext e84).frS e97 (hf85.djn (r23.ltF.le (ntr (ntr (ntr e37.next e46.next) e52.next) e61.next)))).frS e269 Dj.nil_l).ext e302).frS e308 (hb303.djn (r23.ltF.le (ntr (ntr (ntr (ntr (ntr (ntr e37.next e46.next) e52.next) e61.next) e84.next) e97.next) e269.next)))).frS e322 Dj.nil_l)
    obtain ⟨H405, q406, e407, r408⟩ := Row.store (P := Tryd.prog) (t := 31) (p := 0) e322.wf u409 (.agg #[.int .i64 0, .slice none 0 0]) [.int .i64 0, .slice none 0 0] (by kernel_rfl) (by kernel_rfl) (one_cons (rfl) (one_cons (rfl) (one_nil))) (Nat.le_of_ble_eq_true (by kernel_rfl)) [.int .i64 0, .slice none 0 0] (by kernel_rfl)
    refine s_ek (undef) (by kernel_rfl) (map_ok q406) ?_
    refine s_nil ?_
    refine k404 _ _ ?_
    refine w_ret ?_
    refine b_ret (fn := Tryd.f33) (vs := [.slice a401 n402 c403, .agg #[.int .i64 0, .slice none 0 0]]) (aRes_tmp (by kernel_rfl) (aRes_cell (Eq.trans (b := aLoad Tryd.prog 31 (.pointer (some ⟨b19, 0, none⟩)) H405) (by kernel_rfl) (r408.ld (by kernel_rfl))) (rfl))) ?_
    have u410 := (m324.fr e407 (Dj.symm (i327.djn (r23.ltF.le (ntr (ntr (ntr (ntr (ntr (ntr (ntr (ntr e37.next e46.next) e52.next) e61.next) e84.next) e97.next) e269.next) e302.next) e308.next)))))
    obtain rfl := Option.some.inj r320
    exact ⟨(.slice a401 n402 c403), f326, (.slice none 0 0), [], rfl, (FrS.step wf (FrS.step wf (FrS.step wf ((FrS.step wf (FrS.step wf ((FrS.step wf (FrS.step wf ((FrS.step wf (((FrS.refl (W := []) wf).extR e15).extR e21) e37 Inn.nil).extR e46) e52 (hb47.fresh (ntr (ntr e15.next e21.next) e37.next))) e61 Inn.nil).extR e84) e97 (hf85.fresh (ntr (ntr (ntr (ntr (ntr e15.next e21.next) e37.next) e46.next) e52.next) e61.next))) e269 Inn.nil).extR e302) e308 (hb303.fresh (ntr (ntr (ntr (ntr (ntr (ntr (ntr (ntr e15.next e21.next) e37.next) e46.next) e52.next) e61.next) e84.next) e97.next) e269.next))) e322 Inn.nil) e407 (hb22.fresh e15.next)), u410, (Ow.nil (by decide)), (i327.fresh (ntr (ntr (ntr (ntr (ntr (ntr (ntr (ntr (ntr (ntr e15.next e21.next) e37.next) e46.next) e52.next) e61.next) e84.next) e97.next) e269.next) e302.next) e308.next)), Inn.nil, Dj.nil_r⟩


end Go.Vd

/-! (KSb6) -/

set_option maxRecDepth 100000
set_option maxHeartbeats 4000000
set_option linter.unusedVariables false
namespace Go.Vd
open Go.Proofs
attribute [local irreducible] wpSeq wpOrd aWp
theorem c_viaductseen_Same {H : AH} {ev_err : Value} {fp_err : Fp} {hd_Places : Value} {fp_Places : Fp} {err : Er} {Code : Int} {Places : List (Int × Int)} {r : Bool}
  (wf : WF H) (h_err : Ev 80 86 H ev_err err fp_err) (h_Places : Sq enc_i64_i64 2 H hd_Places Places fp_Places) (hr : z_viaductseen_Same err Code Places = some r) :
  ACalls Tryd.prog 14 #[ev_err, .agg #[.int .i64 Code, hd_Places]] H fun v H' => v = .bool r ∧ FrS [] H H' := by
 refine acalls_of_body mixed Tryd.func14 rfl (Nat.le_of_ble_eq_true rfl) ?_
 unfold z_viaductseen_Same at hr
 refine w_seqk fun K1 k1 => ?_
 refine w_reg (by kernel_rfl) ?_
 refine s_rwl wf [.int .i64 Code, hd_Places] (one_cons (rfl) (one_cons (h_Places.one1) (one_nil))) (by kernel_rfl) fun b2 H3 e4 hb5 r6 => ?_
 refine s_qk (.bool false) (by kernel_rfl) ?_
 refine s_nil ?_
 refine k1 _ _ ?_
 refine w_seqk fun K8 k8 => ?_
 refine w_seqk fun K9 k9 => ?_
 refine w_reg (by kernel_rfl) ?_
 refine s_ql (.agg #[.int .i64 Code, hd_Places]) (x := aLoad Tryd.prog 31 (.pointer (some ⟨b2, 0, none⟩)) H3) (by kernel_rfl) (r6.ld (by kernel_rfl)) ?_
 have u10 := (h_Places.ext e4)
 obtain ⟨y11, hy12, r13⟩ := bind_some hr
 refine s_ck 24 #[.agg #[.int .i64 Code, hd_Places]] (by kernel_rfl) (c_viaductref01_Err_Bad e4.wf u10 hy12) ?_
 rintro _ H14 ⟨rfl, e15⟩
 refine s_qk (.bool (!y11)) (by kernel_rfl) ?_
 refine s_nil ?_
 refine k9 _ _ ?_
 refine w_cond ((!y11)) (by kernel_rfl) rfl (fun h16 => ?_) (fun h16 => ?_)
 ·have r17 := ite_t h16 r13
  refine w_seqk fun K18 k18 => ?_
  refine w_reg (by kernel_rfl) ?_
  refine s_qk (ev_err) (by kernel_rfl) ?_
  have u22 := ((h_err.ext e4).fr e15 Dj.nil_l)
  rcases (u22).cases with ⟨h19, rfl⟩ | ⟨h19, t20, x21, rfl⟩
  ·have r23 := ite_t h19 r17
   refine s_qk (.bool true) (by kernel_rfl) ?_
   refine s_qk (.bool true) (by kernel_rfl) ?_
   refine s_nil ?_
   refine k18 _ _ ?_
   refine w_ret (th_ret ?_)
   refine b_ret (fn := Tryd.f14) (vs := [.bool true]) (aRes_tmp (by kernel_rfl) (rfl)) ?_
   obtain rfl := Option.some.inj r23
   exact ⟨rfl, (FrS.step wf ((FrS.refl (W := []) wf).extR e4) e15 Inn.nil)⟩
  ·have r24 := ite_f h19 r17
   refine s_ql (.bool false) (x := aBin Tryd.prog .eql 25 (.tmp 15) (.const .nilIface) (.iface t20 x21) .nilIface) (by kernel_rfl) (aBin_nil (by kernel_rfl)) ?_
   refine s_qk (.bool false) (by kernel_rfl) ?_
   refine s_nil ?_
   refine k18 _ _ ?_
   refine w_ret (th_ret ?_)
   refine b_ret (fn := Tryd.f14) (vs := [.bool false]) (aRes_tmp (by kernel_rfl) (rfl)) ?_
   obtain rfl := Option.some.inj r24
   exact ⟨rfl, (FrS.step wf ((FrS.refl (W := []) wf).extR e4) e15 Inn.nil)⟩
 ·have r25 := ite_bf h16 r13
  refine w_skip ?_
  refine k8 _ _ ?_
  refine w_seqk fun K26 k26 => ?_
  refine w_seqk fun K27 k27 => ?_
  refine w_reg (by kernel_rfl) ?_
  refine s_qk (ev_err) (by kernel_rfl) ?_
  have u31 := ((h_err.ext e4).fr e15 Dj.nil_l)
  rcases (u31).cases with ⟨h28, rfl⟩ | ⟨h28, t29, x30, rfl⟩
  ·have r32 := ite_t h28 r25
   refine s_qk (.bool true) (by kernel_rfl) ?_
   refine s_nil ?_
   refine k27 _ _ ?_
   refine w_cond true (by kernel_rfl) rfl (fun _ => ?_) (fun h => by cases h)
   refine w_seqk fun K33 k33 => ?_
   refine w_reg (by kernel_rfl) ?_
   refine s_qk (.bool false) (by kernel_rfl) ?_
   refine s_nil ?_
   refine k33 _ _ ?_
   refine w_ret (th_ret ?_)
   refine b_ret (fn := Tryd.f14) (vs := [.bool false]) (aRes_tmp (by kernel_rfl) (rfl)) ?_
   obtain rfl := Option.some.inj r32
   exact ⟨rfl, (FrS.step wf ((FrS.refl (W := []) wf).extR e4) e15 Inn.nil)⟩
  ·have r34 := ite_f h28 r25
   refine s_ql (.bool false) (x := aBin Tryd.prog .eql 25 (.tmp 17) (.const .nilIface) (.iface t29 x30) .nilIface) (by kernel_rfl) (aBin_nil (by kernel_rfl)) ?_
   refine s_nil ?_
   refine k27 _ _ ?_
   refine w_cond false (by kernel_rfl) rfl (fun h => by cases h) (fun _ => ?_)
   refine w_skip ?_
   refine k26 _ _ ?_
   refine w_seqk fun K35 k35 => ?_
   refine w_reg (by kernel_rfl) ?_
   refine s_qk (.iface t29 x30) (by kernel_rfl) ?_
   refine s_qk (.iface t29 x30) (by kernel_rfl) ?_
   refine s_nil ?_
   refine k35 _ _ ?_
   refine w_seqk fun K36 k36 => ?_
   refine w_seqk fun K37 k37 => ?_
   refine w_reg (by kernel_rfl) ?_
   refine s_qk (.pointer (some ⟨b2, 1, none⟩)) (by kernel_rfl) ?_
   have u38 := (r6.frS e15 Dj.nil_l)
   refine s_ql (hd_Places) (x := aLoad Tryd.prog 29 (.pointer (some ⟨b2, 1, none⟩)) H14) (by kernel_rfl) (u38.ld (by kernel_rfl)) ?_
   have u39 := (u10.fr e15 Dj.nil_l)
   refine s_ql (.int .i64 (Places.length : Int)) (x := aLen Tryd.prog 29 hd_Places H14) (by kernel_rfl) (u39.lenb (by kernel_rfl)) ?_
   refine s_qk (.int .i64 0) (by kernel_rfl) ?_
   refine s_nil ?_
   refine k37 _ _ ?_
   obtain ⟨z43, hx41, r42⟩ := bind_some r34
   refine w_mid (fun α H44 => ∃ o40, z43 = Sum.inr o40 ∧ ∃ (v48 : Value), Has α [(0, .iface t29 x30), (3, .pointer (some ⟨b2, 0, none⟩)), (5, v48)] ∧ FrS [] H14 H44 ∧ Ev 80 86 H44 v48 o40 fp_err) (fun K49 k49 => ?_) (fun α H44 hM => ?_)
   ·refine w_block ?_
    obtain ⟨n51, hn52⟩ := loopO_iff.1 hx41
    refine w_loopn (fun n α H53 => ∃ (i0 : Int), ∃ (e1 : Er), ∃ (v57 : Value), iterO (fun zz_ => z_viaductseen_Same_l0 Places zz_.1 zz_.2) n (i0, e1) = some z43 ∧ Has α [(0, .iface t29 x30), (3, .pointer (some ⟨b2, 0, none⟩)), (5, v57), (21, hd_Places), (22, .int .i64 (Places.length : Int)), (23, .int .i64 i0)] ∧ FrS [] H14 H53 ∧ Ev 80 86 H53 v57 e1 fp_err) n51 ⟨0, err, (.iface t29 x30), hn52, ⟨by kernel_rfl, by kernel_rfl, by kernel_rfl, by kernel_rfl, by kernel_rfl, by kernel_rfl, trivial⟩, (FrS.refl (W := []) e15.wf), u31⟩ ?_
    rintro n51 α H53 ⟨i0, e1, v57, hi59, hh58, e54, m56⟩ K64 k64
    obtain ⟨n60, z61, rfl, hz62, hn63⟩ := iter_succ hi59
    obtain ⟨β, rfl⟩ := has_ex hh58
    clear hh58
    replace hz62 : z_viaductseen_Same_l0 Places i0 e1 = some z61 := hz62
    unfold z_viaductseen_Same_l0 at hz62
    refine w_seqk fun K65 k65 => ?_
    refine w_reg (by kernel_rfl) ?_
    refine s_qk (.bool (decide (i0 < (Places.length : Int)))) (by kernel_rfl) ?_
    refine s_nil ?_
    refine k65 _ _ ?_
    refine w_seqk fun K66 k66 => ?_
    refine w_condp (i0 < (Places.length : Int)) (by kernel_rfl) rfl (fun h67 => ?_) (fun h67 => ?_)
    ·have r68 := ite_t h67 hz62
     refine w_skip ?_
     refine k66 _ _ ?_
     refine w_seqk fun K69 k69 => ?_
     refine w_block ?_
     refine w_seqk fun K70 k70 => ?_
     refine w_reg (by kernel_rfl) ?_
     obtain ⟨g71, r72⟩ := G_some r68
     have u73 := (u39.fr e54 Dj.nil_l)
     refine s_ql (elp hd_Places 2 i0.toNat 0) (x := aIndexAddr Tryd.prog 29 hd_Places (.int .i64 i0)) (by kernel_rfl) (u73.idxb (by kernel_rfl) g71 h67) ?_
     refine s_ql (.agg #[.int .i64 ((gt Places i0).1), .int .i64 ((gt Places i0).2)]) (x := aLoad Tryd.prog 85 (elp hd_Places 2 i0.toNat 0) H53) (by kernel_rfl) (u73.ld g71 h67 (by kernel_rfl)) ?_
     refine s_rwk e54.wf [.int .i64 0, .int .i64 0] (by kernel_rfl) fun b74 H75 e76 hb77 r78 => ?_
     obtain ⟨H80, q81, e82, r83⟩ := Row.store (P := Tryd.prog) (t := 85) (p := 0) e76.wf r78 (.agg #[.int .i64 ((gt Places i0).1), .int .i64 ((gt Places i0).2)]) [.int .i64 ((gt Places i0).1), .int .i64 ((gt Places i0).2)] (by kernel_rfl) (by kernel_rfl) (one_cons (rfl) (one_cons (rfl) (one_nil))) (Nat.le_of_ble_eq_true (by kernel_rfl)) [.int .i64 ((gt Places i0).1), .int .i64 ((gt Places i0).2)] (by kernel_rfl)
     refine s_ek (undef) (by kernel_rfl) (map_ok q81) ?_
     refine s_nil ?_
     refine k70 _ _ ?_
     refine w_seqk fun K84 k84 => ?_
     refine w_reg (by kernel_rfl) ?_
     refine s_rwk e82.wf [.pointer none] (by kernel_rfl) fun b85 H86 e87 hb88 r89 => ?_
     refine s_nil ?_
     refine k84 _ _ ?_
     refine w_seqk fun K91 k91 => ?_
     refine w_seqk fun K92 k92 => ?_
     refine w_draw [0, 1, 2, 3, 4, 5, 6, 7, 8, 9, 10, 11, 12, 13, 14, 15] (by kernel_rfl) ?_
     refine d_qk (v57) (by kernel_rfl) ?_
     refine d_qk (.iface 88 (.pointer (some ⟨b85, 0, none⟩))) (by kernel_rfl) ?_
     by_cases h93 : Er.isAt e1 = true
     ·have r94 := ite_t h93 r72
      have u103 := (((m56.ext e76).fr e82 (hb77.djn (h_err.lt.le (ntr (ntr e4.next e15.next) e54.next)))).ext e87)
      refine d_ck 44 #[v57, .iface 88 (.pointer (some ⟨b85, 0, none⟩))] (by kernel_rfl) (a_asF_at e87.wf r89 (hb88.djn (h_err.lt.le (ntr (ntr (ntr (ntr e4.next e15.next) e54.next) e76.next) e82.next))) u103 h93) ?_
      rintro _ H95 ⟨rfl, e96, b98, u99, -, i100, r97, r101, v102⟩
      refine ⟨st_nil, ?_⟩
      refine d_qk (.bool false) (by kernel_rfl) ?_
      refine d_qk (.bool false) (by kernel_rfl) ?_
      refine d_ql (.pointer (some ⟨b98, 0, none⟩)) (x := aLoad Tryd.prog 86 (.pointer (some ⟨b85, 0, none⟩)) H95) (by kernel_rfl) (r97.ld (by kernel_rfl)) ?_
      refine d_qk (.bool false) (by kernel_rfl) ?_
      refine d_qk (.bool false) (by kernel_rfl) ?_
      refine d_qk (.bool false) (by kernel_rfl) ?_
      refine d_ql (.pointer (some ⟨b98, 0, none⟩)) (x := aLoad Tryd.prog 86 (.pointer (some ⟨b85, 0, none⟩)) H95) (by kernel_rfl) (r97.ld (by kernel_rfl)) ?_
      refine d_qk (.pointer (some ⟨b98, 0, none⟩)) (by kernel_rfl) ?_
      refine d_qk (.pointer (some ⟨b98, 0, none⟩)) (by kernel_rfl) ?_
      refine d_ql (.agg #[.int .i64 (Er.fk e1), .int .i64 (Er.fi e1)]) (x := aLoad Tryd.prog 85 (.pointer (some ⟨b98, 0, none⟩)) H95) (by kernel_rfl) (r101.ld (by kernel_rfl)) ?_
      have u106 := ((r83.ext e87).frS e96 (hb88.djn (r78.ltF.le e82.next)))
      refine d_ql (.agg #[.int .i64 ((gt Places i0).1), .int .i64 ((gt Places i0).2)]) (x := aLoad Tryd.prog 85 (.pointer (some ⟨b74, 0, none⟩)) H95) (by kernel_rfl) (u106.ld (by kernel_rfl)) ?_
      refine d_ql (.bool (!decide ((Er.fk e1) = ((gt Places i0).1) ∧ (Er.fi e1) = ((gt Places i0).2)))) (x := aBin Tryd.prog .neq 85 (.tmp 39) (.tmp 40) (.agg #[.int .i64 (Er.fk e1), .int .i64 (Er.fi e1)]) (.agg #[.int .i64 ((gt Places i0).1), .int .i64 ((gt Places i0).2)])) (by kernel_rfl) (aBin_neq85 _ _ (Er.fk e1) (Er.fi e1) ((gt Places i0).1) ((gt Places i0).2)) ?_
      refine d_qk (.bool (!decide ((Er.fk e1) = ((gt Places i0).1) ∧ (Er.fi e1) = ((gt Places i0).2)))) (by kernel_rfl) ?_
      refine d_nil ?_
      refine k92 _ _ ?_
      refine w_condn ((Er.fk e1) = ((gt Places i0).1) ∧ (Er.fi e1) = ((gt Places i0).2)) (by kernel_rfl) rfl (fun h107 => ?_) (fun h107 => ?_)
      ·have r108 := ite_f h107 r94
       refine w_seqk fun K109 k109 => ?_
       refine w_reg (by kernel_rfl) ?_
       refine s_qk (.bool false) (by kernel_rfl) ?_
       refine s_nil ?_
       refine k109 _ _ ?_
       refine w_ret (th_ret (bl_ret (th_ret (th_ret (bl_ret (th_ret (th_ret ?_)))))))
       obtain ⟨v110, hv111, hz112⟩ := map_some r108
       subst hz112
       obtain rfl := it_inr hn63
       have hq113 := elim_inl r42
       rw [hq113] at hv111
       refine b_ret (fn := Tryd.f14) (vs := [.bool false]) (aRes_tmp (by kernel_rfl) (rfl)) ?_
       obtain rfl := Option.some.inj hv111
       exact ⟨rfl, (FrS.step wf ((FrS.step wf ((FrS.step wf (FrS.step wf ((FrS.refl (W := []) wf).extR e4) e15 Inn.nil) e54 Inn.nil).extR e76) e82 (hb77.fresh (ntr (ntr e4.next e15.next) e54.next))).extR e87) e96 (hb88.fresh (ntr (ntr (ntr (ntr e4.next e15.next) e54.next) e76.next) e82.next)))⟩
      ·have r114 := ite_t h107 r94
       refine w_skip ?_
       refine k91 _ _ ?_
       refine w_reg (by kernel_rfl) ?_
       refine s_ql (.pointer (some ⟨b98, 0, none⟩)) (x := aLoad Tryd.prog 86 (.pointer (some ⟨b85, 0, none⟩)) H95) (by kernel_rfl) (r97.ld (by kernel_rfl)) ?_
       refine s_qk (.pointer (some ⟨b98, 0, none⟩)) (by kernel_rfl) ?_
       refine s_qk (.pointer (some ⟨b98, 2, none⟩)) (by kernel_rfl) ?_
       refine s_ql (u99) (x := aLoad Tryd.prog 25 (.pointer (some ⟨b98, 2, none⟩)) H95) (by kernel_rfl) (r101.ld (by kernel_rfl)) ?_
       refine s_qk (u99) (by kernel_rfl) ?_
       refine s_nil ?_
       refine k69 _ _ ?_
       refine w_reg (by kernel_rfl) ?_
       obtain ⟨g115, r116⟩ := G_some r114
       refine s_w ((i0 + 1)) (k := .i64) (x := (i0 + 1)) (by kernel_rfl) (wrap64 (by have := g115; omega)) ?_
       refine s_qk (.int .i64 (i0 + 1)) (by kernel_rfl) ?_
       refine s_nil ?_
       obtain rfl := Option.some.inj r116
       exact k64 n60 _ _ (Nat.lt_succ_self _) ⟨(i0 + 1), (Er.fe e1), (u99), hn63, ⟨by kernel_rfl, by kernel_rfl, by kernel_rfl, by kernel_rfl, by kernel_rfl, by kernel_rfl, trivial⟩, (FrS.step e15.wf ((FrS.step e15.wf ((FrS.step e15.wf (FrS.refl (W := []) e15.wf) e54 Inn.nil).extR e76) e82 (hb77.fresh e54.next)).extR e87) e96 (hb88.fresh (ntr (ntr e54.next e76.next) e82.next))), v102⟩
     ·have r117 := ite_f h93 r72
      have u118 := (((m56.ext e76).fr e82 (hb77.djn (h_err.lt.le (ntr (ntr e4.next e15.next) e54.next)))).ext e87)
      refine d_ck 44 #[v57, .iface 88 (.pointer (some ⟨b85, 0, none⟩))] (by kernel_rfl) (a_asF_no r89 u118 h93) ?_
      rintro _ _ ⟨rfl, rfl⟩
      refine ⟨st_nil, ?_⟩
      refine d_qk (.bool true) (by kernel_rfl) ?_
      refine d_qk (.bool true) (by kernel_rfl) ?_
      refine d_idle (by kernel_rfl) ?_
      refine d_idle (by kernel_rfl) ?_
      refine d_qk (.bool true) (by kernel_rfl) ?_
      refine d_qk (.bool true) (by kernel_rfl) ?_
      refine d_idle (by kernel_rfl) ?_
      refine d_idle (by kernel_rfl) ?_
      refine d_idle (by kernel_rfl) ?_
      refine d_idle (by kernel_rfl) ?_
      refine d_idle (by kernel_rfl) ?_
      refine d_idle (by kernel_rfl) ?_
      refine d_qk (.bool true) (by kernel_rfl) ?_
      refine d_nil ?_
      refine k92 _ _ ?_
      refine w_cond true (by kernel_rfl) rfl (fun _ => ?_) (fun h => by cases h)
      refine w_seqk fun K119 k119 => ?_
      refine w_reg (by kernel_rfl) ?_
      refine s_qk (.bool false) (by kernel_rfl) ?_
      refine s_nil ?_
      refine k119 _ _ ?_
      refine w_ret (th_ret (bl_ret (th_ret (th_ret (bl_ret (th_ret (th_ret ?_)))))))
      obtain ⟨v120, hv121, hz122⟩ := map_some r117
      subst hz122
      obtain rfl := it_inr hn63
      have hq123 := elim_inl r42
      rw [hq123] at hv121
      refine b_ret (fn := Tryd.f14) (vs := [.bool false]) (aRes_tmp (by kernel_rfl) (rfl)) ?_
      obtain rfl := Option.some.inj hv121
      exact ⟨rfl, ((FrS.step wf ((FrS.step wf (FrS.step wf ((FrS.refl (W := []) wf).extR e4) e15 Inn.nil) e54 Inn.nil).extR e76) e82 (hb77.fresh (ntr (ntr e4.next e15.next) e54.next))).extR e87)⟩
    ·have r124 := ite_f h67 hz62
     refine w_exit (th_exit (th_exit (bl_eq ?_)))
     obtain rfl := Option.some.inj r124
     obtain rfl := it_inr hn63
     exact k49 _ _ ⟨_, rfl, (v57), ⟨by kernel_rfl, by kernel_rfl, by kernel_rfl, trivial⟩, (FrS.step e15.wf (FrS.refl (W := []) e15.wf) e54 Inn.nil), m56⟩
   ·obtain ⟨o40, rfl, v48, hh50, e45, m47⟩ := hM
    have r125 := elim_inr r42
    obtain ⟨β, rfl⟩ := has_ex hh50
    clear hh50
    refine k36 _ _ ?_
    refine w_seqk fun K126 k126 => ?_
    refine w_reg (by kernel_rfl) ?_
    refine s_rwk e45.wf [.pointer none] (by kernel_rfl) fun b127 H128 e129 hb130 r131 => ?_
    refine s_nil ?_
    refine k126 _ _ ?_
    refine w_seqk fun K133 k133 => ?_
    refine w_seqk fun K134 k134 => ?_
    refine w_reg (by kernel_rfl) ?_
    refine s_qk (v48) (by kernel_rfl) ?_
    refine s_qk (.iface 88 (.pointer (some ⟨b127, 0, none⟩))) (by kernel_rfl) ?_
    by_cases h135 : Er.isAt o40 = true
    ·have r136 := ite_t h135 r125
     have u145 := (m47.ext e129)
     refine s_ck 44 #[v48, .iface 88 (.pointer (some ⟨b127, 0, none⟩))] (by kernel_rfl) (a_asF_at e129.wf r131 (hb130.djn (h_err.lt.le (ntr (ntr e4.next e15.next) e45.next))) u145 h135) ?_
     rintro _ H137 ⟨rfl, e138, b140, u141, -, i142, r139, r143, v144⟩
     refine s_nil ?_
     refine k134 _ _ ?_
     refine w_cond true (by kernel_rfl) rfl (fun _ => ?_) (fun h => by cases h)
     refine w_seqk fun K148 k148 => ?_
     refine w_reg (by kernel_rfl) ?_
     refine s_qk (.bool false) (by kernel_rfl) ?_
     refine s_nil ?_
     refine k148 _ _ ?_
     refine w_ret (th_ret ?_)
     refine b_ret (fn := Tryd.f14) (vs := [.bool false]) (aRes_tmp (by kernel_rfl) (rfl)) ?_
     obtain rfl := Option.some.inj r136
     exact ⟨rfl, (FrS.step wf ((FrS.step wf (FrS.step wf ((FrS.refl (W := []) wf).extR e4) e15 Inn.nil) e45 Inn.nil).extR e129) e138 (hb130.fresh (ntr (ntr e4.next e15.next) e45.next)))⟩
    ·have r149 := ite_f h135 r125
     have u150 := (m47.ext e129)
     refine s_ck 44 #[v48, .iface 88 (.pointer (some ⟨b127, 0, none⟩))] (by kernel_rfl) (a_asF_no r131 u150 h135) ?_
     rintro _ _ ⟨rfl, rfl⟩
     refine s_nil ?_
     refine k134 _ _ ?_
     refine w_cond false (by kernel_rfl) rfl (fun h => by cases h) (fun _ => ?_)
     refine w_skip ?_
     refine k133 _ _ ?_
     refine w_seqk fun K151 k151 => ?_
     refine w_reg (by kernel_rfl) ?_
     refine s_rwk e129.wf [.int .i64 0] (by kernel_rfl) fun b152 H153 e154 hb155 r156 => ?_
     refine s_nil ?_
     refine k151 _ _ ?_
     refine w_seqk fun K158 k158 => ?_
     refine w_seqk fun K159 k159 => ?_
     obtain ⟨o160, hx161, r162⟩ := bind_some r149
     refine w_mid (fun α H163 => Has α [(0, .iface t29 x30), (3, .pointer (some ⟨b2, 0, none⟩)), (60, .bool o160)] ∧ FrS [b152] H153 H163) (fun K165 k165 => ?_) (fun α H163 hM => ?_)
     ·refine w_reg (by kernel_rfl) ?_
      refine s_qk (.iface t29 x30) (by kernel_rfl) ?_
      refine s_qk (.iface 91 (.pointer (some ⟨b152, 0, none⟩))) (by kernel_rfl) ?_
      by_cases h167 : (Er.num err).isSome = true
      ·have r168 := ite_t h167 hx161
       have u172 := (((u31.fr e45 Dj.nil_l).ext e129).ext e154)
       refine s_ck 44 #[.iface t29 x30, .iface 91 (.pointer (some ⟨b152, 0, none⟩))] (by kernel_rfl) (a_asN_y e154.wf r156 u172 h28 h167) ?_
       rintro _ H169 ⟨rfl, e170, r171⟩
       refine s_qk (.bool false) (by kernel_rfl) ?_
       refine s_qk (.bool false) (by kernel_rfl) ?_
       refine s_ql (.int .i64 ((Er.num err).getD 0)) (x := aLoad Tryd.prog 80 (.pointer (some ⟨b152, 0, none⟩)) H169) (by kernel_rfl) (r171.ld (by kernel_rfl)) ?_
       refine s_qk (.pointer (some ⟨b2, 0, none⟩)) (by kernel_rfl) ?_
       have u173 := ((((u38.frS e45 Dj.nil_l).ext e129).ext e154).frS e170 (hb155.djn (r6.ltF.le (ntr (ntr e15.next e45.next) e129.next))))
       refine s_ql (.int .i64 Code) (x := aLoad Tryd.prog 3 (.pointer (some ⟨b2, 0, none⟩)) H169) (by kernel_rfl) (u173.ld (by kernel_rfl)) ?_
       refine s_qk (.bool (!decide (((Er.num err).getD 0) = Code))) (by kernel_rfl) ?_
       refine s_qk (.bool (!decide (((Er.num err).getD 0) = Code))) (by kernel_rfl) ?_
       refine s_nil ?_
       obtain rfl := Option.some.inj r168
       exact k165 _ _ ⟨⟨by kernel_rfl, by kernel_rfl, by kernel_rfl, trivial⟩, (FrS.step e154.wf (FrS.refl (W := [b152]) e154.wf) e170 Inn.refl')⟩
      ·have r174 := ite_f h167 hx161
       have u178 := (((u31.fr e45 Dj.nil_l).ext e129).ext e154)
       refine s_ck 44 #[.iface t29 x30, .iface 91 (.pointer (some ⟨b152, 0, none⟩))] (by kernel_rfl) (a_asN_n e154.wf r156 u178 h28 h167) ?_
       rintro _ H175 ⟨rfl, e176, r177⟩
       refine s_qk (.bool true) (by kernel_rfl) ?_
       refine s_qk (.bool true) (by kernel_rfl) ?_
       refine s_no (by kernel_rfl) ?_
       refine s_no (by kernel_rfl) ?_
       refine s_no (by kernel_rfl) ?_
       refine s_no (by kernel_rfl) ?_
       refine s_qk (.bool true) (by kernel_rfl) ?_
       refine s_nil ?_
       obtain rfl := Option.some.inj r174
       exact k165 _ _ ⟨⟨by kernel_rfl, by kernel_rfl, by kernel_rfl, trivial⟩, (FrS.step e154.wf (FrS.refl (W := [b152]) e154.wf) e176 Inn.refl')⟩
     ·obtain ⟨hh166, e164⟩ := hM
      obtain ⟨β, rfl⟩ := has_ex hh166
      clear hh166
      refine k159 _ _ ?_
      refine w_cond (o160) (by kernel_rfl) rfl (fun h179 => ?_) (fun h179 => ?_)
      ·have r180 := ite_t h179 r162
       refine w_seqk fun K181 k181 => ?_
       refine w_reg (by kernel_rfl) ?_
       refine s_qk (.bool false) (by kernel_rfl) ?_
       refine s_nil ?_
       refine k181 _ _ ?_
       refine w_ret (th_ret ?_)
       refine b_ret (fn := Tryd.f14) (vs := [.bool false]) (aRes_tmp (by kernel_rfl) (rfl)) ?_
       obtain rfl := Option.some.inj r180
       exact ⟨rfl, (FrS.step wf (((FrS.step wf (FrS.step wf ((FrS.refl (W := []) wf).extR e4) e15 Inn.nil) e45 Inn.nil).extR e129).extR e154) e164 (hb155.fresh (ntr (ntr (ntr e4.next e15.next) e45.next) e129.next)))⟩
      ·have r182 := ite_bf h179 r162
       refine w_skip ?_
       refine k158 _ _ ?_
       refine w_seqk fun K183 k183 => ?_
       refine w_seqk fun K184 k184 => ?_
       refine w_reg (by kernel_rfl) ?_
       refine s_qk (.int .i64 1) (by kernel_rfl) ?_
       refine s_nil ?_
       refine k184 _ _ ?_
       obtain ⟨z188, hx186, r187⟩ := bind_some r182
       refine w_mid (fun α H189 => ∃ o185, z188 = Sum.inr o185 ∧ Has α [] ∧ H163 = H189) (fun K191 k191 => ?_) (fun α H189 hM => ?_)
       ·refine w_block ?_
        obtain ⟨n193, hn194⟩ := loopO_iff.1 hx186
        refine w_loopn (fun n α H195 => ∃ (i2 : Int), iterO (fun zz_ => z_viaductseen_Same_l1 err Code zz_) n i2 = some z188 ∧ Has α [(0, .iface t29 x30), (3, .pointer (some ⟨b2, 0, none⟩)), (11, .int .i64 i2)] ∧ H163 = H195) n193 ⟨1, hn194, ⟨by kernel_rfl, by kernel_rfl, by kernel_rfl, trivial⟩, rfl⟩ ?_
        rintro n193 α H195 ⟨i2, hi198, hh197, rfl⟩ K203 k203
        obtain ⟨n199, z200, rfl, hz201, hn202⟩ := iter_succ hi198
        obtain ⟨β, rfl⟩ := has_ex hh197
        clear hh197
        replace hz201 : z_viaductseen_Same_l1 err Code i2 = some z200 := hz201
        unfold z_viaductseen_Same_l1 at hz201
        refine w_seqk fun K204 k204 => ?_
        refine w_seqk fun K205 k205 => ?_
        refine w_reg (by kernel_rfl) ?_
        refine s_qk (.int .i64 i2) (by kernel_rfl) ?_
        refine s_qk (.bool (decide (i2 ≤ 20))) (by kernel_rfl) ?_
        refine s_nil ?_
        refine k205 _ _ ?_
        refine w_condp (i2 ≤ 20) (by kernel_rfl) rfl (fun h206 => ?_) (fun h206 => ?_)
        ·have r207 := ite_t h206 hz201
         refine w_skip ?_
         refine k204 _ _ ?_
         refine w_seqk fun K208 k208 => ?_
         refine w_block ?_
         refine w_seqk fun K209 k209 => ?_
         refine w_draw [0, 1, 2, 4, 5, 6, 7, 3, 8] (by kernel_rfl) ?_
         refine d_qk (.iface t29 x30) (by kernel_rfl) ?_
         refine d_qk (.int .i64 i2) (by kernel_rfl) ?_
         refine d_qk (.iface 80 (.int .i64 i2)) (by kernel_rfl) ?_
         refine d_qk (.int .i64 i2) (by kernel_rfl) ?_
         refine d_qk (.pointer (some ⟨b2, 0, none⟩)) (by kernel_rfl) ?_
         have u210 := ((((u38.frS e45 Dj.nil_l).ext e129).ext e154).frS e164 (hb155.djn (r6.ltF.le (ntr (ntr e15.next e45.next) e129.next))))
         refine d_fl (.int .i64 Code) (x := aLoad Tryd.prog 3 (.pointer (some ⟨b2, 0, none⟩)) H163) (by kernel_rfl) (u210.ld (by kernel_rfl)) ?_
         refine d_qk (.bool (decide (i2 = Code))) (by kernel_rfl) ?_
         have u211 := ((((u31.fr e45 Dj.nil_l).ext e129).ext e154).fr e164 (hb155.djn (h_err.lt.le (ntr (ntr (ntr e4.next e15.next) e45.next) e129.next))))
         refine d_ck 45 #[.iface t29 x30, .iface 80 (.int .i64 i2)] (by kernel_rfl) (a_isN u211 h28) ?_
         rintro _ _ ⟨rfl, rfl⟩
         refine ⟨st_ql (y := aLoad Tryd.prog 3 (.pointer (some ⟨b2, 0, none⟩)) H163) (by kernel_rfl) (u210.ld (by kernel_rfl)) (st_nil), ?_⟩
         refine d_qk (.bool (!decide ((decide (Er.num err = some i2)) = (decide (i2 = Code))))) (by kernel_rfl) ?_
         refine d_nil ?_
         refine k209 _ _ ?_
         refine w_condn ((decide (Er.num err = some i2)) = (decide (i2 = Code))) (by kernel_rfl) rfl (fun h212 => ?_) (fun h212 => ?_)
         ·have r213 := ite_f h212 r207
          refine w_seqk fun K214 k214 => ?_
          refine w_reg (by kernel_rfl) ?_
          refine s_qk (.bool false) (by kernel_rfl) ?_
          refine s_nil ?_
          refine k214 _ _ ?_
          refine w_ret (bl_ret (th_ret (th_ret (bl_ret (th_ret (th_ret ?_))))))
          obtain ⟨v215, hv216, hz217⟩ := map_some r213
          subst hz217
          obtain rfl := it_inr hn202
          have hq218 := elim_inl r187
          rw [hq218] at hv216
          refine b_ret (fn := Tryd.f14) (vs := [.bool false]) (aRes_tmp (by kernel_rfl) (rfl)) ?_
          obtain rfl := Option.some.inj hv216
          exact ⟨rfl, (FrS.step wf (((FrS.step wf (FrS.step wf ((FrS.refl (W := []) wf).extR e4) e15 Inn.nil) e45 Inn.nil).extR e129).extR e154) e164 (hb155.fresh (ntr (ntr (ntr e4.next e15.next) e45.next) e129.next)))⟩
         ·have r219 := ite_t h212 r207
          refine w_skip ?_
          refine k208 _ _ ?_
          refine w_reg (by kernel_rfl) ?_
          refine s_qk (.int .i64 i2) (by kernel_rfl) ?_
          obtain ⟨g220, r221⟩ := G_some r219
          refine s_w ((i2 + 1)) (k := .i64) (x := (i2 + 1)) (by kernel_rfl) (wrap64 g220) ?_
          refine s_qk (.int .i64 (i2 + 1)) (by kernel_rfl) ?_
          refine s_nil ?_
          obtain rfl := Option.some.inj r221
          exact k203 n199 _ _ (Nat.lt_succ_self _) ⟨(i2 + 1), hn202, ⟨by kernel_rfl, by kernel_rfl, by kernel_rfl, trivial⟩, rfl⟩
        ·have r222 := ite_f h206 hz201
         refine w_exit (th_exit (th_exit (bl_eq ?_)))
         obtain rfl := Option.some.inj r222
         obtain rfl := it_inr hn202
         exact k191 _ _ ⟨_, rfl, trivial, rfl⟩
       ·obtain ⟨o185, rfl, hh192, rfl⟩ := hM
        have r223 := elim_inr r187
        obtain ⟨β, rfl⟩ := has_ex hh192
        clear hh192
        refine k183 _ _ ?_
        refine w_seqk fun K224 k224 => ?_
        refine w_reg (by kernel_rfl) ?_
        refine s_qk (.bool true) (by kernel_rfl) ?_
        refine s_nil ?_
        refine k224 _ _ ?_
        refine w_ret ?_
        refine b_ret (fn := Tryd.f14) (vs := [.bool true]) (aRes_tmp (by kernel_rfl) (rfl)) ?_
        obtain rfl := Option.some.inj r223
        exact ⟨rfl, (FrS.step wf (((FrS.step wf (FrS.step wf ((FrS.refl (W := []) wf).extR e4) e15 Inn.nil) e45 Inn.nil).extR e129).extR e154) e164 (hb155.fresh (ntr (ntr (ntr e4.next e15.next) e45.next) e129.next)))⟩

theorem c_viaductlaw08_SearchBounds {H : AH} {hd_First : Value} {fp_First : Fp} {hd_To : Value} {fp_To : Fp} {hd_Weight : Value} {fp_Weight : Fp} {First : List (Int)} {To : List (Int)} {Weight : List (Int)} {s : Int} {hops : Int} {settles : Int} {most : Int} {r : Bool}
  (wf : WF H) (h_First : Sq (encI .i64) 1 H hd_First First fp_First) (h_To : Sq (encI .i64) 1 H hd_To To fp_To) (h_Weight : Sq (encI .i64) 1 H hd_Weight Weight fp_Weight) (hr : z_viaductlaw08_SearchBounds First To Weight s hops settles most = some r) :
  ACalls Tryd.prog 6 #[.agg #[hd_First, hd_To, hd_Weight], .int .i64 s, .int .i64 hops, .int .i64 settles, .int .u64 most] H fun v H' => v = .bool r ∧ FrS [] H H' := by
 refine acalls_of_body mixed Tryd.func6 rfl (Nat.le_of_ble_eq_true rfl) ?_
 unfold z_viaductlaw08_SearchBounds at hr
 refine w_seqk fun K1 k1 => ?_
 refine w_reg (by kernel_rfl) ?_
 refine s_rwl wf [hd_First, hd_To, hd_Weight] (one_cons (h_First.one1) (one_cons (h_To.one1) (one_cons (h_Weight.one1) (one_nil)))) (by kernel_rfl) fun b2 H3 e4 hb5 r6 => ?_
 refine s_qk (.bool false) (by kernel_rfl) ?_
 refine s_nil ?_
 refine k1 _ _ ?_
 refine w_seqk fun K8 k8 => ?_
 refine w_seqk fun K9 k9 => ?_
 refine w_reg (by kernel_rfl) ?_
 refine s_ck 19 #[] (by kernel_rfl) c_viaductlaw08_awake ?_
 rintro _ _ ⟨rfl, rfl⟩
 refine s_qk (.bool false) (by kernel_rfl) ?_
 refine s_nil ?_
 refine k9 _ _ ?_
 refine w_cond false (by kernel_rfl) rfl (fun h => by cases h) (fun _ => ?_)
 refine w_skip ?_
 refine k8 _ _ ?_
 refine w_seqk fun K10 k10 => ?_
 refine w_seqk fun K11 k11 => ?_
 refine w_reg (by kernel_rfl) ?_
 refine s_ql (.agg #[hd_First, hd_To, hd_Weight]) (x := aLoad Tryd.prog 37 (.pointer (some ⟨b2, 0, none⟩)) H3) (by kernel_rfl) (r6.ld (by kernel_rfl)) ?_
 have u12 := (h_First.ext e4)
 have u13 := (h_To.ext e4)
 have u14 := (h_Weight.ext e4)
 obtain ⟨y15, hy16, r17⟩ := bind_some hr
 refine s_ck 20 #[.agg #[hd_First, hd_To, hd_Weight]] (by kernel_rfl) (c_viaductlaw08_few e4.wf u12 u13 u14 hy16) ?_
 rintro _ H18 ⟨rfl, e19⟩
 refine s_qk (.bool (!y15)) (by kernel_rfl) ?_
 refine s_nil ?_
 refine k11 _ _ ?_
 refine w_cond ((!y15)) (by kernel_rfl) rfl (fun h20 => ?_) (fun h20 => ?_)
 ·have r21 := ite_t h20 r17
  refine w_seqk fun K22 k22 => ?_
  refine w_reg (by kernel_rfl) ?_
  refine s_qk (.bool true) (by kernel_rfl) ?_
  refine s_nil ?_
  refine k22 _ _ ?_
  refine w_ret (th_ret ?_)
  refine b_ret (fn := Tryd.f6) (vs := [.bool true]) (aRes_tmp (by kernel_rfl) (rfl)) ?_
  obtain rfl := Option.some.inj r21
  exact ⟨rfl, (FrS.step wf ((FrS.refl (W := []) wf).extR e4) e19 Inn.nil)⟩
 ·have r23 := ite_bf h20 r17
  refine w_skip ?_
  refine k10 _ _ ?_
  refine w_seqk fun K24 k24 => ?_
  refine w_reg (by kernel_rfl) ?_
  have u25 := (r6.frS e19 Dj.nil_l)
  refine s_ql (.agg #[hd_First, hd_To, hd_Weight]) (x := aLoad Tryd.prog 37 (.pointer (some ⟨b2, 0, none⟩)) H18) (by kernel_rfl) (u25.ld (by kernel_rfl)) ?_
  have u26 := (u12.fr e19 Dj.nil_l)
  have u27 := (u13.fr e19 Dj.nil_l)
  have u28 := (u14.fr e19 Dj.nil_l)
  obtain ⟨y29, hy30, r31⟩ := bind_some r23
  refine s_ck 22 #[.agg #[hd_First, hd_To, hd_Weight]] (by kernel_rfl) (c_viaductlaw08_of e19.wf u26 u27 u28 hy30) ?_
  rintro _ H38 ⟨s32, f33, s34, f35, s36, f37, rfl, e39, m40, m41, m42, i43, i44, i45, d46, d47, d48⟩
  obtain ⟨a52, n53, c54, rfl⟩ := m40.form
  obtain ⟨a55, n56, c57, rfl⟩ := m41.form
  obtain ⟨a58, n59, c60, rfl⟩ := m42.form
  refine s_qk (.int .i64 s) (by kernel_rfl) ?_
  refine s_qk (.int .i64 hops) (by kernel_rfl) ?_
  refine s_qk (.int .i64 settles) (by kernel_rfl) ?_
  refine s_qk (.int .u64 most) (by kernel_rfl) ?_
  obtain ⟨y61, hy62, r63⟩ := bind_some r31
  refine s_ck 32 #[.agg #[.slice a52 n53 c54, .slice a55 n56 c57, .slice a58 n59 c60], .int .i64 s, .int .i64 hops, .int .i64 settles, .int .u64 most] (by kernel_rfl) (c_search_Bounded e39.wf m40.sq m41.sq m42.sq hy62) ?_
  rintro _ H68 ⟨s64, f65, v66, f67, rfl, e69, m70, m71, i72, i73, d74⟩
  obtain ⟨a77, n78, c79, rfl⟩ := m70.form
  refine s_qk (.tuple #[.slice a77 n78 c79, v66]) (by kernel_rfl) ?_
  refine s_qk (.slice a77 n78 c79) (by kernel_rfl) ?_
  refine s_qk (v66) (by kernel_rfl) ?_
  refine s_qk (.slice a77 n78 c79) (by kernel_rfl) ?_
  refine s_qk (v66) (by kernel_rfl) ?_
  refine s_nil ?_
  refine k24 _ _ ?_
  refine w_seqk fun K80 k80 => ?_
  refine w_reg (by kernel_rfl) ?_
  have u81 := ((u25.frS e39 Dj.nil_l).frS e69 Dj.nil_l)
  refine s_ql (.agg #[hd_First, hd_To, hd_Weight]) (x := aLoad Tryd.prog 37 (.pointer (some ⟨b2, 0, none⟩)) H68) (by kernel_rfl) (u81.ld (by kernel_rfl)) ?_
  refine s_qk (.int .i64 s) (by kernel_rfl) ?_
  refine s_qk (.int .i64 hops) (by kernel_rfl) ?_
  refine s_qk (.int .i64 settles) (by kernel_rfl) ?_
  refine s_qk (.int .u64 most) (by kernel_rfl) ?_
  have u82 := ((u26.fr e39 Dj.nil_l).fr e69 Dj.nil_l)
  have u83 := ((u27.fr e39 Dj.nil_l).fr e69 Dj.nil_l)
  have u84 := ((u28.fr e39 Dj.nil_l).fr e69 Dj.nil_l)
  obtain ⟨y85, hy86, r87⟩ := bind_some r63
  refine s_ck 33 #[.agg #[hd_First, hd_To, hd_Weight], .int .i64 s, .int .i64 hops, .int .i64 settles, .int .u64 most] (by kernel_rfl) (c_viaductref08_DocBounded e69.wf u82 u83 u84 hy86) ?_
  rintro _ H92 ⟨s88, f89, s90, f91, rfl, e93, m94, m95, i96, i97, d98⟩
  obtain ⟨a101, n102, c103, rfl⟩ := m94.form
  obtain ⟨a104, n105, c106, rfl⟩ := m95.form
  refine s_qk (.tuple #[.slice a101 n102 c103, .agg #[.int .i64 y85.2.1, .slice a104 n105 c106]]) (by kernel_rfl) ?_
  refine s_qk (.slice a101 n102 c103) (by kernel_rfl) ?_
  refine s_qk (.agg #[.int .i64 y85.2.1, .slice a104 n105 c106]) (by kernel_rfl) ?_
  refine s_rwk e93.wf [.int .i64 0, .slice none 0 0] (by kernel_rfl) fun b107 H108 e109 hb110 r111 => ?_
  refine s_qk (.slice a101 n102 c103) (by kernel_rfl) ?_
  have u117 := (m95.ext e109)
  obtain ⟨H113, q114, e115, r116⟩ := Row.store (P := Tryd.prog) (t := 31) (p := 0) e109.wf r111 (.agg #[.int .i64 y85.2.1, .slice a104 n105 c106]) [.int .i64 y85.2.1, .slice a104 n105 c106] (by kernel_rfl) (by kernel_rfl) (one_cons (rfl) (one_cons (u117.one1) (one_nil))) (Nat.le_of_ble_eq_true (by kernel_rfl)) [.int .i64 y85.2.1, .slice a104 n105 c106] (by kernel_rfl)
  refine s_ek (undef) (by kernel_rfl) (map_ok q114) ?_
  refine s_nil ?_
  refine k80 _ _ ?_
  refine w_seqk fun K118 k118 => ?_
  refine w_seqk fun K119 k119 => ?_
  obtain ⟨o120, hx121, r122⟩ := bind_some r87
  refine w_mid (fun α H123 => Has α [(11, .slice a77 n78 c79), (13, .slice a101 n102 c103), (50, .bool o120)] ∧ FrS [] H113 H123) (fun K125 k125 => ?_) (fun α H123 hM => ?_)
  ·refine w_reg (by kernel_rfl) ?_
   refine s_qk (.slice a77 n78 c79) (by kernel_rfl) ?_
   have u127 := (((m70.fr e93 Dj.nil_l).ext e109).fr e115 (hb110.djn (m70.lt.le e93.next)))
   refine s_ql (.int .i64 (y61.1.length : Int)) (x := aLen Tryd.prog 60 (.slice a77 n78 c79) H113) (by kernel_rfl) (u127.sq.lenb (by kernel_rfl)) ?_
   refine s_qk (.slice a101 n102 c103) (by kernel_rfl) ?_
   have u128 := ((m94.ext e109).fr e115 (hb110.djn m94.lt))
   refine s_ql (.int .i64 (y85.1.length : Int)) (x := aLen Tryd.prog 63 (.slice a101 n102 c103) H113) (by kernel_rfl) (u128.sq.lenb (by kernel_rfl)) ?_
   refine s_bn ((y61.1.length : Int) = (y85.1.length : Int)) (by kernel_rfl) (fun h129 => ?_) (fun h129 => ?_)
   ·have r130 := ite_t h129 hx121
    refine s_qk (.bool false) (by kernel_rfl) ?_
    refine s_qk (v66) (by kernel_rfl) ?_
    refine s_ql (.agg #[.int .i64 y85.2.1, .slice a104 n105 c106]) (x := aLoad Tryd.prog 31 (.pointer (some ⟨b107, 0, none⟩)) H113) (by kernel_rfl) (r116.ld (by kernel_rfl)) ?_
    have u131 := (((m71.fr e93 Dj.nil_l).ext e109).fr e115 (hb110.djn (m71.lt.le e93.next)))
    have u132 := (u117.fr e115 (hb110.djn m95.lt))
    obtain ⟨y133, hy134, r135⟩ := bind_some r130
    refine s_ck 14 #[v66, .agg #[.int .i64 y85.2.1, .slice a104 n105 c106]] (by kernel_rfl) (c_viaductseen_Same e115.wf u131 u132.sq hy134) ?_
    rintro _ H136 ⟨rfl, e137⟩
    refine s_qk (.bool (!y133)) (by kernel_rfl) ?_
    refine s_qk (.bool (!y133)) (by kernel_rfl) ?_
    refine s_nil ?_
    obtain rfl := Option.some.inj r135
    exact k125 _ _ ⟨⟨by kernel_rfl, by kernel_rfl, by kernel_rfl, trivial⟩, (FrS.step e115.wf (FrS.refl (W := []) e115.wf) e137 Inn.nil)⟩
   ·have r138 := ite_f h129 hx121
    refine s_qk (.bool true) (by kernel_rfl) ?_
    refine s_no (by kernel_rfl) ?_
    refine s_no (by kernel_rfl) ?_
    refine s_no (by kernel_rfl) ?_
    refine s_no (by kernel_rfl) ?_
    refine s_qk (.bool true) (by kernel_rfl) ?_
    refine s_nil ?_
    obtain rfl := Option.some.inj r138
    exact k125 _ _ ⟨⟨by kernel_rfl, by kernel_rfl, by kernel_rfl, trivial⟩, (FrS.refl (W := []) e115.wf)⟩
  ·obtain ⟨hh126, e124⟩ := hM
   obtain ⟨β, rfl⟩ := has_ex hh126
   clear hh126
   refine k119 _ _ ?_
   refine w_cond (o120) (by kernel_rfl) rfl (fun h139 => ?_) (fun h139 => ?_)
   ·have r140 := ite_t h139 r122
    refine w_seqk fun K141 k141 => ?_
    refine w_reg (by kernel_rfl) ?_
    refine s_qk (.bool false) (by kernel_rfl) ?_
    refine s_nil ?_
    refine k141 _ _ ?_
    refine w_ret (th_ret ?_)
    refine b_ret (fn := Tryd.f6) (vs := [.bool false]) (aRes_tmp (by kernel_rfl) (rfl)) ?_
    obtain rfl := Option.some.inj r140
    exact ⟨rfl, (FrS.step wf (FrS.step wf ((FrS.step wf (FrS.step wf (FrS.step wf (FrS.step wf ((FrS.refl (W := []) wf).extR e4) e19 Inn.nil) e39 Inn.nil) e69 Inn.nil) e93 Inn.nil).extR e109) e115 (hb110.fresh (ntr (ntr (ntr (ntr e4.next e19.next) e39.next) e69.next) e93.next))) e124 Inn.nil)⟩
   ·have r142 := ite_bf h139 r122
    refine w_skip ?_
    refine k118 _ _ ?_
    refine w_seqk fun K143 k143 => ?_
    refine w_seqk fun K144 k144 => ?_
    refine w_reg (by kernel_rfl) ?_
    refine s_qk (.slice a77 n78 c79) (by kernel_rfl) ?_
    have u145 := ((((m70.fr e93 Dj.nil_l).ext e109).fr e115 (hb110.djn (m70.lt.le e93.next))).fr e124 Dj.nil_l)
    refine s_ql (.int .i64 (y61.1.length : Int)) (x := aLen Tryd.prog 60 (.slice a77 n78 c79) H123) (by kernel_rfl) (u145.sq.lenb (by kernel_rfl)) ?_
    refine s_qk (.int .i64 0) (by kernel_rfl) ?_
    refine s_nil ?_
    refine k144 _ _ ?_
    obtain ⟨z149, hx147, r148⟩ := bind_some r142
    refine w_mid (fun α H150 => ∃ o146, z149 = Sum.inr o146 ∧ Has α [] ∧ H123 = H150) (fun K152 k152 => ?_) (fun α H150 hM => ?_)
    ·refine w_block ?_
     obtain ⟨n154, hn155⟩ := loopO_iff.1 hx147
     refine w_loopn (fun n α H156 => ∃ (i0 : Int), iterO (fun zz_ => z_viaductlaw08_SearchBounds_l0 y61 y85 zz_) n i0 = some z149 ∧ Has α [(11, .slice a77 n78 c79), (13, .slice a101 n102 c103), (52, .int .i64 (y61.1.length : Int)), (53, .int .i64 i0)] ∧ H123 = H156) n154 ⟨0, hn155, ⟨by kernel_rfl, by kernel_rfl, by kernel_rfl, by kernel_rfl, trivial⟩, rfl⟩ ?_
     rintro n154 α H156 ⟨i0, hi159, hh158, rfl⟩ K164 k164
     obtain ⟨n160, z161, rfl, hz162, hn163⟩ := iter_succ hi159
     obtain ⟨β, rfl⟩ := has_ex hh158
     clear hh158
     replace hz162 : z_viaductlaw08_SearchBounds_l0 y61 y85 i0 = some z161 := hz162
     unfold z_viaductlaw08_SearchBounds_l0 at hz162
     refine w_seqk fun K165 k165 => ?_
     refine w_reg (by kernel_rfl) ?_
     refine s_qk (.bool (decide (i0 < (y61.1.length : Int)))) (by kernel_rfl) ?_
     refine s_nil ?_
     refine k165 _ _ ?_
     refine w_seqk fun K166 k166 => ?_
     refine w_condp (i0 < (y61.1.length : Int)) (by kernel_rfl) rfl (fun h167 => ?_) (fun h167 => ?_)
     ·have r168 := ite_t h167 hz162
      refine w_skip ?_
      refine k166 _ _ ?_
      refine w_seqk fun K169 k169 => ?_
      refine w_block ?_
      refine w_seqk fun K170 k170 => ?_
      refine w_reg (by kernel_rfl) ?_
      refine s_qk (.int .i64 i0) (by kernel_rfl) ?_
      refine s_qk (.int .i64 i0) (by kernel_rfl) ?_
      refine s_nil ?_
      refine k170 _ _ ?_
      refine w_seqk fun K171 k171 => ?_
      refine w_draw [0, 1, 2, 3, 4, 5, 6, 7, 8, 9, 10, 11, 12, 13, 14, 15, 16, 17, 18, 19, 20, 21, 22, 23, 24, 25] (by kernel_rfl) ?_
      refine d_qk (.slice a77 n78 c79) (by kernel_rfl) ?_
      refine d_qk (.int .i64 i0) (by kernel_rfl) ?_
      obtain ⟨g172, r173⟩ := G_some r168
      refine d_ql (elp (.slice a77 n78 c79) 4 i0.toNat 0) (x := aIndexAddr Tryd.prog 60 (.slice a77 n78 c79) (.int .i64 i0)) (by kernel_rfl) (u145.sq.idxb (by kernel_rfl) g172 h167) ?_
      refine d_ql (elp (.slice a77 n78 c79) 4 i0.toNat 0) (x := aFieldAddr Tryd.prog 67 (elp (.slice a77 n78 c79) 4 i0.toNat 0) 0) (by kernel_rfl) (Sq.fldq (d := 0) u145.sq g172 h167 (by kernel_rfl)) ?_
      refine d_ql (.int .i64 ((gt y61.1 i0).1)) (x := aLoad Tryd.prog 3 (elp (.slice a77 n78 c79) 4 i0.toNat 0) H123) (by kernel_rfl) (u145.sq.ld g172 h167 (by kernel_rfl)) ?_
      refine d_qk (.slice a77 n78 c79) (by kernel_rfl) ?_
      refine d_qk (.int .i64 i0) (by kernel_rfl) ?_
      refine d_ql (elp (.slice a77 n78 c79) 4 i0.toNat 0) (x := aIndexAddr Tryd.prog 60 (.slice a77 n78 c79) (.int .i64 i0)) (by kernel_rfl) (u145.sq.idxb (by kernel_rfl) g172 h167) ?_
      refine d_ql (elp (.slice a77 n78 c79) 4 i0.toNat 1) (x := aFieldAddr Tryd.prog 67 (elp (.slice a77 n78 c79) 4 i0.toNat 0) 1) (by kernel_rfl) (Sq.fldq (d := 1) u145.sq g172 h167 (by kernel_rfl)) ?_
      refine d_ql (.int .u64 ((gt y61.1 i0).2.1)) (x := aLoad Tryd.prog 42 (elp (.slice a77 n78 c79) 4 i0.toNat 1) H123) (by kernel_rfl) (u145.sq.ld g172 h167 (by kernel_rfl)) ?_
      refine d_qk (.slice a77 n78 c79) (by kernel_rfl) ?_
      refine d_qk (.int .i64 i0) (by kernel_rfl) ?_
      refine d_ql (elp (.slice a77 n78 c79) 4 i0.toNat 0) (x := aIndexAddr Tryd.prog 60 (.slice a77 n78 c79) (.int .i64 i0)) (by kernel_rfl) (u145.sq.idxb (by kernel_rfl) g172 h167) ?_
      refine d_ql (elp (.slice a77 n78 c79) 4 i0.toNat 2) (x := aFieldAddr Tryd.prog 67 (elp (.slice a77 n78 c79) 4 i0.toNat 0) 2) (by kernel_rfl) (Sq.fldq (d := 2) u145.sq g172 h167 (by kernel_rfl)) ?_
      refine d_ql (.int .i64 ((gt y61.1 i0).2.2.1)) (x := aLoad Tryd.prog 3 (elp (.slice a77 n78 c79) 4 i0.toNat 2) H123) (by kernel_rfl) (u145.sq.ld g172 h167 (by kernel_rfl)) ?_
      refine d_qk (.slice a77 n78 c79) (by kernel_rfl) ?_
      refine d_qk (.int .i64 i0) (by kernel_rfl) ?_
      refine d_ql (elp (.slice a77 n78 c79) 4 i0.toNat 0) (x := aIndexAddr Tryd.prog 60 (.slice a77 n78 c79) (.int .i64 i0)) (by kernel_rfl) (u145.sq.idxb (by kernel_rfl) g172 h167) ?_
      refine d_ql (elp (.slice a77 n78 c79) 4 i0.toNat 3) (x := aFieldAddr Tryd.prog 67 (elp (.slice a77 n78 c79) 4 i0.toNat 0) 3) (by kernel_rfl) (Sq.fldq (d := 3) u145.sq g172 h167 (by kernel_rfl)) ?_
      refine d_ql (.bool ((gt y61.1 i0).2.2.2)) (x := aLoad Tryd.prog 4 (elp (.slice a77 n78 c79) 4 i0.toNat 3) H123) (by kernel_rfl) (u145.sq.ld g172 h167 (by kernel_rfl)) ?_
      refine d_qk (.agg #[.int .i64 ((gt y61.1 i0).1), .int .u64 ((gt y61.1 i0).2.1), .int .i64 ((gt y61.1 i0).2.2.1), .bool ((gt y61.1 i0).2.2.2)]) (by kernel_rfl) ?_
      refine d_qk (.slice a101 n102 c103) (by kernel_rfl) ?_
      refine d_qk (.int .i64 i0) (by kernel_rfl) ?_
      obtain ⟨g174, r175⟩ := G_some r173
      have u176 := (((m94.ext e109).fr e115 (hb110.djn m94.lt)).fr e124 Dj.nil_l)
      refine d_ql (elp (.slice a101 n102 c103) 4 i0.toNat 0) (x := aIndexAddr Tryd.prog 63 (.slice a101 n102 c103) (.int .i64 i0)) (by kernel_rfl) (u176.sq.idxb (by kernel_rfl) g172 g174) ?_
      refine d_ql (.agg #[.int .i64 ((gt y85.1 i0).1), .int .u64 ((gt y85.1 i0).2.1), .int .i64 ((gt y85.1 i0).2.2.1), .bool ((gt y85.1 i0).2.2.2)]) (x := aLoad Tryd.prog 68 (elp (.slice a101 n102 c103) 4 i0.toNat 0) H123) (by kernel_rfl) (u176.sq.ld g172 g174 (by kernel_rfl)) ?_
      refine d_ql (.bool (!decide (((gt y61.1 i0).1) = ((gt y85.1 i0).1) ∧ ((gt y61.1 i0).2.1) = ((gt y85.1 i0).2.1) ∧ ((gt y61.1 i0).2.2.1) = ((gt y85.1 i0).2.2.1) ∧ ((gt y61.1 i0).2.2.2) = ((gt y85.1 i0).2.2.2)))) (x := aBin Tryd.prog .neq 68 (.tmp 76) (.tmp 80) (.agg #[.int .i64 ((gt y61.1 i0).1), .int .u64 ((gt y61.1 i0).2.1), .int .i64 ((gt y61.1 i0).2.2.1), .bool ((gt y61.1 i0).2.2.2)]) (.agg #[.int .i64 ((gt y85.1 i0).1), .int .u64 ((gt y85.1 i0).2.1), .int .i64 ((gt y85.1 i0).2.2.1), .bool ((gt y85.1 i0).2.2.2)])) (by kernel_rfl) (aBin_neq68 _ _ ((gt y61.1 i0).1) ((gt y61.1 i0).2.1) ((gt y61.1 i0).2.2.1) ((gt y61.1 i0).2.2.2) ((gt y85.1 i0).1) ((gt y85.1 i0).2.1) ((gt y85.1 i0).2.2.1) ((gt y85.1 i0).2.2.2)) ?_
      refine d_nil ?_
      refine k171 _ _ ?_
      refine w_condn (((gt y61.1 i0).1) = ((gt y85.1 i0).1) ∧ ((gt y61.1 i0).2.1) = ((gt y85.1 i0).2.1) ∧ ((gt y61.1 i0).2.2.1) = ((gt y85.1 i0).2.2.1) ∧ ((gt y61.1 i0).2.2.2) = ((gt y85.1 i0).2.2.2)) (by kernel_rfl) rfl (fun h177 => ?_) (fun h177 => ?_)
      ·have r178 := ite_f h177 r175
       refine w_seqk fun K179 k179 => ?_
       refine w_reg (by kernel_rfl) ?_
       refine s_qk (.bool false) (by kernel_rfl) ?_
       refine s_nil ?_
       refine k179 _ _ ?_
       refine w_ret (bl_ret (th_ret (th_ret (bl_ret (th_ret (th_ret ?_))))))
       obtain ⟨v180, hv181, hz182⟩ := map_some r178
       subst hz182
       obtain rfl := it_inr hn163
       have hq183 := elim_inl r148
       rw [hq183] at hv181
       refine b_ret (fn := Tryd.f6) (vs := [.bool false]) (aRes_tmp (by kernel_rfl) (rfl)) ?_
       obtain rfl := Option.some.inj hv181
       exact ⟨rfl, (FrS.step wf (FrS.step wf ((FrS.step wf (FrS.step wf (FrS.step wf (FrS.step wf ((FrS.refl (W := []) wf).extR e4) e19 Inn.nil) e39 Inn.nil) e69 Inn.nil) e93 Inn.nil).extR e109) e115 (hb110.fresh (ntr (ntr (ntr (ntr e4.next e19.next) e39.next) e69.next) e93.next))) e124 Inn.nil)⟩
      ·have r184 := ite_t h177 r175
       refine w_skip ?_
       refine k169 _ _ ?_
       refine w_reg (by kernel_rfl) ?_
       obtain ⟨g185, r186⟩ := G_some r184
       refine s_w ((i0 + 1)) (k := .i64) (x := (i0 + 1)) (by kernel_rfl) (wrap64 (by have := g185; omega)) ?_
       refine s_qk (.int .i64 (i0 + 1)) (by kernel_rfl) ?_
       refine s_nil ?_
       obtain rfl := Option.some.inj r186
       exact k164 n160 _ _ (Nat.lt_succ_self _) ⟨(i0 + 1), hn163, ⟨by kernel_rfl, by kernel_rfl, by kernel_rfl, by kernel_rfl, trivial⟩, rfl⟩
     ·have r187 := ite_f h167 hz162
      refine w_exit (th_exit (th_exit (bl_eq ?_)))
      obtain rfl := Option.some.inj r187
      obtain rfl := it_inr hn163
      exact k152 _ _ ⟨_, rfl, trivial, rfl⟩
    ·obtain ⟨o146, rfl, hh153, rfl⟩ := hM
     have r188 := elim_inr r148
     obtain ⟨β, rfl⟩ := has_ex hh153
     clear hh153
     refine k143 _ _ ?_
     refine w_seqk fun K189 k189 => ?_
     refine w_reg (by kernel_rfl) ?_
     refine s_qk (.bool true) (by kernel_rfl) ?_
     refine s_nil ?_
     refine k189 _ _ ?_
     refine w_ret ?_
     refine b_ret (fn := Tryd.f6) (vs := [.bool true]) (aRes_tmp (by kernel_rfl) (rfl)) ?_
     obtain rfl := Option.some.inj r188
     exact ⟨rfl, (FrS.step wf (FrS.step wf ((FrS.step wf (FrS.step wf (FrS.step wf (FrS.step wf ((FrS.refl (W := []) wf).extR e4) e19 Inn.nil) e39 Inn.nil) e69 Inn.nil) e93 Inn.nil).extR e109) e115 (hb110.fresh (ntr (ntr (ntr (ntr e4.next e19.next) e39.next) e69.next) e93.next))) e124 Inn.nil)⟩


end Go.Vd
