/- The walks of the functions (printed by a program of ours). -/
import Derived.Test.YtbjamignglibpaaDoorPkf2
import Derived.Test.YtbjamignglibpaaDoorISf
import Derived.Test.YtbjamignglibpaaDoorVeN
set_option linter.unusedVariables false
set_option linter.unusedSimpArgs false
set_option linter.unusedSectionVars false
/-! (KSf3) -/

set_option maxRecDepth 100000
set_option maxHeartbeats 4000000
set_option linter.unusedVariables false
namespace Go.Vd
open Go.Proofs
attribute [local irreducible] wpSeq wpOrd aWp
theorem c_search_state_settle {H : AH} {b_st : Nat} {hd_st_ : Value} {fp_st_ : Fp} {hd_st_2 : Value} {fp_st_2 : Fp} {hd_st_3 : Value} {fp_st_3 : Fp} {b_st_4 : Nat} {hd_st_5 : Value} {fp_st_5 : Fp} {hd_st_6 : Value} {fp_st_6 : Fp} {b_st_7 : Nat} {hd_st_8 : Value} {fp_st_8 : Fp} {hd_st_11 : Value} {fp_st_11 : Fp} {hd_st_12 : Value} {fp_st_12 : Fp} {st_ : List (Int)} {st_2 : List (Int)} {st_3 : List (Int)} {st_5 : List (Int × Int)} {st_6 : List (Int)} {st_8 : List (Int × Int)} {st_9 : Int} {st_10 : Int} {st_11 : List (Int)} {st_12 : List (Bool)} {v_ : Int} {d : Int} {hops : Int} {r : List (Int) × List (Int × Int) × List (Int × Int) × Int × List (Int) × List (Bool)}
  (wf : WF H) (h_st_ : Sq (encI .i64) 1 H hd_st_ st_ fp_st_) (h_st_2 : Sq (encI .i64) 1 H hd_st_2 st_2 fp_st_2) (h_st_3 : Sq (encI .i64) 1 H hd_st_3 st_3 fp_st_3) (h_st_5 : Ow enc_u64_u32 2 H hd_st_5 st_5 fp_st_5) (h_st_6 : Ow (encI .i64) 1 H hd_st_6 st_6 fp_st_6) (h_st_4 : Row H b_st_4 [hd_st_5, hd_st_6]) (h_st_8 : Ow enc_u64_u32 2 H hd_st_8 st_8 fp_st_8) (h_st_7 : Row H b_st_7 [hd_st_8, .int .u32 st_9, .int .i64 st_10]) (h_st_11 : Ow (encI .i64) 1 H hd_st_11 st_11 fp_st_11) (h_st_12 : Ow encB 1 H hd_st_12 st_12 fp_st_12) (h_st : Row H b_st [hd_st_, hd_st_2, hd_st_3, .pointer (some ⟨b_st_4, 0, none⟩), .pointer (some ⟨b_st_7, 0, none⟩), hd_st_11, hd_st_12]) (dj_fp_st_12_b_st : Dj fp_st_12 [b_st]) (dj_fp_st_12_fp_st_11 : Dj fp_st_12 fp_st_11) (dj_fp_st_12_fp_st_6 : Dj fp_st_12 fp_st_6) (dj_fp_st_12_fp_st_5 : Dj fp_st_12 fp_st_5) (dj_fp_st_12_b_st_4 : Dj fp_st_12 [b_st_4]) (dj_fp_st_12_fp_st_8 : Dj fp_st_12 fp_st_8) (dj_fp_st_12_b_st_7 : Dj fp_st_12 [b_st_7]) (dj_fp_st_12_fp_st_ : Dj fp_st_12 fp_st_) (dj_fp_st_12_fp_st_2 : Dj fp_st_12 fp_st_2) (dj_fp_st_12_fp_st_3 : Dj fp_st_12 fp_st_3) (dj_b_st_7_fp_st_8 : Dj [b_st_7] fp_st_8) (dj_fp_st_8_b_st : Dj fp_st_8 [b_st]) (dj_b_st_7_b_st : Dj [b_st_7] [b_st]) (dj_fp_st_8_fp_st_11 : Dj fp_st_8 fp_st_11) (dj_b_st_7_fp_st_11 : Dj [b_st_7] fp_st_11) (dj_fp_st_11_b_st : Dj fp_st_11 [b_st]) (dj_fp_st_8_fp_st_5 : Dj fp_st_8 fp_st_5) (dj_b_st_7_fp_st_5 : Dj [b_st_7] fp_st_5) (dj_fp_st_11_fp_st_5 : Dj fp_st_11 fp_st_5) (dj_fp_st_8_fp_st_6 : Dj fp_st_8 fp_st_6) (dj_b_st_7_fp_st_6 : Dj [b_st_7] fp_st_6) (dj_fp_st_11_fp_st_6 : Dj fp_st_11 fp_st_6) (dj_fp_st_8_b_st_4 : Dj fp_st_8 [b_st_4]) (dj_b_st_7_b_st_4 : Dj [b_st_7] [b_st_4]) (dj_fp_st_11_b_st_4 : Dj fp_st_11 [b_st_4]) (dj_fp_st_5_b_st_4 : Dj fp_st_5 [b_st_4]) (dj_fp_st_5_fp_st_6 : Dj fp_st_5 fp_st_6) (dj_b_st_4_fp_st_6 : Dj [b_st_4] fp_st_6) (dj_fp_st_6_b_st : Dj fp_st_6 [b_st]) (dj_fp_st_5_b_st : Dj fp_st_5 [b_st]) (dj_b_st_4_b_st : Dj [b_st_4] [b_st]) (dj_fp_st_8_fp_st_ : Dj fp_st_8 fp_st_) (dj_fp_st_6_fp_st_ : Dj fp_st_6 fp_st_) (dj_fp_st_5_fp_st_ : Dj fp_st_5 fp_st_) (dj_fp_st_11_fp_st_ : Dj fp_st_11 fp_st_) (dj_b_st_7_fp_st_ : Dj [b_st_7] fp_st_) (dj_b_st_4_fp_st_ : Dj [b_st_4] fp_st_) (dj_fp_st_8_fp_st_2 : Dj fp_st_8 fp_st_2) (dj_fp_st_6_fp_st_2 : Dj fp_st_6 fp_st_2) (dj_fp_st_5_fp_st_2 : Dj fp_st_5 fp_st_2) (dj_fp_st_11_fp_st_2 : Dj fp_st_11 fp_st_2) (dj_b_st_7_fp_st_2 : Dj [b_st_7] fp_st_2) (dj_b_st_4_fp_st_2 : Dj [b_st_4] fp_st_2) (dj_fp_st_8_fp_st_3 : Dj fp_st_8 fp_st_3) (dj_fp_st_6_fp_st_3 : Dj fp_st_6 fp_st_3) (dj_fp_st_5_fp_st_3 : Dj fp_st_5 fp_st_3) (dj_fp_st_11_fp_st_3 : Dj fp_st_11 fp_st_3) (dj_b_st_7_fp_st_3 : Dj [b_st_7] fp_st_3) (dj_b_st_4_fp_st_3 : Dj [b_st_4] fp_st_3) (dj_fp_st_8_fp_st_12 : Dj fp_st_8 fp_st_12) (dj_fp_st_6_fp_st_12 : Dj fp_st_6 fp_st_12) (dj_fp_st_5_fp_st_12 : Dj fp_st_5 fp_st_12) (dj_b_st_7_fp_st_12 : Dj [b_st_7] fp_st_12) (dj_b_st_4_fp_st_12 : Dj [b_st_4] fp_st_12) (dj_fp_st_5_fp_st_8 : Dj fp_st_5 fp_st_8) (dj_fp_st_5_b_st_7 : Dj fp_st_5 [b_st_7]) (dj_fp_st_5_fp_st_11 : Dj fp_st_5 fp_st_11) (hr : z_search_state_settle st_ st_2 st_3 st_5 st_6 st_8 st_9 st_10 st_11 st_12 v_ d hops = some r) :
  ACalls Tryd.prog 80 #[.pointer (some ⟨b_st, 0, none⟩), .int .i64 v_, .int .u64 d, .int .i64 hops] H fun v H' => ∃ (s5 : Value) (f6 : Fp), v = .tuple #[] ∧ FrS ([b_st_4] ++ ([b_st_7] ++ (fp_st_11 ++ (fp_st_12 ++ (fp_st_5 ++ (fp_st_6 ++ fp_st_8)))))) H H' ∧ Ow (encI .i64) 1 H' hd_st_6 r.1 fp_st_6 ∧ Ow enc_u64_u32 2 H' s5 r.2.1 f6 ∧ Row H' b_st_4 [s5, hd_st_6] ∧ Ow enc_u64_u32 2 H' hd_st_8 r.2.2.1 fp_st_8 ∧ Row H' b_st_7 [hd_st_8, .int .u32 st_9, .int .i64 r.2.2.2.1] ∧ Ow (encI .i64) 1 H' hd_st_11 r.2.2.2.2.1 fp_st_11 ∧ Ow encB 1 H' hd_st_12 r.2.2.2.2.2 fp_st_12 ∧ Inn fp_st_5 H f6 := by
 refine acalls_of_body mixed Tryd.func80 rfl (Nat.le_of_ble_eq_true rfl) ?_
 unfold z_search_state_settle at hr
 refine w_seqk fun K18 k18 => ?_
 refine w_reg (by kernel_rfl) ?_
 refine s_qk (.pointer (some ⟨b_st, 0, none⟩)) (by kernel_rfl) ?_
 refine s_qk (.pointer (some ⟨b_st, 0, none⟩)) (by kernel_rfl) ?_
 refine s_qk (.pointer (some ⟨b_st, 6, none⟩)) (by kernel_rfl) ?_
 refine s_ql (hd_st_12) (x := aLoad Tryd.prog 104 (.pointer (some ⟨b_st, 6, none⟩)) H) (by kernel_rfl) (h_st.ld (by kernel_rfl)) ?_
 refine s_qk (.int .i64 v_) (by kernel_rfl) ?_
 obtain ⟨g19, r20⟩ := G_some hr
 refine s_ql (elp hd_st_12 1 v_.toNat 0) (x := aIndexAddr Tryd.prog 104 hd_st_12 (.int .i64 v_)) (by kernel_rfl) (h_st_12.sq.idxb (by kernel_rfl) g19.1 g19.2) ?_
 obtain ⟨H21, q22, e23, hm24⟩ := Ow.store (P := Tryd.prog) (t := 4) (off := 0) wf h_st_12 g19.1 g19.2 (.bool true) [.bool true] (by kernel_rfl) (by kernel_rfl) rfl true (Nat.le_of_ble_eq_true rfl) (by kernel_rfl)
 refine s_ek (undef) (by kernel_rfl) (map_ok q22) ?_
 refine s_nil ?_
 refine k18 _ _ ?_
 refine w_seqk fun K25 k25 => ?_
 refine w_seqk fun K26 k26 => ?_
 refine w_reg (by kernel_rfl) ?_
 refine s_qk (.pointer (some ⟨b_st, 0, none⟩)) (by kernel_rfl) ?_
 refine s_qk (.pointer (some ⟨b_st, 0, none⟩)) (by kernel_rfl) ?_
 refine s_qk (.pointer (some ⟨b_st, 5, none⟩)) (by kernel_rfl) ?_
 have u27 := (h_st.frS e23 dj_fp_st_12_b_st)
 refine s_ql (hd_st_11) (x := aLoad Tryd.prog 22 (.pointer (some ⟨b_st, 5, none⟩)) H21) (by kernel_rfl) (u27.ld (by kernel_rfl)) ?_
 refine s_qk (.int .i64 v_) (by kernel_rfl) ?_
 obtain ⟨g28, r29⟩ := G_some r20
 have u30 := (h_st_11.fr e23 dj_fp_st_12_fp_st_11)
 refine s_ql (elp hd_st_11 1 v_.toNat 0) (x := aIndexAddr Tryd.prog 22 hd_st_11 (.int .i64 v_)) (by kernel_rfl) (u30.sq.idxb (by kernel_rfl) g19.1 g28) ?_
 refine s_ql (.int .i64 (gt st_11 v_)) (x := aLoad Tryd.prog 3 (elp hd_st_11 1 v_.toNat 0) H21) (by kernel_rfl) (u30.sq.ld g19.1 g28 (by kernel_rfl)) ?_
 refine s_qk (.int .i64 hops) (by kernel_rfl) ?_
 refine s_qk (.bool (decide ((gt st_11 v_) ≥ hops))) (by kernel_rfl) ?_
 refine s_nil ?_
 refine k26 _ _ ?_
 refine w_condp ((gt st_11 v_) ≥ hops) (by kernel_rfl) rfl (fun h31 => ?_) (fun h31 => ?_)
 ·have r32 := ite_t h31 r29
  refine w_ret (th_ret ?_)
  refine b_ret (fn := Tryd.f80) (vs := []) (rfl) ?_
  have u33 := (h_st_6.fr e23 dj_fp_st_12_fp_st_6)
  have u34 := (h_st_5.fr e23 dj_fp_st_12_fp_st_5)
  have u35 := (h_st_4.frS e23 dj_fp_st_12_b_st_4)
  have u36 := (h_st_8.fr e23 dj_fp_st_12_fp_st_8)
  have u37 := (h_st_7.frS e23 dj_fp_st_12_b_st_7)
  obtain rfl := Option.some.inj r32
  exact ⟨(hd_st_5), fp_st_5, rfl, (FrS.step wf (FrS.refl (W := ([b_st_4] ++ ([b_st_7] ++ (fp_st_11 ++ (fp_st_12 ++ (fp_st_5 ++ (fp_st_6 ++ fp_st_8))))))) wf) e23 (Inn.right (Inn.right (Inn.right Inn.left)))), u33, u34, u35, u36, u37, u30, hm24, Inn.refl'⟩
 ·have r38 := ite_f h31 r29
  refine w_skip ?_
  refine k25 _ _ ?_
  refine w_seqk fun K39 k39 => ?_
  refine w_reg (by kernel_rfl) ?_
  refine s_qk (.pointer (some ⟨b_st, 0, none⟩)) (by kernel_rfl) ?_
  refine s_qk (.pointer (some ⟨b_st, 0, none⟩)) (by kernel_rfl) ?_
  refine s_qk (.pointer (some ⟨b_st, 0, none⟩)) (by kernel_rfl) ?_
  refine s_qk (.pointer (some ⟨b_st, 0, none⟩)) (by kernel_rfl) ?_
  refine s_ql (hd_st_) (x := aLoad Tryd.prog 22 (.pointer (some ⟨b_st, 0, none⟩)) H21) (by kernel_rfl) (u27.ld (by kernel_rfl)) ?_
  refine s_qk (.int .i64 v_) (by kernel_rfl) ?_
  obtain ⟨g40, r41⟩ := G_some r38
  have u42 := (h_st_.fr e23 dj_fp_st_12_fp_st_)
  refine s_ql (elp hd_st_ 1 v_.toNat 0) (x := aIndexAddr Tryd.prog 22 hd_st_ (.int .i64 v_)) (by kernel_rfl) (u42.idxb (by kernel_rfl) g19.1 g40) ?_
  refine s_ql (.int .i64 (gt st_ v_)) (x := aLoad Tryd.prog 3 (elp hd_st_ 1 v_.toNat 0) H21) (by kernel_rfl) (u42.ld g19.1 g40 (by kernel_rfl)) ?_
  refine s_qk (.int .i64 (gt st_ v_)) (by kernel_rfl) ?_
  refine s_nil ?_
  refine k39 _ _ ?_
  obtain ⟨o43, hx44, r45⟩ := bind_some r41
  refine w_mid (fun α H46 => ∃ (s52 : Value) (f53 : Fp), Has α [] ∧ FrS ([b_st_4] ++ ([b_st_7] ++ (fp_st_11 ++ (fp_st_5 ++ (fp_st_6 ++ fp_st_8))))) H21 H46 ∧ Ow (encI .i64) 1 H46 hd_st_6 o43.1 fp_st_6 ∧ Ow enc_u64_u32 2 H46 s52 o43.2.1 f53 ∧ Row H46 b_st_4 [s52, hd_st_6] ∧ Ow enc_u64_u32 2 H46 hd_st_8 o43.2.2.1 fp_st_8 ∧ Row H46 b_st_7 [hd_st_8, .int .u32 st_9, .int .i64 o43.2.2.2.1] ∧ Ow (encI .i64) 1 H46 hd_st_11 o43.2.2.2.2 fp_st_11 ∧ Inn fp_st_5 H21 f53) (fun K63 k63 => ?_) (fun α H46 hM => ?_)
  ·refine w_block ?_
   obtain ⟨n65, hn66⟩ := loopO_iff.1 hx44
   have u90 := (h_st_5.fr e23 dj_fp_st_12_fp_st_5)
   have u91 := (h_st_6.fr e23 dj_fp_st_12_fp_st_6)
   have u92 := (h_st_4.frS e23 dj_fp_st_12_b_st_4)
   have u93 := (h_st_8.fr e23 dj_fp_st_12_fp_st_8)
   have u94 := (h_st_7.frS e23 dj_fp_st_12_b_st_7)
   refine w_loopn (fun n α H67 => ∃ (st0 : List (Int × Int)), ∃ (st1 : List (Int)), ∃ (st2 : List (Int × Int)), ∃ (st3 : Int), ∃ (st4 : List (Int)), ∃ (i5 : Int), ∃ (s71 : Value), ∃ (f72 : Fp), iterO (fun zz_ => z_search_state_settle_l0 st_ st_2 st_3 st_9 st_12 v_ d zz_.1 zz_.2.1 zz_.2.2.1 zz_.2.2.2.1 zz_.2.2.2.2.1 zz_.2.2.2.2.2) n (st0, st1, st2, st3, st4, i5) = some o43 ∧ Has α [(0, .pointer (some ⟨b_st, 0, none⟩)), (1, .int .i64 v_), (2, .int .u64 d), (8, .int .i64 i5)] ∧ FrS ([b_st_4] ++ ([b_st_7] ++ (fp_st_11 ++ (fp_st_5 ++ (fp_st_6 ++ fp_st_8))))) H21 H67 ∧ Ow enc_u64_u32 2 H67 s71 st0 f72 ∧ Ow (encI .i64) 1 H67 hd_st_6 st1 fp_st_6 ∧ Row H67 b_st_4 [s71, hd_st_6] ∧ Ow enc_u64_u32 2 H67 hd_st_8 st2 fp_st_8 ∧ Row H67 b_st_7 [hd_st_8, .int .u32 st_9, .int .i64 st3] ∧ Ow (encI .i64) 1 H67 hd_st_11 st4 fp_st_11 ∧ Inn fp_st_5 H21 f72) n65 ⟨st_5, st_6, st_8, st_10, st_11, (gt st_ v_), (hd_st_5), fp_st_5, hn66, ⟨by kernel_rfl, by kernel_rfl, by kernel_rfl, by kernel_rfl, trivial⟩, (FrS.refl (W := ([b_st_4] ++ ([b_st_7] ++ (fp_st_11 ++ (fp_st_5 ++ (fp_st_6 ++ fp_st_8)))))) e23.wf), u90, u91, u92, u93, u94, u30, Inn.refl'⟩ ?_
   rintro n65 α H67 ⟨st0, st1, st2, st3, st4, i5, s71, f72, hi85, hh84, e68, m70, m74, m76, m78, m80, m82, i83⟩ K95 k95
   obtain ⟨n86, z87, rfl, hz88, hn89⟩ := iter_succ hi85
   obtain ⟨β, rfl⟩ := has_ex hh84
   clear hh84
   replace hz88 : z_search_state_settle_l0 st_ st_2 st_3 st_9 st_12 v_ d st0 st1 st2 st3 st4 i5 = some z87 := hz88
   unfold z_search_state_settle_l0 at hz88
   obtain ⟨a96, n97, c98, rfl⟩ := m70.form
   refine w_seqk fun K99 k99 => ?_
   refine w_seqk fun K100 k100 => ?_
   refine w_reg (by kernel_rfl) ?_
   refine s_qk (.int .i64 i5) (by kernel_rfl) ?_
   refine s_qk (.pointer (some ⟨b_st, 0, none⟩)) (by kernel_rfl) ?_
   refine s_qk (.pointer (some ⟨b_st, 0, none⟩)) (by kernel_rfl) ?_
   refine s_qk (.pointer (some ⟨b_st, 0, none⟩)) (by kernel_rfl) ?_
   refine s_qk (.pointer (some ⟨b_st, 0, none⟩)) (by kernel_rfl) ?_
   have u101 := (u27.frS e68 (Dj.app dj_b_st_4_b_st (Dj.app dj_b_st_7_b_st (Dj.app dj_fp_st_11_b_st (Dj.app dj_fp_st_5_b_st (Dj.app dj_fp_st_6_b_st dj_fp_st_8_b_st))))))
   refine s_ql (hd_st_) (x := aLoad Tryd.prog 22 (.pointer (some ⟨b_st, 0, none⟩)) H67) (by kernel_rfl) (u101.ld (by kernel_rfl)) ?_
   refine s_qk (.int .i64 v_) (by kernel_rfl) ?_
   obtain ⟨g102, r103⟩ := G_some hz88
   refine s_w ((v_ + 1)) (k := .i64) (x := (v_ + 1)) (by kernel_rfl) (wrap64 (by have := g102; omega)) ?_
   obtain ⟨g104, r105⟩ := G_some r103
   have u106 := (u42.fr e68 (Dj.app dj_b_st_4_fp_st_ (Dj.app dj_b_st_7_fp_st_ (Dj.app dj_fp_st_11_fp_st_ (Dj.app dj_fp_st_5_fp_st_ (Dj.app dj_fp_st_6_fp_st_ dj_fp_st_8_fp_st_))))))
   refine s_ql (elp hd_st_ 1 (v_ + 1).toNat 0) (x := aIndexAddr Tryd.prog 22 hd_st_ (.int .i64 (v_ + 1))) (by kernel_rfl) (u106.idxb (by kernel_rfl) g104.1 g104.2) ?_
   refine s_ql (.int .i64 (gt st_ (v_ + 1))) (x := aLoad Tryd.prog 3 (elp hd_st_ 1 (v_ + 1).toNat 0) H67) (by kernel_rfl) (u106.ld g104.1 g104.2 (by kernel_rfl)) ?_
   refine s_qk (.bool (decide (i5 < (gt st_ (v_ + 1))))) (by kernel_rfl) ?_
   refine s_nil ?_
   refine k100 _ _ ?_
   refine w_condp (i5 < (gt st_ (v_ + 1))) (by kernel_rfl) rfl (fun h107 => ?_) (fun h107 => ?_)
   ·have r108 := ite_t h107 r105
    refine w_skip ?_
    refine k99 _ _ ?_
    refine w_seqk fun K109 k109 => ?_
    refine w_block ?_
    refine w_seqk fun K110 k110 => ?_
    refine w_draw [0, 1, 2, 3, 4, 5, 6, 7, 8, 9, 10, 11, 12, 13, 14, 15, 16, 17, 18, 19, 20] (by kernel_rfl) ?_
    refine d_qk (.pointer (some ⟨b_st, 0, none⟩)) (by kernel_rfl) ?_
    refine d_qk (.pointer (some ⟨b_st, 0, none⟩)) (by kernel_rfl) ?_
    refine d_qk (.pointer (some ⟨b_st, 0, none⟩)) (by kernel_rfl) ?_
    refine d_qk (.pointer (some ⟨b_st, 1, none⟩)) (by kernel_rfl) ?_
    refine d_ql (hd_st_2) (x := aLoad Tryd.prog 22 (.pointer (some ⟨b_st, 1, none⟩)) H67) (by kernel_rfl) (u101.ld (by kernel_rfl)) ?_
    refine d_qk (.int .i64 i5) (by kernel_rfl) ?_
    obtain ⟨g111, r112⟩ := G_some r108
    have u113 := ((h_st_2.fr e23 dj_fp_st_12_fp_st_2).fr e68 (Dj.app dj_b_st_4_fp_st_2 (Dj.app dj_b_st_7_fp_st_2 (Dj.app dj_fp_st_11_fp_st_2 (Dj.app dj_fp_st_5_fp_st_2 (Dj.app dj_fp_st_6_fp_st_2 dj_fp_st_8_fp_st_2))))))
    refine d_ql (elp hd_st_2 1 i5.toNat 0) (x := aIndexAddr Tryd.prog 22 hd_st_2 (.int .i64 i5)) (by kernel_rfl) (u113.idxb (by kernel_rfl) g111.1 g111.2) ?_
    refine d_ql (.int .i64 (gt st_2 i5)) (x := aLoad Tryd.prog 3 (elp hd_st_2 1 i5.toNat 0) H67) (by kernel_rfl) (u113.ld g111.1 g111.2 (by kernel_rfl)) ?_
    refine d_qk (.int .u64 d) (by kernel_rfl) ?_
    refine d_qk (.pointer (some ⟨b_st, 0, none⟩)) (by kernel_rfl) ?_
    refine d_qk (.pointer (some ⟨b_st, 0, none⟩)) (by kernel_rfl) ?_
    refine d_qk (.pointer (some ⟨b_st, 0, none⟩)) (by kernel_rfl) ?_
    refine d_qk (.pointer (some ⟨b_st, 2, none⟩)) (by kernel_rfl) ?_
    refine d_ql (hd_st_3) (x := aLoad Tryd.prog 22 (.pointer (some ⟨b_st, 2, none⟩)) H67) (by kernel_rfl) (u101.ld (by kernel_rfl)) ?_
    refine d_qk (.int .i64 i5) (by kernel_rfl) ?_
    obtain ⟨g114, r115⟩ := G_some r112
    have u116 := ((h_st_3.fr e23 dj_fp_st_12_fp_st_3).fr e68 (Dj.app dj_b_st_4_fp_st_3 (Dj.app dj_b_st_7_fp_st_3 (Dj.app dj_fp_st_11_fp_st_3 (Dj.app dj_fp_st_5_fp_st_3 (Dj.app dj_fp_st_6_fp_st_3 dj_fp_st_8_fp_st_3))))))
    refine d_ql (elp hd_st_3 1 i5.toNat 0) (x := aIndexAddr Tryd.prog 22 hd_st_3 (.int .i64 i5)) (by kernel_rfl) (u116.idxb (by kernel_rfl) g111.1 g114) ?_
    refine d_ql (.int .i64 (gt st_3 i5)) (x := aLoad Tryd.prog 3 (elp hd_st_3 1 i5.toNat 0) H67) (by kernel_rfl) (u116.ld g111.1 g114 (by kernel_rfl)) ?_
    obtain ⟨g117, r118⟩ := G_some r115
    refine d_w ((gt st_3 i5)) (k := .u64) (x := (gt st_3 i5)) (by kernel_rfl) (wrapu64 g117) ?_
    obtain ⟨g119, r120⟩ := G_some r118
    refine d_w ((d + (gt st_3 i5))) (k := .u64) (x := (d + (gt st_3 i5))) (by kernel_rfl) (wrapu64 g119) ?_
    refine d_qk (.int .i64 (gt st_2 i5)) (by kernel_rfl) ?_
    refine d_qk (.int .u64 (d + (gt st_3 i5))) (by kernel_rfl) ?_
    refine d_nil ?_
    refine k110 _ _ ?_
    refine w_seqk fun K121 k121 => ?_
    refine w_reg (by kernel_rfl) ?_
    refine s_qk (.pointer (some ⟨b_st, 0, none⟩)) (by kernel_rfl) ?_
    refine s_qk (.pointer (some ⟨b_st, 0, none⟩)) (by kernel_rfl) ?_
    refine s_qk (.pointer (some ⟨b_st, 4, none⟩)) (by kernel_rfl) ?_
    refine s_ql (.pointer (some ⟨b_st_7, 0, none⟩)) (x := aLoad Tryd.prog 103 (.pointer (some ⟨b_st, 4, none⟩)) H67) (by kernel_rfl) (u101.ld (by kernel_rfl)) ?_
    refine s_qk (.int .i64 (gt st_2 i5)) (by kernel_rfl) ?_
    obtain ⟨y122, hy123, r124⟩ := bind_some r120
    refine s_ck 62 #[.pointer (some ⟨b_st_7, 0, none⟩), .int .i64 (gt st_2 i5)] (by kernel_rfl) (c_stamp_Stamp_Get e68.wf m78.sq m80 hy123) ?_
    rintro _ _ ⟨rfl, rfl⟩
    refine s_qk (.tuple #[.int .u64 y122.1, .bool y122.2]) (by kernel_rfl) ?_
    refine s_qk (.int .u64 y122.1) (by kernel_rfl) ?_
    refine s_qk (.bool y122.2) (by kernel_rfl) ?_
    refine s_qk (.int .u64 y122.1) (by kernel_rfl) ?_
    refine s_qk (.bool y122.2) (by kernel_rfl) ?_
    refine s_nil ?_
    refine k121 _ _ ?_
    refine w_seqk fun K127 k127 => ?_
    obtain ⟨o128, hx129, r130⟩ := bind_some r124
    refine w_mid (fun α H131 => Has α [(0, .pointer (some ⟨b_st, 0, none⟩)), (1, .int .i64 v_), (2, .int .u64 d), (8, .int .i64 i5), (9, .int .i64 (gt st_2 i5)), (10, .int .u64 (d + (gt st_3 i5))), (93, .bool o128)] ∧ H67 = H131) (fun K133 k133 => ?_) (fun α H131 hM => ?_)
    ·refine w_reg (by kernel_rfl) ?_
     refine s_qk (.pointer (some ⟨b_st, 0, none⟩)) (by kernel_rfl) ?_
     refine s_qk (.pointer (some ⟨b_st, 0, none⟩)) (by kernel_rfl) ?_
     refine s_qk (.pointer (some ⟨b_st, 6, none⟩)) (by kernel_rfl) ?_
     refine s_ql (hd_st_12) (x := aLoad Tryd.prog 104 (.pointer (some ⟨b_st, 6, none⟩)) H67) (by kernel_rfl) (u101.ld (by kernel_rfl)) ?_
     refine s_qk (.int .i64 (gt st_2 i5)) (by kernel_rfl) ?_
     obtain ⟨g135, r136⟩ := G_some hx129
     have u137 := (hm24.fr e68 (Dj.app dj_b_st_4_fp_st_12 (Dj.app dj_b_st_7_fp_st_12 (Dj.app (Dj.symm dj_fp_st_12_fp_st_11) (Dj.app dj_fp_st_5_fp_st_12 (Dj.app dj_fp_st_6_fp_st_12 dj_fp_st_8_fp_st_12))))))
     refine s_ql (elp hd_st_12 1 (gt st_2 i5).toNat 0) (x := aIndexAddr Tryd.prog 104 hd_st_12 (.int .i64 (gt st_2 i5))) (by kernel_rfl) (u137.sq.idxb (by kernel_rfl) g135.1 g135.2) ?_
     refine s_ql (.bool (gt (st_12.set v_.toNat true) (gt st_2 i5))) (x := aLoad Tryd.prog 4 (elp hd_st_12 1 (gt st_2 i5).toNat 0) H67) (by kernel_rfl) (u137.sq.ld g135.1 g135.2 (by kernel_rfl)) ?_
     refine s_qk (.bool (!(gt (st_12.set v_.toNat true) (gt st_2 i5)))) (by kernel_rfl) ?_
     refine s_qk (.bool (!(gt (st_12.set v_.toNat true) (gt st_2 i5)))) (by kernel_rfl) ?_
     by_cases h138 : (!(gt (st_12.set v_.toNat true) (gt st_2 i5))) = true
     ·have r139 := ite_t h138 r136
      rw [h138]
      refine s_qk (.bool y122.2) (by kernel_rfl) ?_
      refine s_qk (.bool (!y122.2)) (by kernel_rfl) ?_
      refine s_qk (.bool (!y122.2)) (by kernel_rfl) ?_
      by_cases h140 : (!y122.2) = true
      ·have r141 := ite_t h140 r139
       rw [h140]
       refine s_no (by kernel_rfl) ?_
       refine s_no (by kernel_rfl) ?_
       refine s_no (by kernel_rfl) ?_
       refine s_qk (.bool true) (by kernel_rfl) ?_
       refine s_qk (.bool true) (by kernel_rfl) ?_
       refine s_nil ?_
       obtain rfl := Option.some.inj r141
       exact k133 _ _ ⟨⟨by kernel_rfl, by kernel_rfl, by kernel_rfl, by kernel_rfl, by kernel_rfl, by kernel_rfl, by kernel_rfl, trivial⟩, rfl⟩
      ·have r142 := ite_f h140 r139
       rw [nb h140]
       refine s_qk (.int .u64 (d + (gt st_3 i5))) (by kernel_rfl) ?_
       refine s_qk (.int .u64 y122.1) (by kernel_rfl) ?_
       refine s_qk (.bool (decide ((d + (gt st_3 i5)) < y122.1))) (by kernel_rfl) ?_
       refine s_qk (.bool (decide ((d + (gt st_3 i5)) < y122.1))) (by kernel_rfl) ?_
       refine s_qk (.bool (decide ((d + (gt st_3 i5)) < y122.1))) (by kernel_rfl) ?_
       refine s_nil ?_
       obtain rfl := Option.some.inj r142
       exact k133 _ _ ⟨⟨by kernel_rfl, by kernel_rfl, by kernel_rfl, by kernel_rfl, by kernel_rfl, by kernel_rfl, by kernel_rfl, trivial⟩, rfl⟩
     ·have r143 := ite_f h138 r136
      rw [nb h138]
      refine s_no (by kernel_rfl) ?_
      refine s_no (by kernel_rfl) ?_
      refine s_no (by kernel_rfl) ?_
      refine s_no (by kernel_rfl) ?_
      refine s_no (by kernel_rfl) ?_
      refine s_no (by kernel_rfl) ?_
      refine s_no (by kernel_rfl) ?_
      refine s_qk (.bool false) (by kernel_rfl) ?_
      refine s_nil ?_
      obtain rfl := Option.some.inj r143
      exact k133 _ _ ⟨⟨by kernel_rfl, by kernel_rfl, by kernel_rfl, by kernel_rfl, by kernel_rfl, by kernel_rfl, by kernel_rfl, trivial⟩, rfl⟩
    ·obtain ⟨hh134, rfl⟩ := hM
     obtain ⟨β, rfl⟩ := has_ex hh134
     clear hh134
     refine k127 _ _ ?_
     refine w_cond (o128) (by kernel_rfl) rfl (fun h144 => ?_) (fun h144 => ?_)
     ·have r145 := ite_t h144 r130
      refine w_reg (by kernel_rfl) ?_
      refine s_qk (.pointer (some ⟨b_st, 0, none⟩)) (by kernel_rfl) ?_
      refine s_qk (.int .i64 (gt st_2 i5)) (by kernel_rfl) ?_
      refine s_qk (.int .u64 (d + (gt st_3 i5))) (by kernel_rfl) ?_
      refine s_qk (.pointer (some ⟨b_st, 0, none⟩)) (by kernel_rfl) ?_
      refine s_qk (.pointer (some ⟨b_st, 0, none⟩)) (by kernel_rfl) ?_
      refine s_qk (.pointer (some ⟨b_st, 5, none⟩)) (by kernel_rfl) ?_
      refine s_ql (hd_st_11) (x := aLoad Tryd.prog 22 (.pointer (some ⟨b_st, 5, none⟩)) H67) (by kernel_rfl) (u101.ld (by kernel_rfl)) ?_
      refine s_qk (.int .i64 v_) (by kernel_rfl) ?_
      obtain ⟨g146, r147⟩ := G_some r145
      refine s_ql (elp hd_st_11 1 v_.toNat 0) (x := aIndexAddr Tryd.prog 22 hd_st_11 (.int .i64 v_)) (by kernel_rfl) (m82.sq.idxb (by kernel_rfl) g19.1 g146) ?_
      refine s_ql (.int .i64 (gt st4 v_)) (x := aLoad Tryd.prog 3 (elp hd_st_11 1 v_.toNat 0) H67) (by kernel_rfl) (m82.sq.ld g19.1 g146 (by kernel_rfl)) ?_
      obtain ⟨g148, r149⟩ := G_some r147
      refine s_w (((gt st4 v_) + 1)) (k := .i64) (x := ((gt st4 v_) + 1)) (by kernel_rfl) (wrap64 g148) ?_
      have u150 := (hm24.fr e68 (Dj.app dj_b_st_4_fp_st_12 (Dj.app dj_b_st_7_fp_st_12 (Dj.app (Dj.symm dj_fp_st_12_fp_st_11) (Dj.app dj_fp_st_5_fp_st_12 (Dj.app dj_fp_st_6_fp_st_12 dj_fp_st_8_fp_st_12))))))
      obtain ⟨y151, hy152, r153⟩ := bind_some r149
      refine s_ck 77 #[.pointer (some ⟨b_st, 0, none⟩), .int .i64 (gt st_2 i5), .int .u64 (d + (gt st_3 i5)), .int .i64 ((gt st4 v_) + 1)] (by kernel_rfl) (c_search_state_label e68.wf u106 u113 u116 m70 m74 m76 m78 m80 m82 u150.sq u101 dj_b_st_7_fp_st_8 dj_fp_st_8_b_st dj_b_st_7_b_st dj_fp_st_8_fp_st_11 dj_b_st_7_fp_st_11 dj_fp_st_11_b_st (Dj.symm (i83.dj dj_fp_st_5_fp_st_8 (h_st_8.lt.le e23.next))) (Dj.symm (i83.dj dj_fp_st_5_b_st_7 (h_st_7.ltF.le e23.next))) (Dj.symm (i83.dj dj_fp_st_5_fp_st_11 (h_st_11.lt.le e23.next))) dj_fp_st_8_fp_st_6 dj_b_st_7_fp_st_6 dj_fp_st_11_fp_st_6 dj_fp_st_8_b_st_4 dj_b_st_7_b_st_4 dj_fp_st_11_b_st_4 (i83.dj dj_fp_st_5_b_st_4 (h_st_4.ltF.le e23.next)) (i83.dj dj_fp_st_5_fp_st_6 (h_st_6.lt.le e23.next)) dj_b_st_4_fp_st_6 hy152) ?_
      rintro _ H156 ⟨s154, f155, rfl, e157, m158, m159, m160, m161, m162, m163, i164⟩
      obtain ⟨a166, n167, c168, rfl⟩ := m159.form
      refine s_nil ?_
      refine k109 _ _ ?_
      refine w_reg (by kernel_rfl) ?_
      refine s_qk (.int .i64 i5) (by kernel_rfl) ?_
      obtain ⟨g169, r170⟩ := G_some r153
      refine s_w ((i5 + 1)) (k := .i64) (x := (i5 + 1)) (by kernel_rfl) (wrap64 (by have := g169; omega)) ?_
      refine s_qk (.int .i64 (i5 + 1)) (by kernel_rfl) ?_
      refine s_nil ?_
      obtain rfl := Option.some.inj r170
      exact k95 n86 _ _ (Nat.lt_succ_self _) ⟨y151.2.1, y151.1, y151.2.2.1, y151.2.2.2.1, y151.2.2.2.2, (i5 + 1), (.slice a166 n167 c168), f155, hn89, ⟨by kernel_rfl, by kernel_rfl, by kernel_rfl, by kernel_rfl, trivial⟩, (FrS.step e23.wf (FrS.step e23.wf (FrS.refl (W := ([b_st_4] ++ ([b_st_7] ++ (fp_st_11 ++ (fp_st_5 ++ (fp_st_6 ++ fp_st_8)))))) e23.wf) e68 (Inn.app Inn.left (Inn.app (Inn.right Inn.left) (Inn.app (Inn.right (Inn.right Inn.left)) (Inn.app (Inn.right (Inn.right (Inn.right Inn.left))) (Inn.app (Inn.right (Inn.right (Inn.right (Inn.right Inn.left)))) (Inn.right (Inn.right (Inn.right (Inn.right (Inn.right Inn.refl'))))))))))) e157 (Inn.app Inn.left (Inn.app (Inn.right Inn.left) (Inn.app (Inn.right (Inn.right Inn.left)) (Inn.app (Inn.trans (Inn.right (Inn.right (Inn.right Inn.left))) (Nat.le_refl _) i83) (Inn.app (Inn.right (Inn.right (Inn.right (Inn.right Inn.left)))) (Inn.right (Inn.right (Inn.right (Inn.right (Inn.right Inn.refl'))))))))))), m159, m158, m160, m161, m162, m163, (Inn.trans (Inn.trans Inn.refl' (Nat.le_refl _) i83) e68.next i164)⟩
     ·have r171 := ite_bf h144 r130
      refine w_skip ?_
      refine k109 _ _ ?_
      refine w_reg (by kernel_rfl) ?_
      refine s_qk (.int .i64 i5) (by kernel_rfl) ?_
      obtain ⟨g172, r173⟩ := G_some r171
      refine s_w ((i5 + 1)) (k := .i64) (x := (i5 + 1)) (by kernel_rfl) (wrap64 (by have := g172; omega)) ?_
      refine s_qk (.int .i64 (i5 + 1)) (by kernel_rfl) ?_
      refine s_nil ?_
      obtain rfl := Option.some.inj r173
      exact k95 n86 _ _ (Nat.lt_succ_self _) ⟨st0, st1, st2, st3, st4, (i5 + 1), (.slice a96 n97 c98), f72, hn89, ⟨by kernel_rfl, by kernel_rfl, by kernel_rfl, by kernel_rfl, trivial⟩, (FrS.step e23.wf (FrS.refl (W := ([b_st_4] ++ ([b_st_7] ++ (fp_st_11 ++ (fp_st_5 ++ (fp_st_6 ++ fp_st_8)))))) e23.wf) e68 (Inn.app Inn.left (Inn.app (Inn.right Inn.left) (Inn.app (Inn.right (Inn.right Inn.left)) (Inn.app (Inn.right (Inn.right (Inn.right Inn.left))) (Inn.app (Inn.right (Inn.right (Inn.right (Inn.right Inn.left)))) (Inn.right (Inn.right (Inn.right (Inn.right (Inn.right Inn.refl'))))))))))), m70, m74, m76, m78, m80, m82, (Inn.trans Inn.refl' (Nat.le_refl _) i83)⟩
   ·have r174 := ite_f h107 r105
    refine w_exit (th_exit (th_exit (bl_eq ?_)))
    obtain rfl := Option.some.inj r174
    obtain rfl := it_inr hn89
    exact k63 _ _ ⟨(.slice a96 n97 c98), f72, trivial, (FrS.step e23.wf (FrS.refl (W := ([b_st_4] ++ ([b_st_7] ++ (fp_st_11 ++ (fp_st_5 ++ (fp_st_6 ++ fp_st_8)))))) e23.wf) e68 (Inn.app Inn.left (Inn.app (Inn.right Inn.left) (Inn.app (Inn.right (Inn.right Inn.left)) (Inn.app (Inn.right (Inn.right (Inn.right Inn.left))) (Inn.app (Inn.right (Inn.right (Inn.right (Inn.right Inn.left)))) (Inn.right (Inn.right (Inn.right (Inn.right (Inn.right Inn.refl'))))))))))), m74, m70, m76, m78, m80, m82, (Inn.trans Inn.refl' (Nat.le_refl _) i83)⟩
  ·obtain ⟨s52, f53, hh64, e47, m49, m51, m55, m57, m59, m61, i62⟩ := hM
   obtain ⟨β, rfl⟩ := has_ex hh64
   clear hh64
   obtain ⟨a175, n176, c177, rfl⟩ := m51.form
   refine b_nrm (fn := Tryd.f80) (vs := []) (rfl) ?_
   have u178 := (hm24.fr e47 (Dj.app dj_b_st_4_fp_st_12 (Dj.app dj_b_st_7_fp_st_12 (Dj.app (Dj.symm dj_fp_st_12_fp_st_11) (Dj.app dj_fp_st_5_fp_st_12 (Dj.app dj_fp_st_6_fp_st_12 dj_fp_st_8_fp_st_12))))))
   obtain rfl := Option.some.inj r45
   exact ⟨(.slice a175 n176 c177), f53, rfl, (FrS.step wf (FrS.step wf (FrS.refl (W := ([b_st_4] ++ ([b_st_7] ++ (fp_st_11 ++ (fp_st_12 ++ (fp_st_5 ++ (fp_st_6 ++ fp_st_8))))))) wf) e23 (Inn.right (Inn.right (Inn.right Inn.left)))) e47 (Inn.app Inn.left (Inn.app (Inn.right Inn.left) (Inn.app (Inn.right (Inn.right Inn.left)) (Inn.app (Inn.right (Inn.right (Inn.right (Inn.right Inn.left)))) (Inn.app (Inn.right (Inn.right (Inn.right (Inn.right (Inn.right Inn.left))))) (Inn.right (Inn.right (Inn.right (Inn.right (Inn.right (Inn.right Inn.refl')))))))))))), m49, m51, m55, m57, m59, m61, u178, (Inn.trans Inn.refl' e23.next i62)⟩

theorem c_search_run {H : AH} {hd_First : Value} {fp_First : Fp} {hd_To : Value} {fp_To : Fp} {hd_Weight : Value} {fp_Weight : Fp} {First : List (Int)} {To : List (Int)} {Weight : List (Int)} {s : Int} {hops : Int} {settles : Int} {most : Int} {r : List (Int × Int) × List (Int) × List (Int × Int) × Int × Int × List (Int) × List (Bool)}
  (wf : WF H) (h_First : Sq (encI .i64) 1 H hd_First First fp_First) (h_To : Sq (encI .i64) 1 H hd_To To fp_To) (h_Weight : Sq (encI .i64) 1 H hd_Weight Weight fp_Weight) (hr : z_search_run First To Weight s hops settles most = some r) :
  ACalls Tryd.prog 50 #[.agg #[hd_First, hd_To, hd_Weight], .int .i64 s, .agg #[.int .i64 hops, .int .i64 settles, .int .u64 most]] H fun v H' => ∃ (s3 : Value) (f4 : Fp) (s7 : Value) (f8 : Fp) (b11 : Nat) (s14 : Value) (f15 : Fp) (b18 : Nat) (s21 : Value) (f22 : Fp) (s25 : Value) (f26 : Fp) (b29 : Nat), v = .pointer (some ⟨b29, 0, none⟩) ∧ FrS [] H H' ∧ Ow enc_u64_u32 2 H' s3 r.1 f4 ∧ Ow (encI .i64) 1 H' s7 r.2.1 f8 ∧ Row H' b11 [s3, s7] ∧ Ow enc_u64_u32 2 H' s14 r.2.2.1 f15 ∧ Row H' b18 [s14, .int .u32 r.2.2.2.1, .int .i64 r.2.2.2.2.1] ∧ Ow (encI .i64) 1 H' s21 r.2.2.2.2.2.1 f22 ∧ Ow encB 1 H' s25 r.2.2.2.2.2.2 f26 ∧ Row H' b29 [hd_First, hd_To, hd_Weight, .pointer (some ⟨b11, 0, none⟩), .pointer (some ⟨b18, 0, none⟩), s21, s25] ∧ Inn [] H f4 ∧ Inn [] H f8 ∧ Inn [] H [b11] ∧ Inn [] H f15 ∧ Inn [] H [b18] ∧ Inn [] H f22 ∧ Inn [] H f26 ∧ Inn [] H [b29] ∧ Dj f4 f8 ∧ Dj f4 [b11] ∧ Dj f8 [b11] ∧ Dj f4 f15 ∧ Dj f8 f15 ∧ Dj [b11] f15 ∧ Dj f4 [b18] ∧ Dj f8 [b18] ∧ Dj [b11] [b18] ∧ Dj f15 [b18] ∧ Dj f4 f22 ∧ Dj f8 f22 ∧ Dj [b11] f22 ∧ Dj f15 f22 ∧ Dj [b18] f22 ∧ Dj f4 f26 ∧ Dj f8 f26 ∧ Dj [b11] f26 ∧ Dj f15 f26 ∧ Dj [b18] f26 ∧ Dj f22 f26 ∧ Dj f4 [b29] ∧ Dj f8 [b29] ∧ Dj [b11] [b29] ∧ Dj f15 [b29] ∧ Dj [b18] [b29] ∧ Dj f22 [b29] ∧ Dj f26 [b29] := by
 refine acalls_of_body mixed Tryd.func50 rfl (Nat.le_of_ble_eq_true rfl) ?_
 unfold z_search_run at hr
 refine w_seqk fun K66 k66 => ?_
 refine w_reg (by kernel_rfl) ?_
 refine s_rwl wf [hd_First, hd_To, hd_Weight] (one_cons (h_First.one1) (one_cons (h_To.one1) (one_cons (h_Weight.one1) (one_nil)))) (by kernel_rfl) fun b67 H68 e69 hb70 r71 => ?_
 refine s_rwl e69.wf [.int .i64 hops, .int .i64 settles, .int .u64 most] (one_cons (rfl) (one_cons (rfl) (one_cons (rfl) (one_nil)))) (by kernel_rfl) fun b73 H74 e75 hb76 r77 => ?_
 refine s_qk (.pointer none) (by kernel_rfl) ?_
 refine s_nil ?_
 refine k66 _ _ ?_
 refine w_seqk fun K79 k79 => ?_
 refine w_reg (by kernel_rfl) ?_
 have u80 := (r71.ext e75)
 refine s_ql (.agg #[hd_First, hd_To, hd_Weight]) (x := aLoad Tryd.prog 40 (.pointer (some ⟨b67, 0, none⟩)) H74) (by kernel_rfl) (u80.ld (by kernel_rfl)) ?_
 have u81 := ((h_First.ext e69).ext e75)
 have u82 := ((h_To.ext e69).ext e75)
 have u83 := ((h_Weight.ext e69).ext e75)
 obtain ⟨y84, hy85, r86⟩ := bind_some hr
 refine s_ck 60 #[.agg #[hd_First, hd_To, hd_Weight]] (by kernel_rfl) (c_search_nodes e75.wf u81 u82 u83 hy85) ?_
 rintro _ H87 ⟨rfl, e88⟩
 refine s_qk (.int .i64 y84) (by kernel_rfl) ?_
 refine s_nil ?_
 refine k79 _ _ ?_
 refine w_seqk fun K89 k89 => ?_
 refine w_draw [0, 1, 2, 3, 4, 5, 6, 7] (by kernel_rfl) ?_
 have u90 := (u80.frS e88 Dj.nil_l)
 refine d_ql (.agg #[hd_First, hd_To, hd_Weight]) (x := aLoad Tryd.prog 40 (.pointer (some ⟨b67, 0, none⟩)) H87) (by kernel_rfl) (u90.ld (by kernel_rfl)) ?_
 refine d_qk (.int .i64 y84) (by kernel_rfl) ?_
 obtain ⟨g91, r92⟩ := G_some r86
 refine d_mks (t := 22) (m := 8) (l := y84) (c := y84) (enc := (encI .i64)) (sz := 1) e88.wf (0 : Int) (by kernel_rfl) (by decide) g91.1 (Int.le_refl _) (by omega) (by have := g91; omega) (by kernel_rfl) fun s93 f94 H95 e96 hf97 hm98 => ?_
 obtain ⟨a99, n100, c101, rfl⟩ := hm98.form
 have hm98 : Ow (encI .i64) 1 H95 (.slice a99 n100 c101) (List.replicate y84.toNat (0 : Int)) f94 := hm98
 refine d_qk (.int .i64 y84) (by kernel_rfl) ?_
 obtain ⟨g103, r104⟩ := G_some r92
 refine d_mks (t := 104) (m := 1) (l := y84) (c := y84) (enc := encB) (sz := 1) e96.wf (false : Bool) (by kernel_rfl) (by decide) g103.1 (Int.le_refl _) (by omega) (by have := g103; omega) (by kernel_rfl) fun s105 f106 H107 e108 hf109 hm110 => ?_
 obtain ⟨a111, n112, c113, rfl⟩ := hm110.form
 have hm110 : Ow encB 1 H107 (.slice a111 n112 c113) (List.replicate y84.toNat (false : Bool)) f106 := hm110
 refine d_qk (.agg #[hd_First, hd_To, hd_Weight, .pointer none, .pointer none, .slice a99 n100 c101, .slice a111 n112 c113]) (by kernel_rfl) ?_
 have u120 := (hm98.ext e108)
 have u121 := (((u83.fr e88 Dj.nil_l).ext e96).ext e108)
 have u122 := (((u82.fr e88 Dj.nil_l).ext e96).ext e108)
 have u123 := (((u81.fr e88 Dj.nil_l).ext e96).ext e108)
 refine d_rwl e108.wf [hd_First, hd_To, hd_Weight, .pointer none, .pointer none, .slice a99 n100 c101, .slice a111 n112 c113] (one_cons (u123.one1) (one_cons (u122.one1) (one_cons (u121.one1) (one_cons (rfl) (one_cons (rfl) (one_cons (u120.one1) (one_cons (hm110.one1) (one_nil)))))))) (by kernel_rfl) fun b115 H116 e117 hb118 r119 => ?_
 refine d_qk (.pointer (some ⟨b115, 0, none⟩)) (by kernel_rfl) ?_
 refine d_nil ?_
 refine k89 _ _ ?_
 refine w_seqk fun K125 k125 => ?_
 refine w_reg (by kernel_rfl) ?_
 refine s_qk (.pointer (some ⟨b115, 0, none⟩)) (by kernel_rfl) ?_
 refine s_qk (.int .i64 y84) (by kernel_rfl) ?_
 obtain ⟨y126, hy127, r128⟩ := bind_some r104
 rcases y126 with y129 | y130
 ·exact (no_none (elim_l r128)).elim
 ·have r131 := elim_r r128
  refine s_ck 75 #[.int .i64 y84] (by kernel_rfl) (c_heap_New e117.wf hy127) ?_
  rintro _ H135 ⟨s132, f133, b134, rfl, e136, m137, m138, i139, i140, d141⟩
  obtain ⟨a144, n145, c146, rfl⟩ := m137.form
  refine s_qk (.tuple #[.pointer (some ⟨b134, 0, none⟩), .nilIface]) (by kernel_rfl) ?_
  refine s_qk (.pointer (some ⟨b134, 0, none⟩)) (by kernel_rfl) ?_
  refine s_qk (.nilIface) (by kernel_rfl) ?_
  refine s_qk (.pointer (some ⟨b115, 0, none⟩)) (by kernel_rfl) ?_
  refine s_qk (.pointer (some ⟨b115, 3, none⟩)) (by kernel_rfl) ?_
  have u151 := (r119.frS e136 Dj.nil_l)
  obtain ⟨H147, q148, e149, r150⟩ := Row.store (P := Tryd.prog) (t := 102) (p := 3) e136.wf u151 (.pointer (some ⟨b134, 0, none⟩)) [.pointer (some ⟨b134, 0, none⟩)] (by kernel_rfl) (by kernel_rfl) (one_cons (rfl) (one_nil)) (Nat.le_of_ble_eq_true (by kernel_rfl)) [hd_First, hd_To, hd_Weight, .pointer (some ⟨b134, 0, none⟩), .pointer none, .slice a99 n100 c101, .slice a111 n112 c113] (by kernel_rfl)
  refine s_ek (undef) (by kernel_rfl) (map_ok q148) ?_
  refine s_nil ?_
  refine k125 _ _ ?_
  refine w_seqk fun K152 k152 => ?_
  refine w_reg (by kernel_rfl) ?_
  refine s_qk (.pointer (some ⟨b115, 0, none⟩)) (by kernel_rfl) ?_
  refine s_qk (.int .i64 y84) (by kernel_rfl) ?_
  obtain ⟨y153, hy154, r155⟩ := bind_some r131
  rcases y153 with y156 | y157
  ·exact (no_none (elim_l r155)).elim
  ·have r158 := elim_r r155
   refine s_ck 76 #[.int .i64 y84, .int .u32 1] (by kernel_rfl) (c_stamp_New e149.wf hy154) ?_
   rintro _ H162 ⟨s159, f160, b161, rfl, e163, m164, m165, i166, i167, d168⟩
   obtain ⟨a171, n172, c173, rfl⟩ := m164.form
   refine s_qk (.tuple #[.pointer (some ⟨b161, 0, none⟩), .nilIface]) (by kernel_rfl) ?_
   refine s_qk (.pointer (some ⟨b161, 0, none⟩)) (by kernel_rfl) ?_
   refine s_qk (.nilIface) (by kernel_rfl) ?_
   refine s_qk (.pointer (some ⟨b115, 0, none⟩)) (by kernel_rfl) ?_
   refine s_qk (.pointer (some ⟨b115, 4, none⟩)) (by kernel_rfl) ?_
   have u178 := (r150.frS e163 Dj.nil_l)
   obtain ⟨H174, q175, e176, r177⟩ := Row.store (P := Tryd.prog) (t := 103) (p := 4) e163.wf u178 (.pointer (some ⟨b161, 0, none⟩)) [.pointer (some ⟨b161, 0, none⟩)] (by kernel_rfl) (by kernel_rfl) (one_cons (rfl) (one_nil)) (Nat.le_of_ble_eq_true (by kernel_rfl)) [hd_First, hd_To, hd_Weight, .pointer (some ⟨b134, 0, none⟩), .pointer (some ⟨b161, 0, none⟩), .slice a99 n100 c101, .slice a111 n112 c113] (by kernel_rfl)
   refine s_ek (undef) (by kernel_rfl) (map_ok q175) ?_
   refine s_nil ?_
   refine k152 _ _ ?_
   refine w_seqk fun K179 k179 => ?_
   refine w_reg (by kernel_rfl) ?_
   refine s_qk (.pointer (some ⟨b115, 0, none⟩)) (by kernel_rfl) ?_
   refine s_qk (.int .i64 s) (by kernel_rfl) ?_
   have u180 := (((((u123.ext e117).fr e136 Dj.nil_l).fr e149 (hb118.djn (h_First.lt.le (ntr (ntr (ntr (ntr e69.next e75.next) e88.next) e96.next) e108.next)))).fr e163 Dj.nil_l).fr e176 (hb118.djn (h_First.lt.le (ntr (ntr (ntr (ntr e69.next e75.next) e88.next) e96.next) e108.next))))
   have u181 := (((((u122.ext e117).fr e136 Dj.nil_l).fr e149 (hb118.djn (h_To.lt.le (ntr (ntr (ntr (ntr e69.next e75.next) e88.next) e96.next) e108.next)))).fr e163 Dj.nil_l).fr e176 (hb118.djn (h_To.lt.le (ntr (ntr (ntr (ntr e69.next e75.next) e88.next) e96.next) e108.next))))
   have u182 := (((((u121.ext e117).fr e136 Dj.nil_l).fr e149 (hb118.djn (h_Weight.lt.le (ntr (ntr (ntr (ntr e69.next e75.next) e88.next) e96.next) e108.next)))).fr e163 Dj.nil_l).fr e176 (hb118.djn (h_Weight.lt.le (ntr (ntr (ntr (ntr e69.next e75.next) e88.next) e96.next) e108.next))))
   have u183 := (((m137.fr e149 (Dj.symm (i139.djn r119.ltF))).fr e163 Dj.nil_l).fr e176 (Dj.symm (i139.djn r119.ltF)))
   have u184 := (((m138.frS e149 (Dj.symm (i140.djn r119.ltF))).frS e163 Dj.nil_l).frS e176 (Dj.symm (i140.djn r119.ltF)))
   have u185 := (m164.fr e176 (Dj.symm (i166.djn (r119.ltF.le (ntr e136.next e149.next)))))
   have u186 := (m165.frS e176 (Dj.symm (i167.djn (r119.ltF.le (ntr e136.next e149.next)))))
   have u187 := (((((u120.ext e117).fr e136 Dj.nil_l).fr e149 (hb118.djn (hm98.lt.le e108.next))).fr e163 Dj.nil_l).fr e176 (hb118.djn (hm98.lt.le e108.next)))
   have u188 := (((((hm110.ext e117).fr e136 Dj.nil_l).fr e149 (hb118.djn hm110.lt)).fr e163 Dj.nil_l).fr e176 (hb118.djn hm110.lt))
   obtain ⟨y189, hy190, r191⟩ := bind_some r158
   refine s_ck 77 #[.pointer (some ⟨b115, 0, none⟩), .int .i64 s, .int .u64 0, .int .i64 0] (by kernel_rfl) (c_search_state_label e176.wf u180 u181 u182 (Ow.nil (enc := enc_u64_u32) (sz := 2) (by decide)) u183 u184 u185 u186 u187 u188.sq r177 (Dj.symm d168) (i166.djn (r119.ltF.le (ntr e136.next e149.next))) (i167.djn (r119.ltF.le (ntr e136.next e149.next))) (i166.djn (hm98.lt.le (ntr (ntr (ntr e108.next e117.next) e136.next) e149.next))) (i167.djn (hm98.lt.le (ntr (ntr (ntr e108.next e117.next) e136.next) e149.next))) (Dj.symm (hb118.djn (hm98.lt.le e108.next))) Dj.nil_r Dj.nil_r Dj.nil_r (i166.djn (m137.lt.le e149.next)) (i167.djn (m137.lt.le e149.next)) (Dj.symm (i139.djn (hm98.lt.le (ntr e108.next e117.next)))) (i166.djn (m138.ltF.le e149.next)) (i167.djn (m138.ltF.le e149.next)) (Dj.symm (i140.djn (hm98.lt.le (ntr e108.next e117.next)))) Dj.nil_l Dj.nil_l (Dj.symm d141) hy190) ?_
   rintro _ H194 ⟨s192, f193, rfl, e195, m196, m197, m198, m199, m200, m201, i202⟩
   obtain ⟨a204, n205, c206, rfl⟩ := m197.form
   refine s_nil ?_
   refine k179 _ _ ?_
   refine w_seqk fun K207 k207 => ?_
   refine w_seqk fun K208 k208 => ?_
   refine w_reg (by kernel_rfl) ?_
   refine s_qk (.int .i64 0) (by kernel_rfl) ?_
   refine s_nil ?_
   refine k208 _ _ ?_
   obtain ⟨o209, hx210, r211⟩ := bind_some r191
   refine w_mid (fun α H212 => ∃ (s216 : Value) (f217 : Fp), Has α [(8, .pointer (some ⟨b115, 0, none⟩))] ∧ FrS ([b134] ++ ([b161] ++ (f106 ++ (f133 ++ (f160 ++ (f193 ++ f94)))))) H194 H212 ∧ Ow enc_u64_u32 2 H212 s216 o209.1 f217 ∧ Ow (encI .i64) 1 H212 (.slice a144 n145 c146) o209.2.1 f133 ∧ Row H212 b134 [s216, .slice a144 n145 c146] ∧ Ow enc_u64_u32 2 H212 (.slice a171 n172 c173) o209.2.2.1 f160 ∧ Row H212 b161 [.slice a171 n172 c173, .int .u32 y157.2, .int .i64 o209.2.2.2.1] ∧ Ow (encI .i64) 1 H212 (.slice a99 n100 c101) o209.2.2.2.2.1 f94 ∧ Ow encB 1 H212 (.slice a111 n112 c113) o209.2.2.2.2.2 f106 ∧ Inn f193 H194 f217) (fun K231 k231 => ?_) (fun α H212 hM => ?_)
   ·refine w_block ?_
    obtain ⟨n233, hn234⟩ := loopO_iff.1 hx210
    have u260 := (u188.fr e195 (Dj.app (i140.djn (hm110.lt.le e117.next)) (Dj.app (i167.djn (hm110.lt.le (ntr (ntr e117.next e136.next) e149.next))) (Dj.app (Dj.symm (hf109.djn hm98.lt)) (Dj.app Dj.nil_l (Dj.app (i139.djn (hm110.lt.le e117.next)) (i166.djn (hm110.lt.le (ntr (ntr e117.next e136.next) e149.next)))))))))
    refine w_loopn (fun n α H235 => ∃ (st0 : List (Int × Int)), ∃ (st1 : List (Int)), ∃ (st2 : List (Int × Int)), ∃ (st3 : Int), ∃ (st4 : List (Int)), ∃ (st5 : List (Bool)), ∃ (count6 : Int), ∃ (s239 : Value), ∃ (f240 : Fp), iterO (fun zz_ => z_search_run_l0 First To Weight hops settles most y157 zz_.1 zz_.2.1 zz_.2.2.1 zz_.2.2.2.1 zz_.2.2.2.2.1 zz_.2.2.2.2.2.1 zz_.2.2.2.2.2.2) n (st0, st1, st2, st3, st4, st5, count6) = some o209 ∧ Has α [(5, .pointer (some ⟨b73, 0, none⟩)), (8, .pointer (some ⟨b115, 0, none⟩)), (9, .int .i64 count6)] ∧ FrS ([b134] ++ ([b161] ++ (f106 ++ (f133 ++ (f160 ++ (f193 ++ f94)))))) H194 H235 ∧ Ow enc_u64_u32 2 H235 s239 st0 f240 ∧ Ow (encI .i64) 1 H235 (.slice a144 n145 c146) st1 f133 ∧ Row H235 b134 [s239, .slice a144 n145 c146] ∧ Ow enc_u64_u32 2 H235 (.slice a171 n172 c173) st2 f160 ∧ Row H235 b161 [.slice a171 n172 c173, .int .u32 y157.2, .int .i64 st3] ∧ Ow (encI .i64) 1 H235 (.slice a99 n100 c101) st4 f94 ∧ Ow encB 1 H235 (.slice a111 n112 c113) st5 f106 ∧ Inn f193 H194 f240) n233 ⟨y189.2.1, y189.1, y189.2.2.1, y189.2.2.2.1, y189.2.2.2.2, (List.replicate y84.toNat (false : Bool)), 0, (.slice a204 n205 c206), f193, hn234, ⟨by kernel_rfl, by kernel_rfl, by kernel_rfl, trivial⟩, (FrS.refl (W := ([b134] ++ ([b161] ++ (f106 ++ (f133 ++ (f160 ++ (f193 ++ f94))))))) e195.wf), m197, m196, m198, m199, m200, m201, u260, Inn.refl'⟩ ?_
    rintro n233 α H235 ⟨st0, st1, st2, st3, st4, st5, count6, s239, f240, hi255, hh254, e236, m238, m242, m244, m246, m248, m250, m252, i253⟩ K261 k261
    obtain ⟨n256, z257, rfl, hz258, hn259⟩ := iter_succ hi255
    obtain ⟨β, rfl⟩ := has_ex hh254
    clear hh254
    replace hz258 : z_search_run_l0 First To Weight hops settles most y157 st0 st1 st2 st3 st4 st5 count6 = some z257 := hz258
    unfold z_search_run_l0 at hz258
    obtain ⟨a262, n263, c264, rfl⟩ := m238.form
    refine w_seqk fun K265 k265 => ?_
    refine w_seqk fun K266 k266 => ?_
    refine w_reg (by kernel_rfl) ?_
    refine s_qk (.int .i64 count6) (by kernel_rfl) ?_
    refine s_qk (.pointer (some ⟨b73, 1, none⟩)) (by kernel_rfl) ?_
    have u267 := ((((((((((r77.frS e88 Dj.nil_l).ext e96).ext e108).ext e117).frS e136 Dj.nil_l).frS e149 (hb118.djn (r77.ltF.le (ntr (ntr e88.next e96.next) e108.next)))).frS e163 Dj.nil_l).frS e176 (hb118.djn (r77.ltF.le (ntr (ntr e88.next e96.next) e108.next)))).frS e195 (Dj.app (i140.djn (r77.ltF.le (ntr (ntr (ntr e88.next e96.next) e108.next) e117.next))) (Dj.app (i167.djn (r77.ltF.le (ntr (ntr (ntr (ntr (ntr e88.next e96.next) e108.next) e117.next) e136.next) e149.next))) (Dj.app (hf97.djn (r77.ltF.le e88.next)) (Dj.app Dj.nil_l (Dj.app (i139.djn (r77.ltF.le (ntr (ntr (ntr e88.next e96.next) e108.next) e117.next))) (i166.djn (r77.ltF.le (ntr (ntr (ntr (ntr (ntr e88.next e96.next) e108.next) e117.next) e136.next) e149.next))))))))).frS e236 (Dj.app (i140.djn (r77.ltF.le (ntr (ntr (ntr e88.next e96.next) e108.next) e117.next))) (Dj.app (i167.djn (r77.ltF.le (ntr (ntr (ntr (ntr (ntr e88.next e96.next) e108.next) e117.next) e136.next) e149.next))) (Dj.app (hf109.djn (r77.ltF.le (ntr e88.next e96.next))) (Dj.app (i139.djn (r77.ltF.le (ntr (ntr (ntr e88.next e96.next) e108.next) e117.next))) (Dj.app (i166.djn (r77.ltF.le (ntr (ntr (ntr (ntr (ntr e88.next e96.next) e108.next) e117.next) e136.next) e149.next))) (Dj.app (i202.djn (r77.ltF.le (ntr (ntr (ntr (ntr (ntr (ntr (ntr e88.next e96.next) e108.next) e117.next) e136.next) e149.next) e163.next) e176.next))) (hf97.djn (r77.ltF.le e88.next)))))))))
    refine s_ql (.int .i64 settles) (x := aLoad Tryd.prog 3 (.pointer (some ⟨b73, 1, none⟩)) H235) (by kernel_rfl) (u267.ld (by kernel_rfl)) ?_
    refine s_qk (.bool (decide (count6 < settles))) (by kernel_rfl) ?_
    refine s_nil ?_
    refine k266 _ _ ?_
    refine w_condp (count6 < settles) (by kernel_rfl) rfl (fun h268 => ?_) (fun h268 => ?_)
    ·have r269 := ite_t h268 hz258
     refine w_skip ?_
     refine k265 _ _ ?_
     refine w_seqk fun K270 k270 => ?_
     refine w_block ?_
     refine w_seqk fun K271 k271 => ?_
     refine w_reg (by kernel_rfl) ?_
     refine s_qk (.pointer (some ⟨b115, 0, none⟩)) (by kernel_rfl) ?_
     refine s_qk (.pointer (some ⟨b115, 0, none⟩)) (by kernel_rfl) ?_
     refine s_qk (.pointer (some ⟨b115, 3, none⟩)) (by kernel_rfl) ?_
     have u272 := ((r177.frS e195 (Dj.app (i140.djn r119.ltF) (Dj.app (i167.djn (r119.ltF.le (ntr e136.next e149.next))) (Dj.app (Dj.symm (hb118.djn (hm98.lt.le e108.next))) (Dj.app Dj.nil_l (Dj.app (i139.djn r119.ltF) (i166.djn (r119.ltF.le (ntr e136.next e149.next))))))))).frS e236 (Dj.app (i140.djn r119.ltF) (Dj.app (i167.djn (r119.ltF.le (ntr e136.next e149.next))) (Dj.app (Dj.symm (hb118.djn hm110.lt)) (Dj.app (i139.djn r119.ltF) (Dj.app (i166.djn (r119.ltF.le (ntr e136.next e149.next))) (Dj.app (i202.djn (r119.ltF.le (ntr (ntr (ntr e136.next e149.next) e163.next) e176.next))) (Dj.symm (hb118.djn (hm98.lt.le e108.next))))))))))
     refine s_ql (.pointer (some ⟨b134, 0, none⟩)) (x := aLoad Tryd.prog 102 (.pointer (some ⟨b115, 3, none⟩)) H235) (by kernel_rfl) (u272.ld (by kernel_rfl)) ?_
     obtain ⟨y273, hy274, r275⟩ := bind_some r269
     refine s_ck 78 #[.pointer (some ⟨b134, 0, none⟩)] (by kernel_rfl) (c_heap_Heap_Top e236.wf m238.sq m242.sq m244 hy274) ?_
     rintro _ _ ⟨rfl, rfl⟩
     refine s_qk (.tuple #[.int .u32 y273.1, .int .u64 y273.2.1, .bool y273.2.2]) (by kernel_rfl) ?_
     refine s_qk (.int .u32 y273.1) (by kernel_rfl) ?_
     refine s_qk (.int .u64 y273.2.1) (by kernel_rfl) ?_
     refine s_qk (.bool y273.2.2) (by kernel_rfl) ?_
     refine s_qk (.int .u32 y273.1) (by kernel_rfl) ?_
     refine s_qk (.int .u64 y273.2.1) (by kernel_rfl) ?_
     refine s_qk (.bool y273.2.2) (by kernel_rfl) ?_
     refine s_nil ?_
     refine k271 _ _ ?_
     refine w_seqk fun K278 k278 => ?_
     refine w_seqk fun K279 k279 => ?_
     obtain ⟨o280, hx281, r282⟩ := bind_some r275
     refine w_mid (fun α H283 => Has α [(5, .pointer (some ⟨b73, 0, none⟩)), (8, .pointer (some ⟨b115, 0, none⟩)), (9, .int .i64 count6), (10, .int .u32 y273.1), (11, .int .u64 y273.2.1), (63, .bool o280)] ∧ H235 = H283) (fun K285 k285 => ?_) (fun α H283 hM => ?_)
     ·refine w_reg (by kernel_rfl) ?_
      refine s_qk (.bool y273.2.2) (by kernel_rfl) ?_
      refine s_qk (.bool (!y273.2.2)) (by kernel_rfl) ?_
      refine s_qk (.bool (!y273.2.2)) (by kernel_rfl) ?_
      by_cases h287 : (!y273.2.2) = true
      ·have r288 := ite_t h287 hx281
       rw [h287]
       refine s_no (by kernel_rfl) ?_
       refine s_no (by kernel_rfl) ?_
       refine s_no (by kernel_rfl) ?_
       refine s_no (by kernel_rfl) ?_
       refine s_qk (.bool true) (by kernel_rfl) ?_
       refine s_nil ?_
       obtain rfl := Option.some.inj r288
       exact k285 _ _ ⟨⟨by kernel_rfl, by kernel_rfl, by kernel_rfl, by kernel_rfl, by kernel_rfl, by kernel_rfl, trivial⟩, rfl⟩
      ·have r289 := ite_f h287 hx281
       rw [nb h287]
       refine s_qk (.int .u64 y273.2.1) (by kernel_rfl) ?_
       refine s_qk (.pointer (some ⟨b73, 2, none⟩)) (by kernel_rfl) ?_
       refine s_ql (.int .u64 most) (x := aLoad Tryd.prog 42 (.pointer (some ⟨b73, 2, none⟩)) H235) (by kernel_rfl) (u267.ld (by kernel_rfl)) ?_
       refine s_qk (.bool (decide (y273.2.1 > most))) (by kernel_rfl) ?_
       refine s_qk (.bool (decide (y273.2.1 > most))) (by kernel_rfl) ?_
       refine s_nil ?_
       obtain rfl := Option.some.inj r289
       exact k285 _ _ ⟨⟨by kernel_rfl, by kernel_rfl, by kernel_rfl, by kernel_rfl, by kernel_rfl, by kernel_rfl, trivial⟩, rfl⟩
     ·obtain ⟨hh286, rfl⟩ := hM
      obtain ⟨β, rfl⟩ := has_ex hh286
      clear hh286
      refine k279 _ _ ?_
      refine w_cond (o280) (by kernel_rfl) rfl (fun h290 => ?_) (fun h290 => ?_)
      ·have r291 := ite_t h290 r282
       refine w_exit (th_exit (bl_ne (by decide) (th_exit (th_exit (bl_eq ?_)))))
       obtain rfl := Option.some.inj r291
       obtain rfl := it_inr hn259
       exact k231 _ _ ⟨(.slice a262 n263 c264), f240, ⟨by kernel_rfl, trivial⟩, (FrS.step e195.wf (FrS.refl (W := ([b134] ++ ([b161] ++ (f106 ++ (f133 ++ (f160 ++ (f193 ++ f94))))))) e195.wf) e236 (Inn.app Inn.left (Inn.app (Inn.right Inn.left) (Inn.app (Inn.right (Inn.right Inn.left)) (Inn.app (Inn.right (Inn.right (Inn.right Inn.left))) (Inn.app (Inn.right (Inn.right (Inn.right (Inn.right Inn.left)))) (Inn.app (Inn.right (Inn.right (Inn.right (Inn.right (Inn.right Inn.left))))) (Inn.right (Inn.right (Inn.right (Inn.right (Inn.right (Inn.right Inn.refl'))))))))))))), m238, m242, m244, m246, m248, m250, m252, (Inn.trans Inn.refl' (Nat.le_refl _) i253)⟩
      ·have r292 := ite_bf h290 r282
       refine w_skip ?_
       refine k278 _ _ ?_
       refine w_seqk fun K293 k293 => ?_
       refine w_reg (by kernel_rfl) ?_
       refine s_qk (.pointer (some ⟨b115, 0, none⟩)) (by kernel_rfl) ?_
       refine s_qk (.pointer (some ⟨b115, 0, none⟩)) (by kernel_rfl) ?_
       refine s_qk (.pointer (some ⟨b115, 3, none⟩)) (by kernel_rfl) ?_
       refine s_ql (.pointer (some ⟨b134, 0, none⟩)) (x := aLoad Tryd.prog 102 (.pointer (some ⟨b115, 3, none⟩)) H235) (by kernel_rfl) (u272.ld (by kernel_rfl)) ?_
       obtain ⟨y294, hy295, r296⟩ := bind_some r292
       refine s_ck 79 #[.pointer (some ⟨b134, 0, none⟩)] (by kernel_rfl) (c_heap_Heap_Pop e236.wf m238 m242 m244 (Dj.symm d141) (Dj.symm (i253.dj (i202.djn (m138.ltF.le (ntr (ntr e149.next e163.next) e176.next))) (m138.ltF.le (ntr (ntr (ntr e149.next e163.next) e176.next) e195.next)))) (Dj.symm (i253.dj (i202.djn (m137.lt.le (ntr (ntr e149.next e163.next) e176.next))) (m137.lt.le (ntr (ntr (ntr e149.next e163.next) e176.next) e195.next)))) hy295) ?_
       rintro _ H298 ⟨s297, rfl, e299, m300, m301, m302⟩
       obtain ⟨a304, n305, c306, rfl⟩ := m301.form
       refine s_nil ?_
       refine k293 _ _ ?_
       refine w_reg (by kernel_rfl) ?_
       refine s_qk (.pointer (some ⟨b115, 0, none⟩)) (by kernel_rfl) ?_
       refine s_qk (.int .u32 y273.1) (by kernel_rfl) ?_
       obtain ⟨g307, r308⟩ := G_some r296
       refine s_w (y273.1) (k := .i64) (x := y273.1) (by kernel_rfl) (wrap64 g307) ?_
       refine s_qk (.int .u64 y273.2.1) (by kernel_rfl) ?_
       refine s_qk (.pointer (some ⟨b73, 0, none⟩)) (by kernel_rfl) ?_
       have u309 := (u267.frS e299 (Dj.app (i140.djn (r77.ltF.le (ntr (ntr (ntr e88.next e96.next) e108.next) e117.next))) (Dj.app (i253.dj (i202.djn (r77.ltF.le (ntr (ntr (ntr (ntr (ntr (ntr (ntr e88.next e96.next) e108.next) e117.next) e136.next) e149.next) e163.next) e176.next))) (r77.ltF.le (ntr (ntr (ntr (ntr (ntr (ntr (ntr (ntr e88.next e96.next) e108.next) e117.next) e136.next) e149.next) e163.next) e176.next) e195.next))) (i139.djn (r77.ltF.le (ntr (ntr (ntr e88.next e96.next) e108.next) e117.next))))))
       refine s_ql (.int .i64 hops) (x := aLoad Tryd.prog 3 (.pointer (some ⟨b73, 0, none⟩)) H298) (by kernel_rfl) (u309.ld (by kernel_rfl)) ?_
       have u310 := (((u180.fr e195 (Dj.app (i140.djn (h_First.lt.le (ntr (ntr (ntr (ntr (ntr e69.next e75.next) e88.next) e96.next) e108.next) e117.next))) (Dj.app (i167.djn (h_First.lt.le (ntr (ntr (ntr (ntr (ntr (ntr (ntr e69.next e75.next) e88.next) e96.next) e108.next) e117.next) e136.next) e149.next))) (Dj.app (hf97.djn (h_First.lt.le (ntr (ntr e69.next e75.next) e88.next))) (Dj.app Dj.nil_l (Dj.app (i139.djn (h_First.lt.le (ntr (ntr (ntr (ntr (ntr e69.next e75.next) e88.next) e96.next) e108.next) e117.next))) (i166.djn (h_First.lt.le (ntr (ntr (ntr (ntr (ntr (ntr (ntr e69.next e75.next) e88.next) e96.next) e108.next) e117.next) e136.next) e149.next))))))))).fr e236 (Dj.app (i140.djn (h_First.lt.le (ntr (ntr (ntr (ntr (ntr e69.next e75.next) e88.next) e96.next) e108.next) e117.next))) (Dj.app (i167.djn (h_First.lt.le (ntr (ntr (ntr (ntr (ntr (ntr (ntr e69.next e75.next) e88.next) e96.next) e108.next) e117.next) e136.next) e149.next))) (Dj.app (hf109.djn (h_First.lt.le (ntr (ntr (ntr e69.next e75.next) e88.next) e96.next))) (Dj.app (i139.djn (h_First.lt.le (ntr (ntr (ntr (ntr (ntr e69.next e75.next) e88.next) e96.next) e108.next) e117.next))) (Dj.app (i166.djn (h_First.lt.le (ntr (ntr (ntr (ntr (ntr (ntr (ntr e69.next e75.next) e88.next) e96.next) e108.next) e117.next) e136.next) e149.next))) (Dj.app (i202.djn (h_First.lt.le (ntr (ntr (ntr (ntr (ntr (ntr (ntr (ntr (ntr e69.next e75.next) e88.next) e96.next) e108.next) e117.next) e136.next) e149.next) e163.next) e176.next))) (hf97.djn (h_First.lt.le (ntr (ntr e69.next e75.next) e88.next)))))))))).fr e299 (Dj.app (i140.djn (h_First.lt.le (ntr (ntr (ntr (ntr (ntr e69.next e75.next) e88.next) e96.next) e108.next) e117.next))) (Dj.app (i253.dj (i202.djn (h_First.lt.le (ntr (ntr (ntr (ntr (ntr (ntr (ntr (ntr (ntr e69.next e75.next) e88.next) e96.next) e108.next) e117.next) e136.next) e149.next) e163.next) e176.next))) (h_First.lt.le (ntr (ntr (ntr (ntr (ntr (ntr (ntr (ntr (ntr (ntr e69.next e75.next) e88.next) e96.next) e108.next) e117.next) e136.next) e149.next) e163.next) e176.next) e195.next))) (i139.djn (h_First.lt.le (ntr (ntr (ntr (ntr (ntr e69.next e75.next) e88.next) e96.next) e108.next) e117.next))))))
       have u311 := (((u181.fr e195 (Dj.app (i140.djn (h_To.lt.le (ntr (ntr (ntr (ntr (ntr e69.next e75.next) e88.next) e96.next) e108.next) e117.next))) (Dj.app (i167.djn (h_To.lt.le (ntr (ntr (ntr (ntr (ntr (ntr (ntr e69.next e75.next) e88.next) e96.next) e108.next) e117.next) e136.next) e149.next))) (Dj.app (hf97.djn (h_To.lt.le (ntr (ntr e69.next e75.next) e88.next))) (Dj.app Dj.nil_l (Dj.app (i139.djn (h_To.lt.le (ntr (ntr (ntr (ntr (ntr e69.next e75.next) e88.next) e96.next) e108.next) e117.next))) (i166.djn (h_To.lt.le (ntr (ntr (ntr (ntr (ntr (ntr (ntr e69.next e75.next) e88.next) e96.next) e108.next) e117.next) e136.next) e149.next))))))))).fr e236 (Dj.app (i140.djn (h_To.lt.le (ntr (ntr (ntr (ntr (ntr e69.next e75.next) e88.next) e96.next) e108.next) e117.next))) (Dj.app (i167.djn (h_To.lt.le (ntr (ntr (ntr (ntr (ntr (ntr (ntr e69.next e75.next) e88.next) e96.next) e108.next) e117.next) e136.next) e149.next))) (Dj.app (hf109.djn (h_To.lt.le (ntr (ntr (ntr e69.next e75.next) e88.next) e96.next))) (Dj.app (i139.djn (h_To.lt.le (ntr (ntr (ntr (ntr (ntr e69.next e75.next) e88.next) e96.next) e108.next) e117.next))) (Dj.app (i166.djn (h_To.lt.le (ntr (ntr (ntr (ntr (ntr (ntr (ntr e69.next e75.next) e88.next) e96.next) e108.next) e117.next) e136.next) e149.next))) (Dj.app (i202.djn (h_To.lt.le (ntr (ntr (ntr (ntr (ntr (ntr (ntr (ntr (ntr e69.next e75.next) e88.next) e96.next) e108.next) e117.next) e136.next) e149.next) e163.next) e176.next))) (hf97.djn (h_To.lt.le (ntr (ntr e69.next e75.next) e88.next)))))))))).fr e299 (Dj.app (i140.djn (h_To.lt.le (ntr (ntr (ntr (ntr (ntr e69.next e75.next) e88.next) e96.next) e108.next) e117.next))) (Dj.app (i253.dj (i202.djn (h_To.lt.le (ntr (ntr (ntr (ntr (ntr (ntr (ntr (ntr (ntr e69.next e75.next) e88.next) e96.next) e108.next) e117.next) e136.next) e149.next) e163.next) e176.next))) (h_To.lt.le (ntr (ntr (ntr (ntr (ntr (ntr (ntr (ntr (ntr (ntr e69.next e75.next) e88.next) e96.next) e108.next) e117.next) e136.next) e149.next) e163.next) e176.next) e195.next))) (i139.djn (h_To.lt.le (ntr (ntr (ntr (ntr (ntr e69.next e75.next) e88.next) e96.next) e108.next) e117.next))))))
       have u312 := (((u182.fr e195 (Dj.app (i140.djn (h_Weight.lt.le (ntr (ntr (ntr (ntr (ntr e69.next e75.next) e88.next) e96.next) e108.next) e117.next))) (Dj.app (i167.djn (h_Weight.lt.le (ntr (ntr (ntr (ntr (ntr (ntr (ntr e69.next e75.next) e88.next) e96.next) e108.next) e117.next) e136.next) e149.next))) (Dj.app (hf97.djn (h_Weight.lt.le (ntr (ntr e69.next e75.next) e88.next))) (Dj.app Dj.nil_l (Dj.app (i139.djn (h_Weight.lt.le (ntr (ntr (ntr (ntr (ntr e69.next e75.next) e88.next) e96.next) e108.next) e117.next))) (i166.djn (h_Weight.lt.le (ntr (ntr (ntr (ntr (ntr (ntr (ntr e69.next e75.next) e88.next) e96.next) e108.next) e117.next) e136.next) e149.next))))))))).fr e236 (Dj.app (i140.djn (h_Weight.lt.le (ntr (ntr (ntr (ntr (ntr e69.next e75.next) e88.next) e96.next) e108.next) e117.next))) (Dj.app (i167.djn (h_Weight.lt.le (ntr (ntr (ntr (ntr (ntr (ntr (ntr e69.next e75.next) e88.next) e96.next) e108.next) e117.next) e136.next) e149.next))) (Dj.app (hf109.djn (h_Weight.lt.le (ntr (ntr (ntr e69.next e75.next) e88.next) e96.next))) (Dj.app (i139.djn (h_Weight.lt.le (ntr (ntr (ntr (ntr (ntr e69.next e75.next) e88.next) e96.next) e108.next) e117.next))) (Dj.app (i166.djn (h_Weight.lt.le (ntr (ntr (ntr (ntr (ntr (ntr (ntr e69.next e75.next) e88.next) e96.next) e108.next) e117.next) e136.next) e149.next))) (Dj.app (i202.djn (h_Weight.lt.le (ntr (ntr (ntr (ntr (ntr (ntr (ntr (ntr (ntr e69.next e75.next) e88.next) e96.next) e108.next) e117.next) e136.next) e149.next) e163.next) e176.next))) (hf97.djn (h_Weight.lt.le (ntr (ntr e69.next e75.next) e88.next)))))))))).fr e299 (Dj.app (i140.djn (h_Weight.lt.le (ntr (ntr (ntr (ntr (ntr e69.next e75.next) e88.next) e96.next) e108.next) e117.next))) (Dj.app (i253.dj (i202.djn (h_Weight.lt.le (ntr (ntr (ntr (ntr (ntr (ntr (ntr (ntr (ntr e69.next e75.next) e88.next) e96.next) e108.next) e117.next) e136.next) e149.next) e163.next) e176.next))) (h_Weight.lt.le (ntr (ntr (ntr (ntr (ntr (ntr (ntr (ntr (ntr (ntr e69.next e75.next) e88.next) e96.next) e108.next) e117.next) e136.next) e149.next) e163.next) e176.next) e195.next))) (i139.djn (h_Weight.lt.le (ntr (ntr (ntr (ntr (ntr e69.next e75.next) e88.next) e96.next) e108.next) e117.next))))))
       have u313 := (m246.fr e299 (Dj.app (Dj.symm (i166.djn (m138.ltF.le e149.next))) (Dj.app (i253.dj (i202.djn (m164.lt.le e176.next)) (m164.lt.le (ntr e176.next e195.next))) (Dj.symm (i166.djn (m137.lt.le e149.next))))))
       have u314 := (m248.frS e299 (Dj.app (Dj.symm (i167.djn (m138.ltF.le e149.next))) (Dj.app (i253.dj (i202.djn (m165.ltF.le e176.next)) (m165.ltF.le (ntr e176.next e195.next))) (Dj.symm (i167.djn (m137.lt.le e149.next))))))
       have u315 := (m250.fr e299 (Dj.app (i140.djn (hm98.lt.le (ntr e108.next e117.next))) (Dj.app (i253.dj (i202.djn (hm98.lt.le (ntr (ntr (ntr (ntr (ntr e108.next e117.next) e136.next) e149.next) e163.next) e176.next))) (hm98.lt.le (ntr (ntr (ntr (ntr (ntr (ntr e108.next e117.next) e136.next) e149.next) e163.next) e176.next) e195.next))) (i139.djn (hm98.lt.le (ntr e108.next e117.next))))))
       have u316 := (m252.fr e299 (Dj.app (i140.djn (hm110.lt.le e117.next)) (Dj.app (i253.dj (i202.djn (hm110.lt.le (ntr (ntr (ntr (ntr e117.next e136.next) e149.next) e163.next) e176.next))) (hm110.lt.le (ntr (ntr (ntr (ntr (ntr e117.next e136.next) e149.next) e163.next) e176.next) e195.next))) (i139.djn (hm110.lt.le e117.next)))))
       have u317 := (u272.frS e299 (Dj.app (i140.djn r119.ltF) (Dj.app (i253.dj (i202.djn (r119.ltF.le (ntr (ntr (ntr e136.next e149.next) e163.next) e176.next))) (r119.ltF.le (ntr (ntr (ntr (ntr e136.next e149.next) e163.next) e176.next) e195.next))) (i139.djn r119.ltF))))
       obtain ⟨y318, hy319, r320⟩ := bind_some r308
       refine s_ck 80 #[.pointer (some ⟨b115, 0, none⟩), .int .i64 y273.1, .int .u64 y273.2.1, .int .i64 hops] (by kernel_rfl) (c_search_state_settle e299.wf u310 u311 u312 m301 m300 m302 u313 u314 u315 u316 u317 (Dj.symm (hb118.djn hm110.lt)) (hf109.djn hm98.lt) (Dj.symm (i139.djn (hm110.lt.le e117.next))) (Dj.symm (i253.dj (i202.djn (hm110.lt.le (ntr (ntr (ntr (ntr e117.next e136.next) e149.next) e163.next) e176.next))) (hm110.lt.le (ntr (ntr (ntr (ntr (ntr e117.next e136.next) e149.next) e163.next) e176.next) e195.next)))) (Dj.symm (i140.djn (hm110.lt.le e117.next))) (Dj.symm (i166.djn (hm110.lt.le (ntr (ntr e117.next e136.next) e149.next)))) (Dj.symm (i167.djn (hm110.lt.le (ntr (ntr e117.next e136.next) e149.next)))) (hf109.djn (h_First.lt.le (ntr (ntr (ntr e69.next e75.next) e88.next) e96.next))) (hf109.djn (h_To.lt.le (ntr (ntr (ntr e69.next e75.next) e88.next) e96.next))) (hf109.djn (h_Weight.lt.le (ntr (ntr (ntr e69.next e75.next) e88.next) e96.next))) (Dj.symm d168) (i166.djn (r119.ltF.le (ntr e136.next e149.next))) (i167.djn (r119.ltF.le (ntr e136.next e149.next))) (i166.djn (hm98.lt.le (ntr (ntr (ntr e108.next e117.next) e136.next) e149.next))) (i167.djn (hm98.lt.le (ntr (ntr (ntr e108.next e117.next) e136.next) e149.next))) (Dj.symm (hb118.djn (hm98.lt.le e108.next))) (Dj.symm (i253.dj (i202.djn (m164.lt.le e176.next)) (m164.lt.le (ntr e176.next e195.next)))) (Dj.symm (i253.dj (i202.djn (m165.ltF.le e176.next)) (m165.ltF.le (ntr e176.next e195.next)))) (Dj.symm (i253.dj (i202.djn (hm98.lt.le (ntr (ntr (ntr (ntr (ntr e108.next e117.next) e136.next) e149.next) e163.next) e176.next))) (hm98.lt.le (ntr (ntr (ntr (ntr (ntr (ntr e108.next e117.next) e136.next) e149.next) e163.next) e176.next) e195.next)))) (i166.djn (m137.lt.le e149.next)) (i167.djn (m137.lt.le e149.next)) (Dj.symm (i139.djn (hm98.lt.le (ntr e108.next e117.next)))) (i166.djn (m138.ltF.le e149.next)) (i167.djn (m138.ltF.le e149.next)) (Dj.symm (i140.djn (hm98.lt.le (ntr e108.next e117.next)))) (i253.dj (i202.djn (m138.ltF.le (ntr (ntr e149.next e163.next) e176.next))) (m138.ltF.le (ntr (ntr (ntr e149.next e163.next) e176.next) e195.next))) (i253.dj (i202.djn (m137.lt.le (ntr (ntr e149.next e163.next) e176.next))) (m137.lt.le (ntr (ntr (ntr e149.next e163.next) e176.next) e195.next))) (Dj.symm d141) (i139.djn r119.ltF) (i253.dj (i202.djn (r119.ltF.le (ntr (ntr (ntr e136.next e149.next) e163.next) e176.next))) (r119.ltF.le (ntr (ntr (ntr (ntr e136.next e149.next) e163.next) e176.next) e195.next))) (i140.djn r119.ltF) (i166.djn (h_First.lt.le (ntr (ntr (ntr (ntr (ntr (ntr (ntr e69.next e75.next) e88.next) e96.next) e108.next) e117.next) e136.next) e149.next))) (i139.djn (h_First.lt.le (ntr (ntr (ntr (ntr (ntr e69.next e75.next) e88.next) e96.next) e108.next) e117.next))) (i253.dj (i202.djn (h_First.lt.le (ntr (ntr (ntr (ntr (ntr (ntr (ntr (ntr (ntr e69.next e75.next) e88.next) e96.next) e108.next) e117.next) e136.next) e149.next) e163.next) e176.next))) (h_First.lt.le (ntr (ntr (ntr (ntr (ntr (ntr (ntr (ntr (ntr (ntr e69.next e75.next) e88.next) e96.next) e108.next) e117.next) e136.next) e149.next) e163.next) e176.next) e195.next))) (hf97.djn (h_First.lt.le (ntr (ntr e69.next e75.next) e88.next))) (i167.djn (h_First.lt.le (ntr (ntr (ntr (ntr (ntr (ntr (ntr e69.next e75.next) e88.next) e96.next) e108.next) e117.next) e136.next) e149.next))) (i140.djn (h_First.lt.le (ntr (ntr (ntr (ntr (ntr e69.next e75.next) e88.next) e96.next) e108.next) e117.next))) (i166.djn (h_To.lt.le (ntr (ntr (ntr (ntr (ntr (ntr (ntr e69.next e75.next) e88.next) e96.next) e108.next) e117.next) e136.next) e149.next))) (i139.djn (h_To.lt.le (ntr (ntr (ntr (ntr (ntr e69.next e75.next) e88.next) e96.next) e108.next) e117.next))) (i253.dj (i202.djn (h_To.lt.le (ntr (ntr (ntr (ntr (ntr (ntr (ntr (ntr (ntr e69.next e75.next) e88.next) e96.next) e108.next) e117.next) e136.next) e149.next) e163.next) e176.next))) (h_To.lt.le (ntr (ntr (ntr (ntr (ntr (ntr (ntr (ntr (ntr (ntr e69.next e75.next) e88.next) e96.next) e108.next) e117.next) e136.next) e149.next) e163.next) e176.next) e195.next))) (hf97.djn (h_To.lt.le (ntr (ntr e69.next e75.next) e88.next))) (i167.djn (h_To.lt.le (ntr (ntr (ntr (ntr (ntr (ntr (ntr e69.next e75.next) e88.next) e96.next) e108.next) e117.next) e136.next) e149.next))) (i140.djn (h_To.lt.le (ntr (ntr (ntr (ntr (ntr e69.next e75.next) e88.next) e96.next) e108.next) e117.next))) (i166.djn (h_Weight.lt.le (ntr (ntr (ntr (ntr (ntr (ntr (ntr e69.next e75.next) e88.next) e96.next) e108.next) e117.next) e136.next) e149.next))) (i139.djn (h_Weight.lt.le (ntr (ntr (ntr (ntr (ntr e69.next e75.next) e88.next) e96.next) e108.next) e117.next))) (i253.dj (i202.djn (h_Weight.lt.le (ntr (ntr (ntr (ntr (ntr (ntr (ntr (ntr (ntr e69.next e75.next) e88.next) e96.next) e108.next) e117.next) e136.next) e149.next) e163.next) e176.next))) (h_Weight.lt.le (ntr (ntr (ntr (ntr (ntr (ntr (ntr (ntr (ntr (ntr e69.next e75.next) e88.next) e96.next) e108.next) e117.next) e136.next) e149.next) e163.next) e176.next) e195.next))) (hf97.djn (h_Weight.lt.le (ntr (ntr e69.next e75.next) e88.next))) (i167.djn (h_Weight.lt.le (ntr (ntr (ntr (ntr (ntr (ntr (ntr e69.next e75.next) e88.next) e96.next) e108.next) e117.next) e136.next) e149.next))) (i140.djn (h_Weight.lt.le (ntr (ntr (ntr (ntr (ntr e69.next e75.next) e88.next) e96.next) e108.next) e117.next))) (i166.djn (hm110.lt.le (ntr (ntr e117.next e136.next) e149.next))) (i139.djn (hm110.lt.le e117.next)) (i253.dj (i202.djn (hm110.lt.le (ntr (ntr (ntr (ntr e117.next e136.next) e149.next) e163.next) e176.next))) (hm110.lt.le (ntr (ntr (ntr (ntr (ntr e117.next e136.next) e149.next) e163.next) e176.next) e195.next))) (i167.djn (hm110.lt.le (ntr (ntr e117.next e136.next) e149.next))) (i140.djn (hm110.lt.le e117.next)) (i253.dj (i202.djn (m164.lt.le e176.next)) (m164.lt.le (ntr e176.next e195.next))) (i253.dj (i202.djn (m165.ltF.le e176.next)) (m165.ltF.le (ntr e176.next e195.next))) (i253.dj (i202.djn (hm98.lt.le (ntr (ntr (ntr (ntr (ntr e108.next e117.next) e136.next) e149.next) e163.next) e176.next))) (hm98.lt.le (ntr (ntr (ntr (ntr (ntr (ntr e108.next e117.next) e136.next) e149.next) e163.next) e176.next) e195.next))) hy319) ?_
       rintro _ H323 ⟨s321, f322, rfl, e324, m325, m326, m327, m328, m329, m330, m331, i332⟩
       obtain ⟨a334, n335, c336, rfl⟩ := m326.form
       refine s_nil ?_
       refine k270 _ _ ?_
       refine w_reg (by kernel_rfl) ?_
       refine s_qk (.int .i64 count6) (by kernel_rfl) ?_
       obtain ⟨g337, r338⟩ := G_some r320
       refine s_w ((count6 + 1)) (k := .i64) (x := (count6 + 1)) (by kernel_rfl) (wrap64 g337) ?_
       refine s_qk (.int .i64 (count6 + 1)) (by kernel_rfl) ?_
       refine s_nil ?_
       obtain rfl := Option.some.inj r338
       exact k261 n256 _ _ (Nat.lt_succ_self _) ⟨y318.2.1, y318.1, y318.2.2.1, y318.2.2.2.1, y318.2.2.2.2.1, y318.2.2.2.2.2, (count6 + 1), (.slice a334 n335 c336), f322, hn259, ⟨by kernel_rfl, by kernel_rfl, by kernel_rfl, trivial⟩, (FrS.step e195.wf (FrS.step e195.wf (FrS.step e195.wf (FrS.refl (W := ([b134] ++ ([b161] ++ (f106 ++ (f133 ++ (f160 ++ (f193 ++ f94))))))) e195.wf) e236 (Inn.app Inn.left (Inn.app (Inn.right Inn.left) (Inn.app (Inn.right (Inn.right Inn.left)) (Inn.app (Inn.right (Inn.right (Inn.right Inn.left))) (Inn.app (Inn.right (Inn.right (Inn.right (Inn.right Inn.left)))) (Inn.app (Inn.right (Inn.right (Inn.right (Inn.right (Inn.right Inn.left))))) (Inn.right (Inn.right (Inn.right (Inn.right (Inn.right (Inn.right Inn.refl'))))))))))))) e299 (Inn.app Inn.left (Inn.app (Inn.trans (Inn.right (Inn.right (Inn.right (Inn.right (Inn.right Inn.left))))) (Nat.le_refl _) i253) (Inn.right (Inn.right (Inn.right Inn.left)))))) e324 (Inn.app Inn.left (Inn.app (Inn.right Inn.left) (Inn.app (Inn.right (Inn.right (Inn.right (Inn.right (Inn.right (Inn.right Inn.refl')))))) (Inn.app (Inn.right (Inn.right Inn.left)) (Inn.app (Inn.trans (Inn.right (Inn.right (Inn.right (Inn.right (Inn.right Inn.left))))) (Nat.le_refl _) i253) (Inn.app (Inn.right (Inn.right (Inn.right Inn.left))) (Inn.right (Inn.right (Inn.right (Inn.right Inn.left))))))))))), m326, m325, m327, m328, m329, m330, m331, (Inn.trans (Inn.trans Inn.refl' (Nat.le_refl _) i253) (ntr e236.next e299.next) i332)⟩
    ·have r339 := ite_f h268 hz258
     refine w_exit (th_exit (th_exit (bl_eq ?_)))
     obtain rfl := Option.some.inj r339
     obtain rfl := it_inr hn259
     exact k231 _ _ ⟨(.slice a262 n263 c264), f240, ⟨by kernel_rfl, trivial⟩, (FrS.step e195.wf (FrS.refl (W := ([b134] ++ ([b161] ++ (f106 ++ (f133 ++ (f160 ++ (f193 ++ f94))))))) e195.wf) e236 (Inn.app Inn.left (Inn.app (Inn.right Inn.left) (Inn.app (Inn.right (Inn.right Inn.left)) (Inn.app (Inn.right (Inn.right (Inn.right Inn.left))) (Inn.app (Inn.right (Inn.right (Inn.right (Inn.right Inn.left)))) (Inn.app (Inn.right (Inn.right (Inn.right (Inn.right (Inn.right Inn.left))))) (Inn.right (Inn.right (Inn.right (Inn.right (Inn.right (Inn.right Inn.refl'))))))))))))), m238, m242, m244, m246, m248, m250, m252, (Inn.trans Inn.refl' (Nat.le_refl _) i253)⟩
   ·obtain ⟨s216, f217, hh232, e213, m215, m219, m221, m223, m225, m227, m229, i230⟩ := hM
    obtain ⟨β, rfl⟩ := has_ex hh232
    clear hh232
    obtain ⟨a340, n341, c342, rfl⟩ := m215.form
    refine k207 _ _ ?_
    refine w_seqk fun K343 k343 => ?_
    refine w_reg (by kernel_rfl) ?_
    refine s_qk (.pointer (some ⟨b115, 0, none⟩)) (by kernel_rfl) ?_
    refine s_qk (.pointer (some ⟨b115, 0, none⟩)) (by kernel_rfl) ?_
    refine s_nil ?_
    refine k343 _ _ ?_
    refine w_ret ?_
    refine b_ret (fn := Tryd.f50) (vs := [.pointer (some ⟨b115, 0, none⟩)]) (aRes_tmp (by kernel_rfl) (rfl)) ?_
    have u344 := ((r177.frS e195 (Dj.app (i140.djn r119.ltF) (Dj.app (i167.djn (r119.ltF.le (ntr e136.next e149.next))) (Dj.app (Dj.symm (hb118.djn (hm98.lt.le e108.next))) (Dj.app Dj.nil_l (Dj.app (i139.djn r119.ltF) (i166.djn (r119.ltF.le (ntr e136.next e149.next))))))))).frS e213 (Dj.app (i140.djn r119.ltF) (Dj.app (i167.djn (r119.ltF.le (ntr e136.next e149.next))) (Dj.app (Dj.symm (hb118.djn hm110.lt)) (Dj.app (i139.djn r119.ltF) (Dj.app (i166.djn (r119.ltF.le (ntr e136.next e149.next))) (Dj.app (i202.djn (r119.ltF.le (ntr (ntr (ntr e136.next e149.next) e163.next) e176.next))) (Dj.symm (hb118.djn (hm98.lt.le e108.next))))))))))
    obtain rfl := Option.some.inj r211
    exact ⟨(.slice a340 n341 c342), f217, (.slice a144 n145 c146), f133, b134, (.slice a171 n172 c173), f160, b161, (.slice a99 n100 c101), f94, (.slice a111 n112 c113), f106, b115, rfl, (FrS.step wf (FrS.step wf (FrS.step wf (FrS.step wf (FrS.step wf (FrS.step wf ((((FrS.step wf (((FrS.refl (W := []) wf).extR e69).extR e75) e88 Inn.nil).extR e96).extR e108).extR e117) e136 Inn.nil) e149 (hb118.fresh (ntr (ntr (ntr (ntr e69.next e75.next) e88.next) e96.next) e108.next))) e163 Inn.nil) e176 (hb118.fresh (ntr (ntr (ntr (ntr e69.next e75.next) e88.next) e96.next) e108.next))) e195 (Inn.app (i140.fresh (ntr (ntr (ntr (ntr (ntr e69.next e75.next) e88.next) e96.next) e108.next) e117.next)) (Inn.app (i167.fresh (ntr (ntr (ntr (ntr (ntr (ntr (ntr e69.next e75.next) e88.next) e96.next) e108.next) e117.next) e136.next) e149.next)) (Inn.app (hf97.fresh (ntr (ntr e69.next e75.next) e88.next)) (Inn.app Inn.nil (Inn.app (i139.fresh (ntr (ntr (ntr (ntr (ntr e69.next e75.next) e88.next) e96.next) e108.next) e117.next)) (i166.fresh (ntr (ntr (ntr (ntr (ntr (ntr (ntr e69.next e75.next) e88.next) e96.next) e108.next) e117.next) e136.next) e149.next)))))))) e213 (Inn.app (i140.fresh (ntr (ntr (ntr (ntr (ntr e69.next e75.next) e88.next) e96.next) e108.next) e117.next)) (Inn.app (i167.fresh (ntr (ntr (ntr (ntr (ntr (ntr (ntr e69.next e75.next) e88.next) e96.next) e108.next) e117.next) e136.next) e149.next)) (Inn.app (hf109.fresh (ntr (ntr (ntr e69.next e75.next) e88.next) e96.next)) (Inn.app (i139.fresh (ntr (ntr (ntr (ntr (ntr e69.next e75.next) e88.next) e96.next) e108.next) e117.next)) (Inn.app (i166.fresh (ntr (ntr (ntr (ntr (ntr (ntr (ntr e69.next e75.next) e88.next) e96.next) e108.next) e117.next) e136.next) e149.next)) (Inn.app (i202.fresh (ntr (ntr (ntr (ntr (ntr (ntr (ntr (ntr (ntr e69.next e75.next) e88.next) e96.next) e108.next) e117.next) e136.next) e149.next) e163.next) e176.next)) (hf97.fresh (ntr (ntr e69.next e75.next) e88.next))))))))), m215, m219, m221, m223, m225, m227, m229, u344, (Inn.trans (i202.fresh (ntr (ntr (ntr (ntr (ntr (ntr (ntr (ntr (ntr e69.next e75.next) e88.next) e96.next) e108.next) e117.next) e136.next) e149.next) e163.next) e176.next)) (ntr (ntr (ntr (ntr (ntr (ntr (ntr (ntr (ntr (ntr e69.next e75.next) e88.next) e96.next) e108.next) e117.next) e136.next) e149.next) e163.next) e176.next) e195.next) i230), (i139.fresh (ntr (ntr (ntr (ntr (ntr e69.next e75.next) e88.next) e96.next) e108.next) e117.next)), (i140.fresh (ntr (ntr (ntr (ntr (ntr e69.next e75.next) e88.next) e96.next) e108.next) e117.next)), (i166.fresh (ntr (ntr (ntr (ntr (ntr (ntr (ntr e69.next e75.next) e88.next) e96.next) e108.next) e117.next) e136.next) e149.next)), (i167.fresh (ntr (ntr (ntr (ntr (ntr (ntr (ntr e69.next e75.next) e88.next) e96.next) e108.next) e117.next) e136.next) e149.next)), (hf97.fresh (ntr (ntr e69.next e75.next) e88.next)), (hf109.fresh (ntr (ntr (ntr e69.next e75.next) e88.next) e96.next)), (hb118.fresh (ntr (ntr (ntr (ntr e69.next e75.next) e88.next) e96.next) e108.next)), (i230.dj (i202.djn (m137.lt.le (ntr (ntr e149.next e163.next) e176.next))) (m137.lt.le (ntr (ntr (ntr e149.next e163.next) e176.next) e195.next))), (i230.dj (i202.djn (m138.ltF.le (ntr (ntr e149.next e163.next) e176.next))) (m138.ltF.le (ntr (ntr (ntr e149.next e163.next) e176.next) e195.next))), d141, (i230.dj (i202.djn (m164.lt.le e176.next)) (m164.lt.le (ntr e176.next e195.next))), (Dj.symm (i166.djn (m137.lt.le e149.next))), (Dj.symm (i166.djn (m138.ltF.le e149.next))), (i230.dj (i202.djn (m165.ltF.le e176.next)) (m165.ltF.le (ntr e176.next e195.next))), (Dj.symm (i167.djn (m137.lt.le e149.next))), (Dj.symm (i167.djn (m138.ltF.le e149.next))), d168, (i230.dj (i202.djn (hm98.lt.le (ntr (ntr (ntr (ntr (ntr e108.next e117.next) e136.next) e149.next) e163.next) e176.next))) (hm98.lt.le (ntr (ntr (ntr (ntr (ntr (ntr e108.next e117.next) e136.next) e149.next) e163.next) e176.next) e195.next))), (i139.djn (hm98.lt.le (ntr e108.next e117.next))), (i140.djn (hm98.lt.le (ntr e108.next e117.next))), (i166.djn (hm98.lt.le (ntr (ntr (ntr e108.next e117.next) e136.next) e149.next))), (i167.djn (hm98.lt.le (ntr (ntr (ntr e108.next e117.next) e136.next) e149.next))), (i230.dj (i202.djn (hm110.lt.le (ntr (ntr (ntr (ntr e117.next e136.next) e149.next) e163.next) e176.next))) (hm110.lt.le (ntr (ntr (ntr (ntr (ntr e117.next e136.next) e149.next) e163.next) e176.next) e195.next))), (i139.djn (hm110.lt.le e117.next)), (i140.djn (hm110.lt.le e117.next)), (i166.djn (hm110.lt.le (ntr (ntr e117.next e136.next) e149.next))), (i167.djn (hm110.lt.le (ntr (ntr e117.next e136.next) e149.next))), (Dj.symm (hf109.djn hm98.lt)), (i230.dj (i202.djn (r119.ltF.le (ntr (ntr (ntr e136.next e149.next) e163.next) e176.next))) (r119.ltF.le (ntr (ntr (ntr (ntr e136.next e149.next) e163.next) e176.next) e195.next))), (i139.djn r119.ltF), (i140.djn r119.ltF), (i166.djn (r119.ltF.le (ntr e136.next e149.next))), (i167.djn (r119.ltF.le (ntr e136.next e149.next))), (Dj.symm (hb118.djn (hm98.lt.le e108.next))), (Dj.symm (hb118.djn hm110.lt))⟩

theorem c_search_state_all {H : AH} {b_st : Nat} {hd_st_ : Value} {fp_st_ : Fp} {hd_st_2 : Value} {fp_st_2 : Fp} {hd_st_3 : Value} {fp_st_3 : Fp} {b_st_4 : Nat} {hd_st_5 : Value} {fp_st_5 : Fp} {hd_st_6 : Value} {fp_st_6 : Fp} {b_st_7 : Nat} {hd_st_8 : Value} {fp_st_8 : Fp} {hd_st_11 : Value} {fp_st_11 : Fp} {hd_st_12 : Value} {fp_st_12 : Fp} {st_ : List (Int)} {st_2 : List (Int)} {st_3 : List (Int)} {st_5 : List (Int × Int)} {st_6 : List (Int)} {st_8 : List (Int × Int)} {st_9 : Int} {st_10 : Int} {st_11 : List (Int)} {st_12 : List (Bool)} {r : List (Int)}
  (wf : WF H) (h_st_ : Sq (encI .i64) 1 H hd_st_ st_ fp_st_) (h_st_2 : Sq (encI .i64) 1 H hd_st_2 st_2 fp_st_2) (h_st_3 : Sq (encI .i64) 1 H hd_st_3 st_3 fp_st_3) (h_st_5 : Sq enc_u64_u32 2 H hd_st_5 st_5 fp_st_5) (h_st_6 : Sq (encI .i64) 1 H hd_st_6 st_6 fp_st_6) (h_st_4 : Row H b_st_4 [hd_st_5, hd_st_6]) (h_st_8 : Sq enc_u64_u32 2 H hd_st_8 st_8 fp_st_8) (h_st_7 : Row H b_st_7 [hd_st_8, .int .u32 st_9, .int .i64 st_10]) (h_st_11 : Sq (encI .i64) 1 H hd_st_11 st_11 fp_st_11) (h_st_12 : Sq encB 1 H hd_st_12 st_12 fp_st_12) (h_st : Row H b_st [hd_st_, hd_st_2, hd_st_3, .pointer (some ⟨b_st_4, 0, none⟩), .pointer (some ⟨b_st_7, 0, none⟩), hd_st_11, hd_st_12]) (hr : z_search_state_all st_ st_2 st_3 st_5 st_6 st_8 st_9 st_10 st_11 st_12 = some r) :
  ACalls Tryd.prog 58 #[.pointer (some ⟨b_st, 0, none⟩)] H fun v H' => ∃ (s3 : Value) (f4 : Fp), v = s3 ∧ FrS [] H H' ∧ Ow (encI .u64) 1 H' s3 r f4 ∧ Inn [] H f4 := by
 refine acalls_of_body mixed Tryd.func58 rfl (Nat.le_of_ble_eq_true rfl) ?_
 unfold z_search_state_all at hr
 refine w_seqk fun K6 k6 => ?_
 refine w_reg (by kernel_rfl) ?_
 refine s_qk (.slice none 0 0) (by kernel_rfl) ?_
 refine s_nil ?_
 refine k6 _ _ ?_
 refine w_seqk fun K7 k7 => ?_
 refine w_reg (by kernel_rfl) ?_
 refine s_qk (.pointer (some ⟨b_st, 0, none⟩)) (by kernel_rfl) ?_
 refine s_qk (.pointer (some ⟨b_st, 0, none⟩)) (by kernel_rfl) ?_
 refine s_qk (.pointer (some ⟨b_st, 0, none⟩)) (by kernel_rfl) ?_
 refine s_ql (.agg #[hd_st_, hd_st_2, hd_st_3]) (x := aLoad Tryd.prog 40 (.pointer (some ⟨b_st, 0, none⟩)) H) (by kernel_rfl) (h_st.ld (by kernel_rfl)) ?_
 obtain ⟨y8, hy9, r10⟩ := bind_some hr
 refine s_ck 60 #[.agg #[hd_st_, hd_st_2, hd_st_3]] (by kernel_rfl) (c_search_nodes wf h_st_ h_st_2 h_st_3 hy9) ?_
 rintro _ H11 ⟨rfl, e12⟩
 obtain ⟨g13, r14⟩ := G_some r10
 refine s_mks (t := 47) (m := 8) (l := y8) (c := y8) (enc := (encI .u64)) (sz := 1) e12.wf (0 : Int) (by kernel_rfl) (by decide) g13.1 (Int.le_refl _) (by omega) (by have := g13; omega) (by kernel_rfl) fun s15 f16 H17 e18 hf19 hm20 => ?_
 obtain ⟨a21, n22, c23, rfl⟩ := hm20.form
 have hm20 : Ow (encI .u64) 1 H17 (.slice a21 n22 c23) (List.replicate y8.toNat (0 : Int)) f16 := hm20
 refine s_qk (.slice a21 n22 c23) (by kernel_rfl) ?_
 refine s_nil ?_
 refine k7 _ _ ?_
 refine w_seqk fun K25 k25 => ?_
 refine w_seqk fun K26 k26 => ?_
 refine w_reg (by kernel_rfl) ?_
 refine s_qk (.slice a21 n22 c23) (by kernel_rfl) ?_
 refine s_ql (.int .i64 ((List.replicate y8.toNat (0 : Int)).length : Int)) (x := aLen Tryd.prog 47 (.slice a21 n22 c23) H17) (by kernel_rfl) (hm20.sq.lenb (by kernel_rfl)) ?_
 refine s_qk (.int .i64 0) (by kernel_rfl) ?_
 refine s_nil ?_
 refine k26 _ _ ?_
 obtain ⟨o27, hx28, r29⟩ := bind_some r14
 refine w_mid (fun α H30 => Has α [(3, .slice a21 n22 c23)] ∧ FrS f16 H17 H30 ∧ Ow (encI .u64) 1 H30 (.slice a21 n22 c23) o27 f16) (fun K34 k34 => ?_) (fun α H30 hM => ?_)
 ·refine w_block ?_
  obtain ⟨n36, hn37⟩ := loopO_iff.1 hx28
  refine w_loopn (fun n α H38 => ∃ (i0 : Int), ∃ (l1 : List (Int)), iterO (fun zz_ => z_search_state_all_l0 st_8 st_9 st_10 y8 zz_.1 zz_.2) n (i0, l1) = some o27 ∧ Has α [(0, .pointer (some ⟨b_st, 0, none⟩)), (3, .slice a21 n22 c23), (14, .int .i64 ((List.replicate y8.toNat (0 : Int)).length : Int)), (15, .int .i64 i0)] ∧ FrS f16 H17 H38 ∧ Ow (encI .u64) 1 H38 (.slice a21 n22 c23) l1 f16) n36 ⟨0, (List.replicate y8.toNat (0 : Int)), hn37, ⟨by kernel_rfl, by kernel_rfl, by kernel_rfl, by kernel_rfl, trivial⟩, (FrS.refl (W := f16) e18.wf), hm20⟩ ?_
  rintro n36 α H38 ⟨i0, l1, hi43, hh42, e39, m41⟩ K48 k48
  obtain ⟨n44, z45, rfl, hz46, hn47⟩ := iter_succ hi43
  obtain ⟨β, rfl⟩ := has_ex hh42
  clear hh42
  replace hz46 : z_search_state_all_l0 st_8 st_9 st_10 y8 i0 l1 = some z45 := hz46
  unfold z_search_state_all_l0 at hz46
  refine w_seqk fun K49 k49 => ?_
  refine w_reg (by kernel_rfl) ?_
  refine s_qk (.bool (decide (i0 < ((List.replicate y8.toNat (0 : Int)).length : Int)))) (by kernel_rfl) ?_
  refine s_nil ?_
  refine k49 _ _ ?_
  refine w_seqk fun K50 k50 => ?_
  refine w_condp (i0 < ((List.replicate y8.toNat (0 : Int)).length : Int)) (by kernel_rfl) rfl (fun h51 => ?_) (fun h51 => ?_)
  ·have r52 := ite_t h51 hz46
   refine w_skip ?_
   refine k50 _ _ ?_
   refine w_seqk fun K53 k53 => ?_
   refine w_block ?_
   refine w_seqk fun K54 k54 => ?_
   refine w_reg (by kernel_rfl) ?_
   refine s_qk (.int .i64 i0) (by kernel_rfl) ?_
   refine s_qk (.int .i64 i0) (by kernel_rfl) ?_
   refine s_nil ?_
   refine k54 _ _ ?_
   refine w_seqk fun K55 k55 => ?_
   refine w_reg (by kernel_rfl) ?_
   refine s_qk (.pointer (some ⟨b_st, 0, none⟩)) (by kernel_rfl) ?_
   refine s_qk (.pointer (some ⟨b_st, 0, none⟩)) (by kernel_rfl) ?_
   refine s_qk (.pointer (some ⟨b_st, 4, none⟩)) (by kernel_rfl) ?_
   have u56 := (((h_st.frS e12 Dj.nil_l).ext e18).frS e39 (hf19.djn (h_st.ltF.le e12.next)))
   refine s_ql (.pointer (some ⟨b_st_7, 0, none⟩)) (x := aLoad Tryd.prog 103 (.pointer (some ⟨b_st, 4, none⟩)) H38) (by kernel_rfl) (u56.ld (by kernel_rfl)) ?_
   refine s_qk (.int .i64 i0) (by kernel_rfl) ?_
   have u57 := (((h_st_8.fr e12 Dj.nil_l).ext e18).fr e39 (hf19.djn (h_st_8.lt.le e12.next)))
   have u58 := (((h_st_7.frS e12 Dj.nil_l).ext e18).frS e39 (hf19.djn (h_st_7.ltF.le e12.next)))
   obtain ⟨y59, hy60, r61⟩ := bind_some r52
   refine s_ck 62 #[.pointer (some ⟨b_st_7, 0, none⟩), .int .i64 i0] (by kernel_rfl) (c_stamp_Stamp_Get e39.wf u57 u58 hy60) ?_
   rintro _ _ ⟨rfl, rfl⟩
   refine s_qk (.tuple #[.int .u64 y59.1, .bool y59.2]) (by kernel_rfl) ?_
   refine s_qk (.int .u64 y59.1) (by kernel_rfl) ?_
   refine s_qk (.bool y59.2) (by kernel_rfl) ?_
   refine s_qk (.int .u64 y59.1) (by kernel_rfl) ?_
   refine s_qk (.bool y59.2) (by kernel_rfl) ?_
   refine s_nil ?_
   refine k55 _ _ ?_
   refine w_seqk fun K64 k64 => ?_
   refine w_seqk fun K65 k65 => ?_
   refine w_reg (by kernel_rfl) ?_
   refine s_qk (.bool y59.2) (by kernel_rfl) ?_
   refine s_qk (.bool (!y59.2)) (by kernel_rfl) ?_
   refine s_nil ?_
   refine k65 _ _ ?_
   refine w_cond ((!y59.2)) (by kernel_rfl) rfl (fun h66 => ?_) (fun h66 => ?_)
   ·have r67 := ite_t h66 r61
    refine w_reg (by kernel_rfl) ?_
    refine s_qk (.int .u64 18446744073709551615) (by kernel_rfl) ?_
    refine s_nil ?_
    refine k64 _ _ ?_
    refine w_reg (by kernel_rfl) ?_
    refine s_qk (.slice a21 n22 c23) (by kernel_rfl) ?_
    refine s_qk (.int .i64 i0) (by kernel_rfl) ?_
    refine s_qk (.int .u64 18446744073709551615) (by kernel_rfl) ?_
    obtain ⟨g68, r69⟩ := G_some r67
    refine s_ql (elp (.slice a21 n22 c23) 1 i0.toNat 0) (x := aIndexAddr Tryd.prog 47 (.slice a21 n22 c23) (.int .i64 i0)) (by kernel_rfl) (m41.sq.idxb (by kernel_rfl) g68.1 g68.2) ?_
    obtain ⟨H70, q71, e72, hm73⟩ := Ow.store (P := Tryd.prog) (t := 42) (off := 0) e39.wf m41 g68.1 g68.2 (.int .u64 18446744073709551615) [.int .u64 18446744073709551615] (by kernel_rfl) (by kernel_rfl) rfl 18446744073709551615 (Nat.le_of_ble_eq_true rfl) (by kernel_rfl)
    refine s_ek (undef) (by kernel_rfl) (map_ok q71) ?_
    refine s_nil ?_
    refine k53 _ _ ?_
    refine w_reg (by kernel_rfl) ?_
    obtain ⟨g74, r75⟩ := G_some r69
    refine s_w ((i0 + 1)) (k := .i64) (x := (i0 + 1)) (by kernel_rfl) (wrap64 (by have := g74; omega)) ?_
    refine s_qk (.int .i64 (i0 + 1)) (by kernel_rfl) ?_
    refine s_nil ?_
    obtain rfl := Option.some.inj r75
    exact k48 n44 _ _ (Nat.lt_succ_self _) ⟨(i0 + 1), (l1.set i0.toNat 18446744073709551615), hn47, ⟨by kernel_rfl, by kernel_rfl, by kernel_rfl, by kernel_rfl, trivial⟩, (FrS.step e18.wf (FrS.step e18.wf (FrS.refl (W := f16) e18.wf) e39 Inn.refl') e72 Inn.refl'), hm73⟩
   ·have r76 := ite_bf h66 r61
    refine w_skip ?_
    refine k64 _ _ ?_
    refine w_reg (by kernel_rfl) ?_
    refine s_qk (.slice a21 n22 c23) (by kernel_rfl) ?_
    refine s_qk (.int .i64 i0) (by kernel_rfl) ?_
    refine s_qk (.int .u64 y59.1) (by kernel_rfl) ?_
    obtain ⟨g77, r78⟩ := G_some r76
    refine s_ql (elp (.slice a21 n22 c23) 1 i0.toNat 0) (x := aIndexAddr Tryd.prog 47 (.slice a21 n22 c23) (.int .i64 i0)) (by kernel_rfl) (m41.sq.idxb (by kernel_rfl) g77.1 g77.2) ?_
    obtain ⟨H79, q80, e81, hm82⟩ := Ow.store (P := Tryd.prog) (t := 42) (off := 0) e39.wf m41 g77.1 g77.2 (.int .u64 y59.1) [.int .u64 y59.1] (by kernel_rfl) (by kernel_rfl) rfl y59.1 (Nat.le_of_ble_eq_true rfl) (by kernel_rfl)
    refine s_ek (undef) (by kernel_rfl) (map_ok q80) ?_
    refine s_nil ?_
    refine k53 _ _ ?_
    refine w_reg (by kernel_rfl) ?_
    obtain ⟨g83, r84⟩ := G_some r78
    refine s_w ((i0 + 1)) (k := .i64) (x := (i0 + 1)) (by kernel_rfl) (wrap64 (by have := g83; omega)) ?_
    refine s_qk (.int .i64 (i0 + 1)) (by kernel_rfl) ?_
    refine s_nil ?_
    obtain rfl := Option.some.inj r84
    exact k48 n44 _ _ (Nat.lt_succ_self _) ⟨(i0 + 1), (l1.set i0.toNat y59.1), hn47, ⟨by kernel_rfl, by kernel_rfl, by kernel_rfl, by kernel_rfl, trivial⟩, (FrS.step e18.wf (FrS.step e18.wf (FrS.refl (W := f16) e18.wf) e39 Inn.refl') e81 Inn.refl'), hm82⟩
  ·have r85 := ite_f h51 hz46
   refine w_exit (th_exit (th_exit (bl_eq ?_)))
   obtain rfl := Option.some.inj r85
   obtain rfl := it_inr hn47
   exact k34 _ _ ⟨⟨by kernel_rfl, trivial⟩, (FrS.step e18.wf (FrS.refl (W := f16) e18.wf) e39 Inn.refl'), m41⟩
 ·obtain ⟨hh35, e31, m33⟩ := hM
  obtain ⟨β, rfl⟩ := has_ex hh35
  clear hh35
  refine k25 _ _ ?_
  refine w_seqk fun K86 k86 => ?_
  refine w_reg (by kernel_rfl) ?_
  refine s_qk (.slice a21 n22 c23) (by kernel_rfl) ?_
  refine s_qk (.slice a21 n22 c23) (by kernel_rfl) ?_
  refine s_nil ?_
  refine k86 _ _ ?_
  refine w_ret ?_
  refine b_ret (fn := Tryd.f58) (vs := [.slice a21 n22 c23]) (aRes_tmp (by kernel_rfl) (rfl)) ?_
  obtain rfl := Option.some.inj r29
  exact ⟨(.slice a21 n22 c23), f16, rfl, (FrS.step wf ((FrS.step wf (FrS.refl (W := []) wf) e12 Inn.nil).extR e18) e31 (hf19.fresh e12.next)), m33, (hf19.fresh e12.next)⟩


end Go.Vd

/-! (KSf4) -/

set_option maxRecDepth 100000
set_option maxHeartbeats 4000000
set_option linter.unusedVariables false
namespace Go.Vd
open Go.Proofs
attribute [local irreducible] wpSeq wpOrd aWp
theorem c_search_From {H : AH} {hd_First : Value} {fp_First : Fp} {hd_To : Value} {fp_To : Fp} {hd_Weight : Value} {fp_Weight : Fp} {First : List (Int)} {To : List (Int)} {Weight : List (Int)} {s : Int} {r : List (Int) × Er}
  (wf : WF H) (h_First : Sq (encI .i64) 1 H hd_First First fp_First) (h_To : Sq (encI .i64) 1 H hd_To To fp_To) (h_Weight : Sq (encI .i64) 1 H hd_Weight Weight fp_Weight) (hr : z_search_From First To Weight s = some r) :
  ACalls Tryd.prog 26 #[.agg #[hd_First, hd_To, hd_Weight], .int .i64 s] H fun v H' => ∃ (s3 : Value) (f4 : Fp) (v7 : Value) (f8 : Fp), v = .tuple #[s3, v7] ∧ FrS [] H H' ∧ Ow (encI .u64) 1 H' s3 r.1 f4 ∧ Ev 80 86 H' v7 r.2 f8 ∧ Inn [] H f4 ∧ Inn [] H f8 ∧ Dj f4 f8 := by
 refine acalls_of_body mixed Tryd.func26 rfl (Nat.le_of_ble_eq_true rfl) ?_
 unfold z_search_From at hr
 refine w_seqk fun K12 k12 => ?_
 refine w_reg (by kernel_rfl) ?_
 refine s_rwl wf [hd_First, hd_To, hd_Weight] (one_cons (h_First.one1) (one_cons (h_To.one1) (one_cons (h_Weight.one1) (one_nil)))) (by kernel_rfl) fun b13 H14 e15 hb16 r17 => ?_
 refine s_qk (.slice none 0 0) (by kernel_rfl) ?_
 refine s_qk (.nilIface) (by kernel_rfl) ?_
 refine s_nil ?_
 refine k12 _ _ ?_
 refine w_seqk fun K19 k19 => ?_
 refine w_seqk fun K20 k20 => ?_
 refine w_reg (by kernel_rfl) ?_
 refine s_ql (.agg #[hd_First, hd_To, hd_Weight]) (x := aLoad Tryd.prog 40 (.pointer (some ⟨b13, 0, none⟩)) H14) (by kernel_rfl) (r17.ld (by kernel_rfl)) ?_
 refine s_qk (.int .i64 s) (by kernel_rfl) ?_
 refine s_owk (enc := (encI .i64)) (sz := 1) e15.wf [s] 1 (by decide) (fun _ _ => rfl) (fun _ _ => rfl) rfl (by kernel_rfl) fun s21 f22 H23 e24 hf25 hm26 => ?_
 obtain ⟨a27, n28, c29, rfl⟩ := hm26.form
 have u31 := ((h_First.ext e15).ext e24)
 have u32 := ((h_To.ext e15).ext e24)
 have u33 := ((h_Weight.ext e15).ext e24)
 obtain ⟨y34, hy35, r36⟩ := bind_some hr
 refine s_ck 49 #[.agg #[hd_First, hd_To, hd_Weight], .slice a27 n28 c29] (by kernel_rfl) (c_search_node e24.wf u31 u32 u33 hm26.sq hy35) ?_
 rintro v37 H39 ⟨_, f38, rfl, e40, m41, i42⟩
 refine s_qk (v37) (by kernel_rfl) ?_
 refine s_nil ?_
 refine k20 _ _ ?_
 refine w_seqk fun K44 k44 => ?_
 refine w_reg (by kernel_rfl) ?_
 refine s_qk (v37) (by kernel_rfl) ?_
 rcases (m41).cases with ⟨h45, rfl⟩ | ⟨h45, t46, x47, rfl⟩
 ·have r48 := ite_t h45 r36
  refine s_qk (.bool false) (by kernel_rfl) ?_
  refine s_nil ?_
  refine k44 _ _ ?_
  refine w_cond false (by kernel_rfl) rfl (fun h => by cases h) (fun _ => ?_)
  refine w_skip ?_
  refine k19 _ _ ?_
  refine w_seqk fun K49 k49 => ?_
  refine w_draw [0, 1, 2, 3, 4, 5, 6] (by kernel_rfl) ?_
  have u50 := ((r17.ext e24).frS e40 Dj.nil_l)
  refine d_fl (.agg #[hd_First, hd_To, hd_Weight]) (x := aLoad Tryd.prog 40 (.pointer (some ⟨b13, 0, none⟩)) H39) (by kernel_rfl) (u50.ld (by kernel_rfl)) ?_
  refine d_qk (.int .i64 s) (by kernel_rfl) ?_
  obtain ⟨y51, hy52, r53⟩ := bind_some r48
  refine d_ck 51 #[] (by kernel_rfl) (c_search_free e40.wf hy52) ?_
  rintro _ H54 ⟨rfl, e55⟩
  have u56 := (u50.frS e55 Dj.nil_l)
  refine ⟨st_ql (y := aLoad Tryd.prog 40 (.pointer (some ⟨b13, 0, none⟩)) H54) (by kernel_rfl) (u56.ld (by kernel_rfl)) (st_nil), ?_⟩
  have u57 := ((u31.fr e40 Dj.nil_l).fr e55 Dj.nil_l)
  have u58 := ((u32.fr e40 Dj.nil_l).fr e55 Dj.nil_l)
  have u59 := ((u33.fr e40 Dj.nil_l).fr e55 Dj.nil_l)
  obtain ⟨y60, hy61, r62⟩ := bind_some r53
  refine d_ck 50 #[.agg #[hd_First, hd_To, hd_Weight], .int .i64 s, .agg #[.int .i64 4611686018427387904, .int .i64 4611686018427387904, .int .u64 18446744073709551615]] (by kernel_rfl) (c_search_run e55.wf u57 u58 u59 hy61) ?_
  rintro _ H76 ⟨s63, f64, s65, f66, b67, s68, f69, b70, s71, f72, s73, f74, b75, rfl, e77, m78, m79, m80, m81, m82, m83, m84, m85, i86, i87, i88, i89, i90, i91, i92, i93, d94, d95, d96, d97, d98, d99, d100, d101, d102, d103, d104, d105, d106, d107, d108, d109, d110, d111, d112, d113, d114, d115, d116, d117, d118, d119, d120, d121⟩
  obtain ⟨a130, n131, c132, rfl⟩ := m78.form
  obtain ⟨a133, n134, c135, rfl⟩ := m79.form
  obtain ⟨a136, n137, c138, rfl⟩ := m81.form
  obtain ⟨a139, n140, c141, rfl⟩ := m83.form
  obtain ⟨a142, n143, c144, rfl⟩ := m84.form
  refine ⟨st_anc (by kernel_rfl) (st_nil), ?_⟩
  have u145 := (u57.fr e77 Dj.nil_l)
  have u146 := (u58.fr e77 Dj.nil_l)
  have u147 := (u59.fr e77 Dj.nil_l)
  obtain ⟨y148, hy149, r150⟩ := bind_some r62
  refine d_ck 58 #[.pointer (some ⟨b75, 0, none⟩)] (by kernel_rfl) (c_search_state_all e77.wf u145 u146 u147 m78.sq m79.sq m80 m81.sq m82 m83.sq m84.sq m85 hy149) ?_
  rintro s151 H153 ⟨_, f152, rfl, e154, m155, i156⟩
  obtain ⟨a158, n159, c160, rfl⟩ := m155.form
  refine ⟨st_anc (by kernel_rfl) (st_nil), ?_⟩
  refine d_qk (.slice a158 n159 c160) (by kernel_rfl) ?_
  refine d_qk (.nilIface) (by kernel_rfl) ?_
  refine d_nil ?_
  refine k49 _ _ ?_
  refine w_ret ?_
  refine b_ret (fn := Tryd.f26) (vs := [.slice a158 n159 c160, .nilIface]) (aRes_tmp (by kernel_rfl) (aRes_tmp (by kernel_rfl) (rfl))) ?_
  obtain rfl := Option.some.inj r150
  exact ⟨(.slice a158 n159 c160), f152, (.nilIface), [], rfl, (FrS.step wf (FrS.step wf (FrS.step wf (FrS.step wf (((FrS.refl (W := []) wf).extR e15).extR e24) e40 Inn.nil) e55 Inn.nil) e77 Inn.nil) e154 Inn.nil), m155, Ev.nil, (i156.fresh (ntr (ntr (ntr (ntr e15.next e24.next) e40.next) e55.next) e77.next)), Inn.nil, Dj.nil_r⟩
 ·have r161 := ite_f h45 r36
  refine s_ql (.bool true) (x := aBin Tryd.prog .neq 25 (.tmp 11) (.const .nilIface) (.iface t46 x47) .nilIface) (by kernel_rfl) (aBin_nnil (by kernel_rfl)) ?_
  refine s_nil ?_
  refine k44 _ _ ?_
  refine w_cond true (by kernel_rfl) rfl (fun _ => ?_) (fun h => by cases h)
  refine w_seqk fun K162 k162 => ?_
  refine w_reg (by kernel_rfl) ?_
  refine s_qk (.iface t46 x47) (by kernel_rfl) ?_
  refine s_qk (.slice none 0 0) (by kernel_rfl) ?_
  refine s_qk (.iface t46 x47) (by kernel_rfl) ?_
  refine s_nil ?_
  refine k162 _ _ ?_
  refine w_ret (th_ret ?_)
  refine b_ret (fn := Tryd.f26) (vs := [.slice none 0 0, .iface t46 x47]) (aRes_tmp (by kernel_rfl) (aRes_tmp (by kernel_rfl) (rfl))) ?_
  obtain rfl := Option.some.inj r161
  exact ⟨(.slice none 0 0), [], (.iface t46 x47), f38, rfl, (FrS.step wf (((FrS.refl (W := []) wf).extR e15).extR e24) e40 Inn.nil), (Ow.nil (by decide)), m41, Inn.nil, (i42.fresh (ntr e15.next e24.next)), Dj.nil_l⟩

theorem c_viaductref05_Node {H : AH} {hd_First : Value} {fp_First : Fp} {hd_To : Value} {fp_To : Fp} {hd_Weight : Value} {fp_Weight : Fp} {First : List (Int)} {To : List (Int)} {Weight : List (Int)} {v_ : Int} {r : Bool}
  (wf : WF H) (h_First : Sq (encI .i64) 1 H hd_First First fp_First) (h_To : Sq (encI .i64) 1 H hd_To To fp_To) (h_Weight : Sq (encI .i64) 1 H hd_Weight Weight fp_Weight) (hr : z_viaductref05_Node First To Weight v_ = some r) :
  ACalls Tryd.prog 55 #[.agg #[hd_First, hd_To, hd_Weight], .int .i64 v_] H fun v H' => v = .bool r ∧ FrS [] H H' := by
 refine acalls_of_body mixed Tryd.func55 rfl (Nat.le_of_ble_eq_true rfl) ?_
 unfold z_viaductref05_Node at hr
 refine w_seqk fun K1 k1 => ?_
 refine w_reg (by kernel_rfl) ?_
 refine s_rwl wf [hd_First, hd_To, hd_Weight] (one_cons (h_First.one1) (one_cons (h_To.one1) (one_cons (h_Weight.one1) (one_nil)))) (by kernel_rfl) fun b2 H3 e4 hb5 r6 => ?_
 refine s_qk (.bool false) (by kernel_rfl) ?_
 refine s_nil ?_
 refine k1 _ _ ?_
 refine w_seqk fun K8 k8 => ?_
 refine w_reg (by kernel_rfl) ?_
 refine s_qk (.int .i64 v_) (by kernel_rfl) ?_
 refine s_b (v_ ≥ 0) (by kernel_rfl) (fun h9 => ?_) (fun h9 => ?_)
 ·have r10 := ite_t h9 hr
  refine s_qk (.bool true) (by kernel_rfl) ?_
  refine s_qk (.int .i64 v_) (by kernel_rfl) ?_
  refine s_qk (.pointer (some ⟨b2, 0, none⟩)) (by kernel_rfl) ?_
  refine s_ql (hd_First) (x := aLoad Tryd.prog 22 (.pointer (some ⟨b2, 0, none⟩)) H3) (by kernel_rfl) (r6.ld (by kernel_rfl)) ?_
  have u11 := (h_First.ext e4)
  refine s_ql (.int .i64 (First.length : Int)) (x := aLen Tryd.prog 22 hd_First H3) (by kernel_rfl) (u11.lenb (by kernel_rfl)) ?_
  obtain ⟨g12, r13⟩ := G_some r10
  refine s_w (((First.length : Int) - 1)) (k := .i64) (x := ((First.length : Int) - 1)) (by kernel_rfl) (wrap64 g12) ?_
  refine s_qk (.bool (decide (v_ < ((First.length : Int) - 1)))) (by kernel_rfl) ?_
  refine s_qk (.bool (decide (v_ < ((First.length : Int) - 1)))) (by kernel_rfl) ?_
  refine s_qk (.bool (decide (v_ < ((First.length : Int) - 1)))) (by kernel_rfl) ?_
  refine s_nil ?_
  refine k8 _ _ ?_
  refine w_ret ?_
  refine b_ret (fn := Tryd.f55) (vs := [.bool (decide (v_ < ((First.length : Int) - 1)))]) (aRes_tmp (by kernel_rfl) (rfl)) ?_
  obtain rfl := Option.some.inj r13
  exact ⟨rfl, ((FrS.refl (W := []) wf).extR e4)⟩
 ·have r14 := ite_f h9 hr
  refine s_qk (.bool false) (by kernel_rfl) ?_
  refine s_no (by kernel_rfl) ?_
  refine s_no (by kernel_rfl) ?_
  refine s_no (by kernel_rfl) ?_
  refine s_no (by kernel_rfl) ?_
  refine s_no (by kernel_rfl) ?_
  refine s_no (by kernel_rfl) ?_
  refine s_qk (.bool false) (by kernel_rfl) ?_
  refine s_qk (.bool false) (by kernel_rfl) ?_
  refine s_nil ?_
  refine k8 _ _ ?_
  refine w_ret ?_
  refine b_ret (fn := Tryd.f55) (vs := [.bool false]) (aRes_tmp (by kernel_rfl) (rfl)) ?_
  obtain rfl := Option.some.inj r14
  exact ⟨rfl, ((FrS.refl (W := []) wf).extR e4)⟩

theorem c_viaductref08_node {H : AH} {hd_First : Value} {fp_First : Fp} {hd_To : Value} {fp_To : Fp} {hd_Weight : Value} {fp_Weight : Fp} {First : List (Int)} {To : List (Int)} {Weight : List (Int)} {s : Int} {r : Int × List (Int × Int)}
  (wf : WF H) (h_First : Sq (encI .i64) 1 H hd_First First fp_First) (h_To : Sq (encI .i64) 1 H hd_To To fp_To) (h_Weight : Sq (encI .i64) 1 H hd_Weight Weight fp_Weight) (hr : z_viaductref08_node First To Weight s = some r) :
  ACalls Tryd.prog 54 #[.agg #[hd_First, hd_To, hd_Weight], .int .i64 s] H fun v H' => ∃ (s3 : Value) (f4 : Fp), v = .agg #[.int .i64 r.1, s3] ∧ FrS [] H H' ∧ Ow enc_i64_i64 2 H' s3 r.2 f4 ∧ Inn [] H f4 := by
 refine acalls_of_body mixed Tryd.func54 rfl (Nat.le_of_ble_eq_true rfl) ?_
 unfold z_viaductref08_node at hr
 refine w_seqk fun K6 k6 => ?_
 refine w_reg (by kernel_rfl) ?_
 refine s_rwl wf [hd_First, hd_To, hd_Weight] (one_cons (h_First.one1) (one_cons (h_To.one1) (one_cons (h_Weight.one1) (one_nil)))) (by kernel_rfl) fun b7 H8 e9 hb10 r11 => ?_
 refine s_rwk e9.wf [.int .i64 0, .slice none 0 0] (by kernel_rfl) fun b13 H14 e15 hb16 r17 => ?_
 refine s_nil ?_
 refine k6 _ _ ?_
 refine w_seqk fun K19 k19 => ?_
 refine w_reg (by kernel_rfl) ?_
 have u20 := (r11.ext e15)
 refine s_ql (.agg #[hd_First, hd_To, hd_Weight]) (x := aLoad Tryd.prog 37 (.pointer (some ⟨b7, 0, none⟩)) H14) (by kernel_rfl) (u20.ld (by kernel_rfl)) ?_
 have u21 := ((h_First.ext e9).ext e15)
 have u22 := ((h_To.ext e9).ext e15)
 have u23 := ((h_Weight.ext e9).ext e15)
 obtain ⟨y24, hy25, r26⟩ := bind_some hr
 refine s_ck 48 #[.agg #[hd_First, hd_To, hd_Weight]] (by kernel_rfl) (c_viaductref05_DocCheck e15.wf u21 u22 u23 hy25) ?_
 rintro _ H29 ⟨s27, f28, rfl, e30, m31, i32⟩
 obtain ⟨a34, n35, c36, rfl⟩ := m31.form
 refine s_rwk e30.wf [.int .i64 0, .slice none 0 0] (by kernel_rfl) fun b37 H38 e39 hb40 r41 => ?_
 have u47 := (m31.ext e39)
 obtain ⟨H43, q44, e45, r46⟩ := Row.store (P := Tryd.prog) (t := 31) (p := 0) e39.wf r41 (.agg #[.int .i64 y24.1, .slice a34 n35 c36]) [.int .i64 y24.1, .slice a34 n35 c36] (by kernel_rfl) (by kernel_rfl) (one_cons (rfl) (one_cons (u47.one1) (one_nil))) (Nat.le_of_ble_eq_true (by kernel_rfl)) [.int .i64 y24.1, .slice a34 n35 c36] (by kernel_rfl)
 refine s_ek (undef) (by kernel_rfl) (map_ok q44) ?_
 refine s_nil ?_
 refine k19 _ _ ?_
 refine w_seqk fun K48 k48 => ?_
 refine w_seqk fun K49 k49 => ?_
 obtain ⟨o50, hx51, r52⟩ := bind_some r26
 refine w_mid (fun α H53 => Has α [(4, .pointer (some ⟨b13, 0, none⟩)), (5, .pointer (some ⟨b37, 0, none⟩)), (16, .bool o50)] ∧ FrS [] H43 H53) (fun K55 k55 => ?_) (fun α H53 hM => ?_)
 ·refine w_reg (by kernel_rfl) ?_
  refine s_ql (.agg #[.int .i64 y24.1, .slice a34 n35 c36]) (x := aLoad Tryd.prog 31 (.pointer (some ⟨b37, 0, none⟩)) H43) (by kernel_rfl) (r46.ld (by kernel_rfl)) ?_
  have u57 := (u47.fr e45 (hb40.djn m31.lt))
  obtain ⟨y58, hy59, r60⟩ := bind_some hx51
  refine s_ck 24 #[.agg #[.int .i64 y24.1, .slice a34 n35 c36]] (by kernel_rfl) (c_viaductref01_Err_Bad e45.wf u57.sq hy59) ?_
  rintro _ H61 ⟨rfl, e62⟩
  by_cases h63 : y58 = true
  ·have r64 := ite_t h63 r60
   rw [h63]
   refine s_qk (.bool false) (by kernel_rfl) ?_
   refine s_qk (.bool false) (by kernel_rfl) ?_
   refine s_no (by kernel_rfl) ?_
   refine s_no (by kernel_rfl) ?_
   refine s_no (by kernel_rfl) ?_
   refine s_no (by kernel_rfl) ?_
   refine s_qk (.bool false) (by kernel_rfl) ?_
   refine s_nil ?_
   obtain rfl := Option.some.inj r64
   exact k55 _ _ ⟨⟨by kernel_rfl, by kernel_rfl, by kernel_rfl, trivial⟩, (FrS.step e45.wf (FrS.refl (W := []) e45.wf) e62 Inn.nil)⟩
  ·have r66 := ite_f h63 r60
   rw [nb h63]
   refine s_qk (.bool true) (by kernel_rfl) ?_
   refine s_qk (.bool true) (by kernel_rfl) ?_
   have u68 := ((((u20.frS e30 Dj.nil_l).ext e39).frS e45 (hb40.djn (r11.ltF.le (ntr e15.next e30.next)))).frS e62 Dj.nil_l)
   refine s_ql (.agg #[hd_First, hd_To, hd_Weight]) (x := aLoad Tryd.prog 37 (.pointer (some ⟨b7, 0, none⟩)) H61) (by kernel_rfl) (u68.ld (by kernel_rfl)) ?_
   refine s_qk (.int .i64 s) (by kernel_rfl) ?_
   have u69 := ((((u21.fr e30 Dj.nil_l).ext e39).fr e45 (hb40.djn (h_First.lt.le (ntr (ntr e9.next e15.next) e30.next)))).fr e62 Dj.nil_l)
   have u70 := ((((u22.fr e30 Dj.nil_l).ext e39).fr e45 (hb40.djn (h_To.lt.le (ntr (ntr e9.next e15.next) e30.next)))).fr e62 Dj.nil_l)
   have u71 := ((((u23.fr e30 Dj.nil_l).ext e39).fr e45 (hb40.djn (h_Weight.lt.le (ntr (ntr e9.next e15.next) e30.next)))).fr e62 Dj.nil_l)
   obtain ⟨y72, hy73, r74⟩ := bind_some r66
   refine s_ck 55 #[.agg #[hd_First, hd_To, hd_Weight], .int .i64 s] (by kernel_rfl) (c_viaductref05_Node e62.wf u69 u70 u71 hy73) ?_
   rintro _ H75 ⟨rfl, e76⟩
   refine s_qk (.bool (!y72)) (by kernel_rfl) ?_
   refine s_qk (.bool (!y72)) (by kernel_rfl) ?_
   refine s_nil ?_
   obtain rfl := Option.some.inj r74
   exact k55 _ _ ⟨⟨by kernel_rfl, by kernel_rfl, by kernel_rfl, trivial⟩, (FrS.step e45.wf (FrS.step e45.wf (FrS.refl (W := []) e45.wf) e62 Inn.nil) e76 Inn.nil)⟩
 ·obtain ⟨hh56, e54⟩ := hM
  obtain ⟨β, rfl⟩ := has_ex hh56
  clear hh56
  refine k49 _ _ ?_
  refine w_cond (o50) (by kernel_rfl) rfl (fun h77 => ?_) (fun h77 => ?_)
  ·have r78 := ite_t h77 r52
   refine w_reg (by kernel_rfl) ?_
   obtain ⟨y79, hy80, r81⟩ := bind_some r78
   refine s_ck 41 #[.int .i64 7] (by kernel_rfl) (c_viaductref01_E e54.wf hy80) ?_
   rintro _ H82 ⟨rfl, e83⟩
   have u88 := ((r46.frS e54 Dj.nil_l).frS e83 Dj.nil_l)
   obtain ⟨H84, q85, e86, r87⟩ := Row.store (P := Tryd.prog) (t := 31) (p := 0) e83.wf u88 (.agg #[.int .i64 y79, .slice none 0 0]) [.int .i64 y79, .slice none 0 0] (by kernel_rfl) (by kernel_rfl) (one_cons (rfl) (one_cons (rfl) (one_nil))) (Nat.le_of_ble_eq_true (by kernel_rfl)) [.int .i64 y79, .slice none 0 0] (by kernel_rfl)
   refine s_ek (undef) (by kernel_rfl) (map_ok q85) ?_
   refine s_nil ?_
   refine k48 _ _ ?_
   refine w_seqk fun K89 k89 => ?_
   refine w_reg (by kernel_rfl) ?_
   refine s_ql (.agg #[.int .i64 y79, .slice none 0 0]) (x := aLoad Tryd.prog 31 (.pointer (some ⟨b37, 0, none⟩)) H84) (by kernel_rfl) (r87.ld (by kernel_rfl)) ?_
   have u94 := ((((((r17.frS e30 Dj.nil_l).ext e39).frS e45 (hb40.djn (r17.ltF.le e30.next))).frS e54 Dj.nil_l).frS e83 Dj.nil_l).frS e86 (hb40.djn (r17.ltF.le e30.next)))
   obtain ⟨H90, q91, e92, r93⟩ := Row.store (P := Tryd.prog) (t := 31) (p := 0) e86.wf u94 (.agg #[.int .i64 y79, .slice none 0 0]) [.int .i64 y79, .slice none 0 0] (by kernel_rfl) (by kernel_rfl) (one_cons (rfl) (one_cons (rfl) (one_nil))) (Nat.le_of_ble_eq_true (by kernel_rfl)) [.int .i64 y79, .slice none 0 0] (by kernel_rfl)
   refine s_ek (undef) (by kernel_rfl) (map_ok q91) ?_
   refine s_nil ?_
   refine k89 _ _ ?_
   refine w_ret ?_
   refine b_ret (fn := Tryd.f54) (vs := [.agg #[.int .i64 y79, .slice none 0 0]]) (aRes_cell (Eq.trans (b := aLoad Tryd.prog 31 (.pointer (some ⟨b13, 0, none⟩)) H90) (by kernel_rfl) (r93.ld (by kernel_rfl))) (rfl)) ?_
   obtain rfl := Option.some.inj r81
   exact ⟨(.slice none 0 0), [], rfl, (FrS.step wf (FrS.step wf (FrS.step wf (FrS.step wf (FrS.step wf ((FrS.step wf (((FrS.refl (W := []) wf).extR e9).extR e15) e30 Inn.nil).extR e39) e45 (hb40.fresh (ntr (ntr e9.next e15.next) e30.next))) e54 Inn.nil) e83 Inn.nil) e86 (hb40.fresh (ntr (ntr e9.next e15.next) e30.next))) e92 (hb16.fresh e9.next)), (Ow.nil (by decide)), Inn.nil⟩
  ·have r95 := ite_bf h77 r52
   refine w_skip ?_
   refine k48 _ _ ?_
   refine w_seqk fun K96 k96 => ?_
   refine w_reg (by kernel_rfl) ?_
   have u97 := (r46.frS e54 Dj.nil_l)
   refine s_ql (.agg #[.int .i64 y24.1, .slice a34 n35 c36]) (x := aLoad Tryd.prog 31 (.pointer (some ⟨b37, 0, none⟩)) H53) (by kernel_rfl) (u97.ld (by kernel_rfl)) ?_
   have u102 := ((((r17.frS e30 Dj.nil_l).ext e39).frS e45 (hb40.djn (r17.ltF.le e30.next))).frS e54 Dj.nil_l)
   have u103 := ((u47.fr e45 (hb40.djn m31.lt)).fr e54 Dj.nil_l)
   obtain ⟨H98, q99, e100, r101⟩ := Row.store (P := Tryd.prog) (t := 31) (p := 0) e54.wf u102 (.agg #[.int .i64 y24.1, .slice a34 n35 c36]) [.int .i64 y24.1, .slice a34 n35 c36] (by kernel_rfl) (by kernel_rfl) (one_cons (rfl) (one_cons (u103.one1) (one_nil))) (Nat.le_of_ble_eq_true (by kernel_rfl)) [.int .i64 y24.1, .slice a34 n35 c36] (by kernel_rfl)
   refine s_ek (undef) (by kernel_rfl) (map_ok q99) ?_
   refine s_nil ?_
   refine k96 _ _ ?_
   refine w_ret ?_
   refine b_ret (fn := Tryd.f54) (vs := [.agg #[.int .i64 y24.1, .slice a34 n35 c36]]) (aRes_cell (Eq.trans (b := aLoad Tryd.prog 31 (.pointer (some ⟨b13, 0, none⟩)) H98) (by kernel_rfl) (r101.ld (by kernel_rfl))) (rfl)) ?_
   have u104 := (u103.fr e100 (Dj.symm (i32.djn r17.ltF)))
   obtain rfl := Option.some.inj r95
   exact ⟨(.slice a34 n35 c36), f28, rfl, (FrS.step wf (FrS.step wf (FrS.step wf ((FrS.step wf (((FrS.refl (W := []) wf).extR e9).extR e15) e30 Inn.nil).extR e39) e45 (hb40.fresh (ntr (ntr e9.next e15.next) e30.next))) e54 Inn.nil) e100 (hb16.fresh e9.next)), u104, (i32.fresh (ntr e9.next e15.next))⟩

theorem c_viaductref05_Row {H : AH} {hd_First : Value} {fp_First : Fp} {hd_To : Value} {fp_To : Fp} {hd_Weight : Value} {fp_Weight : Fp} {First : List (Int)} {To : List (Int)} {Weight : List (Int)} {v_ : Int} {r : List (Int × Int × Int)}
  (wf : WF H) (h_First : Sq (encI .i64) 1 H hd_First First fp_First) (h_To : Sq (encI .i64) 1 H hd_To To fp_To) (h_Weight : Sq (encI .i64) 1 H hd_Weight Weight fp_Weight) (hr : z_viaductref05_Row First To Weight v_ = some r) :
  ACalls Tryd.prog 63 #[.agg #[hd_First, hd_To, hd_Weight], .int .i64 v_] H fun v H' => ∃ (s3 : Value) (f4 : Fp), v = s3 ∧ FrS [] H H' ∧ Ow enc_i64_i64_i64 3 H' s3 r f4 ∧ Inn [] H f4 := by
 refine acalls_of_body mixed Tryd.func63 rfl (Nat.le_of_ble_eq_true rfl) ?_
 unfold z_viaductref05_Row at hr
 refine w_seqk fun K6 k6 => ?_
 refine w_reg (by kernel_rfl) ?_
 refine s_rwl wf [hd_First, hd_To, hd_Weight] (one_cons (h_First.one1) (one_cons (h_To.one1) (one_cons (h_Weight.one1) (one_nil)))) (by kernel_rfl) fun b7 H8 e9 hb10 r11 => ?_
 refine s_qk (.slice none 0 0) (by kernel_rfl) ?_
 refine s_nil ?_
 refine k6 _ _ ?_
 refine w_seqk fun K13 k13 => ?_
 refine w_reg (by kernel_rfl) ?_
 refine s_qk (.slice none 0 0) (by kernel_rfl) ?_
 refine s_nil ?_
 refine k13 _ _ ?_
 refine w_seqk fun K14 k14 => ?_
 refine w_seqk fun K15 k15 => ?_
 refine w_reg (by kernel_rfl) ?_
 refine s_qk (.pointer (some ⟨b7, 0, none⟩)) (by kernel_rfl) ?_
 refine s_ql (hd_First) (x := aLoad Tryd.prog 22 (.pointer (some ⟨b7, 0, none⟩)) H8) (by kernel_rfl) (r11.ld (by kernel_rfl)) ?_
 refine s_qk (.int .i64 v_) (by kernel_rfl) ?_
 obtain ⟨g16, r17⟩ := G_some hr
 have u18 := (h_First.ext e9)
 refine s_ql (elp hd_First 1 v_.toNat 0) (x := aIndexAddr Tryd.prog 22 hd_First (.int .i64 v_)) (by kernel_rfl) (u18.idxb (by kernel_rfl) g16.1 g16.2) ?_
 refine s_ql (.int .i64 (gt First v_)) (x := aLoad Tryd.prog 3 (elp hd_First 1 v_.toNat 0) H8) (by kernel_rfl) (u18.ld g16.1 g16.2 (by kernel_rfl)) ?_
 refine s_qk (.int .i64 (gt First v_)) (by kernel_rfl) ?_
 refine s_nil ?_
 refine k15 _ _ ?_
 obtain ⟨o19, hx20, r21⟩ := bind_some r17
 refine w_mid (fun α H22 => ∃ (s26 : Value) (f27 : Fp), Has α [(5, s26)] ∧ FrS [] H8 H22 ∧ Ow enc_i64_i64_i64 3 H22 s26 o19 f27 ∧ Inn [] H8 f27) (fun K29 k29 => ?_) (fun α H22 hM => ?_)
 ·refine w_block ?_
  obtain ⟨n31, hn32⟩ := loopO_iff.1 hx20
  refine w_loopn (fun n α H33 => ∃ (l0 : List (Int × Int × Int)), ∃ (i1 : Int), ∃ (s37 : Value), ∃ (f38 : Fp), iterO (fun zz_ => z_viaductref05_Row_l0 First To Weight v_ zz_.1 zz_.2) n (l0, i1) = some o19 ∧ Has α [(1, .int .i64 v_), (2, .pointer (some ⟨b7, 0, none⟩)), (5, s37), (6, .int .i64 i1)] ∧ FrS [] H8 H33 ∧ Ow enc_i64_i64_i64 3 H33 s37 l0 f38 ∧ Inn [] H8 f38) n31 ⟨[], (gt First v_), (.slice none 0 0), [], hn32, ⟨by kernel_rfl, by kernel_rfl, by kernel_rfl, by kernel_rfl, trivial⟩, (FrS.refl (W := []) e9.wf), (Ow.nil (by decide)), Inn.nil⟩ ?_
  rintro n31 α H33 ⟨l0, i1, s37, f38, hi41, hh40, e34, m36, i39⟩ K46 k46
  obtain ⟨n42, z43, rfl, hz44, hn45⟩ := iter_succ hi41
  obtain ⟨β, rfl⟩ := has_ex hh40
  clear hh40
  replace hz44 : z_viaductref05_Row_l0 First To Weight v_ l0 i1 = some z43 := hz44
  unfold z_viaductref05_Row_l0 at hz44
  obtain ⟨a47, n48, c49, rfl⟩ := m36.form
  refine w_seqk fun K50 k50 => ?_
  refine w_seqk fun K51 k51 => ?_
  refine w_reg (by kernel_rfl) ?_
  refine s_qk (.int .i64 i1) (by kernel_rfl) ?_
  refine s_qk (.pointer (some ⟨b7, 0, none⟩)) (by kernel_rfl) ?_
  have u52 := (r11.frS e34 Dj.nil_l)
  refine s_ql (hd_First) (x := aLoad Tryd.prog 22 (.pointer (some ⟨b7, 0, none⟩)) H33) (by kernel_rfl) (u52.ld (by kernel_rfl)) ?_
  refine s_qk (.int .i64 v_) (by kernel_rfl) ?_
  obtain ⟨g53, r54⟩ := G_some hz44
  refine s_w ((v_ + 1)) (k := .i64) (x := (v_ + 1)) (by kernel_rfl) (wrap64 (by have := g53; omega)) ?_
  obtain ⟨g55, r56⟩ := G_some r54
  have u57 := (u18.fr e34 Dj.nil_l)
  refine s_ql (elp hd_First 1 (v_ + 1).toNat 0) (x := aIndexAddr Tryd.prog 22 hd_First (.int .i64 (v_ + 1))) (by kernel_rfl) (u57.idxb (by kernel_rfl) g55.1 g55.2) ?_
  refine s_ql (.int .i64 (gt First (v_ + 1))) (x := aLoad Tryd.prog 3 (elp hd_First 1 (v_ + 1).toNat 0) H33) (by kernel_rfl) (u57.ld g55.1 g55.2 (by kernel_rfl)) ?_
  refine s_qk (.bool (decide (i1 < (gt First (v_ + 1))))) (by kernel_rfl) ?_
  refine s_nil ?_
  refine k51 _ _ ?_
  refine w_condp (i1 < (gt First (v_ + 1))) (by kernel_rfl) rfl (fun h58 => ?_) (fun h58 => ?_)
  ·have r59 := ite_t h58 r56
   refine w_skip ?_
   refine k50 _ _ ?_
   refine w_seqk fun K60 k60 => ?_
   refine w_block ?_
   refine w_draw [0, 1, 2, 3, 4, 5, 6, 7, 8, 9, 10, 11, 12, 13, 14, 15] (by kernel_rfl) ?_
   refine d_qk (.slice a47 n48 c49) (by kernel_rfl) ?_
   refine d_qk (.int .i64 v_) (by kernel_rfl) ?_
   refine d_qk (.pointer (some ⟨b7, 1, none⟩)) (by kernel_rfl) ?_
   refine d_ql (hd_To) (x := aLoad Tryd.prog 22 (.pointer (some ⟨b7, 1, none⟩)) H33) (by kernel_rfl) (u52.ld (by kernel_rfl)) ?_
   refine d_qk (.int .i64 i1) (by kernel_rfl) ?_
   obtain ⟨g61, r62⟩ := G_some r59
   have u63 := ((h_To.ext e9).fr e34 Dj.nil_l)
   refine d_ql (elp hd_To 1 i1.toNat 0) (x := aIndexAddr Tryd.prog 22 hd_To (.int .i64 i1)) (by kernel_rfl) (u63.idxb (by kernel_rfl) g61.1 g61.2) ?_
   refine d_ql (.int .i64 (gt To i1)) (x := aLoad Tryd.prog 3 (elp hd_To 1 i1.toNat 0) H33) (by kernel_rfl) (u63.ld g61.1 g61.2 (by kernel_rfl)) ?_
   refine d_qk (.pointer (some ⟨b7, 2, none⟩)) (by kernel_rfl) ?_
   refine d_ql (hd_Weight) (x := aLoad Tryd.prog 22 (.pointer (some ⟨b7, 2, none⟩)) H33) (by kernel_rfl) (u52.ld (by kernel_rfl)) ?_
   refine d_qk (.int .i64 i1) (by kernel_rfl) ?_
   obtain ⟨g64, r65⟩ := G_some r62
   have u66 := ((h_Weight.ext e9).fr e34 Dj.nil_l)
   refine d_ql (elp hd_Weight 1 i1.toNat 0) (x := aIndexAddr Tryd.prog 22 hd_Weight (.int .i64 i1)) (by kernel_rfl) (u66.idxb (by kernel_rfl) g61.1 g64) ?_
   refine d_ql (.int .i64 (gt Weight i1)) (x := aLoad Tryd.prog 3 (elp hd_Weight 1 i1.toNat 0) H33) (by kernel_rfl) (u66.ld g61.1 g64 (by kernel_rfl)) ?_
   refine d_qk (.agg #[.int .i64 v_, .int .i64 (gt To i1), .int .i64 (gt Weight i1)]) (by kernel_rfl) ?_
   refine d_owk (enc := enc_i64_i64_i64) (sz := 3) e34.wf [(v_, (gt To i1), (gt Weight i1))] 1 (by decide) (fun _ _ => rfl) (fun _ _ => rfl) rfl (by kernel_rfl) fun s67 f68 H69 e70 hf71 hm72 => ?_
   obtain ⟨a73, n74, c75, rfl⟩ := hm72.form
   have u77 := (m36.ext e70)
   obtain ⟨g78, r79⟩ := G_some r65
   obtain ⟨s80, H81, f82, q86, e83, hm84, hf85⟩ := Ow.append (P := Tryd.prog) 24 e70.wf u77 hm72.sq (fun _ _ => rfl) (at_ := #[120, 120]) rfl rfl (by kernel_rfl) (by kernel_rfl) (by decide) (by have := g78; first | omega | (simp only [List.length_cons, List.length_nil] at this ⊢; omega) | (simp at this ⊢; omega))
   obtain ⟨a87, n88, c89, rfl⟩ := hm84.form
   refine d_ek (.slice a87 n88 c89) (by kernel_rfl) (q86) (st_nil) ?_
   refine d_qk (.slice a87 n88 c89) (by kernel_rfl) ?_
   refine d_nil ?_
   refine k60 _ _ ?_
   refine w_reg (by kernel_rfl) ?_
   refine s_qk (.int .i64 i1) (by kernel_rfl) ?_
   obtain ⟨g91, r92⟩ := G_some r79
   refine s_w ((i1 + 1)) (k := .i64) (x := (i1 + 1)) (by kernel_rfl) (wrap64 (by have := g91; omega)) ?_
   refine s_qk (.int .i64 (i1 + 1)) (by kernel_rfl) ?_
   refine s_nil ?_
   obtain rfl := Option.some.inj r92
   exact k46 n42 _ _ (Nat.lt_succ_self _) ⟨(l0 ++ [(v_, (gt To i1), (gt Weight i1))]), (i1 + 1), (.slice a87 n88 c89), f82, hn45, ⟨by kernel_rfl, by kernel_rfl, by kernel_rfl, by kernel_rfl, trivial⟩, (FrS.step e9.wf ((FrS.step e9.wf (FrS.refl (W := []) e9.wf) e34 Inn.nil).extR e70) e83 (i39.fresh (Nat.le_refl _))), hm84, (Inn.trans (i39.fresh (Nat.le_refl _)) (ntr e34.next e70.next) hf85)⟩
  ·have r93 := ite_f h58 r56
   refine w_exit (th_exit (th_exit (bl_eq ?_)))
   obtain rfl := Option.some.inj r93
   obtain rfl := it_inr hn45
   exact k29 _ _ ⟨(.slice a47 n48 c49), f38, ⟨by kernel_rfl, trivial⟩, (FrS.step e9.wf (FrS.refl (W := []) e9.wf) e34 Inn.nil), m36, (i39.fresh (Nat.le_refl _))⟩
 ·obtain ⟨s26, f27, hh30, e23, m25, i28⟩ := hM
  obtain ⟨β, rfl⟩ := has_ex hh30
  clear hh30
  obtain ⟨a94, n95, c96, rfl⟩ := m25.form
  refine k14 _ _ ?_
  refine w_seqk fun K97 k97 => ?_
  refine w_reg (by kernel_rfl) ?_
  refine s_qk (.slice a94 n95 c96) (by kernel_rfl) ?_
  refine s_qk (.slice a94 n95 c96) (by kernel_rfl) ?_
  refine s_nil ?_
  refine k97 _ _ ?_
  refine w_ret ?_
  refine b_ret (fn := Tryd.f63) (vs := [.slice a94 n95 c96]) (aRes_tmp (by kernel_rfl) (rfl)) ?_
  obtain rfl := Option.some.inj r21
  exact ⟨(.slice a94 n95 c96), f27, rfl, (FrS.step wf ((FrS.refl (W := []) wf).extR e9) e23 Inn.nil), m25, (i28.fresh e9.next)⟩

theorem c_viaductref05_Graph {H : AH} {hd_First : Value} {fp_First : Fp} {hd_To : Value} {fp_To : Fp} {hd_Weight : Value} {fp_Weight : Fp} {First : List (Int)} {To : List (Int)} {Weight : List (Int)} {r : Int × List (Int × Int × Int)}
  (wf : WF H) (h_First : Sq (encI .i64) 1 H hd_First First fp_First) (h_To : Sq (encI .i64) 1 H hd_To To fp_To) (h_Weight : Sq (encI .i64) 1 H hd_Weight Weight fp_Weight) (hr : z_viaductref05_Graph First To Weight = some r) :
  ACalls Tryd.prog 81 #[.agg #[hd_First, hd_To, hd_Weight]] H fun v H' => ∃ (s3 : Value) (f4 : Fp), v = .agg #[.int .i64 r.1, s3] ∧ FrS [] H H' ∧ Ow enc_i64_i64_i64 3 H' s3 r.2 f4 ∧ Inn [] H f4 := by
 refine acalls_of_body mixed Tryd.func81 rfl (Nat.le_of_ble_eq_true rfl) ?_
 unfold z_viaductref05_Graph at hr
 refine w_seqk fun K6 k6 => ?_
 refine w_reg (by kernel_rfl) ?_
 refine s_rwl wf [hd_First, hd_To, hd_Weight] (one_cons (h_First.one1) (one_cons (h_To.one1) (one_cons (h_Weight.one1) (one_nil)))) (by kernel_rfl) fun b7 H8 e9 hb10 r11 => ?_
 refine s_rwk e9.wf [.int .i64 0, .slice none 0 0] (by kernel_rfl) fun b13 H14 e15 hb16 r17 => ?_
 refine s_nil ?_
 refine k6 _ _ ?_
 refine w_seqk fun K19 k19 => ?_
 refine w_reg (by kernel_rfl) ?_
 refine s_qk (.pointer (some ⟨b7, 0, none⟩)) (by kernel_rfl) ?_
 have u20 := (r11.ext e15)
 refine s_ql (hd_First) (x := aLoad Tryd.prog 22 (.pointer (some ⟨b7, 0, none⟩)) H14) (by kernel_rfl) (u20.ld (by kernel_rfl)) ?_
 have u21 := ((h_First.ext e9).ext e15)
 refine s_ql (.int .i64 (First.length : Int)) (x := aLen Tryd.prog 22 hd_First H14) (by kernel_rfl) (u21.lenb (by kernel_rfl)) ?_
 obtain ⟨g22, r23⟩ := G_some hr
 refine s_w (((First.length : Int) - 1)) (k := .i64) (x := ((First.length : Int) - 1)) (by kernel_rfl) (wrap64 g22) ?_
 refine s_qk (.agg #[.int .i64 ((First.length : Int) - 1), .slice none 0 0]) (by kernel_rfl) ?_
 refine s_rwk e15.wf [.int .i64 0, .slice none 0 0] (by kernel_rfl) fun b24 H25 e26 hb27 r28 => ?_
 obtain ⟨H30, q31, e32, r33⟩ := Row.store (P := Tryd.prog) (t := 135) (p := 0) e26.wf r28 (.agg #[.int .i64 ((First.length : Int) - 1), .slice none 0 0]) [.int .i64 ((First.length : Int) - 1), .slice none 0 0] (by kernel_rfl) (by kernel_rfl) (one_cons (rfl) (one_cons (rfl) (one_nil))) (Nat.le_of_ble_eq_true (by kernel_rfl)) [.int .i64 ((First.length : Int) - 1), .slice none 0 0] (by kernel_rfl)
 refine s_ek (undef) (by kernel_rfl) (map_ok q31) ?_
 refine s_nil ?_
 refine k19 _ _ ?_
 refine w_seqk fun K34 k34 => ?_
 refine w_seqk fun K35 k35 => ?_
 refine w_reg (by kernel_rfl) ?_
 refine s_qk (.int .i64 0) (by kernel_rfl) ?_
 refine s_nil ?_
 refine k35 _ _ ?_
 obtain ⟨o36, hx37, r38⟩ := bind_some r23
 refine w_mid (fun α H39 => ∃ (s43 : Value) (f44 : Fp), Has α [(2, .pointer (some ⟨b13, 0, none⟩)), (3, .pointer (some ⟨b24, 0, none⟩))] ∧ FrS [b24] H30 H39 ∧ Ow enc_i64_i64_i64 3 H39 s43 o36 f44 ∧ Row H39 b24 [.int .i64 ((First.length : Int) - 1), s43] ∧ Inn [] H30 f44) (fun K48 k48 => ?_) (fun α H39 hM => ?_)
 ·refine w_block ?_
  obtain ⟨n50, hn51⟩ := loopO_iff.1 hx37
  refine w_loopn (fun n α H52 => ∃ (g0 : List (Int × Int × Int)), ∃ (v1 : Int), ∃ (s56 : Value), ∃ (f57 : Fp), iterO (fun zz_ => z_viaductref05_Graph_l0 First To Weight zz_.1 zz_.2) n (g0, v1) = some o36 ∧ Has α [(1, .pointer (some ⟨b7, 0, none⟩)), (2, .pointer (some ⟨b13, 0, none⟩)), (3, .pointer (some ⟨b24, 0, none⟩)), (4, .int .i64 v1)] ∧ FrS [b24] H30 H52 ∧ Ow enc_i64_i64_i64 3 H52 s56 g0 f57 ∧ Row H52 b24 [.int .i64 ((First.length : Int) - 1), s56] ∧ Inn [] H30 f57) n50 ⟨[], 0, (.slice none 0 0), [], hn51, ⟨by kernel_rfl, by kernel_rfl, by kernel_rfl, by kernel_rfl, trivial⟩, (FrS.refl (W := [b24]) e32.wf), (Ow.nil (by decide)), r33, Inn.nil⟩ ?_
  rintro n50 α H52 ⟨g0, v1, s56, f57, hi62, hh61, e53, m55, m59, i60⟩ K67 k67
  obtain ⟨n63, z64, rfl, hz65, hn66⟩ := iter_succ hi62
  obtain ⟨β, rfl⟩ := has_ex hh61
  clear hh61
  replace hz65 : z_viaductref05_Graph_l0 First To Weight g0 v1 = some z64 := hz65
  unfold z_viaductref05_Graph_l0 at hz65
  obtain ⟨a68, n69, c70, rfl⟩ := m55.form
  refine w_seqk fun K71 k71 => ?_
  refine w_seqk fun K72 k72 => ?_
  refine w_reg (by kernel_rfl) ?_
  refine s_qk (.int .i64 v1) (by kernel_rfl) ?_
  refine s_qk (.pointer (some ⟨b24, 0, none⟩)) (by kernel_rfl) ?_
  refine s_ql (.int .i64 ((First.length : Int) - 1)) (x := aLoad Tryd.prog 3 (.pointer (some ⟨b24, 0, none⟩)) H52) (by kernel_rfl) (m59.ld (by kernel_rfl)) ?_
  refine s_qk (.bool (decide (v1 < ((First.length : Int) - 1)))) (by kernel_rfl) ?_
  refine s_nil ?_
  refine k72 _ _ ?_
  refine w_condp (v1 < ((First.length : Int) - 1)) (by kernel_rfl) rfl (fun h73 => ?_) (fun h73 => ?_)
  ·have r74 := ite_t h73 hz65
   refine w_skip ?_
   refine k71 _ _ ?_
   refine w_seqk fun K75 k75 => ?_
   refine w_block ?_
   refine w_draw [0, 1, 2, 3, 4, 5, 6, 7] (by kernel_rfl) ?_
   refine d_qk (.pointer (some ⟨b24, 1, none⟩)) (by kernel_rfl) ?_
   refine d_fl (.slice a68 n69 c70) (x := aLoad Tryd.prog 120 (.pointer (some ⟨b24, 1, none⟩)) H52) (by kernel_rfl) (m59.ld (by kernel_rfl)) ?_
   have u76 := (((u20.ext e26).frS e32 (hb27.djn (r11.ltF.le e15.next))).frS e53 (hb27.djn (r11.ltF.le e15.next)))
   refine d_ql (.agg #[hd_First, hd_To, hd_Weight]) (x := aLoad Tryd.prog 37 (.pointer (some ⟨b7, 0, none⟩)) H52) (by kernel_rfl) (u76.ld (by kernel_rfl)) ?_
   refine d_qk (.int .i64 v1) (by kernel_rfl) ?_
   have u77 := (((u21.ext e26).fr e32 (hb27.djn (h_First.lt.le (ntr e9.next e15.next)))).fr e53 (hb27.djn (h_First.lt.le (ntr e9.next e15.next))))
   have u78 := (((((h_To.ext e9).ext e15).ext e26).fr e32 (hb27.djn (h_To.lt.le (ntr e9.next e15.next)))).fr e53 (hb27.djn (h_To.lt.le (ntr e9.next e15.next))))
   have u79 := (((((h_Weight.ext e9).ext e15).ext e26).fr e32 (hb27.djn (h_Weight.lt.le (ntr e9.next e15.next)))).fr e53 (hb27.djn (h_Weight.lt.le (ntr e9.next e15.next))))
   obtain ⟨y80, hy81, r82⟩ := bind_some r74
   refine d_ck 63 #[.agg #[hd_First, hd_To, hd_Weight], .int .i64 v1] (by kernel_rfl) (c_viaductref05_Row e53.wf u77 u78 u79 hy81) ?_
   rintro s83 H85 ⟨_, f84, rfl, e86, m87, i88⟩
   obtain ⟨a90, n91, c92, rfl⟩ := m87.form
   have u93 := (m59.frS e86 Dj.nil_l)
   refine ⟨st_ql (y := aLoad Tryd.prog 120 (.pointer (some ⟨b24, 1, none⟩)) H85) (by kernel_rfl) (u93.ld (by kernel_rfl)) (st_nil), ?_⟩
   have u94 := (m55.fr e86 Dj.nil_l)
   obtain ⟨g95, r96⟩ := G_some r82
   obtain ⟨s97, H98, f99, q103, e100, hm101, hf102⟩ := Ow.append (P := Tryd.prog) 24 e86.wf u94 m87.sq (fun _ _ => rfl) (at_ := #[120, 120]) rfl rfl (by kernel_rfl) (by kernel_rfl) (by decide) (by have := g95; first | omega | (simp only [List.length_cons, List.length_nil] at this ⊢; omega) | (simp at this ⊢; omega))
   obtain ⟨a104, n105, c106, rfl⟩ := hm101.form
   refine d_ek (.slice a104 n105 c106) (by kernel_rfl) (q103) (st_anc (by kernel_rfl) (st_nil)) ?_
   refine d_qk (.pointer (some ⟨b24, 1, none⟩)) (by kernel_rfl) ?_
   have u112 := (u93.frS e100 (i60.djn (r28.ltF.le e32.next)))
   obtain ⟨H108, q109, e110, r111⟩ := Row.store (P := Tryd.prog) (t := 120) (p := 1) e100.wf u112 (.slice a104 n105 c106) [.slice a104 n105 c106] (by kernel_rfl) (by kernel_rfl) (one_cons (hm101.one1) (one_nil)) (Nat.le_of_ble_eq_true (by kernel_rfl)) [.int .i64 ((First.length : Int) - 1), .slice a104 n105 c106] (by kernel_rfl)
   refine d_ek (undef) (by kernel_rfl) (map_ok q109) (st_anc (by kernel_rfl) (st_nil)) ?_
   refine d_nil ?_
   refine k75 _ _ ?_
   refine w_reg (by kernel_rfl) ?_
   refine s_qk (.int .i64 v1) (by kernel_rfl) ?_
   obtain ⟨g113, r114⟩ := G_some r96
   refine s_w ((v1 + 1)) (k := .i64) (x := (v1 + 1)) (by kernel_rfl) (wrap64 g113) ?_
   refine s_qk (.int .i64 (v1 + 1)) (by kernel_rfl) ?_
   refine s_nil ?_
   have u115 := (hm101.fr e110 (Dj.symm (hf102.dj (i60.djn (r28.ltF.le e32.next)) (r28.ltF.le (ntr (ntr e32.next e53.next) e86.next)))))
   obtain rfl := Option.some.inj r114
   exact k67 n63 _ _ (Nat.lt_succ_self _) ⟨(g0 ++ y80), (v1 + 1), (.slice a104 n105 c106), f99, hn66, ⟨by kernel_rfl, by kernel_rfl, by kernel_rfl, by kernel_rfl, trivial⟩, (FrS.step e32.wf (FrS.step e32.wf (FrS.step e32.wf (FrS.step e32.wf (FrS.refl (W := [b24]) e32.wf) e53 Inn.refl') e86 Inn.nil) e100 (i60.fresh (Nat.le_refl _))) e110 Inn.refl'), u115, r111, (Inn.trans (i60.fresh (Nat.le_refl _)) (ntr e53.next e86.next) hf102)⟩
  ·have r116 := ite_f h73 hz65
   refine w_exit (th_exit (th_exit (bl_eq ?_)))
   obtain rfl := Option.some.inj r116
   obtain rfl := it_inr hn66
   exact k48 _ _ ⟨(.slice a68 n69 c70), f57, ⟨by kernel_rfl, by kernel_rfl, trivial⟩, (FrS.step e32.wf (FrS.refl (W := [b24]) e32.wf) e53 Inn.refl'), m55, m59, (i60.fresh (Nat.le_refl _))⟩
 ·obtain ⟨s43, f44, hh49, e40, m42, m46, i47⟩ := hM
  obtain ⟨β, rfl⟩ := has_ex hh49
  clear hh49
  obtain ⟨a117, n118, c119, rfl⟩ := m42.form
  refine k34 _ _ ?_
  refine w_seqk fun K120 k120 => ?_
  refine w_reg (by kernel_rfl) ?_
  refine s_ql (.agg #[.int .i64 ((First.length : Int) - 1), .slice a117 n118 c119]) (x := aLoad Tryd.prog 135 (.pointer (some ⟨b24, 0, none⟩)) H39) (by kernel_rfl) (m46.ld (by kernel_rfl)) ?_
  have u125 := (((r17.ext e26).frS e32 (hb27.djn r17.ltF)).frS e40 (hb27.djn r17.ltF))
  obtain ⟨H121, q122, e123, r124⟩ := Row.store (P := Tryd.prog) (t := 135) (p := 0) e40.wf u125 (.agg #[.int .i64 ((First.length : Int) - 1), .slice a117 n118 c119]) [.int .i64 ((First.length : Int) - 1), .slice a117 n118 c119] (by kernel_rfl) (by kernel_rfl) (one_cons (rfl) (one_cons (m42.one1) (one_nil))) (Nat.le_of_ble_eq_true (by kernel_rfl)) [.int .i64 ((First.length : Int) - 1), .slice a117 n118 c119] (by kernel_rfl)
  refine s_ek (undef) (by kernel_rfl) (map_ok q122) ?_
  refine s_nil ?_
  refine k120 _ _ ?_
  refine w_ret ?_
  refine b_ret (fn := Tryd.f81) (vs := [.agg #[.int .i64 ((First.length : Int) - 1), .slice a117 n118 c119]]) (aRes_cell (Eq.trans (b := aLoad Tryd.prog 135 (.pointer (some ⟨b13, 0, none⟩)) H121) (by kernel_rfl) (r124.ld (by kernel_rfl))) (rfl)) ?_
  have u126 := (m42.fr e123 (Dj.symm (i47.djn (r17.ltF.le (ntr e26.next e32.next)))))
  obtain rfl := Option.some.inj r38
  exact ⟨(.slice a117 n118 c119), f44, rfl, (FrS.step wf (FrS.step wf (FrS.step wf ((((FrS.refl (W := []) wf).extR e9).extR e15).extR e26) e32 (hb27.fresh (ntr e9.next e15.next))) e40 (hb27.fresh (ntr e9.next e15.next))) e123 (hb16.fresh e9.next)), u126, (i47.fresh (ntr (ntr (ntr e9.next e15.next) e26.next) e32.next))⟩

theorem c_viaductref08_From {H : AH} {hd_First : Value} {fp_First : Fp} {hd_To : Value} {fp_To : Fp} {hd_Weight : Value} {fp_Weight : Fp} {First : List (Int)} {To : List (Int)} {Weight : List (Int)} {s : Int} {r : List (Int)}
  (wf : WF H) (h_First : Sq (encI .i64) 1 H hd_First First fp_First) (h_To : Sq (encI .i64) 1 H hd_To To fp_To) (h_Weight : Sq (encI .i64) 1 H hd_Weight Weight fp_Weight) (hr : z_viaductref08_From First To Weight s = some r) :
  ACalls Tryd.prog 56 #[.agg #[hd_First, hd_To, hd_Weight], .int .i64 s] H fun v H' => ∃ (s3 : Value) (f4 : Fp), v = s3 ∧ FrS [] H H' ∧ Ow (encI .u64) 1 H' s3 r f4 ∧ Inn [] H f4 := by
 refine acalls_of_body mixed Tryd.func56 rfl (Nat.le_of_ble_eq_true rfl) ?_
 unfold z_viaductref08_From at hr
 refine w_seqk fun K6 k6 => ?_
 refine w_reg (by kernel_rfl) ?_
 refine s_rwl wf [hd_First, hd_To, hd_Weight] (one_cons (h_First.one1) (one_cons (h_To.one1) (one_cons (h_Weight.one1) (one_nil)))) (by kernel_rfl) fun b7 H8 e9 hb10 r11 => ?_
 refine s_qk (.slice none 0 0) (by kernel_rfl) ?_
 refine s_nil ?_
 refine k6 _ _ ?_
 refine w_seqk fun K13 k13 => ?_
 refine w_reg (by kernel_rfl) ?_
 refine s_ql (.agg #[hd_First, hd_To, hd_Weight]) (x := aLoad Tryd.prog 37 (.pointer (some ⟨b7, 0, none⟩)) H8) (by kernel_rfl) (r11.ld (by kernel_rfl)) ?_
 have u14 := (h_First.ext e9)
 have u15 := (h_To.ext e9)
 have u16 := (h_Weight.ext e9)
 obtain ⟨y17, hy18, r19⟩ := bind_some hr
 refine s_ck 81 #[.agg #[hd_First, hd_To, hd_Weight]] (by kernel_rfl) (c_viaductref05_Graph e9.wf u14 u15 u16 hy18) ?_
 rintro _ H22 ⟨s20, f21, rfl, e23, m24, i25⟩
 obtain ⟨a27, n28, c29, rfl⟩ := m24.form
 refine s_rwk e23.wf [.int .i64 0, .slice none 0 0] (by kernel_rfl) fun b30 H31 e32 hb33 r34 => ?_
 have u40 := (m24.ext e32)
 obtain ⟨H36, q37, e38, r39⟩ := Row.store (P := Tryd.prog) (t := 135) (p := 0) e32.wf r34 (.agg #[.int .i64 y17.1, .slice a27 n28 c29]) [.int .i64 y17.1, .slice a27 n28 c29] (by kernel_rfl) (by kernel_rfl) (one_cons (rfl) (one_cons (u40.one1) (one_nil))) (Nat.le_of_ble_eq_true (by kernel_rfl)) [.int .i64 y17.1, .slice a27 n28 c29] (by kernel_rfl)
 refine s_ek (undef) (by kernel_rfl) (map_ok q37) ?_
 refine s_nil ?_
 refine k13 _ _ ?_
 refine w_seqk fun K41 k41 => ?_
 refine w_reg (by kernel_rfl) ?_
 refine s_qk (.pointer (some ⟨b30, 0, none⟩)) (by kernel_rfl) ?_
 refine s_ql (.int .i64 y17.1) (x := aLoad Tryd.prog 3 (.pointer (some ⟨b30, 0, none⟩)) H36) (by kernel_rfl) (r39.ld (by kernel_rfl)) ?_
 obtain ⟨g42, r43⟩ := G_some r19
 refine s_mks (t := 47) (m := 8) (l := y17.1) (c := y17.1) (enc := (encI .u64)) (sz := 1) e38.wf (0 : Int) (by kernel_rfl) (by decide) g42.1 (Int.le_refl _) (by omega) (by have := g42; omega) (by kernel_rfl) fun s44 f45 H46 e47 hf48 hm49 => ?_
 obtain ⟨a50, n51, c52, rfl⟩ := hm49.form
 have hm49 : Ow (encI .u64) 1 H46 (.slice a50 n51 c52) (List.replicate y17.1.toNat (0 : Int)) f45 := hm49
 refine s_qk (.slice a50 n51 c52) (by kernel_rfl) ?_
 refine s_nil ?_
 refine k41 _ _ ?_
 refine w_seqk fun K54 k54 => ?_
 refine w_seqk fun K55 k55 => ?_
 refine w_reg (by kernel_rfl) ?_
 refine s_qk (.slice a50 n51 c52) (by kernel_rfl) ?_
 refine s_ql (.int .i64 ((List.replicate y17.1.toNat (0 : Int)).length : Int)) (x := aLen Tryd.prog 47 (.slice a50 n51 c52) H46) (by kernel_rfl) (hm49.sq.lenb (by kernel_rfl)) ?_
 refine s_qk (.int .i64 0) (by kernel_rfl) ?_
 refine s_nil ?_
 refine k55 _ _ ?_
 obtain ⟨o56, hx57, r58⟩ := bind_some r43
 refine w_mid (fun α H59 => Has α [(1, .int .i64 s), (5, .pointer (some ⟨b30, 0, none⟩)), (6, .slice a50 n51 c52)] ∧ FrS f45 H46 H59 ∧ Ow (encI .u64) 1 H59 (.slice a50 n51 c52) o56 f45) (fun K63 k63 => ?_) (fun α H59 hM => ?_)
 ·refine w_block ?_
  obtain ⟨n65, hn66⟩ := loopO_iff.1 hx57
  refine w_loopn (fun n α H67 => ∃ (i0 : Int), ∃ (d1 : List (Int)), iterO (fun zz_ => z_viaductref08_From_l0 y17 zz_.1 zz_.2) n (i0, d1) = some o56 ∧ Has α [(1, .int .i64 s), (5, .pointer (some ⟨b30, 0, none⟩)), (6, .slice a50 n51 c52), (17, .int .i64 ((List.replicate y17.1.toNat (0 : Int)).length : Int)), (18, .int .i64 i0)] ∧ FrS f45 H46 H67 ∧ Ow (encI .u64) 1 H67 (.slice a50 n51 c52) d1 f45) n65 ⟨0, (List.replicate y17.1.toNat (0 : Int)), hn66, ⟨by kernel_rfl, by kernel_rfl, by kernel_rfl, by kernel_rfl, by kernel_rfl, trivial⟩, (FrS.refl (W := f45) e47.wf), hm49⟩ ?_
  rintro n65 α H67 ⟨i0, d1, hi72, hh71, e68, m70⟩ K77 k77
  obtain ⟨n73, z74, rfl, hz75, hn76⟩ := iter_succ hi72
  obtain ⟨β, rfl⟩ := has_ex hh71
  clear hh71
  replace hz75 : z_viaductref08_From_l0 y17 i0 d1 = some z74 := hz75
  unfold z_viaductref08_From_l0 at hz75
  refine w_seqk fun K78 k78 => ?_
  refine w_reg (by kernel_rfl) ?_
  refine s_qk (.bool (decide (i0 < ((List.replicate y17.1.toNat (0 : Int)).length : Int)))) (by kernel_rfl) ?_
  refine s_nil ?_
  refine k78 _ _ ?_
  refine w_seqk fun K79 k79 => ?_
  refine w_condp (i0 < ((List.replicate y17.1.toNat (0 : Int)).length : Int)) (by kernel_rfl) rfl (fun h80 => ?_) (fun h80 => ?_)
  ·have r81 := ite_t h80 hz75
   refine w_skip ?_
   refine k79 _ _ ?_
   refine w_seqk fun K82 k82 => ?_
   refine w_block ?_
   refine w_seqk fun K83 k83 => ?_
   refine w_reg (by kernel_rfl) ?_
   refine s_qk (.int .i64 i0) (by kernel_rfl) ?_
   refine s_qk (.int .i64 i0) (by kernel_rfl) ?_
   refine s_nil ?_
   refine k83 _ _ ?_
   refine w_reg (by kernel_rfl) ?_
   refine s_qk (.slice a50 n51 c52) (by kernel_rfl) ?_
   refine s_qk (.int .i64 i0) (by kernel_rfl) ?_
   obtain ⟨g84, r85⟩ := G_some r81
   refine s_ql (elp (.slice a50 n51 c52) 1 i0.toNat 0) (x := aIndexAddr Tryd.prog 47 (.slice a50 n51 c52) (.int .i64 i0)) (by kernel_rfl) (m70.sq.idxb (by kernel_rfl) g84.1 g84.2) ?_
   obtain ⟨H86, q87, e88, hm89⟩ := Ow.store (P := Tryd.prog) (t := 42) (off := 0) e68.wf m70 g84.1 g84.2 (.int .u64 18446744073709551615) [.int .u64 18446744073709551615] (by kernel_rfl) (by kernel_rfl) rfl 18446744073709551615 (Nat.le_of_ble_eq_true rfl) (by kernel_rfl)
   refine s_ek (undef) (by kernel_rfl) (map_ok q87) ?_
   refine s_nil ?_
   refine k82 _ _ ?_
   refine w_reg (by kernel_rfl) ?_
   obtain ⟨g90, r91⟩ := G_some r85
   refine s_w ((i0 + 1)) (k := .i64) (x := (i0 + 1)) (by kernel_rfl) (wrap64 (by have := g90; omega)) ?_
   refine s_qk (.int .i64 (i0 + 1)) (by kernel_rfl) ?_
   refine s_nil ?_
   obtain rfl := Option.some.inj r91
   exact k77 n73 _ _ (Nat.lt_succ_self _) ⟨(i0 + 1), (d1.set i0.toNat 18446744073709551615), hn76, ⟨by kernel_rfl, by kernel_rfl, by kernel_rfl, by kernel_rfl, by kernel_rfl, trivial⟩, (FrS.step e47.wf (FrS.step e47.wf (FrS.refl (W := f45) e47.wf) e68 Inn.refl') e88 Inn.refl'), hm89⟩
  ·have r92 := ite_f h80 hz75
   refine w_exit (th_exit (th_exit (bl_eq ?_)))
   obtain rfl := Option.some.inj r92
   obtain rfl := it_inr hn76
   exact k63 _ _ ⟨⟨by kernel_rfl, by kernel_rfl, by kernel_rfl, trivial⟩, (FrS.step e47.wf (FrS.refl (W := f45) e47.wf) e68 Inn.refl'), m70⟩
 ·obtain ⟨hh64, e60, m62⟩ := hM
  obtain ⟨β, rfl⟩ := has_ex hh64
  clear hh64
  refine k54 _ _ ?_
  refine w_seqk fun K93 k93 => ?_
  refine w_reg (by kernel_rfl) ?_
  refine s_qk (.slice a50 n51 c52) (by kernel_rfl) ?_
  refine s_qk (.int .i64 s) (by kernel_rfl) ?_
  obtain ⟨g94, r95⟩ := G_some r58
  refine s_ql (elp (.slice a50 n51 c52) 1 s.toNat 0) (x := aIndexAddr Tryd.prog 47 (.slice a50 n51 c52) (.int .i64 s)) (by kernel_rfl) (m62.sq.idxb (by kernel_rfl) g94.1 g94.2) ?_
  obtain ⟨H96, q97, e98, hm99⟩ := Ow.store (P := Tryd.prog) (t := 42) (off := 0) e60.wf m62 g94.1 g94.2 (.int .u64 0) [.int .u64 0] (by kernel_rfl) (by kernel_rfl) rfl 0 (Nat.le_of_ble_eq_true rfl) (by kernel_rfl)
  refine s_ek (undef) (by kernel_rfl) (map_ok q97) ?_
  refine s_nil ?_
  refine k93 _ _ ?_
  refine w_seqk fun K100 k100 => ?_
  refine w_seqk fun K101 k101 => ?_
  refine w_reg (by kernel_rfl) ?_
  refine s_qk (.bool true) (by kernel_rfl) ?_
  refine s_nil ?_
  refine k101 _ _ ?_
  obtain ⟨o102, hx103, r104⟩ := bind_some r95
  refine w_mid (fun α H105 => Has α [(6, .slice a50 n51 c52)] ∧ FrS f45 H96 H105 ∧ Ow (encI .u64) 1 H105 (.slice a50 n51 c52) o102 f45) (fun K109 k109 => ?_) (fun α H105 hM => ?_)
  ·refine w_block ?_
   obtain ⟨n111, hn112⟩ := loopO_iff.1 hx103
   refine w_loopn (fun n α H113 => ∃ (d5 : List (Int)), ∃ (turned6 : Bool), iterO (fun zz_ => z_viaductref08_From_l2 y17 zz_.1 zz_.2) n (d5, turned6) = some o102 ∧ Has α [(5, .pointer (some ⟨b30, 0, none⟩)), (6, .slice a50 n51 c52), (8, .bool turned6)] ∧ FrS f45 H96 H113 ∧ Ow (encI .u64) 1 H113 (.slice a50 n51 c52) d5 f45) n111 ⟨(o56.set s.toNat 0), true, hn112, ⟨by kernel_rfl, by kernel_rfl, by kernel_rfl, trivial⟩, (FrS.refl (W := f45) e98.wf), hm99⟩ ?_
   rintro n111 α H113 ⟨d5, turned6, hi118, hh117, e114, m116⟩ K123 k123
   obtain ⟨n119, z120, rfl, hz121, hn122⟩ := iter_succ hi118
   obtain ⟨β, rfl⟩ := has_ex hh117
   clear hh117
   replace hz121 : z_viaductref08_From_l2 y17 d5 turned6 = some z120 := hz121
   unfold z_viaductref08_From_l2 at hz121
   refine w_seqk fun K124 k124 => ?_
   refine w_seqk fun K125 k125 => ?_
   refine w_reg (by kernel_rfl) ?_
   refine s_qk (.bool turned6) (by kernel_rfl) ?_
   refine s_nil ?_
   refine k125 _ _ ?_
   refine w_cond (turned6) (by kernel_rfl) rfl (fun h126 => ?_) (fun h126 => ?_)
   ·have r127 := ite_t h126 hz121
    refine w_skip ?_
    refine k124 _ _ ?_
    refine w_block ?_
    refine w_seqk fun K128 k128 => ?_
    refine w_reg (by kernel_rfl) ?_
    refine s_qk (.bool false) (by kernel_rfl) ?_
    refine s_nil ?_
    refine k128 _ _ ?_
    refine w_seqk fun K129 k129 => ?_
    refine w_reg (by kernel_rfl) ?_
    refine s_qk (.pointer (some ⟨b30, 1, none⟩)) (by kernel_rfl) ?_
    have u130 := ((((r39.ext e47).frS e60 (hf48.djn (r34.ltF.le e38.next))).frS e98 (hf48.djn (r34.ltF.le e38.next))).frS e114 (hf48.djn (r34.ltF.le e38.next)))
    refine s_ql (.slice a27 n28 c29) (x := aLoad Tryd.prog 120 (.pointer (some ⟨b30, 1, none⟩)) H113) (by kernel_rfl) (u130.ld (by kernel_rfl)) ?_
    have u131 := (((((u40.fr e38 (hb33.djn m24.lt)).ext e47).fr e60 (hf48.djn (m24.lt.le (ntr e32.next e38.next)))).fr e98 (hf48.djn (m24.lt.le (ntr e32.next e38.next)))).fr e114 (hf48.djn (m24.lt.le (ntr e32.next e38.next))))
    refine s_ql (.int .i64 (y17.2.length : Int)) (x := aLen Tryd.prog 120 (.slice a27 n28 c29) H113) (by kernel_rfl) (u131.sq.lenb (by kernel_rfl)) ?_
    refine s_qk (.int .i64 0) (by kernel_rfl) ?_
    refine s_nil ?_
    refine k129 _ _ ?_
    obtain ⟨o132, hx133, r134⟩ := bind_some r127
    refine w_mid (fun α H135 => Has α [(5, .pointer (some ⟨b30, 0, none⟩)), (6, .slice a50 n51 c52), (8, .bool o132.2)] ∧ FrS f45 H113 H135 ∧ Ow (encI .u64) 1 H135 (.slice a50 n51 c52) o132.1 f45) (fun K139 k139 => ?_) (fun α H135 hM => ?_)
    ·refine w_block ?_
     obtain ⟨n141, hn142⟩ := loopO_iff.1 hx133
     refine w_loopn (fun n α H143 => ∃ (i2 : Int), ∃ (d3 : List (Int)), ∃ (turned4 : Bool), iterO (fun zz_ => z_viaductref08_From_l1 y17 zz_.1 zz_.2.1 zz_.2.2) n (i2, d3, turned4) = some o132 ∧ Has α [(5, .pointer (some ⟨b30, 0, none⟩)), (6, .slice a50 n51 c52), (8, .bool turned4), (30, .slice a27 n28 c29), (31, .int .i64 (y17.2.length : Int)), (32, .int .i64 i2)] ∧ FrS f45 H113 H143 ∧ Ow (encI .u64) 1 H143 (.slice a50 n51 c52) d3 f45) n141 ⟨0, d5, false, hn142, ⟨by kernel_rfl, by kernel_rfl, by kernel_rfl, by kernel_rfl, by kernel_rfl, by kernel_rfl, trivial⟩, (FrS.refl (W := f45) e114.wf), m116⟩ ?_
     rintro n141 α H143 ⟨i2, d3, turned4, hi148, hh147, e144, m146⟩ K153 k153
     obtain ⟨n149, z150, rfl, hz151, hn152⟩ := iter_succ hi148
     obtain ⟨β, rfl⟩ := has_ex hh147
     clear hh147
     replace hz151 : z_viaductref08_From_l1 y17 i2 d3 turned4 = some z150 := hz151
     unfold z_viaductref08_From_l1 at hz151
     refine w_seqk fun K154 k154 => ?_
     refine w_reg (by kernel_rfl) ?_
     refine s_qk (.bool (decide (i2 < (y17.2.length : Int)))) (by kernel_rfl) ?_
     refine s_nil ?_
     refine k154 _ _ ?_
     refine w_seqk fun K155 k155 => ?_
     refine w_condp (i2 < (y17.2.length : Int)) (by kernel_rfl) rfl (fun h156 => ?_) (fun h156 => ?_)
     ·have r157 := ite_t h156 hz151
      refine w_skip ?_
      refine k155 _ _ ?_
      refine w_seqk fun K158 k158 => ?_
      refine w_block ?_
      refine w_seqk fun K159 k159 => ?_
      refine w_reg (by kernel_rfl) ?_
      obtain ⟨g160, r161⟩ := G_some r157
      have u162 := (u131.fr e144 (hf48.djn (m24.lt.le (ntr e32.next e38.next))))
      refine s_ql (elp (.slice a27 n28 c29) 3 i2.toNat 0) (x := aIndexAddr Tryd.prog 120 (.slice a27 n28 c29) (.int .i64 i2)) (by kernel_rfl) (u162.sq.idxb (by kernel_rfl) g160 h156) ?_
      refine s_ql (.agg #[.int .i64 ((gt y17.2 i2).1), .int .i64 ((gt y17.2 i2).2.1), .int .i64 ((gt y17.2 i2).2.2)]) (x := aLoad Tryd.prog 123 (elp (.slice a27 n28 c29) 3 i2.toNat 0) H143) (by kernel_rfl) (u162.sq.ld g160 h156 (by kernel_rfl)) ?_
      refine s_rwk e144.wf [.int .i64 0, .int .i64 0, .int .i64 0] (by kernel_rfl) fun b163 H164 e165 hb166 r167 => ?_
      obtain ⟨H169, q170, e171, r172⟩ := Row.store (P := Tryd.prog) (t := 123) (p := 0) e165.wf r167 (.agg #[.int .i64 ((gt y17.2 i2).1), .int .i64 ((gt y17.2 i2).2.1), .int .i64 ((gt y17.2 i2).2.2)]) [.int .i64 ((gt y17.2 i2).1), .int .i64 ((gt y17.2 i2).2.1), .int .i64 ((gt y17.2 i2).2.2)] (by kernel_rfl) (by kernel_rfl) (one_cons (rfl) (one_cons (rfl) (one_cons (rfl) (one_nil)))) (Nat.le_of_ble_eq_true (by kernel_rfl)) [.int .i64 ((gt y17.2 i2).1), .int .i64 ((gt y17.2 i2).2.1), .int .i64 ((gt y17.2 i2).2.2)] (by kernel_rfl)
      refine s_ek (undef) (by kernel_rfl) (map_ok q170) ?_
      refine s_nil ?_
      refine k159 _ _ ?_
      refine w_seqk fun K173 k173 => ?_
      obtain ⟨o174, hx175, r176⟩ := bind_some r161
      refine w_mid (fun α H177 => Has α [(5, .pointer (some ⟨b30, 0, none⟩)), (6, .slice a50 n51 c52), (8, .bool turned4), (10, .pointer (some ⟨b163, 0, none⟩)), (30, .slice a27 n28 c29), (31, .int .i64 (y17.2.length : Int)), (32, .int .i64 i2), (58, .bool o174)] ∧ H169 = H177) (fun K179 k179 => ?_) (fun α H177 hM => ?_)
      ·refine w_draw [0, 1, 2, 3, 4, 5, 6, 7, 8, 9, 10, 11, 12, 13, 14, 15, 16, 17, 18, 19, 20, 21, 22] (by kernel_rfl) ?_
       refine d_qk (.slice a50 n51 c52) (by kernel_rfl) ?_
       refine d_qk (.pointer (some ⟨b163, 0, none⟩)) (by kernel_rfl) ?_
       refine d_ql (.int .i64 ((gt y17.2 i2).1)) (x := aLoad Tryd.prog 3 (.pointer (some ⟨b163, 0, none⟩)) H169) (by kernel_rfl) (r172.ld (by kernel_rfl)) ?_
       obtain ⟨g181, r182⟩ := G_some hx175
       have u183 := ((m146.ext e165).fr e171 (hb166.djn (hm49.lt.le (ntr (ntr (ntr e60.next e98.next) e114.next) e144.next))))
       refine d_ql (elp (.slice a50 n51 c52) 1 ((gt y17.2 i2).1).toNat 0) (x := aIndexAddr Tryd.prog 47 (.slice a50 n51 c52) (.int .i64 ((gt y17.2 i2).1))) (by kernel_rfl) (u183.sq.idxb (by kernel_rfl) g181.1 g181.2) ?_
       refine d_ql (.int .u64 (gt d3 ((gt y17.2 i2).1))) (x := aLoad Tryd.prog 42 (elp (.slice a50 n51 c52) 1 ((gt y17.2 i2).1).toNat 0) H169) (by kernel_rfl) (u183.sq.ld g181.1 g181.2 (by kernel_rfl)) ?_
       refine d_bn ((gt d3 ((gt y17.2 i2).1)) = 18446744073709551615) (by kernel_rfl) (fun h184 => ?_) (fun h184 => ?_)
       ·have r185 := ite_t h184 r182
        refine d_qk (.bool false) (by kernel_rfl) ?_
        refine d_idle (by kernel_rfl) ?_
        refine d_idle (by kernel_rfl) ?_
        refine d_idle (by kernel_rfl) ?_
        refine d_idle (by kernel_rfl) ?_
        refine d_idle (by kernel_rfl) ?_
        refine d_idle (by kernel_rfl) ?_
        refine d_idle (by kernel_rfl) ?_
        refine d_idle (by kernel_rfl) ?_
        refine d_idle (by kernel_rfl) ?_
        refine d_idle (by kernel_rfl) ?_
        refine d_idle (by kernel_rfl) ?_
        refine d_idle (by kernel_rfl) ?_
        refine d_idle (by kernel_rfl) ?_
        refine d_idle (by kernel_rfl) ?_
        refine d_idle (by kernel_rfl) ?_
        refine d_qk (.bool false) (by kernel_rfl) ?_
        refine d_nil ?_
        obtain rfl := Option.some.inj r185
        exact k179 _ _ ⟨⟨by kernel_rfl, by kernel_rfl, by kernel_rfl, by kernel_rfl, by kernel_rfl, by kernel_rfl, by kernel_rfl, by kernel_rfl, trivial⟩, rfl⟩
       ·have r186 := ite_f h184 r182
        refine d_qk (.bool true) (by kernel_rfl) ?_
        refine d_qk (.slice a50 n51 c52) (by kernel_rfl) ?_
        refine d_qk (.pointer (some ⟨b163, 0, none⟩)) (by kernel_rfl) ?_
        refine d_ql (.int .i64 ((gt y17.2 i2).1)) (x := aLoad Tryd.prog 3 (.pointer (some ⟨b163, 0, none⟩)) H169) (by kernel_rfl) (r172.ld (by kernel_rfl)) ?_
        refine d_ql (elp (.slice a50 n51 c52) 1 ((gt y17.2 i2).1).toNat 0) (x := aIndexAddr Tryd.prog 47 (.slice a50 n51 c52) (.int .i64 ((gt y17.2 i2).1))) (by kernel_rfl) (u183.sq.idxb (by kernel_rfl) g181.1 g181.2) ?_
        refine d_ql (.int .u64 (gt d3 ((gt y17.2 i2).1))) (x := aLoad Tryd.prog 42 (elp (.slice a50 n51 c52) 1 ((gt y17.2 i2).1).toNat 0) H169) (by kernel_rfl) (u183.sq.ld g181.1 g181.2 (by kernel_rfl)) ?_
        refine d_qk (.pointer (some ⟨b163, 2, none⟩)) (by kernel_rfl) ?_
        refine d_ql (.int .i64 ((gt y17.2 i2).2.2)) (x := aLoad Tryd.prog 3 (.pointer (some ⟨b163, 2, none⟩)) H169) (by kernel_rfl) (r172.ld (by kernel_rfl)) ?_
        obtain ⟨g187, r188⟩ := G_some r186
        refine d_w ((gt y17.2 i2).2.2) (k := .u64) (x := (gt y17.2 i2).2.2) (by kernel_rfl) (wrapu64 g187) ?_
        obtain ⟨g189, r190⟩ := G_some r188
        refine d_w (((gt d3 ((gt y17.2 i2).1)) + ((gt y17.2 i2).2.2))) (k := .u64) (x := ((gt d3 ((gt y17.2 i2).1)) + ((gt y17.2 i2).2.2))) (by kernel_rfl) (wrapu64 g189) ?_
        refine d_qk (.slice a50 n51 c52) (by kernel_rfl) ?_
        refine d_qk (.pointer (some ⟨b163, 1, none⟩)) (by kernel_rfl) ?_
        refine d_ql (.int .i64 ((gt y17.2 i2).2.1)) (x := aLoad Tryd.prog 3 (.pointer (some ⟨b163, 1, none⟩)) H169) (by kernel_rfl) (r172.ld (by kernel_rfl)) ?_
        obtain ⟨g191, r192⟩ := G_some r190
        refine d_ql (elp (.slice a50 n51 c52) 1 ((gt y17.2 i2).2.1).toNat 0) (x := aIndexAddr Tryd.prog 47 (.slice a50 n51 c52) (.int .i64 ((gt y17.2 i2).2.1))) (by kernel_rfl) (u183.sq.idxb (by kernel_rfl) g191.1 g191.2) ?_
        refine d_ql (.int .u64 (gt d3 ((gt y17.2 i2).2.1))) (x := aLoad Tryd.prog 42 (elp (.slice a50 n51 c52) 1 ((gt y17.2 i2).2.1).toNat 0) H169) (by kernel_rfl) (u183.sq.ld g191.1 g191.2 (by kernel_rfl)) ?_
        refine d_qk (.bool (decide (((gt d3 ((gt y17.2 i2).1)) + ((gt y17.2 i2).2.2)) < (gt d3 ((gt y17.2 i2).2.1))))) (by kernel_rfl) ?_
        refine d_qk (.bool (decide (((gt d3 ((gt y17.2 i2).1)) + ((gt y17.2 i2).2.2)) < (gt d3 ((gt y17.2 i2).2.1))))) (by kernel_rfl) ?_
        refine d_nil ?_
        obtain rfl := Option.some.inj r192
        exact k179 _ _ ⟨⟨by kernel_rfl, by kernel_rfl, by kernel_rfl, by kernel_rfl, by kernel_rfl, by kernel_rfl, by kernel_rfl, by kernel_rfl, trivial⟩, rfl⟩
      ·obtain ⟨hh180, rfl⟩ := hM
       obtain ⟨β, rfl⟩ := has_ex hh180
       clear hh180
       refine k173 _ _ ?_
       refine w_cond (o174) (by kernel_rfl) rfl (fun h193 => ?_) (fun h193 => ?_)
       ·have r194 := ite_t h193 r176
        refine w_seqk fun K195 k195 => ?_
        refine w_draw [0, 1, 2, 3, 4, 5, 6, 7, 8, 9, 10, 11, 12, 13] (by kernel_rfl) ?_
        refine d_qk (.slice a50 n51 c52) (by kernel_rfl) ?_
        refine d_qk (.pointer (some ⟨b163, 1, none⟩)) (by kernel_rfl) ?_
        refine d_ql (.int .i64 ((gt y17.2 i2).2.1)) (x := aLoad Tryd.prog 3 (.pointer (some ⟨b163, 1, none⟩)) H169) (by kernel_rfl) (r172.ld (by kernel_rfl)) ?_
        refine d_qk (.slice a50 n51 c52) (by kernel_rfl) ?_
        refine d_qk (.pointer (some ⟨b163, 0, none⟩)) (by kernel_rfl) ?_
        refine d_ql (.int .i64 ((gt y17.2 i2).1)) (x := aLoad Tryd.prog 3 (.pointer (some ⟨b163, 0, none⟩)) H169) (by kernel_rfl) (r172.ld (by kernel_rfl)) ?_
        obtain ⟨g196, r197⟩ := G_some r194
        have u198 := ((m146.ext e165).fr e171 (hb166.djn (hm49.lt.le (ntr (ntr (ntr e60.next e98.next) e114.next) e144.next))))
        refine d_ql (elp (.slice a50 n51 c52) 1 ((gt y17.2 i2).1).toNat 0) (x := aIndexAddr Tryd.prog 47 (.slice a50 n51 c52) (.int .i64 ((gt y17.2 i2).1))) (by kernel_rfl) (u198.sq.idxb (by kernel_rfl) g196.1 g196.2) ?_
        refine d_ql (.int .u64 (gt d3 ((gt y17.2 i2).1))) (x := aLoad Tryd.prog 42 (elp (.slice a50 n51 c52) 1 ((gt y17.2 i2).1).toNat 0) H169) (by kernel_rfl) (u198.sq.ld g196.1 g196.2 (by kernel_rfl)) ?_
        refine d_qk (.pointer (some ⟨b163, 2, none⟩)) (by kernel_rfl) ?_
        refine d_ql (.int .i64 ((gt y17.2 i2).2.2)) (x := aLoad Tryd.prog 3 (.pointer (some ⟨b163, 2, none⟩)) H169) (by kernel_rfl) (r172.ld (by kernel_rfl)) ?_
        obtain ⟨g199, r200⟩ := G_some r197
        refine d_w ((gt y17.2 i2).2.2) (k := .u64) (x := (gt y17.2 i2).2.2) (by kernel_rfl) (wrapu64 g199) ?_
        obtain ⟨g201, r202⟩ := G_some r200
        refine d_w (((gt d3 ((gt y17.2 i2).1)) + ((gt y17.2 i2).2.2))) (k := .u64) (x := ((gt d3 ((gt y17.2 i2).1)) + ((gt y17.2 i2).2.2))) (by kernel_rfl) (wrapu64 g201) ?_
        obtain ⟨g203, r204⟩ := G_some r202
        refine d_ql (elp (.slice a50 n51 c52) 1 ((gt y17.2 i2).2.1).toNat 0) (x := aIndexAddr Tryd.prog 47 (.slice a50 n51 c52) (.int .i64 ((gt y17.2 i2).2.1))) (by kernel_rfl) (u198.sq.idxb (by kernel_rfl) g203.1 g203.2) ?_
        obtain ⟨H205, q206, e207, hm208⟩ := Ow.store (P := Tryd.prog) (t := 42) (off := 0) e171.wf u198 g203.1 g203.2 (.int .u64 ((gt d3 ((gt y17.2 i2).1)) + ((gt y17.2 i2).2.2))) [.int .u64 ((gt d3 ((gt y17.2 i2).1)) + ((gt y17.2 i2).2.2))] (by kernel_rfl) (by kernel_rfl) rfl ((gt d3 ((gt y17.2 i2).1)) + ((gt y17.2 i2).2.2)) (Nat.le_of_ble_eq_true rfl) (by kernel_rfl)
        refine d_ek (undef) (by kernel_rfl) (map_ok q206) (st_nil) ?_
        refine d_nil ?_
        refine k195 _ _ ?_
        refine w_reg (by kernel_rfl) ?_
        refine s_qk (.bool true) (by kernel_rfl) ?_
        refine s_nil ?_
        refine k158 _ _ ?_
        refine w_reg (by kernel_rfl) ?_
        obtain ⟨g209, r210⟩ := G_some r204
        refine s_w ((i2 + 1)) (k := .i64) (x := (i2 + 1)) (by kernel_rfl) (wrap64 (by have := g209; omega)) ?_
        refine s_qk (.int .i64 (i2 + 1)) (by kernel_rfl) ?_
        refine s_nil ?_
        obtain rfl := Option.some.inj r210
        exact k153 n149 _ _ (Nat.lt_succ_self _) ⟨(i2 + 1), (d3.set ((gt y17.2 i2).2.1).toNat ((gt d3 ((gt y17.2 i2).1)) + ((gt y17.2 i2).2.2))), true, hn152, ⟨by kernel_rfl, by kernel_rfl, by kernel_rfl, by kernel_rfl, by kernel_rfl, by kernel_rfl, trivial⟩, (FrS.step e114.wf (FrS.step e114.wf ((FrS.step e114.wf (FrS.refl (W := f45) e114.wf) e144 Inn.refl').extR e165) e171 (hb166.fresh e144.next)) e207 Inn.refl'), hm208⟩
       ·have r211 := ite_bf h193 r176
        refine w_skip ?_
        refine k158 _ _ ?_
        refine w_reg (by kernel_rfl) ?_
        obtain ⟨g212, r213⟩ := G_some r211
        refine s_w ((i2 + 1)) (k := .i64) (x := (i2 + 1)) (by kernel_rfl) (wrap64 (by have := g212; omega)) ?_
        refine s_qk (.int .i64 (i2 + 1)) (by kernel_rfl) ?_
        refine s_nil ?_
        have u214 := ((m146.ext e165).fr e171 (hb166.djn (hm49.lt.le (ntr (ntr (ntr e60.next e98.next) e114.next) e144.next))))
        obtain rfl := Option.some.inj r213
        exact k153 n149 _ _ (Nat.lt_succ_self _) ⟨(i2 + 1), d3, turned4, hn152, ⟨by kernel_rfl, by kernel_rfl, by kernel_rfl, by kernel_rfl, by kernel_rfl, by kernel_rfl, trivial⟩, (FrS.step e114.wf ((FrS.step e114.wf (FrS.refl (W := f45) e114.wf) e144 Inn.refl').extR e165) e171 (hb166.fresh e144.next)), u214⟩
     ·have r215 := ite_f h156 hz151
      refine w_exit (th_exit (th_exit (bl_eq ?_)))
      obtain rfl := Option.some.inj r215
      obtain rfl := it_inr hn152
      exact k139 _ _ ⟨⟨by kernel_rfl, by kernel_rfl, by kernel_rfl, trivial⟩, (FrS.step e114.wf (FrS.refl (W := f45) e114.wf) e144 Inn.refl'), m146⟩
    ·obtain ⟨hh140, e136, m138⟩ := hM
     obtain ⟨β, rfl⟩ := has_ex hh140
     clear hh140
     obtain rfl := Option.some.inj r134
     exact k123 n119 _ _ (Nat.lt_succ_self _) ⟨o132.1, o132.2, hn122, ⟨by kernel_rfl, by kernel_rfl, by kernel_rfl, trivial⟩, (FrS.step e98.wf (FrS.step e98.wf (FrS.refl (W := f45) e98.wf) e114 Inn.refl') e136 Inn.refl'), m138⟩
   ·have r216 := ite_bf h126 hz121
    refine w_exit (th_exit (th_exit (bl_eq ?_)))
    obtain rfl := Option.some.inj r216
    obtain rfl := it_inr hn122
    exact k109 _ _ ⟨⟨by kernel_rfl, trivial⟩, (FrS.step e98.wf (FrS.refl (W := f45) e98.wf) e114 Inn.refl'), m116⟩
  ·obtain ⟨hh110, e106, m108⟩ := hM
   obtain ⟨β, rfl⟩ := has_ex hh110
   clear hh110
   refine k100 _ _ ?_
   refine w_seqk fun K217 k217 => ?_
   refine w_reg (by kernel_rfl) ?_
   refine s_qk (.slice a50 n51 c52) (by kernel_rfl) ?_
   refine s_qk (.slice a50 n51 c52) (by kernel_rfl) ?_
   refine s_nil ?_
   refine k217 _ _ ?_
   refine w_ret ?_
   refine b_ret (fn := Tryd.f56) (vs := [.slice a50 n51 c52]) (aRes_tmp (by kernel_rfl) (rfl)) ?_
   obtain rfl := Option.some.inj r104
   exact ⟨(.slice a50 n51 c52), f45, rfl, (FrS.step wf (FrS.step wf (FrS.step wf ((FrS.step wf ((FrS.step wf ((FrS.refl (W := []) wf).extR e9) e23 Inn.nil).extR e32) e38 (hb33.fresh (ntr e9.next e23.next))).extR e47) e60 (hf48.fresh (ntr (ntr (ntr e9.next e23.next) e32.next) e38.next))) e98 (hf48.fresh (ntr (ntr (ntr e9.next e23.next) e32.next) e38.next))) e106 (hf48.fresh (ntr (ntr (ntr e9.next e23.next) e32.next) e38.next))), m108, (hf48.fresh (ntr (ntr (ntr e9.next e23.next) e32.next) e38.next))⟩

theorem c_viaductref08_DocFrom {H : AH} {hd_First : Value} {fp_First : Fp} {hd_To : Value} {fp_To : Fp} {hd_Weight : Value} {fp_Weight : Fp} {First : List (Int)} {To : List (Int)} {Weight : List (Int)} {s : Int} {r : List (Int) × Int × List (Int × Int)}
  (wf : WF H) (h_First : Sq (encI .i64) 1 H hd_First First fp_First) (h_To : Sq (encI .i64) 1 H hd_To To fp_To) (h_Weight : Sq (encI .i64) 1 H hd_Weight Weight fp_Weight) (hr : z_viaductref08_DocFrom First To Weight s = some r) :
  ACalls Tryd.prog 27 #[.agg #[hd_First, hd_To, hd_Weight], .int .i64 s] H fun v H' => ∃ (s3 : Value) (f4 : Fp) (s7 : Value) (f8 : Fp), v = .tuple #[s3, .agg #[.int .i64 r.2.1, s7]] ∧ FrS [] H H' ∧ Ow (encI .u64) 1 H' s3 r.1 f4 ∧ Ow enc_i64_i64 2 H' s7 r.2.2 f8 ∧ Inn [] H f4 ∧ Inn [] H f8 ∧ Dj f4 f8 := by
 refine acalls_of_body mixed Tryd.func27 rfl (Nat.le_of_ble_eq_true rfl) ?_
 unfold z_viaductref08_DocFrom at hr
 refine w_seqk fun K12 k12 => ?_
 refine w_reg (by kernel_rfl) ?_
 refine s_rwl wf [hd_First, hd_To, hd_Weight] (one_cons (h_First.one1) (one_cons (h_To.one1) (one_cons (h_Weight.one1) (one_nil)))) (by kernel_rfl) fun b13 H14 e15 hb16 r17 => ?_
 refine s_qk (.slice none 0 0) (by kernel_rfl) ?_
 refine s_rwk e15.wf [.int .i64 0, .slice none 0 0] (by kernel_rfl) fun b19 H20 e21 hb22 r23 => ?_
 refine s_nil ?_
 refine k12 _ _ ?_
 refine w_seqk fun K25 k25 => ?_
 refine w_seqk fun K26 k26 => ?_
 refine w_reg (by kernel_rfl) ?_
 have u27 := (r17.ext e21)
 refine s_ql (.agg #[hd_First, hd_To, hd_Weight]) (x := aLoad Tryd.prog 37 (.pointer (some ⟨b13, 0, none⟩)) H20) (by kernel_rfl) (u27.ld (by kernel_rfl)) ?_
 refine s_qk (.int .i64 s) (by kernel_rfl) ?_
 have u28 := ((h_First.ext e15).ext e21)
 have u29 := ((h_To.ext e15).ext e21)
 have u30 := ((h_Weight.ext e15).ext e21)
 obtain ⟨y31, hy32, r33⟩ := bind_some hr
 refine s_ck 54 #[.agg #[hd_First, hd_To, hd_Weight], .int .i64 s] (by kernel_rfl) (c_viaductref08_node e21.wf u28 u29 u30 hy32) ?_
 rintro _ H36 ⟨s34, f35, rfl, e37, m38, i39⟩
 obtain ⟨a41, n42, c43, rfl⟩ := m38.form
 refine s_rwk e37.wf [.int .i64 0, .slice none 0 0] (by kernel_rfl) fun b44 H45 e46 hb47 r48 => ?_
 have u54 := (m38.ext e46)
 obtain ⟨H50, q51, e52, r53⟩ := Row.store (P := Tryd.prog) (t := 31) (p := 0) e46.wf r48 (.agg #[.int .i64 y31.1, .slice a41 n42 c43]) [.int .i64 y31.1, .slice a41 n42 c43] (by kernel_rfl) (by kernel_rfl) (one_cons (rfl) (one_cons (u54.one1) (one_nil))) (Nat.le_of_ble_eq_true (by kernel_rfl)) [.int .i64 y31.1, .slice a41 n42 c43] (by kernel_rfl)
 refine s_ek (undef) (by kernel_rfl) (map_ok q51) ?_
 refine s_nil ?_
 refine k26 _ _ ?_
 refine w_seqk fun K55 k55 => ?_
 refine w_reg (by kernel_rfl) ?_
 refine s_ql (.agg #[.int .i64 y31.1, .slice a41 n42 c43]) (x := aLoad Tryd.prog 31 (.pointer (some ⟨b44, 0, none⟩)) H50) (by kernel_rfl) (r53.ld (by kernel_rfl)) ?_
 have u56 := (u54.fr e52 (hb47.djn m38.lt))
 obtain ⟨y57, hy58, r59⟩ := bind_some r33
 refine s_ck 24 #[.agg #[.int .i64 y31.1, .slice a41 n42 c43]] (by kernel_rfl) (c_viaductref01_Err_Bad e52.wf u56.sq hy58) ?_
 rintro _ H60 ⟨rfl, e61⟩
 refine s_nil ?_
 refine k55 _ _ ?_
 refine w_cond (y57) (by kernel_rfl) rfl (fun h62 => ?_) (fun h62 => ?_)
 ·have r63 := ite_t h62 r59
  refine w_seqk fun K64 k64 => ?_
  refine w_draw [0, 1, 2] (by kernel_rfl) ?_
  have u65 := (r53.frS e61 Dj.nil_l)
  refine d_ql (.agg #[.int .i64 y31.1, .slice a41 n42 c43]) (x := aLoad Tryd.prog 31 (.pointer (some ⟨b44, 0, none⟩)) H60) (by kernel_rfl) (u65.ld (by kernel_rfl)) ?_
  refine d_qk (.slice none 0 0) (by kernel_rfl) ?_
  have u70 := ((((r23.frS e37 Dj.nil_l).ext e46).frS e52 (hb47.djn (r23.ltF.le e37.next))).frS e61 Dj.nil_l)
  have u71 := (u56.fr e61 Dj.nil_l)
  obtain ⟨H66, q67, e68, r69⟩ := Row.store (P := Tryd.prog) (t := 31) (p := 0) e61.wf u70 (.agg #[.int .i64 y31.1, .slice a41 n42 c43]) [.int .i64 y31.1, .slice a41 n42 c43] (by kernel_rfl) (by kernel_rfl) (one_cons (rfl) (one_cons (u71.one1) (one_nil))) (Nat.le_of_ble_eq_true (by kernel_rfl)) [.int .i64 y31.1, .slice a41 n42 c43] (by kernel_rfl)
  refine d_ek (undef) (by kernel_rfl) (map_ok q67) (st_nil) ?_
  refine d_nil ?_
  refine k64 _ _ ?_
  refine w_ret (th_ret ?_)
  refine b_ret (fn := Tryd.f27) (vs := [.slice none 0 0, .agg #[.int .i64 y31.1, .slice a41 n42 c43]]) (aRes_tmp (by kernel_rfl) (aRes_cell (Eq.trans (b := aLoad Tryd.prog 31 (.pointer (some ⟨b19, 0, none⟩)) H66) (by kernel_rfl) (r69.ld (by kernel_rfl))) (rfl))) ?_
  have u72 := (u71.fr e68 (Dj.symm (i39.djn r23.ltF)))
  obtain rfl := Option.some.inj r63
  exact ⟨(.slice none 0 0), [], (.slice a41 n42 c43), f35, rfl, (FrS.step wf (FrS.step wf (FrS.step wf ((FrS.step wf (((FrS.refl (W := []) wf).extR e15).extR e21) e37 Inn.nil).extR e46) e52 (hb47.fresh (ntr (ntr e15.next e21.next) e37.next))) e61 Inn.nil) e68 (hb22.fresh e15.next)), (Ow.nil (by decide)), u72, Inn.nil, (i39.fresh (ntr e15.next e21.next)), Dj.nil_l⟩
 ·have r73 := ite_bf h62 r59
  refine w_skip ?_
  refine k25 _ _ ?_
  refine w_seqk fun K74 k74 => ?_
  refine w_reg (by kernel_rfl) ?_
  have u75 := ((((u27.frS e37 Dj.nil_l).ext e46).frS e52 (hb47.djn (r17.ltF.le (ntr e21.next e37.next)))).frS e61 Dj.nil_l)
  refine s_ql (.agg #[hd_First, hd_To, hd_Weight]) (x := aLoad Tryd.prog 37 (.pointer (some ⟨b13, 0, none⟩)) H60) (by kernel_rfl) (u75.ld (by kernel_rfl)) ?_
  refine s_qk (.int .i64 s) (by kernel_rfl) ?_
  have u76 := ((((u28.fr e37 Dj.nil_l).ext e46).fr e52 (hb47.djn (h_First.lt.le (ntr (ntr e15.next e21.next) e37.next)))).fr e61 Dj.nil_l)
  have u77 := ((((u29.fr e37 Dj.nil_l).ext e46).fr e52 (hb47.djn (h_To.lt.le (ntr (ntr e15.next e21.next) e37.next)))).fr e61 Dj.nil_l)
  have u78 := ((((u30.fr e37 Dj.nil_l).ext e46).fr e52 (hb47.djn (h_Weight.lt.le (ntr (ntr e15.next e21.next) e37.next)))).fr e61 Dj.nil_l)
  obtain ⟨y79, hy80, r81⟩ := bind_some r73
  refine s_ck 56 #[.agg #[hd_First, hd_To, hd_Weight], .int .i64 s] (by kernel_rfl) (c_viaductref08_From e61.wf u76 u77 u78 hy80) ?_
  rintro s82 H84 ⟨_, f83, rfl, e85, m86, i87⟩
  obtain ⟨a89, n90, c91, rfl⟩ := m86.form
  refine s_qk (.agg #[.int .i64 0, .slice none 0 0]) (by kernel_rfl) ?_
  refine s_qk (.slice a89 n90 c91) (by kernel_rfl) ?_
  have u96 := (((((r23.frS e37 Dj.nil_l).ext e46).frS e52 (hb47.djn (r23.ltF.le e37.next))).frS e61 Dj.nil_l).frS e85 Dj.nil_l)
  obtain ⟨H92, q93, e94, r95⟩ := Row.store (P := Tryd.prog) (t := 31) (p := 0) e85.wf u96 (.agg #[.int .i64 0, .slice none 0 0]) [.int .i64 0, .slice none 0 0] (by kernel_rfl) (by kernel_rfl) (one_cons (rfl) (one_cons (rfl) (one_nil))) (Nat.le_of_ble_eq_true (by kernel_rfl)) [.int .i64 0, .slice none 0 0] (by kernel_rfl)
  refine s_ek (undef) (by kernel_rfl) (map_ok q93) ?_
  refine s_nil ?_
  refine k74 _ _ ?_
  refine w_ret ?_
  refine b_ret (fn := Tryd.f27) (vs := [.slice a89 n90 c91, .agg #[.int .i64 0, .slice none 0 0]]) (aRes_tmp (by kernel_rfl) (aRes_cell (Eq.trans (b := aLoad Tryd.prog 31 (.pointer (some ⟨b19, 0, none⟩)) H92) (by kernel_rfl) (r95.ld (by kernel_rfl))) (rfl))) ?_
  have u97 := (m86.fr e94 (Dj.symm (i87.djn (r23.ltF.le (ntr (ntr (ntr e37.next e46.next) e52.next) e61.next)))))
  obtain rfl := Option.some.inj r81
  exact ⟨(.slice a89 n90 c91), f83, (.slice none 0 0), [], rfl, (FrS.step wf (FrS.step wf (FrS.step wf (FrS.step wf ((FrS.step wf (((FrS.refl (W := []) wf).extR e15).extR e21) e37 Inn.nil).extR e46) e52 (hb47.fresh (ntr (ntr e15.next e21.next) e37.next))) e61 Inn.nil) e85 Inn.nil) e94 (hb22.fresh e15.next)), u97, (Ow.nil (by decide)), (i87.fresh (ntr (ntr (ntr (ntr (ntr e15.next e21.next) e37.next) e46.next) e52.next) e61.next)), Inn.nil, Dj.nil_r⟩

theorem c_viaductref04_SameRow {H : AH} {hd_a : Value} {fp_a : Fp} {hd_b : Value} {fp_b : Fp} {a : List (Int)} {b : List (Int)} {r : Bool}
  (wf : WF H) (h_a : Sq (encI .u64) 1 H hd_a a fp_a) (h_b : Sq (encI .u64) 1 H hd_b b fp_b) (hr : z_viaductref04_SameRow a b = some r) :
  ACalls Tryd.prog 28 #[hd_a, hd_b] H fun v H' => v = .bool r ∧ H = H' := by
 refine acalls_of_body mixed Tryd.func28 rfl (Nat.le_of_ble_eq_true rfl) ?_
 unfold z_viaductref04_SameRow at hr
 refine w_seqk fun K1 k1 => ?_
 refine w_reg (by kernel_rfl) ?_
 refine s_qk (.bool false) (by kernel_rfl) ?_
 refine s_nil ?_
 refine k1 _ _ ?_
 refine w_seqk fun K2 k2 => ?_
 refine w_seqk fun K3 k3 => ?_
 refine w_reg (by kernel_rfl) ?_
 refine s_qk (hd_a) (by kernel_rfl) ?_
 refine s_ql (.int .i64 (a.length : Int)) (x := aLen Tryd.prog 47 hd_a H) (by kernel_rfl) (h_a.lenb (by kernel_rfl)) ?_
 refine s_qk (hd_b) (by kernel_rfl) ?_
 refine s_ql (.int .i64 (b.length : Int)) (x := aLen Tryd.prog 47 hd_b H) (by kernel_rfl) (h_b.lenb (by kernel_rfl)) ?_
 refine s_qk (.bool (!decide ((a.length : Int) = (b.length : Int)))) (by kernel_rfl) ?_
 refine s_nil ?_
 refine k3 _ _ ?_
 refine w_condn ((a.length : Int) = (b.length : Int)) (by kernel_rfl) rfl (fun h4 => ?_) (fun h4 => ?_)
 ·have r5 := ite_f h4 hr
  refine w_seqk fun K6 k6 => ?_
  refine w_reg (by kernel_rfl) ?_
  refine s_qk (.bool false) (by kernel_rfl) ?_
  refine s_nil ?_
  refine k6 _ _ ?_
  refine w_ret (th_ret ?_)
  refine b_ret (fn := Tryd.f28) (vs := [.bool false]) (aRes_tmp (by kernel_rfl) (rfl)) ?_
  obtain rfl := Option.some.inj r5
  exact ⟨rfl, rfl⟩
 ·have r7 := ite_t h4 hr
  refine w_skip ?_
  refine k2 _ _ ?_
  refine w_seqk fun K8 k8 => ?_
  refine w_seqk fun K9 k9 => ?_
  refine w_reg (by kernel_rfl) ?_
  refine s_qk (hd_a) (by kernel_rfl) ?_
  refine s_ql (.int .i64 (a.length : Int)) (x := aLen Tryd.prog 47 hd_a H) (by kernel_rfl) (h_a.lenb (by kernel_rfl)) ?_
  refine s_qk (.int .i64 0) (by kernel_rfl) ?_
  refine s_nil ?_
  refine k9 _ _ ?_
  obtain ⟨z13, hx11, r12⟩ := bind_some r7
  refine w_mid (fun α H14 => ∃ o10, z13 = Sum.inr o10 ∧ Has α [] ∧ H = H14) (fun K16 k16 => ?_) (fun α H14 hM => ?_)
  ·refine w_block ?_
   obtain ⟨n18, hn19⟩ := loopO_iff.1 hx11
   refine w_loopn (fun n α H20 => ∃ (i0 : Int), iterO (fun zz_ => z_viaductref04_SameRow_l0 a b zz_) n i0 = some z13 ∧ Has α [(0, hd_a), (1, hd_b), (12, .int .i64 (a.length : Int)), (13, .int .i64 i0)] ∧ H = H20) n18 ⟨0, hn19, ⟨by kernel_rfl, by kernel_rfl, by kernel_rfl, by kernel_rfl, trivial⟩, rfl⟩ ?_
   rintro n18 α H20 ⟨i0, hi23, hh22, rfl⟩ K28 k28
   obtain ⟨n24, z25, rfl, hz26, hn27⟩ := iter_succ hi23
   obtain ⟨β, rfl⟩ := has_ex hh22
   clear hh22
   replace hz26 : z_viaductref04_SameRow_l0 a b i0 = some z25 := hz26
   unfold z_viaductref04_SameRow_l0 at hz26
   refine w_seqk fun K29 k29 => ?_
   refine w_reg (by kernel_rfl) ?_
   refine s_qk (.bool (decide (i0 < (a.length : Int)))) (by kernel_rfl) ?_
   refine s_nil ?_
   refine k29 _ _ ?_
   refine w_seqk fun K30 k30 => ?_
   refine w_condp (i0 < (a.length : Int)) (by kernel_rfl) rfl (fun h31 => ?_) (fun h31 => ?_)
   ·have r32 := ite_t h31 hz26
    refine w_skip ?_
    refine k30 _ _ ?_
    refine w_seqk fun K33 k33 => ?_
    refine w_block ?_
    refine w_seqk fun K34 k34 => ?_
    refine w_reg (by kernel_rfl) ?_
    refine s_qk (.int .i64 i0) (by kernel_rfl) ?_
    refine s_qk (.int .i64 i0) (by kernel_rfl) ?_
    refine s_nil ?_
    refine k34 _ _ ?_
    refine w_seqk fun K35 k35 => ?_
    refine w_draw [0, 1, 2, 3, 4, 5, 6, 7, 8] (by kernel_rfl) ?_
    refine d_qk (hd_a) (by kernel_rfl) ?_
    refine d_qk (.int .i64 i0) (by kernel_rfl) ?_
    obtain ⟨g36, r37⟩ := G_some r32
    refine d_ql (elp hd_a 1 i0.toNat 0) (x := aIndexAddr Tryd.prog 47 hd_a (.int .i64 i0)) (by kernel_rfl) (h_a.idxb (by kernel_rfl) g36 h31) ?_
    refine d_ql (.int .u64 (gt a i0)) (x := aLoad Tryd.prog 42 (elp hd_a 1 i0.toNat 0) H) (by kernel_rfl) (h_a.ld g36 h31 (by kernel_rfl)) ?_
    refine d_qk (hd_b) (by kernel_rfl) ?_
    refine d_qk (.int .i64 i0) (by kernel_rfl) ?_
    obtain ⟨g38, r39⟩ := G_some r37
    refine d_ql (elp hd_b 1 i0.toNat 0) (x := aIndexAddr Tryd.prog 47 hd_b (.int .i64 i0)) (by kernel_rfl) (h_b.idxb (by kernel_rfl) g36 g38) ?_
    refine d_ql (.int .u64 (gt b i0)) (x := aLoad Tryd.prog 42 (elp hd_b 1 i0.toNat 0) H) (by kernel_rfl) (h_b.ld g36 g38 (by kernel_rfl)) ?_
    refine d_qk (.bool (!decide ((gt a i0) = (gt b i0)))) (by kernel_rfl) ?_
    refine d_nil ?_
    refine k35 _ _ ?_
    refine w_condn ((gt a i0) = (gt b i0)) (by kernel_rfl) rfl (fun h40 => ?_) (fun h40 => ?_)
    ·have r41 := ite_f h40 r39
     refine w_seqk fun K42 k42 => ?_
     refine w_reg (by kernel_rfl) ?_
     refine s_qk (.bool false) (by kernel_rfl) ?_
     refine s_nil ?_
     refine k42 _ _ ?_
     refine w_ret (bl_ret (th_ret (th_ret (bl_ret (th_ret (th_ret ?_))))))
     obtain ⟨v43, hv44, hz45⟩ := map_some r41
     subst hz45
     obtain rfl := it_inr hn27
     have hq46 := elim_inl r12
     rw [hq46] at hv44
     refine b_ret (fn := Tryd.f28) (vs := [.bool false]) (aRes_tmp (by kernel_rfl) (rfl)) ?_
     obtain rfl := Option.some.inj hv44
     exact ⟨rfl, rfl⟩
    ·have r47 := ite_t h40 r39
     refine w_skip ?_
     refine k33 _ _ ?_
     refine w_reg (by kernel_rfl) ?_
     obtain ⟨g48, r49⟩ := G_some r47
     refine s_w ((i0 + 1)) (k := .i64) (x := (i0 + 1)) (by kernel_rfl) (wrap64 (by have := g48; omega)) ?_
     refine s_qk (.int .i64 (i0 + 1)) (by kernel_rfl) ?_
     refine s_nil ?_
     obtain rfl := Option.some.inj r49
     exact k28 n24 _ _ (Nat.lt_succ_self _) ⟨(i0 + 1), hn27, ⟨by kernel_rfl, by kernel_rfl, by kernel_rfl, by kernel_rfl, trivial⟩, rfl⟩
   ·have r50 := ite_f h31 hz26
    refine w_exit (th_exit (th_exit (bl_eq ?_)))
    obtain rfl := Option.some.inj r50
    obtain rfl := it_inr hn27
    exact k16 _ _ ⟨_, rfl, trivial, rfl⟩
  ·obtain ⟨o10, rfl, hh17, rfl⟩ := hM
   have r51 := elim_inr r12
   obtain ⟨β, rfl⟩ := has_ex hh17
   clear hh17
   refine k8 _ _ ?_
   refine w_seqk fun K52 k52 => ?_
   refine w_reg (by kernel_rfl) ?_
   refine s_qk (.bool true) (by kernel_rfl) ?_
   refine s_nil ?_
   refine k52 _ _ ?_
   refine w_ret ?_
   refine b_ret (fn := Tryd.f28) (vs := [.bool true]) (aRes_tmp (by kernel_rfl) (rfl)) ?_
   obtain rfl := Option.some.inj r51
   exact ⟨rfl, rfl⟩


end Go.Vd

/-! (KSf5) -/

set_option maxRecDepth 100000
set_option maxHeartbeats 4000000
set_option linter.unusedVariables false
namespace Go.Vd
open Go.Proofs
attribute [local irreducible] wpSeq wpOrd aWp
theorem c_viaductseen_Same {H : AH} {ev_err : Value} {fp_err : Fp} {hd_Places : Value} {fp_Places : Fp} {err : Er} {Code : Int} {Places : List (Int × Int)} {r : Bool}
  (wf : WF H) (h_err : Ev 80 86 H ev_err err fp_err) (h_Places : Sq enc_i64_i64 2 H hd_Places Places fp_Places) (hr : z_viaductseen_Same err Code Places = some r) :
  ACalls Tryd.prog 14 #[ev_err, .agg #[.int .i64 Code, hd_Places]] H fun v H' => v = .bool r ∧ FrS [] H H' := by
 refine acalls_of_body mixed Tryd.func14 rfl (Nat.le_of_ble_eq_true rfl) ?_
 unfold z_viaductseen_Same at hr
 refine w_seqk fun K1 k1 => ?_
 refine w_reg (by kernel_rfl) ?_
 refine s_rwl wf [.int .i64 Code, hd_Places] (one_cons (rfl) (one_cons (h_Places.one1) (one_nil))) (by kernel_rfl) fun b2 H3 e4 hb5 r6 => ?_
 refine s_qk (.bool false) (by kernel_rfl) ?_
 refine s_nil ?_
 refine k1 _ _ ?_
 refine w_seqk fun K8 k8 => ?_
 refine w_seqk fun K9 k9 => ?_
 refine w_reg (by kernel_rfl) ?_
 refine s_ql (.agg #[.int .i64 Code, hd_Places]) (x := aLoad Tryd.prog 31 (.pointer (some ⟨b2, 0, none⟩)) H3) (by kernel_rfl) (r6.ld (by kernel_rfl)) ?_
 have u10 := (h_Places.ext e4)
 obtain ⟨y11, hy12, r13⟩ := bind_some hr
 refine s_ck 24 #[.agg #[.int .i64 Code, hd_Places]] (by kernel_rfl) (c_viaductref01_Err_Bad e4.wf u10 hy12) ?_
 rintro _ H14 ⟨rfl, e15⟩
 refine s_qk (.bool (!y11)) (by kernel_rfl) ?_
 refine s_nil ?_
 refine k9 _ _ ?_
 refine w_cond ((!y11)) (by kernel_rfl) rfl (fun h16 => ?_) (fun h16 => ?_)
 ·have r17 := ite_t h16 r13
  refine w_seqk fun K18 k18 => ?_
  refine w_reg (by kernel_rfl) ?_
  refine s_qk (ev_err) (by kernel_rfl) ?_
  have u22 := ((h_err.ext e4).fr e15 Dj.nil_l)
  rcases (u22).cases with ⟨h19, rfl⟩ | ⟨h19, t20, x21, rfl⟩
  ·have r23 := ite_t h19 r17
   refine s_qk (.bool true) (by kernel_rfl) ?_
   refine s_qk (.bool true) (by kernel_rfl) ?_
   refine s_nil ?_
   refine k18 _ _ ?_
   refine w_ret (th_ret ?_)
   refine b_ret (fn := Tryd.f14) (vs := [.bool true]) (aRes_tmp (by kernel_rfl) (rfl)) ?_
   obtain rfl := Option.some.inj r23
   exact ⟨rfl, (FrS.step wf ((FrS.refl (W := []) wf).extR e4) e15 Inn.nil)⟩
  ·have r24 := ite_f h19 r17
   refine s_ql (.bool false) (x := aBin Tryd.prog .eql 25 (.tmp 15) (.const .nilIface) (.iface t20 x21) .nilIface) (by kernel_rfl) (aBin_nil (by kernel_rfl)) ?_
   refine s_qk (.bool false) (by kernel_rfl) ?_
   refine s_nil ?_
   refine k18 _ _ ?_
   refine w_ret (th_ret ?_)
   refine b_ret (fn := Tryd.f14) (vs := [.bool false]) (aRes_tmp (by kernel_rfl) (rfl)) ?_
   obtain rfl := Option.some.inj r24
   exact ⟨rfl, (FrS.step wf ((FrS.refl (W := []) wf).extR e4) e15 Inn.nil)⟩
 ·have r25 := ite_bf h16 r13
  refine w_skip ?_
  refine k8 _ _ ?_
  refine w_seqk fun K26 k26 => ?_
  refine w_seqk fun K27 k27 => ?_
  refine w_reg (by kernel_rfl) ?_
  refine s_qk (ev_err) (by kernel_rfl) ?_
  have u31 := ((h_err.ext e4).fr e15 Dj.nil_l)
  rcases (u31).cases with ⟨h28, rfl⟩ | ⟨h28, t29, x30, rfl⟩
  ·have r32 := ite_t h28 r25
   refine s_qk (.bool true) (by kernel_rfl) ?_
   refine s_nil ?_
   refine k27 _ _ ?_
   refine w_cond true (by kernel_rfl) rfl (fun _ => ?_) (fun h => by cases h)
   refine w_seqk fun K33 k33 => ?_
   refine w_reg (by kernel_rfl) ?_
   refine s_qk (.bool false) (by kernel_rfl) ?_
   refine s_nil ?_
   refine k33 _ _ ?_
   refine w_ret (th_ret ?_)
   refine b_ret (fn := Tryd.f14) (vs := [.bool false]) (aRes_tmp (by kernel_rfl) (rfl)) ?_
   obtain rfl := Option.some.inj r32
   exact ⟨rfl, (FrS.step wf ((FrS.refl (W := []) wf).extR e4) e15 Inn.nil)⟩
  ·have r34 := ite_f h28 r25
   refine s_ql (.bool false) (x := aBin Tryd.prog .eql 25 (.tmp 17) (.const .nilIface) (.iface t29 x30) .nilIface) (by kernel_rfl) (aBin_nil (by kernel_rfl)) ?_
   refine s_nil ?_
   refine k27 _ _ ?_
   refine w_cond false (by kernel_rfl) rfl (fun h => by cases h) (fun _ => ?_)
   refine w_skip ?_
   refine k26 _ _ ?_
   refine w_seqk fun K35 k35 => ?_
   refine w_reg (by kernel_rfl) ?_
   refine s_qk (.iface t29 x30) (by kernel_rfl) ?_
   refine s_qk (.iface t29 x30) (by kernel_rfl) ?_
   refine s_nil ?_
   refine k35 _ _ ?_
   refine w_seqk fun K36 k36 => ?_
   refine w_seqk fun K37 k37 => ?_
   refine w_reg (by kernel_rfl) ?_
   refine s_qk (.pointer (some ⟨b2, 1, none⟩)) (by kernel_rfl) ?_
   have u38 := (r6.frS e15 Dj.nil_l)
   refine s_ql (hd_Places) (x := aLoad Tryd.prog 29 (.pointer (some ⟨b2, 1, none⟩)) H14) (by kernel_rfl) (u38.ld (by kernel_rfl)) ?_
   have u39 := (u10.fr e15 Dj.nil_l)
   refine s_ql (.int .i64 (Places.length : Int)) (x := aLen Tryd.prog 29 hd_Places H14) (by kernel_rfl) (u39.lenb (by kernel_rfl)) ?_
   refine s_qk (.int .i64 0) (by kernel_rfl) ?_
   refine s_nil ?_
   refine k37 _ _ ?_
   obtain ⟨z43, hx41, r42⟩ := bind_some r34
   refine w_mid (fun α H44 => ∃ o40, z43 = Sum.inr o40 ∧ ∃ (v48 : Value), Has α [(0, .iface t29 x30), (3, .pointer (some ⟨b2, 0, none⟩)), (5, v48)] ∧ FrS [] H14 H44 ∧ Ev 80 86 H44 v48 o40 fp_err) (fun K49 k49 => ?_) (fun α H44 hM => ?_)
   ·refine w_block ?_
    obtain ⟨n51, hn52⟩ := loopO_iff.1 hx41
    refine w_loopn (fun n α H53 => ∃ (i0 : Int), ∃ (e1 : Er), ∃ (v57 : Value), iterO (fun zz_ => z_viaductseen_Same_l0 Places zz_.1 zz_.2) n (i0, e1) = some z43 ∧ Has α [(0, .iface t29 x30), (3, .pointer (some ⟨b2, 0, none⟩)), (5, v57), (21, hd_Places), (22, .int .i64 (Places.length : Int)), (23, .int .i64 i0)] ∧ FrS [] H14 H53 ∧ Ev 80 86 H53 v57 e1 fp_err) n51 ⟨0, err, (.iface t29 x30), hn52, ⟨by kernel_rfl, by kernel_rfl, by kernel_rfl, by kernel_rfl, by kernel_rfl, by kernel_rfl, trivial⟩, (FrS.refl (W := []) e15.wf), u31⟩ ?_
    rintro n51 α H53 ⟨i0, e1, v57, hi59, hh58, e54, m56⟩ K64 k64
    obtain ⟨n60, z61, rfl, hz62, hn63⟩ := iter_succ hi59
    obtain ⟨β, rfl⟩ := has_ex hh58
    clear hh58
    replace hz62 : z_viaductseen_Same_l0 Places i0 e1 = some z61 := hz62
    unfold z_viaductseen_Same_l0 at hz62
    refine w_seqk fun K65 k65 => ?_
    refine w_reg (by kernel_rfl) ?_
    refine s_qk (.bool (decide (i0 < (Places.length : Int)))) (by kernel_rfl) ?_
    refine s_nil ?_
    refine k65 _ _ ?_
    refine w_seqk fun K66 k66 => ?_
    refine w_condp (i0 < (Places.length : Int)) (by kernel_rfl) rfl (fun h67 => ?_) (fun h67 => ?_)
    ·have r68 := ite_t h67 hz62
     refine w_skip ?_
     refine k66 _ _ ?_
     refine w_seqk fun K69 k69 => ?_
     refine w_block ?_
     refine w_seqk fun K70 k70 => ?_
     refine w_reg (by kernel_rfl) ?_
     obtain ⟨g71, r72⟩ := G_some r68
     have u73 := (u39.fr e54 Dj.nil_l)
     refine s_ql (elp hd_Places 2 i0.toNat 0) (x := aIndexAddr Tryd.prog 29 hd_Places (.int .i64 i0)) (by kernel_rfl) (u73.idxb (by kernel_rfl) g71 h67) ?_
     refine s_ql (.agg #[.int .i64 ((gt Places i0).1), .int .i64 ((gt Places i0).2)]) (x := aLoad Tryd.prog 85 (elp hd_Places 2 i0.toNat 0) H53) (by kernel_rfl) (u73.ld g71 h67 (by kernel_rfl)) ?_
     refine s_rwk e54.wf [.int .i64 0, .int .i64 0] (by kernel_rfl) fun b74 H75 e76 hb77 r78 => ?_
     obtain ⟨H80, q81, e82, r83⟩ := Row.store (P := Tryd.prog) (t := 85) (p := 0) e76.wf r78 (.agg #[.int .i64 ((gt Places i0).1), .int .i64 ((gt Places i0).2)]) [.int .i64 ((gt Places i0).1), .int .i64 ((gt Places i0).2)] (by kernel_rfl) (by kernel_rfl) (one_cons (rfl) (one_cons (rfl) (one_nil))) (Nat.le_of_ble_eq_true (by kernel_rfl)) [.int .i64 ((gt Places i0).1), .int .i64 ((gt Places i0).2)] (by kernel_rfl)
     refine s_ek (undef) (by kernel_rfl) (map_ok q81) ?_
     refine s_nil ?_
     refine k70 _ _ ?_
     refine w_seqk fun K84 k84 => ?_
     refine w_reg (by kernel_rfl) ?_
     refine s_rwk e82.wf [.pointer none] (by kernel_rfl) fun b85 H86 e87 hb88 r89 => ?_
     refine s_nil ?_
     refine k84 _ _ ?_
     refine w_seqk fun K91 k91 => ?_
     refine w_seqk fun K92 k92 => ?_
     refine w_draw [0, 1, 2, 3, 4, 5, 6, 7, 8, 9, 10, 11, 12, 13, 14, 15] (by kernel_rfl) ?_
     refine d_qk (v57) (by kernel_rfl) ?_
     refine d_qk (.iface 88 (.pointer (some ⟨b85, 0, none⟩))) (by kernel_rfl) ?_
     by_cases h93 : Er.isAt e1 = true
     ·have r94 := ite_t h93 r72
      have u103 := (((m56.ext e76).fr e82 (hb77.djn (h_err.lt.le (ntr (ntr e4.next e15.next) e54.next)))).ext e87)
      refine d_ck 44 #[v57, .iface 88 (.pointer (some ⟨b85, 0, none⟩))] (by kernel_rfl) (a_asF_at e87.wf r89 (hb88.djn (h_err.lt.le (ntr (ntr (ntr (ntr e4.next e15.next) e54.next) e76.next) e82.next))) u103 h93) ?_
      rintro _ H95 ⟨rfl, e96, b98, u99, -, i100, r97, r101, v102⟩
      refine ⟨st_nil, ?_⟩
      refine d_qk (.bool false) (by kernel_rfl) ?_
      refine d_qk (.bool false) (by kernel_rfl) ?_
      refine d_ql (.pointer (some ⟨b98, 0, none⟩)) (x := aLoad Tryd.prog 86 (.pointer (some ⟨b85, 0, none⟩)) H95) (by kernel_rfl) (r97.ld (by kernel_rfl)) ?_
      refine d_qk (.bool false) (by kernel_rfl) ?_
      refine d_qk (.bool false) (by kernel_rfl) ?_
      refine d_qk (.bool false) (by kernel_rfl) ?_
      refine d_ql (.pointer (some ⟨b98, 0, none⟩)) (x := aLoad Tryd.prog 86 (.pointer (some ⟨b85, 0, none⟩)) H95) (by kernel_rfl) (r97.ld (by kernel_rfl)) ?_
      refine d_qk (.pointer (some ⟨b98, 0, none⟩)) (by kernel_rfl) ?_
      refine d_qk (.pointer (some ⟨b98, 0, none⟩)) (by kernel_rfl) ?_
      refine d_ql (.agg #[.int .i64 (Er.fk e1), .int .i64 (Er.fi e1)]) (x := aLoad Tryd.prog 85 (.pointer (some ⟨b98, 0, none⟩)) H95) (by kernel_rfl) (r101.ld (by kernel_rfl)) ?_
      have u106 := ((r83.ext e87).frS e96 (hb88.djn (r78.ltF.le e82.next)))
      refine d_ql (.agg #[.int .i64 ((gt Places i0).1), .int .i64 ((gt Places i0).2)]) (x := aLoad Tryd.prog 85 (.pointer (some ⟨b74, 0, none⟩)) H95) (by kernel_rfl) (u106.ld (by kernel_rfl)) ?_
      refine d_ql (.bool (!decide ((Er.fk e1) = ((gt Places i0).1) ∧ (Er.fi e1) = ((gt Places i0).2)))) (x := aBin Tryd.prog .neq 85 (.tmp 39) (.tmp 40) (.agg #[.int .i64 (Er.fk e1), .int .i64 (Er.fi e1)]) (.agg #[.int .i64 ((gt Places i0).1), .int .i64 ((gt Places i0).2)])) (by kernel_rfl) (aBin_neq85 _ _ (Er.fk e1) (Er.fi e1) ((gt Places i0).1) ((gt Places i0).2)) ?_
      refine d_qk (.bool (!decide ((Er.fk e1) = ((gt Places i0).1) ∧ (Er.fi e1) = ((gt Places i0).2)))) (by kernel_rfl) ?_
      refine d_nil ?_
      refine k92 _ _ ?_
      refine w_condn ((Er.fk e1) = ((gt Places i0).1) ∧ (Er.fi e1) = ((gt Places i0).2)) (by kernel_rfl) rfl (fun h107 => ?_) (fun h107 => ?_)
      ·have r108 := ite_f h107 r94
       refine w_seqk fun K109 k109 => ?_
       refine w_reg (by kernel_rfl) ?_
       refine s_qk (.bool false) (by kernel_rfl) ?_
       refine s_nil ?_
       refine k109 _ _ ?_
       refine w_ret (th_ret (bl_ret (th_ret (th_ret (bl_ret (th_ret (th_ret ?_)))))))
       obtain ⟨v110, hv111, hz112⟩ := map_some r108
       subst hz112
       obtain rfl := it_inr hn63
       have hq113 := elim_inl r42
       rw [hq113] at hv111
       refine b_ret (fn := Tryd.f14) (vs := [.bool false]) (aRes_tmp (by kernel_rfl) (rfl)) ?_
       obtain rfl := Option.some.inj hv111
       exact ⟨rfl, (FrS.step wf ((FrS.step wf ((FrS.step wf (FrS.step wf ((FrS.refl (W := []) wf).extR e4) e15 Inn.nil) e54 Inn.nil).extR e76) e82 (hb77.fresh (ntr (ntr e4.next e15.next) e54.next))).extR e87) e96 (hb88.fresh (ntr (ntr (ntr (ntr e4.next e15.next) e54.next) e76.next) e82.next)))⟩
      ·have r114 := ite_t h107 r94
       refine w_skip ?_
       refine k91 _ _ ?_
       refine w_reg (by kernel_rfl) ?_
       refine s_ql (.pointer (some ⟨b98, 0, none⟩)) (x := aLoad Tryd.prog 86 (.pointer (some ⟨b85, 0, none⟩)) H95) (by kernel_rfl) (r97.ld (by kernel_rfl)) ?_
       refine s_qk (.pointer (some ⟨b98, 0, none⟩)) (by kernel_rfl) ?_
       refine s_qk (.pointer (some ⟨b98, 2, none⟩)) (by kernel_rfl) ?_
       refine s_ql (u99) (x := aLoad Tryd.prog 25 (.pointer (some ⟨b98, 2, none⟩)) H95) (by kernel_rfl) (r101.ld (by kernel_rfl)) ?_
       refine s_qk (u99) (by kernel_rfl) ?_
       refine s_nil ?_
       refine k69 _ _ ?_
       refine w_reg (by kernel_rfl) ?_
       obtain ⟨g115, r116⟩ := G_some r114
       refine s_w ((i0 + 1)) (k := .i64) (x := (i0 + 1)) (by kernel_rfl) (wrap64 (by have := g115; omega)) ?_
       refine s_qk (.int .i64 (i0 + 1)) (by kernel_rfl) ?_
       refine s_nil ?_
       obtain rfl := Option.some.inj r116
       exact k64 n60 _ _ (Nat.lt_succ_self _) ⟨(i0 + 1), (Er.fe e1), (u99), hn63, ⟨by kernel_rfl, by kernel_rfl, by kernel_rfl, by kernel_rfl, by kernel_rfl, by kernel_rfl, trivial⟩, (FrS.step e15.wf ((FrS.step e15.wf ((FrS.step e15.wf (FrS.refl (W := []) e15.wf) e54 Inn.nil).extR e76) e82 (hb77.fresh e54.next)).extR e87) e96 (hb88.fresh (ntr (ntr e54.next e76.next) e82.next))), v102⟩
     ·have r117 := ite_f h93 r72
      have u118 := (((m56.ext e76).fr e82 (hb77.djn (h_err.lt.le (ntr (ntr e4.next e15.next) e54.next)))).ext e87)
      refine d_ck 44 #[v57, .iface 88 (.pointer (some ⟨b85, 0, none⟩))] (by kernel_rfl) (a_asF_no r89 u118 h93) ?_
      rintro _ _ ⟨rfl, rfl⟩
      refine ⟨st_nil, ?_⟩
      refine d_qk (.bool true) (by kernel_rfl) ?_
      refine d_qk (.bool true) (by kernel_rfl) ?_
      refine d_idle (by kernel_rfl) ?_
      refine d_idle (by kernel_rfl) ?_
      refine d_qk (.bool true) (by kernel_rfl) ?_
      refine d_qk (.bool true) (by kernel_rfl) ?_
      refine d_idle (by kernel_rfl) ?_
      refine d_idle (by kernel_rfl) ?_
      refine d_idle (by kernel_rfl) ?_
      refine d_idle (by kernel_rfl) ?_
      refine d_idle (by kernel_rfl) ?_
      refine d_idle (by kernel_rfl) ?_
      refine d_qk (.bool true) (by kernel_rfl) ?_
      refine d_nil ?_
      refine k92 _ _ ?_
      refine w_cond true (by kernel_rfl) rfl (fun _ => ?_) (fun h => by cases h)
      refine w_seqk fun K119 k119 => ?_
      refine w_reg (by kernel_rfl) ?_
      refine s_qk (.bool false) (by kernel_rfl) ?_
      refine s_nil ?_
      refine k119 _ _ ?_
      refine w_ret (th_ret (bl_ret (th_ret (th_ret (bl_ret (th_ret (th_ret ?_)))))))
      obtain ⟨v120, hv121, hz122⟩ := map_some r117
      subst hz122
      obtain rfl := it_inr hn63
      have hq123 := elim_inl r42
      rw [hq123] at hv121
      refine b_ret (fn := Tryd.f14) (vs := [.bool false]) (aRes_tmp (by kernel_rfl) (rfl)) ?_
      obtain rfl := Option.some.inj hv121
      exact ⟨rfl, ((FrS.step wf ((FrS.step wf (FrS.step wf ((FrS.refl (W := []) wf).extR e4) e15 Inn.nil) e54 Inn.nil).extR e76) e82 (hb77.fresh (ntr (ntr e4.next e15.next) e54.next))).extR e87)⟩
    ·have r124 := ite_f h67 hz62
     refine w_exit (th_exit (th_exit (bl_eq ?_)))
     obtain rfl := Option.some.inj r124
     obtain rfl := it_inr hn63
     exact k49 _ _ ⟨_, rfl, (v57), ⟨by kernel_rfl, by kernel_rfl, by kernel_rfl, trivial⟩, (FrS.step e15.wf (FrS.refl (W := []) e15.wf) e54 Inn.nil), m56⟩
   ·obtain ⟨o40, rfl, v48, hh50, e45, m47⟩ := hM
    have r125 := elim_inr r42
    obtain ⟨β, rfl⟩ := has_ex hh50
    clear hh50
    refine k36 _ _ ?_
    refine w_seqk fun K126 k126 => ?_
    refine w_reg (by kernel_rfl) ?_
    refine s_rwk e45.wf [.pointer none] (by kernel_rfl) fun b127 H128 e129 hb130 r131 => ?_
    refine s_nil ?_
    refine k126 _ _ ?_
    refine w_seqk fun K133 k133 => ?_
    refine w_seqk fun K134 k134 => ?_
    refine w_reg (by kernel_rfl) ?_
    refine s_qk (v48) (by kernel_rfl) ?_
    refine s_qk (.iface 88 (.pointer (some ⟨b127, 0, none⟩))) (by kernel_rfl) ?_
    by_cases h135 : Er.isAt o40 = true
    ·have r136 := ite_t h135 r125
     have u145 := (m47.ext e129)
     refine s_ck 44 #[v48, .iface 88 (.pointer (some ⟨b127, 0, none⟩))] (by kernel_rfl) (a_asF_at e129.wf r131 (hb130.djn (h_err.lt.le (ntr (ntr e4.next e15.next) e45.next))) u145 h135) ?_
     rintro _ H137 ⟨rfl, e138, b140, u141, -, i142, r139, r143, v144⟩
     refine s_nil ?_
     refine k134 _ _ ?_
     refine w_cond true (by kernel_rfl) rfl (fun _ => ?_) (fun h => by cases h)
     refine w_seqk fun K148 k148 => ?_
     refine w_reg (by kernel_rfl) ?_
     refine s_qk (.bool false) (by kernel_rfl) ?_
     refine s_nil ?_
     refine k148 _ _ ?_
     refine w_ret (th_ret ?_)
     refine b_ret (fn := Tryd.f14) (vs := [.bool false]) (aRes_tmp (by kernel_rfl) (rfl)) ?_
     obtain rfl := Option.some.inj r136
     exact ⟨rfl, (FrS.step wf ((FrS.step wf (FrS.step wf ((FrS.refl (W := []) wf).extR e4) e15 Inn.nil) e45 Inn.nil).extR e129) e138 (hb130.fresh (ntr (ntr e4.next e15.next) e45.next)))⟩
    ·have r149 := ite_f h135 r125
     have u150 := (m47.ext e129)
     refine s_ck 44 #[v48, .iface 88 (.pointer (some ⟨b127, 0, none⟩))] (by kernel_rfl) (a_asF_no r131 u150 h135) ?_
     rintro _ _ ⟨rfl, rfl⟩
     refine s_nil ?_
     refine k134 _ _ ?_
     refine w_cond false (by kernel_rfl) rfl (fun h => by cases h) (fun _ => ?_)
     refine w_skip ?_
     refine k133 _ _ ?_
     refine w_seqk fun K151 k151 => ?_
     refine w_reg (by kernel_rfl) ?_
     refine s_rwk e129.wf [.int .i64 0] (by kernel_rfl) fun b152 H153 e154 hb155 r156 => ?_
     refine s_nil ?_
     refine k151 _ _ ?_
     refine w_seqk fun K158 k158 => ?_
     refine w_seqk fun K159 k159 => ?_
     obtain ⟨o160, hx161, r162⟩ := bind_some r149
     refine w_mid (fun α H163 => Has α [(0, .iface t29 x30), (3, .pointer (some ⟨b2, 0, none⟩)), (60, .bool o160)] ∧ FrS [b152] H153 H163) (fun K165 k165 => ?_) (fun α H163 hM => ?_)
     ·refine w_reg (by kernel_rfl) ?_
      refine s_qk (.iface t29 x30) (by kernel_rfl) ?_
      refine s_qk (.iface 91 (.pointer (some ⟨b152, 0, none⟩))) (by kernel_rfl) ?_
      by_cases h167 : (Er.num err).isSome = true
      ·have r168 := ite_t h167 hx161
       have u172 := (((u31.fr e45 Dj.nil_l).ext e129).ext e154)
       refine s_ck 44 #[.iface t29 x30, .iface 91 (.pointer (some ⟨b152, 0, none⟩))] (by kernel_rfl) (a_asN_y e154.wf r156 u172 h28 h167) ?_
       rintro _ H169 ⟨rfl, e170, r171⟩
       refine s_qk (.bool false) (by kernel_rfl) ?_
       refine s_qk (.bool false) (by kernel_rfl) ?_
       refine s_ql (.int .i64 ((Er.num err).getD 0)) (x := aLoad Tryd.prog 80 (.pointer (some ⟨b152, 0, none⟩)) H169) (by kernel_rfl) (r171.ld (by kernel_rfl)) ?_
       refine s_qk (.pointer (some ⟨b2, 0, none⟩)) (by kernel_rfl) ?_
       have u173 := ((((u38.frS e45 Dj.nil_l).ext e129).ext e154).frS e170 (hb155.djn (r6.ltF.le (ntr (ntr e15.next e45.next) e129.next))))
       refine s_ql (.int .i64 Code) (x := aLoad Tryd.prog 3 (.pointer (some ⟨b2, 0, none⟩)) H169) (by kernel_rfl) (u173.ld (by kernel_rfl)) ?_
       refine s_qk (.bool (!decide (((Er.num err).getD 0) = Code))) (by kernel_rfl) ?_
       refine s_qk (.bool (!decide (((Er.num err).getD 0) = Code))) (by kernel_rfl) ?_
       refine s_nil ?_
       obtain rfl := Option.some.inj r168
       exact k165 _ _ ⟨⟨by kernel_rfl, by kernel_rfl, by kernel_rfl, trivial⟩, (FrS.step e154.wf (FrS.refl (W := [b152]) e154.wf) e170 Inn.refl')⟩
      ·have r174 := ite_f h167 hx161
       have u178 := (((u31.fr e45 Dj.nil_l).ext e129).ext e154)
       refine s_ck 44 #[.iface t29 x30, .iface 91 (.pointer (some ⟨b152, 0, none⟩))] (by kernel_rfl) (a_asN_n e154.wf r156 u178 h28 h167) ?_
       rintro _ H175 ⟨rfl, e176, r177⟩
       refine s_qk (.bool true) (by kernel_rfl) ?_
       refine s_qk (.bool true) (by kernel_rfl) ?_
       refine s_no (by kernel_rfl) ?_
       refine s_no (by kernel_rfl) ?_
       refine s_no (by kernel_rfl) ?_
       refine s_no (by kernel_rfl) ?_
       refine s_qk (.bool true) (by kernel_rfl) ?_
       refine s_nil ?_
       obtain rfl := Option.some.inj r174
       exact k165 _ _ ⟨⟨by kernel_rfl, by kernel_rfl, by kernel_rfl, trivial⟩, (FrS.step e154.wf (FrS.refl (W := [b152]) e154.wf) e176 Inn.refl')⟩
     ·obtain ⟨hh166, e164⟩ := hM
      obtain ⟨β, rfl⟩ := has_ex hh166
      clear hh166
      refine k159 _ _ ?_
      refine w_cond (o160) (by kernel_rfl) rfl (fun h179 => ?_) (fun h179 => ?_)
      ·have r180 := ite_t h179 r162
       refine w_seqk fun K181 k181 => ?_
       refine w_reg (by kernel_rfl) ?_
       refine s_qk (.bool false) (by kernel_rfl) ?_
       refine s_nil ?_
       refine k181 _ _ ?_
       refine w_ret (th_ret ?_)
       refine b_ret (fn := Tryd.f14) (vs := [.bool false]) (aRes_tmp (by kernel_rfl) (rfl)) ?_
       obtain rfl := Option.some.inj r180
       exact ⟨rfl, (FrS.step wf (((FrS.step wf (FrS.step wf ((FrS.refl (W := []) wf).extR e4) e15 Inn.nil) e45 Inn.nil).extR e129).extR e154) e164 (hb155.fresh (ntr (ntr (ntr e4.next e15.next) e45.next) e129.next)))⟩
      ·have r182 := ite_bf h179 r162
       refine w_skip ?_
       refine k158 _ _ ?_
       refine w_seqk fun K183 k183 => ?_
       refine w_seqk fun K184 k184 => ?_
       refine w_reg (by kernel_rfl) ?_
       refine s_qk (.int .i64 1) (by kernel_rfl) ?_
       refine s_nil ?_
       refine k184 _ _ ?_
       obtain ⟨z188, hx186, r187⟩ := bind_some r182
       refine w_mid (fun α H189 => ∃ o185, z188 = Sum.inr o185 ∧ Has α [] ∧ H163 = H189) (fun K191 k191 => ?_) (fun α H189 hM => ?_)
       ·refine w_block ?_
        obtain ⟨n193, hn194⟩ := loopO_iff.1 hx186
        refine w_loopn (fun n α H195 => ∃ (i2 : Int), iterO (fun zz_ => z_viaductseen_Same_l1 err Code zz_) n i2 = some z188 ∧ Has α [(0, .iface t29 x30), (3, .pointer (some ⟨b2, 0, none⟩)), (11, .int .i64 i2)] ∧ H163 = H195) n193 ⟨1, hn194, ⟨by kernel_rfl, by kernel_rfl, by kernel_rfl, trivial⟩, rfl⟩ ?_
        rintro n193 α H195 ⟨i2, hi198, hh197, rfl⟩ K203 k203
        obtain ⟨n199, z200, rfl, hz201, hn202⟩ := iter_succ hi198
        obtain ⟨β, rfl⟩ := has_ex hh197
        clear hh197
        replace hz201 : z_viaductseen_Same_l1 err Code i2 = some z200 := hz201
        unfold z_viaductseen_Same_l1 at hz201
        refine w_seqk fun K204 k204 => ?_
        refine w_seqk fun K205 k205 => ?_
        refine w_reg (by kernel_rfl) ?_
        refine s_qk (.int .i64 i2) (by kernel_rfl) ?_
        refine s_qk (.bool (decide (i2 ≤ 20))) (by kernel_rfl) ?_
        refine s_nil ?_
        refine k205 _ _ ?_
        refine w_condp (i2 ≤ 20) (by kernel_rfl) rfl (fun h206 => ?_) (fun h206 => ?_)
        ·have r207 := ite_t h206 hz201
         refine w_skip ?_
         refine k204 _ _ ?_
         refine w_seqk fun K208 k208 => ?_
         refine w_block ?_
         refine w_seqk fun K209 k209 => ?_
         refine w_draw [0, 1, 2, 4, 5, 6, 7, 3, 8] (by kernel_rfl) ?_
         refine d_qk (.iface t29 x30) (by kernel_rfl) ?_
         refine d_qk (.int .i64 i2) (by kernel_rfl) ?_
         refine d_qk (.iface 80 (.int .i64 i2)) (by kernel_rfl) ?_
         refine d_qk (.int .i64 i2) (by kernel_rfl) ?_
         refine d_qk (.pointer (some ⟨b2, 0, none⟩)) (by kernel_rfl) ?_
         have u210 := ((((u38.frS e45 Dj.nil_l).ext e129).ext e154).frS e164 (hb155.djn (r6.ltF.le (ntr (ntr e15.next e45.next) e129.next))))
         refine d_fl (.int .i64 Code) (x := aLoad Tryd.prog 3 (.pointer (some ⟨b2, 0, none⟩)) H163) (by kernel_rfl) (u210.ld (by kernel_rfl)) ?_
         refine d_qk (.bool (decide (i2 = Code))) (by kernel_rfl) ?_
         have u211 := ((((u31.fr e45 Dj.nil_l).ext e129).ext e154).fr e164 (hb155.djn (h_err.lt.le (ntr (ntr (ntr e4.next e15.next) e45.next) e129.next))))
         refine d_ck 45 #[.iface t29 x30, .iface 80 (.int .i64 i2)] (by kernel_rfl) (a_isN u211 h28) ?_
         rintro _ _ ⟨rfl, rfl⟩
         refine ⟨st_ql (y := aLoad Tryd.prog 3 (.pointer (some ⟨b2, 0, none⟩)) H163) (by kernel_rfl) (u210.ld (by kernel_rfl)) (st_nil), ?_⟩
         refine d_qk (.bool (!decide ((decide (Er.num err = some i2)) = (decide (i2 = Code))))) (by kernel_rfl) ?_
         refine d_nil ?_
         refine k209 _ _ ?_
         refine w_condn ((decide (Er.num err = some i2)) = (decide (i2 = Code))) (by kernel_rfl) rfl (fun h212 => ?_) (fun h212 => ?_)
         ·have r213 := ite_f h212 r207
          refine w_seqk fun K214 k214 => ?_
          refine w_reg (by kernel_rfl) ?_
          refine s_qk (.bool false) (by kernel_rfl) ?_
          refine s_nil ?_
          refine k214 _ _ ?_
          refine w_ret (bl_ret (th_ret (th_ret (bl_ret (th_ret (th_ret ?_))))))
          obtain ⟨v215, hv216, hz217⟩ := map_some r213
          subst hz217
          obtain rfl := it_inr hn202
          have hq218 := elim_inl r187
          rw [hq218] at hv216
          refine b_ret (fn := Tryd.f14) (vs := [.bool false]) (aRes_tmp (by kernel_rfl) (rfl)) ?_
          obtain rfl := Option.some.inj hv216
          exact ⟨rfl, (FrS.step wf (((FrS.step wf (FrS.step wf ((FrS.refl (W := []) wf).extR e4) e15 Inn.nil) e45 Inn.nil).extR e129).extR e154) e164 (hb155.fresh (ntr (ntr (ntr e4.next e15.next) e45.next) e129.next)))⟩
         ·have r219 := ite_t h212 r207
          refine w_skip ?_
          refine k208 _ _ ?_
          refine w_reg (by kernel_rfl) ?_
          refine s_qk (.int .i64 i2) (by kernel_rfl) ?_
          obtain ⟨g220, r221⟩ := G_some r219
          refine s_w ((i2 + 1)) (k := .i64) (x := (i2 + 1)) (by kernel_rfl) (wrap64 g220) ?_
          refine s_qk (.int .i64 (i2 + 1)) (by kernel_rfl) ?_
          refine s_nil ?_
          obtain rfl := Option.some.inj r221
          exact k203 n199 _ _ (Nat.lt_succ_self _) ⟨(i2 + 1), hn202, ⟨by kernel_rfl, by kernel_rfl, by kernel_rfl, trivial⟩, rfl⟩
        ·have r222 := ite_f h206 hz201
         refine w_exit (th_exit (th_exit (bl_eq ?_)))
         obtain rfl := Option.some.inj r222
         obtain rfl := it_inr hn202
         exact k191 _ _ ⟨_, rfl, trivial, rfl⟩
       ·obtain ⟨o185, rfl, hh192, rfl⟩ := hM
        have r223 := elim_inr r187
        obtain ⟨β, rfl⟩ := has_ex hh192
        clear hh192
        refine k183 _ _ ?_
        refine w_seqk fun K224 k224 => ?_
        refine w_reg (by kernel_rfl) ?_
        refine s_qk (.bool true) (by kernel_rfl) ?_
        refine s_nil ?_
        refine k224 _ _ ?_
        refine w_ret ?_
        refine b_ret (fn := Tryd.f14) (vs := [.bool true]) (aRes_tmp (by kernel_rfl) (rfl)) ?_
        obtain rfl := Option.some.inj r223
        exact ⟨rfl, (FrS.step wf (((FrS.step wf (FrS.step wf ((FrS.refl (W := []) wf).extR e4) e15 Inn.nil) e45 Inn.nil).extR e129).extR e154) e164 (hb155.fresh (ntr (ntr (ntr e4.next e15.next) e45.next) e129.next)))⟩

theorem c_search_Matrix {H : AH} {hd_First : Value} {fp_First : Fp} {hd_To : Value} {fp_To : Fp} {hd_Weight : Value} {fp_Weight : Fp} {First : List (Int)} {To : List (Int)} {Weight : List (Int)} {r : List (List (Int)) × Er}
  (wf : WF H) (h_First : Sq (encI .i64) 1 H hd_First First fp_First) (h_To : Sq (encI .i64) 1 H hd_To To fp_To) (h_Weight : Sq (encI .i64) 1 H hd_Weight Weight fp_Weight) (hr : z_search_Matrix First To Weight = some r) :
  ACalls Tryd.prog 29 #[.agg #[hd_First, hd_To, hd_Weight]] H fun v H' => ∃ (s3 : Value) (f4 : Fp) (v7 : Value) (f8 : Fp), v = .tuple #[s3, v7] ∧ FrS [] H H' ∧ Nst (CR.sl (encI .u64) 1) H' s3 r.1 f4 ∧ Ev 80 86 H' v7 r.2 f8 ∧ Inn [] H f4 ∧ Inn [] H f8 ∧ Dj f4 f8 := by
 refine acalls_of_body mixed Tryd.func29 rfl (Nat.le_of_ble_eq_true rfl) ?_
 unfold z_search_Matrix at hr
 refine w_seqk fun K12 k12 => ?_
 refine w_reg (by kernel_rfl) ?_
 refine s_rwl wf [hd_First, hd_To, hd_Weight] (one_cons (h_First.one1) (one_cons (h_To.one1) (one_cons (h_Weight.one1) (one_nil)))) (by kernel_rfl) fun b13 H14 e15 hb16 r17 => ?_
 refine s_qk (.slice none 0 0) (by kernel_rfl) ?_
 refine s_qk (.nilIface) (by kernel_rfl) ?_
 refine s_nil ?_
 refine k12 _ _ ?_
 refine w_seqk fun K19 k19 => ?_
 refine w_seqk fun K20 k20 => ?_
 refine w_reg (by kernel_rfl) ?_
 refine s_ql (.agg #[hd_First, hd_To, hd_Weight]) (x := aLoad Tryd.prog 40 (.pointer (some ⟨b13, 0, none⟩)) H14) (by kernel_rfl) (r17.ld (by kernel_rfl)) ?_
 have u21 := (h_First.ext e15)
 have u22 := (h_To.ext e15)
 have u23 := (h_Weight.ext e15)
 obtain ⟨y24, hy25, r26⟩ := bind_some hr
 refine s_ck 59 #[.agg #[hd_First, hd_To, hd_Weight]] (by kernel_rfl) (c_csr_Check e15.wf u21 u22 u23 hy25) ?_
 rintro v27 H29 ⟨_, f28, rfl, e30, m31, i32⟩
 refine s_qk (v27) (by kernel_rfl) ?_
 refine s_nil ?_
 refine k20 _ _ ?_
 refine w_seqk fun K34 k34 => ?_
 refine w_reg (by kernel_rfl) ?_
 refine s_qk (v27) (by kernel_rfl) ?_
 rcases (m31).cases with ⟨h35, rfl⟩ | ⟨h35, t36, x37, rfl⟩
 ·have r38 := ite_t h35 r26
  refine s_qk (.bool false) (by kernel_rfl) ?_
  refine s_nil ?_
  refine k34 _ _ ?_
  refine w_cond false (by kernel_rfl) rfl (fun h => by cases h) (fun _ => ?_)
  refine w_skip ?_
  refine k19 _ _ ?_
  refine w_seqk fun K39 k39 => ?_
  refine w_reg (by kernel_rfl) ?_
  have u40 := (r17.frS e30 Dj.nil_l)
  refine s_ql (.agg #[hd_First, hd_To, hd_Weight]) (x := aLoad Tryd.prog 40 (.pointer (some ⟨b13, 0, none⟩)) H29) (by kernel_rfl) (u40.ld (by kernel_rfl)) ?_
  have u41 := (u21.fr e30 Dj.nil_l)
  have u42 := (u22.fr e30 Dj.nil_l)
  have u43 := (u23.fr e30 Dj.nil_l)
  obtain ⟨y44, hy45, r46⟩ := bind_some r38
  refine s_ck 60 #[.agg #[hd_First, hd_To, hd_Weight]] (by kernel_rfl) (c_search_nodes e30.wf u41 u42 u43 hy45) ?_
  rintro _ H47 ⟨rfl, e48⟩
  refine s_qk (.int .i64 y44) (by kernel_rfl) ?_
  refine s_nil ?_
  refine k39 _ _ ?_
  refine w_seqk fun K49 k49 => ?_
  refine w_seqk fun K50 k50 => ?_
  refine w_reg (by kernel_rfl) ?_
  refine s_qk (.int .i64 y44) (by kernel_rfl) ?_
  refine s_qk (.int .i64 y44) (by kernel_rfl) ?_
  obtain ⟨g51, r52⟩ := G_some r46
  refine s_w ((y44 * y44)) (k := .i64) (x := (y44 * y44)) (by kernel_rfl) (wrap64 g51) ?_
  refine s_qk (.bool (decide ((y44 * y44) > 1048576))) (by kernel_rfl) ?_
  refine s_nil ?_
  refine k50 _ _ ?_
  refine w_condp ((y44 * y44) > 1048576) (by kernel_rfl) rfl (fun h53 => ?_) (fun h53 => ?_)
  ·have r54 := ite_t h53 r52
   refine w_seqk fun K55 k55 => ?_
   refine w_reg (by kernel_rfl) ?_
   refine s_qk (.iface 80 (.int .i64 9)) (by kernel_rfl) ?_
   refine s_qk (.slice none 0 0) (by kernel_rfl) ?_
   refine s_qk (.iface 80 (.int .i64 9)) (by kernel_rfl) ?_
   refine s_nil ?_
   refine k55 _ _ ?_
   refine w_ret (th_ret ?_)
   refine b_ret (fn := Tryd.f29) (vs := [.slice none 0 0, .iface 80 (.int .i64 9)]) (aRes_tmp (by kernel_rfl) (aRes_tmp (by kernel_rfl) (rfl))) ?_
   obtain rfl := Option.some.inj r54
   exact ⟨(.slice none 0 0), [], (.iface 80 (.int .i64 9)), [], rfl, (FrS.step wf (FrS.step wf ((FrS.refl (W := []) wf).extR e15) e30 Inn.nil) e48 Inn.nil), Nst.nil, Ev.no, Inn.nil, Inn.nil, Dj.nil_l⟩
  ·have r56 := ite_f h53 r52
   refine w_skip ?_
   refine k49 _ _ ?_
   refine w_seqk fun K57 k57 => ?_
   refine w_reg (by kernel_rfl) ?_
   refine s_qk (.slice none 0 0) (by kernel_rfl) ?_
   refine s_nil ?_
   refine k57 _ _ ?_
   refine w_seqk fun K58 k58 => ?_
   refine w_seqk fun K59 k59 => ?_
   refine w_reg (by kernel_rfl) ?_
   refine s_qk (.int .i64 y44) (by kernel_rfl) ?_
   refine s_qk (.int .i64 0) (by kernel_rfl) ?_
   refine s_nil ?_
   refine k59 _ _ ?_
   obtain ⟨o60, hx61, r62⟩ := bind_some r56
   refine w_mid (fun α H63 => ∃ (s67 : Value) (f68 : Fp), Has α [(6, s67)] ∧ FrS [] H47 H63 ∧ Nst (CR.sl (encI .u64) 1) H63 s67 o60 f68 ∧ Inn [] H47 f68) (fun K70 k70 => ?_) (fun α H63 hM => ?_)
   ·refine w_block ?_
    obtain ⟨n72, hn73⟩ := loopO_iff.1 hx61
    refine w_loopn (fun n α H74 => ∃ (i0 : Int), ∃ (l1 : List (List (Int))), ∃ (s78 : Value), ∃ (f79 : Fp), iterO (fun zz_ => z_search_Matrix_l0 First To Weight y44 zz_.1 zz_.2) n (i0, l1) = some o60 ∧ Has α [(1, .pointer (some ⟨b13, 0, none⟩)), (6, s78), (20, .int .i64 y44), (21, .int .i64 i0)] ∧ FrS [] H47 H74 ∧ Nst (CR.sl (encI .u64) 1) H74 s78 l1 f79 ∧ Inn [] H47 f79) n72 ⟨0, [], (.slice none 0 0), [], hn73, ⟨by kernel_rfl, by kernel_rfl, by kernel_rfl, by kernel_rfl, trivial⟩, (FrS.refl (W := []) e48.wf), Nst.nil, Inn.nil⟩ ?_
    rintro n72 α H74 ⟨i0, l1, s78, f79, hi82, hh81, e75, m77, i80⟩ K87 k87
    obtain ⟨n83, z84, rfl, hz85, hn86⟩ := iter_succ hi82
    obtain ⟨β, rfl⟩ := has_ex hh81
    clear hh81
    replace hz85 : z_search_Matrix_l0 First To Weight y44 i0 l1 = some z84 := hz85
    unfold z_search_Matrix_l0 at hz85
    obtain ⟨a88, n89, c90, rfl⟩ := m77.form
    refine w_seqk fun K91 k91 => ?_
    refine w_reg (by kernel_rfl) ?_
    refine s_qk (.bool (decide (i0 < y44))) (by kernel_rfl) ?_
    refine s_nil ?_
    refine k91 _ _ ?_
    refine w_seqk fun K92 k92 => ?_
    refine w_condp (i0 < y44) (by kernel_rfl) rfl (fun h93 => ?_) (fun h93 => ?_)
    ·have r94 := ite_t h93 hz85
     refine w_skip ?_
     refine k92 _ _ ?_
     refine w_seqk fun K95 k95 => ?_
     refine w_block ?_
     refine w_seqk fun K96 k96 => ?_
     refine w_reg (by kernel_rfl) ?_
     refine s_qk (.int .i64 i0) (by kernel_rfl) ?_
     refine s_qk (.int .i64 i0) (by kernel_rfl) ?_
     refine s_nil ?_
     refine k96 _ _ ?_
     refine w_draw [0, 1, 2, 3, 4, 5, 6, 7, 8] (by kernel_rfl) ?_
     refine d_qk (.slice a88 n89 c90) (by kernel_rfl) ?_
     have u97 := ((u40.frS e48 Dj.nil_l).frS e75 Dj.nil_l)
     refine d_fl (.agg #[hd_First, hd_To, hd_Weight]) (x := aLoad Tryd.prog 40 (.pointer (some ⟨b13, 0, none⟩)) H74) (by kernel_rfl) (u97.ld (by kernel_rfl)) ?_
     refine d_qk (.int .i64 i0) (by kernel_rfl) ?_
     obtain ⟨y98, hy99, r100⟩ := bind_some r94
     refine d_ck 51 #[] (by kernel_rfl) (c_search_free e75.wf hy99) ?_
     rintro _ H101 ⟨rfl, e102⟩
     have u103 := (u97.frS e102 Dj.nil_l)
     refine ⟨st_ql (y := aLoad Tryd.prog 40 (.pointer (some ⟨b13, 0, none⟩)) H101) (by kernel_rfl) (u103.ld (by kernel_rfl)) (st_nil), ?_⟩
     have u104 := (((u41.fr e48 Dj.nil_l).fr e75 Dj.nil_l).fr e102 Dj.nil_l)
     have u105 := (((u42.fr e48 Dj.nil_l).fr e75 Dj.nil_l).fr e102 Dj.nil_l)
     have u106 := (((u43.fr e48 Dj.nil_l).fr e75 Dj.nil_l).fr e102 Dj.nil_l)
     obtain ⟨y107, hy108, r109⟩ := bind_some r100
     refine d_ck 50 #[.agg #[hd_First, hd_To, hd_Weight], .int .i64 i0, .agg #[.int .i64 4611686018427387904, .int .i64 4611686018427387904, .int .u64 18446744073709551615]] (by kernel_rfl) (c_search_run e102.wf u104 u105 u106 hy108) ?_
     rintro _ H123 ⟨s110, f111, s112, f113, b114, s115, f116, b117, s118, f119, s120, f121, b122, rfl, e124, m125, m126, m127, m128, m129, m130, m131, m132, i133, i134, i135, i136, i137, i138, i139, i140, d141, d142, d143, d144, d145, d146, d147, d148, d149, d150, d151, d152, d153, d154, d155, d156, d157, d158, d159, d160, d161, d162, d163, d164, d165, d166, d167, d168⟩
     obtain ⟨a177, n178, c179, rfl⟩ := m125.form
     obtain ⟨a180, n181, c182, rfl⟩ := m126.form
     obtain ⟨a183, n184, c185, rfl⟩ := m128.form
     obtain ⟨a186, n187, c188, rfl⟩ := m130.form
     obtain ⟨a189, n190, c191, rfl⟩ := m131.form
     refine ⟨st_anc (by kernel_rfl) (st_nil), ?_⟩
     have u192 := (u104.fr e124 Dj.nil_l)
     have u193 := (u105.fr e124 Dj.nil_l)
     have u194 := (u106.fr e124 Dj.nil_l)
     obtain ⟨y195, hy196, r197⟩ := bind_some r109
     refine d_ck 58 #[.pointer (some ⟨b122, 0, none⟩)] (by kernel_rfl) (c_search_state_all e124.wf u192 u193 u194 m125.sq m126.sq m127 m128.sq m129 m130.sq m131.sq m132 hy196) ?_
     rintro s198 H200 ⟨_, f199, rfl, e201, m202, i203⟩
     obtain ⟨a205, n206, c207, rfl⟩ := m202.form
     refine ⟨st_anc (by kernel_rfl) (st_nil), ?_⟩
     refine d_lsl e201.wf [.slice a205 n206 c207] 1 (one_cons (m202.one1) (one_nil)) (by kernel_rfl) fun b208 H209 e210 hb211 r212 => ?_
     have u214 := ((((m77.fr e102 Dj.nil_l).fr e124 Dj.nil_l).fr e201 Dj.nil_l).ext e210)
     have u215 := (m202.ext e210)
     obtain ⟨g216, r217⟩ := G_some r197
     obtain ⟨s218, H219, f220, q224, e221, hm222, hf223⟩ := Nst.append1 (P := Tryd.prog) (C := (CR.sl (encI .u64) 1)) 24 e210.wf u214 r212 (cr_sl_mk u215) (Dj.symm (i203.djn (m77.lt.le (ntr e102.next e124.next)))) (at_ := #[53, 53]) rfl rfl (by kernel_rfl) (by kernel_rfl) (by decide) (by have := g216; first | omega | (simp at this ⊢; omega))
     obtain ⟨a225, n226, c227, rfl⟩ := hm222.form
     have w229 := hf223.grow2 (i203.fresh (Nat.le_refl _)) (ntr e201.next e210.next)
     refine d_ek (.slice a225 n226 c227) (by kernel_rfl) (q224) (st_anc (by kernel_rfl) (st_nil)) ?_
     refine d_qk (.slice a225 n226 c227) (by kernel_rfl) ?_
     refine d_nil ?_
     refine k95 _ _ ?_
     refine w_reg (by kernel_rfl) ?_
     obtain ⟨g230, r231⟩ := G_some r217
     refine s_w ((i0 + 1)) (k := .i64) (x := (i0 + 1)) (by kernel_rfl) (wrap64 g230) ?_
     refine s_qk (.int .i64 (i0 + 1)) (by kernel_rfl) ?_
     refine s_nil ?_
     obtain rfl := Option.some.inj r231
     exact k87 n83 _ _ (Nat.lt_succ_self _) ⟨(i0 + 1), (l1 ++ [y195]), (.slice a225 n226 c227), f220, hn86, ⟨by kernel_rfl, by kernel_rfl, by kernel_rfl, by kernel_rfl, trivial⟩, (FrS.step e48.wf ((FrS.step e48.wf (FrS.step e48.wf (FrS.step e48.wf (FrS.step e48.wf (FrS.refl (W := []) e48.wf) e75 Inn.nil) e102 Inn.nil) e124 Inn.nil) e201 Inn.nil).extR e210) e221 (i80.fresh (Nat.le_refl _))), hm222, (Inn.trans (i80.fresh (Nat.le_refl _)) (ntr (ntr e75.next e102.next) e124.next) w229)⟩
    ·have r232 := ite_f h93 hz85
     refine w_exit (th_exit (th_exit (bl_eq ?_)))
     obtain rfl := Option.some.inj r232
     obtain rfl := it_inr hn86
     exact k70 _ _ ⟨(.slice a88 n89 c90), f79, ⟨by kernel_rfl, trivial⟩, (FrS.step e48.wf (FrS.refl (W := []) e48.wf) e75 Inn.nil), m77, (i80.fresh (Nat.le_refl _))⟩
   ·obtain ⟨s67, f68, hh71, e64, m66, i69⟩ := hM
    obtain ⟨β, rfl⟩ := has_ex hh71
    clear hh71
    obtain ⟨a233, n234, c235, rfl⟩ := m66.form
    refine k58 _ _ ?_
    refine w_seqk fun K236 k236 => ?_
    refine w_reg (by kernel_rfl) ?_
    refine s_qk (.slice a233 n234 c235) (by kernel_rfl) ?_
    refine s_qk (.slice a233 n234 c235) (by kernel_rfl) ?_
    refine s_qk (.nilIface) (by kernel_rfl) ?_
    refine s_nil ?_
    refine k236 _ _ ?_
    refine w_ret ?_
    refine b_ret (fn := Tryd.f29) (vs := [.slice a233 n234 c235, .nilIface]) (aRes_tmp (by kernel_rfl) (aRes_tmp (by kernel_rfl) (rfl))) ?_
    obtain rfl := Option.some.inj r62
    exact ⟨(.slice a233 n234 c235), f68, (.nilIface), [], rfl, (FrS.step wf (FrS.step wf (FrS.step wf ((FrS.refl (W := []) wf).extR e15) e30 Inn.nil) e48 Inn.nil) e64 Inn.nil), m66, Ev.nil, (i69.fresh (ntr (ntr e15.next e30.next) e48.next)), Inn.nil, Dj.nil_r⟩
 ·have r237 := ite_f h35 r26
  refine s_ql (.bool true) (x := aBin Tryd.prog .neq 25 (.tmp 10) (.const .nilIface) (.iface t36 x37) .nilIface) (by kernel_rfl) (aBin_nnil (by kernel_rfl)) ?_
  refine s_nil ?_
  refine k34 _ _ ?_
  refine w_cond true (by kernel_rfl) rfl (fun _ => ?_) (fun h => by cases h)
  refine w_seqk fun K238 k238 => ?_
  refine w_reg (by kernel_rfl) ?_
  refine s_qk (.iface t36 x37) (by kernel_rfl) ?_
  refine s_qk (.slice none 0 0) (by kernel_rfl) ?_
  refine s_qk (.iface t36 x37) (by kernel_rfl) ?_
  refine s_nil ?_
  refine k238 _ _ ?_
  refine w_ret (th_ret ?_)
  refine b_ret (fn := Tryd.f29) (vs := [.slice none 0 0, .iface t36 x37]) (aRes_tmp (by kernel_rfl) (aRes_tmp (by kernel_rfl) (rfl))) ?_
  obtain rfl := Option.some.inj r237
  exact ⟨(.slice none 0 0), [], (.iface t36 x37), f28, rfl, (FrS.step wf ((FrS.refl (W := []) wf).extR e15) e30 Inn.nil), Nst.nil, m31, Inn.nil, (i32.fresh e15.next), Dj.nil_l⟩

theorem c_viaductref08_DocMatrix {H : AH} {hd_First : Value} {fp_First : Fp} {hd_To : Value} {fp_To : Fp} {hd_Weight : Value} {fp_Weight : Fp} {First : List (Int)} {To : List (Int)} {Weight : List (Int)} {r : List (List (Int)) × Int × List (Int × Int)}
  (wf : WF H) (h_First : Sq (encI .i64) 1 H hd_First First fp_First) (h_To : Sq (encI .i64) 1 H hd_To To fp_To) (h_Weight : Sq (encI .i64) 1 H hd_Weight Weight fp_Weight) (hr : z_viaductref08_DocMatrix First To Weight = some r) :
  ACalls Tryd.prog 30 #[.agg #[hd_First, hd_To, hd_Weight]] H fun v H' => ∃ (s3 : Value) (f4 : Fp) (s7 : Value) (f8 : Fp), v = .tuple #[s3, .agg #[.int .i64 r.2.1, s7]] ∧ FrS [] H H' ∧ Nst (CR.sl (encI .u64) 1) H' s3 r.1 f4 ∧ Ow enc_i64_i64 2 H' s7 r.2.2 f8 ∧ Inn [] H f4 ∧ Inn [] H f8 ∧ Dj f4 f8 := by
 refine acalls_of_body mixed Tryd.func30 rfl (Nat.le_of_ble_eq_true rfl) ?_
 unfold z_viaductref08_DocMatrix at hr
 refine w_seqk fun K12 k12 => ?_
 refine w_reg (by kernel_rfl) ?_
 refine s_rwl wf [hd_First, hd_To, hd_Weight] (one_cons (h_First.one1) (one_cons (h_To.one1) (one_cons (h_Weight.one1) (one_nil)))) (by kernel_rfl) fun b13 H14 e15 hb16 r17 => ?_
 refine s_qk (.slice none 0 0) (by kernel_rfl) ?_
 refine s_rwk e15.wf [.int .i64 0, .slice none 0 0] (by kernel_rfl) fun b19 H20 e21 hb22 r23 => ?_
 refine s_nil ?_
 refine k12 _ _ ?_
 refine w_seqk fun K25 k25 => ?_
 refine w_seqk fun K26 k26 => ?_
 refine w_reg (by kernel_rfl) ?_
 have u27 := (r17.ext e21)
 refine s_ql (.agg #[hd_First, hd_To, hd_Weight]) (x := aLoad Tryd.prog 37 (.pointer (some ⟨b13, 0, none⟩)) H20) (by kernel_rfl) (u27.ld (by kernel_rfl)) ?_
 have u28 := ((h_First.ext e15).ext e21)
 have u29 := ((h_To.ext e15).ext e21)
 have u30 := ((h_Weight.ext e15).ext e21)
 obtain ⟨y31, hy32, r33⟩ := bind_some hr
 refine s_ck 48 #[.agg #[hd_First, hd_To, hd_Weight]] (by kernel_rfl) (c_viaductref05_DocCheck e21.wf u28 u29 u30 hy32) ?_
 rintro _ H36 ⟨s34, f35, rfl, e37, m38, i39⟩
 obtain ⟨a41, n42, c43, rfl⟩ := m38.form
 refine s_rwk e37.wf [.int .i64 0, .slice none 0 0] (by kernel_rfl) fun b44 H45 e46 hb47 r48 => ?_
 have u54 := (m38.ext e46)
 obtain ⟨H50, q51, e52, r53⟩ := Row.store (P := Tryd.prog) (t := 31) (p := 0) e46.wf r48 (.agg #[.int .i64 y31.1, .slice a41 n42 c43]) [.int .i64 y31.1, .slice a41 n42 c43] (by kernel_rfl) (by kernel_rfl) (one_cons (rfl) (one_cons (u54.one1) (one_nil))) (Nat.le_of_ble_eq_true (by kernel_rfl)) [.int .i64 y31.1, .slice a41 n42 c43] (by kernel_rfl)
 refine s_ek (undef) (by kernel_rfl) (map_ok q51) ?_
 refine s_nil ?_
 refine k26 _ _ ?_
 refine w_seqk fun K55 k55 => ?_
 refine w_reg (by kernel_rfl) ?_
 refine s_ql (.agg #[.int .i64 y31.1, .slice a41 n42 c43]) (x := aLoad Tryd.prog 31 (.pointer (some ⟨b44, 0, none⟩)) H50) (by kernel_rfl) (r53.ld (by kernel_rfl)) ?_
 have u56 := (u54.fr e52 (hb47.djn m38.lt))
 obtain ⟨y57, hy58, r59⟩ := bind_some r33
 refine s_ck 24 #[.agg #[.int .i64 y31.1, .slice a41 n42 c43]] (by kernel_rfl) (c_viaductref01_Err_Bad e52.wf u56.sq hy58) ?_
 rintro _ H60 ⟨rfl, e61⟩
 refine s_nil ?_
 refine k55 _ _ ?_
 refine w_cond (y57) (by kernel_rfl) rfl (fun h62 => ?_) (fun h62 => ?_)
 ·have r63 := ite_t h62 r59
  refine w_seqk fun K64 k64 => ?_
  refine w_draw [0, 1, 2] (by kernel_rfl) ?_
  have u65 := (r53.frS e61 Dj.nil_l)
  refine d_ql (.agg #[.int .i64 y31.1, .slice a41 n42 c43]) (x := aLoad Tryd.prog 31 (.pointer (some ⟨b44, 0, none⟩)) H60) (by kernel_rfl) (u65.ld (by kernel_rfl)) ?_
  refine d_qk (.slice none 0 0) (by kernel_rfl) ?_
  have u70 := ((((r23.frS e37 Dj.nil_l).ext e46).frS e52 (hb47.djn (r23.ltF.le e37.next))).frS e61 Dj.nil_l)
  have u71 := (u56.fr e61 Dj.nil_l)
  obtain ⟨H66, q67, e68, r69⟩ := Row.store (P := Tryd.prog) (t := 31) (p := 0) e61.wf u70 (.agg #[.int .i64 y31.1, .slice a41 n42 c43]) [.int .i64 y31.1, .slice a41 n42 c43] (by kernel_rfl) (by kernel_rfl) (one_cons (rfl) (one_cons (u71.one1) (one_nil))) (Nat.le_of_ble_eq_true (by kernel_rfl)) [.int .i64 y31.1, .slice a41 n42 c43] (by kernel_rfl)
  refine d_ek (undef) (by kernel_rfl) (map_ok q67) (st_nil) ?_
  refine d_nil ?_
  refine k64 _ _ ?_
  refine w_ret (th_ret ?_)
  refine b_ret (fn := Tryd.f30) (vs := [.slice none 0 0, .agg #[.int .i64 y31.1, .slice a41 n42 c43]]) (aRes_tmp (by kernel_rfl) (aRes_cell (Eq.trans (b := aLoad Tryd.prog 31 (.pointer (some ⟨b19, 0, none⟩)) H66) (by kernel_rfl) (r69.ld (by kernel_rfl))) (rfl))) ?_
  have u72 := (u71.fr e68 (Dj.symm (i39.djn r23.ltF)))
  obtain rfl := Option.some.inj r63
  exact ⟨(.slice none 0 0), [], (.slice a41 n42 c43), f35, rfl, (FrS.step wf (FrS.step wf (FrS.step wf ((FrS.step wf (((FrS.refl (W := []) wf).extR e15).extR e21) e37 Inn.nil).extR e46) e52 (hb47.fresh (ntr (ntr e15.next e21.next) e37.next))) e61 Inn.nil) e68 (hb22.fresh e15.next)), Nst.nil, u72, Inn.nil, (i39.fresh (ntr e15.next e21.next)), Dj.nil_l⟩
 ·have r73 := ite_bf h62 r59
  refine w_skip ?_
  refine k25 _ _ ?_
  refine w_seqk fun K74 k74 => ?_
  refine w_reg (by kernel_rfl) ?_
  refine s_qk (.pointer (some ⟨b13, 0, none⟩)) (by kernel_rfl) ?_
  have u75 := ((((u27.frS e37 Dj.nil_l).ext e46).frS e52 (hb47.djn (r17.ltF.le (ntr e21.next e37.next)))).frS e61 Dj.nil_l)
  refine s_ql (hd_First) (x := aLoad Tryd.prog 22 (.pointer (some ⟨b13, 0, none⟩)) H60) (by kernel_rfl) (u75.ld (by kernel_rfl)) ?_
  have u76 := ((((u28.fr e37 Dj.nil_l).ext e46).fr e52 (hb47.djn (h_First.lt.le (ntr (ntr e15.next e21.next) e37.next)))).fr e61 Dj.nil_l)
  refine s_ql (.int .i64 (First.length : Int)) (x := aLen Tryd.prog 22 hd_First H60) (by kernel_rfl) (u76.lenb (by kernel_rfl)) ?_
  obtain ⟨g77, r78⟩ := G_some r73
  refine s_w (((First.length : Int) - 1)) (k := .i64) (x := ((First.length : Int) - 1)) (by kernel_rfl) (wrap64 g77) ?_
  refine s_qk (.int .i64 ((First.length : Int) - 1)) (by kernel_rfl) ?_
  refine s_nil ?_
  refine k74 _ _ ?_
  refine w_seqk fun K79 k79 => ?_
  refine w_seqk fun K80 k80 => ?_
  refine w_reg (by kernel_rfl) ?_
  refine s_qk (.int .i64 ((First.length : Int) - 1)) (by kernel_rfl) ?_
  refine s_qk (.int .i64 ((First.length : Int) - 1)) (by kernel_rfl) ?_
  obtain ⟨g81, r82⟩ := G_some r78
  refine s_w ((((First.length : Int) - 1) * ((First.length : Int) - 1))) (k := .i64) (x := (((First.length : Int) - 1) * ((First.length : Int) - 1))) (by kernel_rfl) (wrap64 g81) ?_
  refine s_qk (.bool (decide ((((First.length : Int) - 1) * ((First.length : Int) - 1)) > 1048576))) (by kernel_rfl) ?_
  refine s_nil ?_
  refine k80 _ _ ?_
  refine w_condp ((((First.length : Int) - 1) * ((First.length : Int) - 1)) > 1048576) (by kernel_rfl) rfl (fun h83 => ?_) (fun h83 => ?_)
  ·have r84 := ite_t h83 r82
   refine w_seqk fun K85 k85 => ?_
   refine w_reg (by kernel_rfl) ?_
   obtain ⟨y86, hy87, r88⟩ := bind_some r84
   refine s_ck 41 #[.int .i64 9] (by kernel_rfl) (c_viaductref01_E e61.wf hy87) ?_
   rintro _ H89 ⟨rfl, e90⟩
   refine s_qk (.slice none 0 0) (by kernel_rfl) ?_
   have u95 := (((((r23.frS e37 Dj.nil_l).ext e46).frS e52 (hb47.djn (r23.ltF.le e37.next))).frS e61 Dj.nil_l).frS e90 Dj.nil_l)
   obtain ⟨H91, q92, e93, r94⟩ := Row.store (P := Tryd.prog) (t := 31) (p := 0) e90.wf u95 (.agg #[.int .i64 y86, .slice none 0 0]) [.int .i64 y86, .slice none 0 0] (by kernel_rfl) (by kernel_rfl) (one_cons (rfl) (one_cons (rfl) (one_nil))) (Nat.le_of_ble_eq_true (by kernel_rfl)) [.int .i64 y86, .slice none 0 0] (by kernel_rfl)
   refine s_ek (undef) (by kernel_rfl) (map_ok q92) ?_
   refine s_nil ?_
   refine k85 _ _ ?_
   refine w_ret (th_ret ?_)
   refine b_ret (fn := Tryd.f30) (vs := [.slice none 0 0, .agg #[.int .i64 y86, .slice none 0 0]]) (aRes_tmp (by kernel_rfl) (aRes_cell (Eq.trans (b := aLoad Tryd.prog 31 (.pointer (some ⟨b19, 0, none⟩)) H91) (by kernel_rfl) (r94.ld (by kernel_rfl))) (rfl))) ?_
   obtain rfl := Option.some.inj r88
   exact ⟨(.slice none 0 0), [], (.slice none 0 0), [], rfl, (FrS.step wf (FrS.step wf (FrS.step wf (FrS.step wf ((FrS.step wf (((FrS.refl (W := []) wf).extR e15).extR e21) e37 Inn.nil).extR e46) e52 (hb47.fresh (ntr (ntr e15.next e21.next) e37.next))) e61 Inn.nil) e90 Inn.nil) e93 (hb22.fresh e15.next)), Nst.nil, (Ow.nil (by decide)), Inn.nil, Inn.nil, Dj.nil_l⟩
  ·have r96 := ite_f h83 r82
   refine w_skip ?_
   refine k79 _ _ ?_
   refine w_seqk fun K97 k97 => ?_
   refine w_reg (by kernel_rfl) ?_
   refine s_qk (.slice none 0 0) (by kernel_rfl) ?_
   refine s_nil ?_
   refine k97 _ _ ?_
   refine w_seqk fun K98 k98 => ?_
   refine w_seqk fun K99 k99 => ?_
   refine w_reg (by kernel_rfl) ?_
   refine s_qk (.int .i64 0) (by kernel_rfl) ?_
   refine s_nil ?_
   refine k99 _ _ ?_
   obtain ⟨o100, hx101, r102⟩ := bind_some r96
   refine w_mid (fun α H103 => ∃ (s107 : Value) (f108 : Fp), Has α [(3, .pointer (some ⟨b19, 0, none⟩)), (6, s107)] ∧ FrS [] H60 H103 ∧ Nst (CR.sl (encI .u64) 1) H103 s107 o100 f108 ∧ Inn [] H60 f108) (fun K110 k110 => ?_) (fun α H103 hM => ?_)
   ·refine w_block ?_
    obtain ⟨n112, hn113⟩ := loopO_iff.1 hx101
    refine w_loopn (fun n α H114 => ∃ (l0 : List (List (Int))), ∃ (s1 : Int), ∃ (s118 : Value), ∃ (f119 : Fp), iterO (fun zz_ => z_viaductref08_DocMatrix_l0 First To Weight zz_.1 zz_.2) n (l0, s1) = some o100 ∧ Has α [(1, .pointer (some ⟨b13, 0, none⟩)), (3, .pointer (some ⟨b19, 0, none⟩)), (5, .int .i64 ((First.length : Int) - 1)), (6, s118), (7, .int .i64 s1)] ∧ FrS [] H60 H114 ∧ Nst (CR.sl (encI .u64) 1) H114 s118 l0 f119 ∧ Inn [] H60 f119) n112 ⟨[], 0, (.slice none 0 0), [], hn113, ⟨by kernel_rfl, by kernel_rfl, by kernel_rfl, by kernel_rfl, by kernel_rfl, trivial⟩, (FrS.refl (W := []) e61.wf), Nst.nil, Inn.nil⟩ ?_
    rintro n112 α H114 ⟨l0, s1, s118, f119, hi122, hh121, e115, m117, i120⟩ K127 k127
    obtain ⟨n123, z124, rfl, hz125, hn126⟩ := iter_succ hi122
    obtain ⟨β, rfl⟩ := has_ex hh121
    clear hh121
    replace hz125 : z_viaductref08_DocMatrix_l0 First To Weight l0 s1 = some z124 := hz125
    unfold z_viaductref08_DocMatrix_l0 at hz125
    obtain ⟨a128, n129, c130, rfl⟩ := m117.form
    refine w_seqk fun K131 k131 => ?_
    refine w_seqk fun K132 k132 => ?_
    refine w_reg (by kernel_rfl) ?_
    refine s_qk (.int .i64 s1) (by kernel_rfl) ?_
    refine s_qk (.int .i64 ((First.length : Int) - 1)) (by kernel_rfl) ?_
    refine s_qk (.bool (decide (s1 < ((First.length : Int) - 1)))) (by kernel_rfl) ?_
    refine s_nil ?_
    refine k132 _ _ ?_
    refine w_condp (s1 < ((First.length : Int) - 1)) (by kernel_rfl) rfl (fun h133 => ?_) (fun h133 => ?_)
    ·have r134 := ite_t h133 hz125
     refine w_skip ?_
     refine k131 _ _ ?_
     refine w_seqk fun K135 k135 => ?_
     refine w_block ?_
     refine w_reg (by kernel_rfl) ?_
     refine s_qk (.slice a128 n129 c130) (by kernel_rfl) ?_
     have u136 := (u75.frS e115 Dj.nil_l)
     refine s_ql (.agg #[hd_First, hd_To, hd_Weight]) (x := aLoad Tryd.prog 37 (.pointer (some ⟨b13, 0, none⟩)) H114) (by kernel_rfl) (u136.ld (by kernel_rfl)) ?_
     refine s_qk (.int .i64 s1) (by kernel_rfl) ?_
     have u137 := (u76.fr e115 Dj.nil_l)
     have u138 := (((((u29.fr e37 Dj.nil_l).ext e46).fr e52 (hb47.djn (h_To.lt.le (ntr (ntr e15.next e21.next) e37.next)))).fr e61 Dj.nil_l).fr e115 Dj.nil_l)
     have u139 := (((((u30.fr e37 Dj.nil_l).ext e46).fr e52 (hb47.djn (h_Weight.lt.le (ntr (ntr e15.next e21.next) e37.next)))).fr e61 Dj.nil_l).fr e115 Dj.nil_l)
     obtain ⟨y140, hy141, r142⟩ := bind_some r134
     refine s_ck 56 #[.agg #[hd_First, hd_To, hd_Weight], .int .i64 s1] (by kernel_rfl) (c_viaductref08_From e115.wf u137 u138 u139 hy141) ?_
     rintro s143 H145 ⟨_, f144, rfl, e146, m147, i148⟩
     obtain ⟨a150, n151, c152, rfl⟩ := m147.form
     refine s_lsl e146.wf [.slice a150 n151 c152] 1 (one_cons (m147.one1) (one_nil)) (by kernel_rfl) fun b153 H154 e155 hb156 r157 => ?_
     have u159 := ((m117.fr e146 Dj.nil_l).ext e155)
     have u160 := (m147.ext e155)
     obtain ⟨g161, r162⟩ := G_some r142
     obtain ⟨s163, H164, f165, q169, e166, hm167, hf168⟩ := Nst.append1 (P := Tryd.prog) (C := (CR.sl (encI .u64) 1)) 24 e155.wf u159 r157 (cr_sl_mk u160) (Dj.symm (i148.djn m117.lt)) (at_ := #[53, 53]) rfl rfl (by kernel_rfl) (by kernel_rfl) (by decide) (by have := g161; first | omega | (simp at this ⊢; omega))
     obtain ⟨a170, n171, c172, rfl⟩ := hm167.form
     have w174 := hf168.grow2 (i148.fresh (Nat.le_refl _)) (ntr e146.next e155.next)
     refine s_ek (.slice a170 n171 c172) (by kernel_rfl) (q169) ?_
     refine s_qk (.slice a170 n171 c172) (by kernel_rfl) ?_
     refine s_nil ?_
     refine k135 _ _ ?_
     refine w_reg (by kernel_rfl) ?_
     refine s_qk (.int .i64 s1) (by kernel_rfl) ?_
     obtain ⟨g175, r176⟩ := G_some r162
     refine s_w ((s1 + 1)) (k := .i64) (x := (s1 + 1)) (by kernel_rfl) (wrap64 g175) ?_
     refine s_qk (.int .i64 (s1 + 1)) (by kernel_rfl) ?_
     refine s_nil ?_
     obtain rfl := Option.some.inj r176
     exact k127 n123 _ _ (Nat.lt_succ_self _) ⟨(l0 ++ [y140]), (s1 + 1), (.slice a170 n171 c172), f165, hn126, ⟨by kernel_rfl, by kernel_rfl, by kernel_rfl, by kernel_rfl, by kernel_rfl, trivial⟩, (FrS.step e61.wf ((FrS.step e61.wf (FrS.step e61.wf (FrS.refl (W := []) e61.wf) e115 Inn.nil) e146 Inn.nil).extR e155) e166 (i120.fresh (Nat.le_refl _))), hm167, (Inn.trans (i120.fresh (Nat.le_refl _)) e115.next w174)⟩
    ·have r177 := ite_f h133 hz125
     refine w_exit (th_exit (th_exit (bl_eq ?_)))
     obtain rfl := Option.some.inj r177
     obtain rfl := it_inr hn126
     exact k110 _ _ ⟨(.slice a128 n129 c130), f119, ⟨by kernel_rfl, by kernel_rfl, trivial⟩, (FrS.step e61.wf (FrS.refl (W := []) e61.wf) e115 Inn.nil), m117, (i120.fresh (Nat.le_refl _))⟩
   ·obtain ⟨s107, f108, hh111, e104, m106, i109⟩ := hM
    obtain ⟨β, rfl⟩ := has_ex hh111
    clear hh111
    obtain ⟨a178, n179, c180, rfl⟩ := m106.form
    refine k98 _ _ ?_
    refine w_seqk fun K181 k181 => ?_
    refine w_reg (by kernel_rfl) ?_
    refine s_qk (.slice a178 n179 c180) (by kernel_rfl) ?_
    refine s_qk (.agg #[.int .i64 0, .slice none 0 0]) (by kernel_rfl) ?_
    refine s_qk (.slice a178 n179 c180) (by kernel_rfl) ?_
    have u186 := (((((r23.frS e37 Dj.nil_l).ext e46).frS e52 (hb47.djn (r23.ltF.le e37.next))).frS e61 Dj.nil_l).frS e104 Dj.nil_l)
    obtain ⟨H182, q183, e184, r185⟩ := Row.store (P := Tryd.prog) (t := 31) (p := 0) e104.wf u186 (.agg #[.int .i64 0, .slice none 0 0]) [.int .i64 0, .slice none 0 0] (by kernel_rfl) (by kernel_rfl) (one_cons (rfl) (one_cons (rfl) (one_nil))) (Nat.le_of_ble_eq_true (by kernel_rfl)) [.int .i64 0, .slice none 0 0] (by kernel_rfl)
    refine s_ek (undef) (by kernel_rfl) (map_ok q183) ?_
    refine s_nil ?_
    refine k181 _ _ ?_
    refine w_ret ?_
    refine b_ret (fn := Tryd.f30) (vs := [.slice a178 n179 c180, .agg #[.int .i64 0, .slice none 0 0]]) (aRes_tmp (by kernel_rfl) (aRes_cell (Eq.trans (b := aLoad Tryd.prog 31 (.pointer (some ⟨b19, 0, none⟩)) H182) (by kernel_rfl) (r185.ld (by kernel_rfl))) (rfl))) ?_
    have u187 := (m106.fr e184 (Dj.symm (i109.djn (r23.ltF.le (ntr (ntr (ntr e37.next e46.next) e52.next) e61.next)))))
    obtain rfl := Option.some.inj r102
    exact ⟨(.slice a178 n179 c180), f108, (.slice none 0 0), [], rfl, (FrS.step wf (FrS.step wf (FrS.step wf (FrS.step wf ((FrS.step wf (((FrS.refl (W := []) wf).extR e15).extR e21) e37 Inn.nil).extR e46) e52 (hb47.fresh (ntr (ntr e15.next e21.next) e37.next))) e61 Inn.nil) e104 Inn.nil) e184 (hb22.fresh e15.next)), u187, (Ow.nil (by decide)), (i109.fresh (ntr (ntr (ntr (ntr (ntr e15.next e21.next) e37.next) e46.next) e52.next) e61.next)), Inn.nil, Dj.nil_r⟩

theorem c_viaductref04_SameMatrix {H : AH} {hd_a : Value} {fp_a : Fp} {hd_b : Value} {fp_b : Fp} {a : List (List (Int))} {b : List (List (Int))} {r : Bool}
  (wf : WF H) (h_a : Nst (CR.sl (encI .u64) 1) H hd_a a fp_a) (h_b : Nst (CR.sl (encI .u64) 1) H hd_b b fp_b) (hr : z_viaductref04_SameMatrix a b = some r) :
  ACalls Tryd.prog 31 #[hd_a, hd_b] H fun v H' => v = .bool r ∧ H = H' := by
 refine acalls_of_body mixed Tryd.func31 rfl (Nat.le_of_ble_eq_true rfl) ?_
 unfold z_viaductref04_SameMatrix at hr
 refine w_seqk fun K1 k1 => ?_
 refine w_reg (by kernel_rfl) ?_
 refine s_qk (.bool false) (by kernel_rfl) ?_
 refine s_nil ?_
 refine k1 _ _ ?_
 refine w_seqk fun K2 k2 => ?_
 refine w_seqk fun K3 k3 => ?_
 refine w_reg (by kernel_rfl) ?_
 refine s_qk (hd_a) (by kernel_rfl) ?_
 refine s_ql (.int .i64 (a.length : Int)) (x := aLen Tryd.prog 53 hd_a H) (by kernel_rfl) (h_a.lenb (by kernel_rfl)) ?_
 refine s_qk (hd_b) (by kernel_rfl) ?_
 refine s_ql (.int .i64 (b.length : Int)) (x := aLen Tryd.prog 53 hd_b H) (by kernel_rfl) (h_b.lenb (by kernel_rfl)) ?_
 refine s_qk (.bool (!decide ((a.length : Int) = (b.length : Int)))) (by kernel_rfl) ?_
 refine s_nil ?_
 refine k3 _ _ ?_
 refine w_condn ((a.length : Int) = (b.length : Int)) (by kernel_rfl) rfl (fun h4 => ?_) (fun h4 => ?_)
 ·have r5 := ite_f h4 hr
  refine w_seqk fun K6 k6 => ?_
  refine w_reg (by kernel_rfl) ?_
  refine s_qk (.bool false) (by kernel_rfl) ?_
  refine s_nil ?_
  refine k6 _ _ ?_
  refine w_ret (th_ret ?_)
  refine b_ret (fn := Tryd.f31) (vs := [.bool false]) (aRes_tmp (by kernel_rfl) (rfl)) ?_
  obtain rfl := Option.some.inj r5
  exact ⟨rfl, rfl⟩
 ·have r7 := ite_t h4 hr
  refine w_skip ?_
  refine k2 _ _ ?_
  refine w_seqk fun K8 k8 => ?_
  refine w_seqk fun K9 k9 => ?_
  refine w_reg (by kernel_rfl) ?_
  refine s_qk (hd_a) (by kernel_rfl) ?_
  refine s_ql (.int .i64 (a.length : Int)) (x := aLen Tryd.prog 53 hd_a H) (by kernel_rfl) (h_a.lenb (by kernel_rfl)) ?_
  refine s_qk (.int .i64 0) (by kernel_rfl) ?_
  refine s_nil ?_
  refine k9 _ _ ?_
  obtain ⟨z13, hx11, r12⟩ := bind_some r7
  refine w_mid (fun α H14 => ∃ o10, z13 = Sum.inr o10 ∧ Has α [] ∧ H = H14) (fun K16 k16 => ?_) (fun α H14 hM => ?_)
  ·refine w_block ?_
   obtain ⟨n18, hn19⟩ := loopO_iff.1 hx11
   refine w_loopn (fun n α H20 => ∃ (i0 : Int), iterO (fun zz_ => z_viaductref04_SameMatrix_l0 a b zz_) n i0 = some z13 ∧ Has α [(0, hd_a), (1, hd_b), (12, .int .i64 (a.length : Int)), (13, .int .i64 i0)] ∧ H = H20) n18 ⟨0, hn19, ⟨by kernel_rfl, by kernel_rfl, by kernel_rfl, by kernel_rfl, trivial⟩, rfl⟩ ?_
   rintro n18 α H20 ⟨i0, hi23, hh22, rfl⟩ K28 k28
   obtain ⟨n24, z25, rfl, hz26, hn27⟩ := iter_succ hi23
   obtain ⟨β, rfl⟩ := has_ex hh22
   clear hh22
   replace hz26 : z_viaductref04_SameMatrix_l0 a b i0 = some z25 := hz26
   unfold z_viaductref04_SameMatrix_l0 at hz26
   refine w_seqk fun K29 k29 => ?_
   refine w_reg (by kernel_rfl) ?_
   refine s_qk (.bool (decide (i0 < (a.length : Int)))) (by kernel_rfl) ?_
   refine s_nil ?_
   refine k29 _ _ ?_
   refine w_seqk fun K30 k30 => ?_
   refine w_condp (i0 < (a.length : Int)) (by kernel_rfl) rfl (fun h31 => ?_) (fun h31 => ?_)
   ·have r32 := ite_t h31 hz26
    refine w_skip ?_
    refine k30 _ _ ?_
    refine w_seqk fun K33 k33 => ?_
    refine w_block ?_
    refine w_seqk fun K34 k34 => ?_
    refine w_reg (by kernel_rfl) ?_
    refine s_qk (.int .i64 i0) (by kernel_rfl) ?_
    refine s_qk (.int .i64 i0) (by kernel_rfl) ?_
    refine s_nil ?_
    refine k34 _ _ ?_
    refine w_seqk fun K35 k35 => ?_
    refine w_draw [0, 1, 2, 3, 4, 5, 6, 7, 8, 9] (by kernel_rfl) ?_
    refine d_qk (hd_a) (by kernel_rfl) ?_
    refine d_qk (.int .i64 i0) (by kernel_rfl) ?_
    obtain ⟨g36, r37⟩ := G_some r32
    refine d_ql (elp hd_a 1 i0.toNat 0) (x := aIndexAddr Tryd.prog 53 hd_a (.int .i64 i0)) (by kernel_rfl) (h_a.idxb (by kernel_rfl) g36 h31) ?_
    obtain ⟨cs38, f39, hk40, hs41, hl42, hq43⟩ := h_a.kid g36 h31
    obtain ⟨s44, rfl, ho46⟩ := cr_sl_open hk40
    have kd47 : KdS (encI .u64) 1 H s44 (gt a i0) fp_a hd_a 1 i0.toNat 0 := ⟨ho46.sq.up hs41 h_a.lt, hq43 0 _ rfl (by decide)⟩
    obtain ⟨a48, n49, c50, rfl⟩ := kd47.sq.form
    refine d_ql (.slice a48 n49 c50) (x := aLoad Tryd.prog 47 (elp hd_a 1 i0.toNat 0) H) (by kernel_rfl) (hl42 _ _ _ _ (by kernel_rfl)) ?_
    refine d_qk (hd_b) (by kernel_rfl) ?_
    refine d_qk (.int .i64 i0) (by kernel_rfl) ?_
    obtain ⟨g52, r53⟩ := G_some r37
    refine d_ql (elp hd_b 1 i0.toNat 0) (x := aIndexAddr Tryd.prog 53 hd_b (.int .i64 i0)) (by kernel_rfl) (h_b.idxb (by kernel_rfl) g36 g52) ?_
    obtain ⟨cs54, f55, hk56, hs57, hl58, hq59⟩ := h_b.kid g36 g52
    obtain ⟨s60, rfl, ho62⟩ := cr_sl_open hk56
    have kd63 : KdS (encI .u64) 1 H s60 (gt b i0) fp_b hd_b 1 i0.toNat 0 := ⟨ho62.sq.up hs57 h_b.lt, hq59 0 _ rfl (by decide)⟩
    obtain ⟨a64, n65, c66, rfl⟩ := kd63.sq.form
    refine d_ql (.slice a64 n65 c66) (x := aLoad Tryd.prog 47 (elp hd_b 1 i0.toNat 0) H) (by kernel_rfl) (hl58 _ _ _ _ (by kernel_rfl)) ?_
    obtain ⟨y68, hy69, r70⟩ := bind_some r53
    refine d_ck 28 #[.slice a48 n49 c50, .slice a64 n65 c66] (by kernel_rfl) (c_viaductref04_SameRow wf kd47.sq kd63.sq hy69) ?_
    rintro _ _ ⟨rfl, rfl⟩
    refine ⟨st_nil, ?_⟩
    refine d_qk (.bool (!y68)) (by kernel_rfl) ?_
    refine d_nil ?_
    refine k35 _ _ ?_
    refine w_cond ((!y68)) (by kernel_rfl) rfl (fun h73 => ?_) (fun h73 => ?_)
    ·have r74 := ite_t h73 r70
     refine w_seqk fun K75 k75 => ?_
     refine w_reg (by kernel_rfl) ?_
     refine s_qk (.bool false) (by kernel_rfl) ?_
     refine s_nil ?_
     refine k75 _ _ ?_
     refine w_ret (bl_ret (th_ret (th_ret (bl_ret (th_ret (th_ret ?_))))))
     obtain ⟨v76, hv77, hz78⟩ := map_some r74
     subst hz78
     obtain rfl := it_inr hn27
     have hq79 := elim_inl r12
     rw [hq79] at hv77
     refine b_ret (fn := Tryd.f31) (vs := [.bool false]) (aRes_tmp (by kernel_rfl) (rfl)) ?_
     obtain rfl := Option.some.inj hv77
     exact ⟨rfl, rfl⟩
    ·have r80 := ite_bf h73 r70
     refine w_skip ?_
     refine k33 _ _ ?_
     refine w_reg (by kernel_rfl) ?_
     obtain ⟨g81, r82⟩ := G_some r80
     refine s_w ((i0 + 1)) (k := .i64) (x := (i0 + 1)) (by kernel_rfl) (wrap64 (by have := g81; omega)) ?_
     refine s_qk (.int .i64 (i0 + 1)) (by kernel_rfl) ?_
     refine s_nil ?_
     obtain rfl := Option.some.inj r82
     exact k28 n24 _ _ (Nat.lt_succ_self _) ⟨(i0 + 1), hn27, ⟨by kernel_rfl, by kernel_rfl, by kernel_rfl, by kernel_rfl, trivial⟩, rfl⟩
   ·have r83 := ite_f h31 hz26
    refine w_exit (th_exit (th_exit (bl_eq ?_)))
    obtain rfl := Option.some.inj r83
    obtain rfl := it_inr hn27
    exact k16 _ _ ⟨_, rfl, trivial, rfl⟩
  ·obtain ⟨o10, rfl, hh17, rfl⟩ := hM
   have r84 := elim_inr r12
   obtain ⟨β, rfl⟩ := has_ex hh17
   clear hh17
   refine k8 _ _ ?_
   refine w_seqk fun K85 k85 => ?_
   refine w_reg (by kernel_rfl) ?_
   refine s_qk (.bool true) (by kernel_rfl) ?_
   refine s_nil ?_
   refine k85 _ _ ?_
   refine w_ret ?_
   refine b_ret (fn := Tryd.f31) (vs := [.bool true]) (aRes_tmp (by kernel_rfl) (rfl)) ?_
   obtain rfl := Option.some.inj r84
   exact ⟨rfl, rfl⟩

theorem c_viaductlaw08_SearchFroms {H : AH} {hd_First : Value} {fp_First : Fp} {hd_To : Value} {fp_To : Fp} {hd_Weight : Value} {fp_Weight : Fp} {First : List (Int)} {To : List (Int)} {Weight : List (Int)} {s : Int} {r : Bool}
  (wf : WF H) (h_First : Sq (encI .i64) 1 H hd_First First fp_First) (h_To : Sq (encI .i64) 1 H hd_To To fp_To) (h_Weight : Sq (encI .i64) 1 H hd_Weight Weight fp_Weight) (hr : z_viaductlaw08_SearchFroms First To Weight s = some r) :
  ACalls Tryd.prog 5 #[.agg #[hd_First, hd_To, hd_Weight], .int .i64 s] H fun v H' => v = .bool r ∧ FrS [] H H' := by
 refine acalls_of_body mixed Tryd.func5 rfl (Nat.le_of_ble_eq_true rfl) ?_
 unfold z_viaductlaw08_SearchFroms at hr
 refine w_seqk fun K1 k1 => ?_
 refine w_reg (by kernel_rfl) ?_
 refine s_rwl wf [hd_First, hd_To, hd_Weight] (one_cons (h_First.one1) (one_cons (h_To.one1) (one_cons (h_Weight.one1) (one_nil)))) (by kernel_rfl) fun b2 H3 e4 hb5 r6 => ?_
 refine s_qk (.bool false) (by kernel_rfl) ?_
 refine s_nil ?_
 refine k1 _ _ ?_
 refine w_seqk fun K8 k8 => ?_
 refine w_seqk fun K9 k9 => ?_
 refine w_reg (by kernel_rfl) ?_
 refine s_ck 19 #[] (by kernel_rfl) c_viaductlaw08_awake ?_
 rintro _ _ ⟨rfl, rfl⟩
 refine s_qk (.bool false) (by kernel_rfl) ?_
 refine s_nil ?_
 refine k9 _ _ ?_
 refine w_cond false (by kernel_rfl) rfl (fun h => by cases h) (fun _ => ?_)
 refine w_skip ?_
 refine k8 _ _ ?_
 refine w_seqk fun K10 k10 => ?_
 refine w_seqk fun K11 k11 => ?_
 refine w_reg (by kernel_rfl) ?_
 refine s_ql (.agg #[hd_First, hd_To, hd_Weight]) (x := aLoad Tryd.prog 37 (.pointer (some ⟨b2, 0, none⟩)) H3) (by kernel_rfl) (r6.ld (by kernel_rfl)) ?_
 have u12 := (h_First.ext e4)
 have u13 := (h_To.ext e4)
 have u14 := (h_Weight.ext e4)
 obtain ⟨y15, hy16, r17⟩ := bind_some hr
 refine s_ck 20 #[.agg #[hd_First, hd_To, hd_Weight]] (by kernel_rfl) (c_viaductlaw08_few e4.wf u12 u13 u14 hy16) ?_
 rintro _ H18 ⟨rfl, e19⟩
 refine s_qk (.bool (!y15)) (by kernel_rfl) ?_
 refine s_nil ?_
 refine k11 _ _ ?_
 refine w_cond ((!y15)) (by kernel_rfl) rfl (fun h20 => ?_) (fun h20 => ?_)
 ·have r21 := ite_t h20 r17
  refine w_seqk fun K22 k22 => ?_
  refine w_reg (by kernel_rfl) ?_
  refine s_qk (.bool true) (by kernel_rfl) ?_
  refine s_nil ?_
  refine k22 _ _ ?_
  refine w_ret (th_ret ?_)
  refine b_ret (fn := Tryd.f5) (vs := [.bool true]) (aRes_tmp (by kernel_rfl) (rfl)) ?_
  obtain rfl := Option.some.inj r21
  exact ⟨rfl, (FrS.step wf ((FrS.refl (W := []) wf).extR e4) e19 Inn.nil)⟩
 ·have r23 := ite_bf h20 r17
  refine w_skip ?_
  refine k10 _ _ ?_
  refine w_seqk fun K24 k24 => ?_
  refine w_reg (by kernel_rfl) ?_
  have u25 := (r6.frS e19 Dj.nil_l)
  refine s_ql (.agg #[hd_First, hd_To, hd_Weight]) (x := aLoad Tryd.prog 37 (.pointer (some ⟨b2, 0, none⟩)) H18) (by kernel_rfl) (u25.ld (by kernel_rfl)) ?_
  have u26 := (u12.fr e19 Dj.nil_l)
  have u27 := (u13.fr e19 Dj.nil_l)
  have u28 := (u14.fr e19 Dj.nil_l)
  obtain ⟨y29, hy30, r31⟩ := bind_some r23
  refine s_ck 22 #[.agg #[hd_First, hd_To, hd_Weight]] (by kernel_rfl) (c_viaductlaw08_of e19.wf u26 u27 u28 hy30) ?_
  rintro _ H38 ⟨s32, f33, s34, f35, s36, f37, rfl, e39, m40, m41, m42, i43, i44, i45, d46, d47, d48⟩
  obtain ⟨a52, n53, c54, rfl⟩ := m40.form
  obtain ⟨a55, n56, c57, rfl⟩ := m41.form
  obtain ⟨a58, n59, c60, rfl⟩ := m42.form
  refine s_qk (.int .i64 s) (by kernel_rfl) ?_
  obtain ⟨y61, hy62, r63⟩ := bind_some r31
  refine s_ck 26 #[.agg #[.slice a52 n53 c54, .slice a55 n56 c57, .slice a58 n59 c60], .int .i64 s] (by kernel_rfl) (c_search_From e39.wf m40.sq m41.sq m42.sq hy62) ?_
  rintro _ H68 ⟨s64, f65, v66, f67, rfl, e69, m70, m71, i72, i73, d74⟩
  obtain ⟨a77, n78, c79, rfl⟩ := m70.form
  refine s_qk (.tuple #[.slice a77 n78 c79, v66]) (by kernel_rfl) ?_
  refine s_qk (.slice a77 n78 c79) (by kernel_rfl) ?_
  refine s_qk (v66) (by kernel_rfl) ?_
  refine s_qk (.slice a77 n78 c79) (by kernel_rfl) ?_
  refine s_qk (v66) (by kernel_rfl) ?_
  refine s_nil ?_
  refine k24 _ _ ?_
  refine w_seqk fun K80 k80 => ?_
  refine w_reg (by kernel_rfl) ?_
  have u81 := ((u25.frS e39 Dj.nil_l).frS e69 Dj.nil_l)
  refine s_ql (.agg #[hd_First, hd_To, hd_Weight]) (x := aLoad Tryd.prog 37 (.pointer (some ⟨b2, 0, none⟩)) H68) (by kernel_rfl) (u81.ld (by kernel_rfl)) ?_
  refine s_qk (.int .i64 s) (by kernel_rfl) ?_
  have u82 := ((u26.fr e39 Dj.nil_l).fr e69 Dj.nil_l)
  have u83 := ((u27.fr e39 Dj.nil_l).fr e69 Dj.nil_l)
  have u84 := ((u28.fr e39 Dj.nil_l).fr e69 Dj.nil_l)
  obtain ⟨y85, hy86, r87⟩ := bind_some r63
  refine s_ck 27 #[.agg #[hd_First, hd_To, hd_Weight], .int .i64 s] (by kernel_rfl) (c_viaductref08_DocFrom e69.wf u82 u83 u84 hy86) ?_
  rintro _ H92 ⟨s88, f89, s90, f91, rfl, e93, m94, m95, i96, i97, d98⟩
  obtain ⟨a101, n102, c103, rfl⟩ := m94.form
  obtain ⟨a104, n105, c106, rfl⟩ := m95.form
  refine s_qk (.tuple #[.slice a101 n102 c103, .agg #[.int .i64 y85.2.1, .slice a104 n105 c106]]) (by kernel_rfl) ?_
  refine s_qk (.slice a101 n102 c103) (by kernel_rfl) ?_
  refine s_qk (.agg #[.int .i64 y85.2.1, .slice a104 n105 c106]) (by kernel_rfl) ?_
  refine s_rwk e93.wf [.int .i64 0, .slice none 0 0] (by kernel_rfl) fun b107 H108 e109 hb110 r111 => ?_
  refine s_qk (.slice a101 n102 c103) (by kernel_rfl) ?_
  have u117 := (m95.ext e109)
  obtain ⟨H113, q114, e115, r116⟩ := Row.store (P := Tryd.prog) (t := 31) (p := 0) e109.wf r111 (.agg #[.int .i64 y85.2.1, .slice a104 n105 c106]) [.int .i64 y85.2.1, .slice a104 n105 c106] (by kernel_rfl) (by kernel_rfl) (one_cons (rfl) (one_cons (u117.one1) (one_nil))) (Nat.le_of_ble_eq_true (by kernel_rfl)) [.int .i64 y85.2.1, .slice a104 n105 c106] (by kernel_rfl)
  refine s_ek (undef) (by kernel_rfl) (map_ok q114) ?_
  refine s_nil ?_
  refine k80 _ _ ?_
  refine w_seqk fun K118 k118 => ?_
  refine w_seqk fun K119 k119 => ?_
  obtain ⟨o120, hx121, r122⟩ := bind_some r87
  refine w_mid (fun α H123 => Has α [(2, .pointer (some ⟨b2, 0, none⟩)), (8, .pointer (some ⟨b107, 0, none⟩)), (38, .bool o120)] ∧ FrS [] H113 H123) (fun K125 k125 => ?_) (fun α H123 hM => ?_)
  ·refine w_reg (by kernel_rfl) ?_
   refine s_qk (.slice a77 n78 c79) (by kernel_rfl) ?_
   refine s_qk (.slice a101 n102 c103) (by kernel_rfl) ?_
   have u127 := (((m70.fr e93 Dj.nil_l).ext e109).fr e115 (hb110.djn (m70.lt.le e93.next)))
   have u128 := ((m94.ext e109).fr e115 (hb110.djn m94.lt))
   obtain ⟨y129, hy130, r131⟩ := bind_some hx121
   refine s_ck 28 #[.slice a77 n78 c79, .slice a101 n102 c103] (by kernel_rfl) (c_viaductref04_SameRow e115.wf u127.sq u128.sq hy130) ?_
   rintro _ _ ⟨rfl, rfl⟩
   by_cases h134 : y129 = true
   ·have r135 := ite_t h134 r131
    rw [h134]
    refine s_qk (.bool false) (by kernel_rfl) ?_
    refine s_qk (.bool false) (by kernel_rfl) ?_
    refine s_qk (v66) (by kernel_rfl) ?_
    refine s_ql (.agg #[.int .i64 y85.2.1, .slice a104 n105 c106]) (x := aLoad Tryd.prog 31 (.pointer (some ⟨b107, 0, none⟩)) H113) (by kernel_rfl) (r116.ld (by kernel_rfl)) ?_
    have u137 := (((m71.fr e93 Dj.nil_l).ext e109).fr e115 (hb110.djn (m71.lt.le e93.next)))
    have u138 := (u117.fr e115 (hb110.djn m95.lt))
    obtain ⟨y139, hy140, r141⟩ := bind_some r135
    refine s_ck 14 #[v66, .agg #[.int .i64 y85.2.1, .slice a104 n105 c106]] (by kernel_rfl) (c_viaductseen_Same e115.wf u137 u138.sq hy140) ?_
    rintro _ H142 ⟨rfl, e143⟩
    refine s_qk (.bool (!y139)) (by kernel_rfl) ?_
    refine s_qk (.bool (!y139)) (by kernel_rfl) ?_
    refine s_nil ?_
    obtain rfl := Option.some.inj r141
    exact k125 _ _ ⟨⟨by kernel_rfl, by kernel_rfl, by kernel_rfl, trivial⟩, (FrS.step e115.wf (FrS.refl (W := []) e115.wf) e143 Inn.nil)⟩
   ·have r144 := ite_f h134 r131
    rw [nb h134]
    refine s_qk (.bool true) (by kernel_rfl) ?_
    refine s_qk (.bool true) (by kernel_rfl) ?_
    refine s_no (by kernel_rfl) ?_
    refine s_no (by kernel_rfl) ?_
    refine s_no (by kernel_rfl) ?_
    refine s_no (by kernel_rfl) ?_
    refine s_qk (.bool true) (by kernel_rfl) ?_
    refine s_nil ?_
    obtain rfl := Option.some.inj r144
    exact k125 _ _ ⟨⟨by kernel_rfl, by kernel_rfl, by kernel_rfl, trivial⟩, (FrS.refl (W := []) e115.wf)⟩
  ·obtain ⟨hh126, e124⟩ := hM
   obtain ⟨β, rfl⟩ := has_ex hh126
   clear hh126
   refine k119 _ _ ?_
   refine w_cond (o120) (by kernel_rfl) rfl (fun h146 => ?_) (fun h146 => ?_)
   ·have r147 := ite_t h146 r122
    refine w_seqk fun K148 k148 => ?_
    refine w_reg (by kernel_rfl) ?_
    refine s_qk (.bool false) (by kernel_rfl) ?_
    refine s_nil ?_
    refine k148 _ _ ?_
    refine w_ret (th_ret ?_)
    refine b_ret (fn := Tryd.f5) (vs := [.bool false]) (aRes_tmp (by kernel_rfl) (rfl)) ?_
    obtain rfl := Option.some.inj r147
    exact ⟨rfl, (FrS.step wf (FrS.step wf ((FrS.step wf (FrS.step wf (FrS.step wf (FrS.step wf ((FrS.refl (W := []) wf).extR e4) e19 Inn.nil) e39 Inn.nil) e69 Inn.nil) e93 Inn.nil).extR e109) e115 (hb110.fresh (ntr (ntr (ntr (ntr e4.next e19.next) e39.next) e69.next) e93.next))) e124 Inn.nil)⟩
   ·have r149 := ite_bf h146 r122
    refine w_skip ?_
    refine k118 _ _ ?_
    refine w_seqk fun K150 k150 => ?_
    refine w_reg (by kernel_rfl) ?_
    have u151 := ((((u81.frS e93 Dj.nil_l).ext e109).frS e115 (hb110.djn (r6.ltF.le (ntr (ntr (ntr e19.next e39.next) e69.next) e93.next)))).frS e124 Dj.nil_l)
    refine s_ql (.agg #[hd_First, hd_To, hd_Weight]) (x := aLoad Tryd.prog 37 (.pointer (some ⟨b2, 0, none⟩)) H123) (by kernel_rfl) (u151.ld (by kernel_rfl)) ?_
    have u152 := ((((u82.fr e93 Dj.nil_l).ext e109).fr e115 (hb110.djn (h_First.lt.le (ntr (ntr (ntr (ntr e4.next e19.next) e39.next) e69.next) e93.next)))).fr e124 Dj.nil_l)
    have u153 := ((((u83.fr e93 Dj.nil_l).ext e109).fr e115 (hb110.djn (h_To.lt.le (ntr (ntr (ntr (ntr e4.next e19.next) e39.next) e69.next) e93.next)))).fr e124 Dj.nil_l)
    have u154 := ((((u84.fr e93 Dj.nil_l).ext e109).fr e115 (hb110.djn (h_Weight.lt.le (ntr (ntr (ntr (ntr e4.next e19.next) e39.next) e69.next) e93.next)))).fr e124 Dj.nil_l)
    obtain ⟨y155, hy156, r157⟩ := bind_some r149
    refine s_ck 22 #[.agg #[hd_First, hd_To, hd_Weight]] (by kernel_rfl) (c_viaductlaw08_of e124.wf u152 u153 u154 hy156) ?_
    rintro _ H164 ⟨s158, f159, s160, f161, s162, f163, rfl, e165, m166, m167, m168, i169, i170, i171, d172, d173, d174⟩
    obtain ⟨a178, n179, c180, rfl⟩ := m166.form
    obtain ⟨a181, n182, c183, rfl⟩ := m167.form
    obtain ⟨a184, n185, c186, rfl⟩ := m168.form
    obtain ⟨y187, hy188, r189⟩ := bind_some r157
    refine s_ck 29 #[.agg #[.slice a178 n179 c180, .slice a181 n182 c183, .slice a184 n185 c186]] (by kernel_rfl) (c_search_Matrix e165.wf m166.sq m167.sq m168.sq hy188) ?_
    rintro _ H194 ⟨s190, f191, v192, f193, rfl, e195, m196, m197, i198, i199, d200⟩
    obtain ⟨a203, n204, c205, rfl⟩ := m196.form
    refine s_qk (.tuple #[.slice a203 n204 c205, v192]) (by kernel_rfl) ?_
    refine s_qk (.slice a203 n204 c205) (by kernel_rfl) ?_
    refine s_qk (v192) (by kernel_rfl) ?_
    refine s_qk (.slice a203 n204 c205) (by kernel_rfl) ?_
    refine s_qk (v192) (by kernel_rfl) ?_
    refine s_nil ?_
    refine k150 _ _ ?_
    refine w_seqk fun K206 k206 => ?_
    refine w_reg (by kernel_rfl) ?_
    have u207 := ((u151.frS e165 Dj.nil_l).frS e195 Dj.nil_l)
    refine s_ql (.agg #[hd_First, hd_To, hd_Weight]) (x := aLoad Tryd.prog 37 (.pointer (some ⟨b2, 0, none⟩)) H194) (by kernel_rfl) (u207.ld (by kernel_rfl)) ?_
    have u208 := ((u152.fr e165 Dj.nil_l).fr e195 Dj.nil_l)
    have u209 := ((u153.fr e165 Dj.nil_l).fr e195 Dj.nil_l)
    have u210 := ((u154.fr e165 Dj.nil_l).fr e195 Dj.nil_l)
    obtain ⟨y211, hy212, r213⟩ := bind_some r189
    refine s_ck 30 #[.agg #[hd_First, hd_To, hd_Weight]] (by kernel_rfl) (c_viaductref08_DocMatrix e195.wf u208 u209 u210 hy212) ?_
    rintro _ H218 ⟨s214, f215, s216, f217, rfl, e219, m220, m221, i222, i223, d224⟩
    obtain ⟨a227, n228, c229, rfl⟩ := m220.form
    obtain ⟨a230, n231, c232, rfl⟩ := m221.form
    refine s_qk (.tuple #[.slice a227 n228 c229, .agg #[.int .i64 y211.2.1, .slice a230 n231 c232]]) (by kernel_rfl) ?_
    refine s_qk (.slice a227 n228 c229) (by kernel_rfl) ?_
    refine s_qk (.agg #[.int .i64 y211.2.1, .slice a230 n231 c232]) (by kernel_rfl) ?_
    refine s_qk (.slice a227 n228 c229) (by kernel_rfl) ?_
    have u237 := ((((r116.frS e124 Dj.nil_l).frS e165 Dj.nil_l).frS e195 Dj.nil_l).frS e219 Dj.nil_l)
    obtain ⟨H233, q234, e235, r236⟩ := Row.store (P := Tryd.prog) (t := 31) (p := 0) e219.wf u237 (.agg #[.int .i64 y211.2.1, .slice a230 n231 c232]) [.int .i64 y211.2.1, .slice a230 n231 c232] (by kernel_rfl) (by kernel_rfl) (one_cons (rfl) (one_cons (m221.one1) (one_nil))) (Nat.le_of_ble_eq_true (by kernel_rfl)) [.int .i64 y211.2.1, .slice a230 n231 c232] (by kernel_rfl)
    refine s_ek (undef) (by kernel_rfl) (map_ok q234) ?_
    refine s_nil ?_
    refine k206 _ _ ?_
    refine w_seqk fun K238 k238 => ?_
    refine w_reg (by kernel_rfl) ?_
    refine s_qk (.slice a203 n204 c205) (by kernel_rfl) ?_
    refine s_qk (.slice a227 n228 c229) (by kernel_rfl) ?_
    have u239 := ((m196.fr e219 Dj.nil_l).fr e235 (Dj.symm (i198.djn (r111.ltF.le (ntr (ntr e115.next e124.next) e165.next)))))
    have u240 := (m220.fr e235 (Dj.symm (i222.djn (r111.ltF.le (ntr (ntr (ntr e115.next e124.next) e165.next) e195.next)))))
    obtain ⟨y241, hy242, r243⟩ := bind_some r213
    refine s_ck 31 #[.slice a203 n204 c205, .slice a227 n228 c229] (by kernel_rfl) (c_viaductref04_SameMatrix e235.wf u239 u240 hy242) ?_
    rintro _ _ ⟨rfl, rfl⟩
    by_cases h246 : y241 = true
    ·have r247 := ite_t h246 r243
     rw [h246]
     refine s_qk (.bool true) (by kernel_rfl) ?_
     refine s_qk (v192) (by kernel_rfl) ?_
     refine s_ql (.agg #[.int .i64 y211.2.1, .slice a230 n231 c232]) (x := aLoad Tryd.prog 31 (.pointer (some ⟨b107, 0, none⟩)) H233) (by kernel_rfl) (r236.ld (by kernel_rfl)) ?_
     have u249 := ((m197.fr e219 Dj.nil_l).fr e235 (Dj.symm (i199.djn (r111.ltF.le (ntr (ntr e115.next e124.next) e165.next)))))
     have u250 := (m221.fr e235 (Dj.symm (i223.djn (r111.ltF.le (ntr (ntr (ntr e115.next e124.next) e165.next) e195.next)))))
     obtain ⟨y251, hy252, r253⟩ := bind_some r247
     refine s_ck 14 #[v192, .agg #[.int .i64 y211.2.1, .slice a230 n231 c232]] (by kernel_rfl) (c_viaductseen_Same e235.wf u249 u250.sq hy252) ?_
     rintro _ H254 ⟨rfl, e255⟩
     refine s_qk (.bool y251) (by kernel_rfl) ?_
     refine s_qk (.bool y251) (by kernel_rfl) ?_
     refine s_nil ?_
     refine k238 _ _ ?_
     refine w_ret ?_
     refine b_ret (fn := Tryd.f5) (vs := [.bool y251]) (aRes_tmp (by kernel_rfl) (rfl)) ?_
     obtain rfl := Option.some.inj r253
     exact ⟨rfl, (FrS.step wf (FrS.step wf (FrS.step wf (FrS.step wf (FrS.step wf (FrS.step wf (FrS.step wf ((FrS.step wf (FrS.step wf (FrS.step wf (FrS.step wf ((FrS.refl (W := []) wf).extR e4) e19 Inn.nil) e39 Inn.nil) e69 Inn.nil) e93 Inn.nil).extR e109) e115 (hb110.fresh (ntr (ntr (ntr (ntr e4.next e19.next) e39.next) e69.next) e93.next))) e124 Inn.nil) e165 Inn.nil) e195 Inn.nil) e219 Inn.nil) e235 (hb110.fresh (ntr (ntr (ntr (ntr e4.next e19.next) e39.next) e69.next) e93.next))) e255 Inn.nil)⟩
    ·have r256 := ite_f h246 r243
     rw [nb h246]
     refine s_qk (.bool false) (by kernel_rfl) ?_
     refine s_no (by kernel_rfl) ?_
     refine s_no (by kernel_rfl) ?_
     refine s_no (by kernel_rfl) ?_
     refine s_qk (.bool false) (by kernel_rfl) ?_
     refine s_qk (.bool false) (by kernel_rfl) ?_
     refine s_nil ?_
     refine k238 _ _ ?_
     refine w_ret ?_
     refine b_ret (fn := Tryd.f5) (vs := [.bool false]) (aRes_tmp (by kernel_rfl) (rfl)) ?_
     obtain rfl := Option.some.inj r256
     exact ⟨rfl, (FrS.step wf (FrS.step wf (FrS.step wf (FrS.step wf (FrS.step wf (FrS.step wf ((FrS.step wf (FrS.step wf (FrS.step wf (FrS.step wf ((FrS.refl (W := []) wf).extR e4) e19 Inn.nil) e39 Inn.nil) e69 Inn.nil) e93 Inn.nil).extR e109) e115 (hb110.fresh (ntr (ntr (ntr (ntr e4.next e19.next) e39.next) e69.next) e93.next))) e124 Inn.nil) e165 Inn.nil) e195 Inn.nil) e219 Inn.nil) e235 (hb110.fresh (ntr (ntr (ntr (ntr e4.next e19.next) e39.next) e69.next) e93.next)))⟩


end Go.Vd
