/- The walks of the functions (printed by a program of ours). -/
import Derived.Test.YtbjamignglibpaaDoorPkl3
import Derived.Test.YtbjamignglibpaaDoorIWn
/-! (KWn6) -/

set_option maxRecDepth 100000
set_option maxHeartbeats 4000000
set_option linter.unusedVariables false
namespace Go.Vd
open Go.Proofs
attribute [local irreducible] wpSeq wpOrd aWp
theorem c_search_state_all {H : AH} {b_st : Nat} {hd_st_ : Value} {fp_st_ : Fp} {hd_st_2 : Value} {fp_st_2 : Fp} {hd_st_3 : Value} {fp_st_3 : Fp} {hd_st_4 : Value} {fp_st_4 : Fp} {hd_st_5 : Value} {fp_st_5 : Fp} {st_ : List (Int)} {st_2 : List (Int)} {st_3 : List (Int)} {st_4 : List (Int)} {st_5 : List (Bool)} {r : List (Int)}
  (wf : WF H) (h_st_ : Sq (encI .i64) 1 H hd_st_ st_ fp_st_) (h_st_2 : Sq (encI .i64) 1 H hd_st_2 st_2 fp_st_2) (h_st_3 : Sq (encI .i64) 1 H hd_st_3 st_3 fp_st_3) (h_st_4 : Sq (encI .i64) 1 H hd_st_4 st_4 fp_st_4) (h_st_5 : Sq encB 1 H hd_st_5 st_5 fp_st_5) (h_st : Row H b_st [hd_st_, hd_st_2, hd_st_3, .pointer none, .pointer none, hd_st_4, hd_st_5]) (hr : z_search_state_all st_ st_2 st_3 st_4 st_5 = some r) :
  ACalls Tryd.prog 58 #[.pointer (some ⟨b_st, 0, none⟩)] H fun v H' => ∃ (s3 : Value) (f4 : Fp), v = s3 ∧ FrS [] H H' ∧ Ow (encI .u64) 1 H' s3 r f4 ∧ Inn [] H f4 := by
 refine acalls_of_body mixed Tryd.func58 rfl (Nat.le_of_ble_eq_true rfl) ?_
 unfold z_search_state_all at hr
 refine w_seqk fun K6 k6 => ?_
 refine w_reg (by kernel_rfl) ?_
 refine s_qk (.slice none 0 0) (by kernel_rfl) ?_
 refine s_nil ?_
 refine k6 _ _ ?_
 refine w_seqk fun K7 k7 => ?_
 refine w_reg (by kernel_rfl) ?_
 refine s_qk (.pointer (some ⟨b_st, 0, none⟩)) (by kernel_rfl) ?_
 refine s_qk (.pointer (some ⟨b_st, 0, none⟩)) (by kernel_rfl) ?_
 refine s_qk (.pointer (some ⟨b_st, 0, none⟩)) (by kernel_rfl) ?_
 refine s_ql (.agg #[hd_st_, hd_st_2, hd_st_3]) (x := aLoad Tryd.prog 40 (.pointer (some ⟨b_st, 0, none⟩)) H) (by kernel_rfl) (h_st.ld (by kernel_rfl)) ?_
 obtain ⟨y8, hy9, r10⟩ := bind_some hr
 refine s_ck 60 #[.agg #[hd_st_, hd_st_2, hd_st_3]] (by kernel_rfl) (c_search_nodes wf h_st_ h_st_2 h_st_3 hy9) ?_
 rintro _ H11 ⟨rfl, e12⟩
 obtain ⟨g13, r14⟩ := G_some r10
 refine s_mks (t := 47) (m := 8) (l := y8) (c := y8) (enc := (encI .u64)) (sz := 1) e12.wf (0 : Int) (by kernel_rfl) (by decide) g13.1 (Int.le_refl _) (by omega) (by have := g13; omega) (by kernel_rfl) fun s15 f16 H17 e18 hf19 hm20 => ?_
 obtain ⟨a21, n22, c23, rfl⟩ := hm20.form
 have hm20 : Ow (encI .u64) 1 H17 (.slice a21 n22 c23) (List.replicate y8.toNat (0 : Int)) f16 := hm20
 refine s_qk (.slice a21 n22 c23) (by kernel_rfl) ?_
 refine s_nil ?_
 refine k7 _ _ ?_
 refine w_seqk fun K25 k25 => ?_
 refine w_seqk fun K26 k26 => ?_
 refine w_reg (by kernel_rfl) ?_
 refine s_qk (.slice a21 n22 c23) (by kernel_rfl) ?_
 refine s_ql (.int .i64 ((List.replicate y8.toNat (0 : Int)).length : Int)) (x := aLen Tryd.prog 47 (.slice a21 n22 c23) H17) (by kernel_rfl) (hm20.sq.lenb (by kernel_rfl)) ?_
 refine s_qk (.int .i64 0) (by kernel_rfl) ?_
 refine s_nil ?_
 refine k26 _ _ ?_
 obtain ⟨o27, hx28, r29⟩ := bind_some r14
 refine w_mid (fun α H30 => Has α [(3, .slice a21 n22 c23)] ∧ FrS f16 H17 H30 ∧ Ow (encI .u64) 1 H30 (.slice a21 n22 c23) o27 f16) (fun K34 k34 => ?_) (fun α H30 hM => ?_)
 ·refine w_block ?_
  obtain ⟨n36, hn37⟩ := loopO_iff.1 hx28
  refine w_loopn (fun n α H38 => ∃ (i0 : Int), ∃ (l1 : List (Int)), iterO (fun zz_ => z_search_state_all_l0 y8 zz_.1 zz_.2) n (i0, l1) = some o27 ∧ Has α [(0, .pointer (some ⟨b_st, 0, none⟩)), (3, .slice a21 n22 c23), (14, .int .i64 ((List.replicate y8.toNat (0 : Int)).length : Int)), (15, .int .i64 i0)] ∧ FrS f16 H17 H38 ∧ Ow (encI .u64) 1 H38 (.slice a21 n22 c23) l1 f16) n36 ⟨0, (List.replicate y8.toNat (0 : Int)), hn37, ⟨by kernel_rfl, by kernel_rfl, by kernel_rfl, by kernel_rfl, trivial⟩, (FrS.refl (W := f16) e18.wf), hm20⟩ ?_
  rintro n36 α H38 ⟨i0, l1, hi43, hh42, e39, m41⟩ K48 k48
  obtain ⟨n44, z45, rfl, hz46, hn47⟩ := iter_succ hi43
  obtain ⟨β, rfl⟩ := has_ex hh42
  clear hh42
  replace hz46 : z_search_state_all_l0 y8 i0 l1 = some z45 := hz46
  unfold z_search_state_all_l0 at hz46
  refine w_seqk fun K49 k49 => ?_
  refine w_reg (by kernel_rfl) ?_
  refine s_qk (.bool (decide (i0 < ((List.replicate y8.toNat (0 : Int)).length : Int)))) (by kernel_rfl) ?_
  refine s_nil ?_
  refine k49 _ _ ?_
  refine w_seqk fun K50 k50 => ?_
  refine w_condp (i0 < ((List.replicate y8.toNat (0 : Int)).length : Int)) (by kernel_rfl) rfl (fun h51 => ?_) (fun h51 => ?_)
  ·have r52 := ite_t h51 hz46
   refine w_skip ?_
   refine k50 _ _ ?_
   refine w_seqk fun K53 k53 => ?_
   refine w_block ?_
   refine w_seqk fun K54 k54 => ?_
   refine w_reg (by kernel_rfl) ?_
   refine s_qk (.int .i64 i0) (by kernel_rfl) ?_
   refine s_qk (.int .i64 i0) (by kernel_rfl) ?_
   refine s_nil ?_
   refine k54 _ _ ?_
   refine w_seqk fun K55 k55 => ?_
   refine w_reg (by kernel_rfl) ?_
   refine s_qk (.pointer (some ⟨b_st, 0, none⟩)) (by kernel_rfl) ?_
   refine s_qk (.pointer (some ⟨b_st, 0, none⟩)) (by kernel_rfl) ?_
   refine s_qk (.pointer (some ⟨b_st, 4, none⟩)) (by kernel_rfl) ?_
   have u56 := (((h_st.frS e12 Dj.nil_l).ext e18).frS e39 (hf19.djn (h_st.ltF.le e12.next)))
   refine s_ql (.pointer none) (x := aLoad Tryd.prog 103 (.pointer (some ⟨b_st, 4, none⟩)) H38) (by kernel_rfl) (u56.ld (by kernel_rfl)) ?_
   refine s_qk (.int .i64 i0) (by kernel_rfl) ?_
   obtain ⟨y57, hy58, r59⟩ := bind_some r52
   refine s_ck 62 #[.pointer none, .int .i64 i0] (by kernel_rfl) (c_stamp_Stamp_Get e39.wf hy58) ?_
   rintro _ _ ⟨rfl, rfl⟩
   refine s_qk (.tuple #[.int .u64 0, .bool false]) (by kernel_rfl) ?_
   refine s_qk (.int .u64 0) (by kernel_rfl) ?_
   refine s_qk (.bool false) (by kernel_rfl) ?_
   refine s_qk (.int .u64 0) (by kernel_rfl) ?_
   refine s_qk (.bool false) (by kernel_rfl) ?_
   refine s_nil ?_
   refine k55 _ _ ?_
   refine w_seqk fun K62 k62 => ?_
   refine w_seqk fun K63 k63 => ?_
   refine w_reg (by kernel_rfl) ?_
   refine s_qk (.bool false) (by kernel_rfl) ?_
   refine s_qk (.bool true) (by kernel_rfl) ?_
   refine s_nil ?_
   refine k63 _ _ ?_
   refine w_cond true (by kernel_rfl) rfl (fun _ => ?_) (fun h => by cases h)
   refine w_reg (by kernel_rfl) ?_
   refine s_qk (.int .u64 18446744073709551615) (by kernel_rfl) ?_
   refine s_nil ?_
   refine k62 _ _ ?_
   refine w_reg (by kernel_rfl) ?_
   refine s_qk (.slice a21 n22 c23) (by kernel_rfl) ?_
   refine s_qk (.int .i64 i0) (by kernel_rfl) ?_
   refine s_qk (.int .u64 18446744073709551615) (by kernel_rfl) ?_
   obtain ⟨g64, r65⟩ := G_some r59
   refine s_ql (elp (.slice a21 n22 c23) 1 i0.toNat 0) (x := aIndexAddr Tryd.prog 47 (.slice a21 n22 c23) (.int .i64 i0)) (by kernel_rfl) (m41.sq.idxb (by kernel_rfl) g64.1 g64.2) ?_
   obtain ⟨H66, q67, e68, hm69⟩ := Ow.store (P := Tryd.prog) (t := 42) (off := 0) e39.wf m41 g64.1 g64.2 (.int .u64 18446744073709551615) [.int .u64 18446744073709551615] (by kernel_rfl) (by kernel_rfl) rfl 18446744073709551615 (Nat.le_of_ble_eq_true rfl) (by kernel_rfl)
   refine s_ek (undef) (by kernel_rfl) (map_ok q67) ?_
   refine s_nil ?_
   refine k53 _ _ ?_
   refine w_reg (by kernel_rfl) ?_
   obtain ⟨g70, r71⟩ := G_some r65
   refine s_w ((i0 + 1)) (k := .i64) (x := (i0 + 1)) (by kernel_rfl) (wrap64 (by have := g70; omega)) ?_
   refine s_qk (.int .i64 (i0 + 1)) (by kernel_rfl) ?_
   refine s_nil ?_
   obtain rfl := Option.some.inj r71
   exact k48 n44 _ _ (Nat.lt_succ_self _) ⟨(i0 + 1), (l1.set i0.toNat 18446744073709551615), hn47, ⟨by kernel_rfl, by kernel_rfl, by kernel_rfl, by kernel_rfl, trivial⟩, (FrS.step e18.wf (FrS.step e18.wf (FrS.refl (W := f16) e18.wf) e39 Inn.refl') e68 Inn.refl'), hm69⟩
  ·have r72 := ite_f h51 hz46
   refine w_exit (th_exit (th_exit (bl_eq ?_)))
   obtain rfl := Option.some.inj r72
   obtain rfl := it_inr hn47
   exact k34 _ _ ⟨⟨by kernel_rfl, trivial⟩, (FrS.step e18.wf (FrS.refl (W := f16) e18.wf) e39 Inn.refl'), m41⟩
 ·obtain ⟨hh35, e31, m33⟩ := hM
  obtain ⟨β, rfl⟩ := has_ex hh35
  clear hh35
  refine k25 _ _ ?_
  refine w_seqk fun K73 k73 => ?_
  refine w_reg (by kernel_rfl) ?_
  refine s_qk (.slice a21 n22 c23) (by kernel_rfl) ?_
  refine s_qk (.slice a21 n22 c23) (by kernel_rfl) ?_
  refine s_nil ?_
  refine k73 _ _ ?_
  refine w_ret ?_
  refine b_ret (fn := Tryd.f58) (vs := [.slice a21 n22 c23]) (aRes_tmp (by kernel_rfl) (rfl)) ?_
  obtain rfl := Option.some.inj r29
  exact ⟨(.slice a21 n22 c23), f16, rfl, (FrS.step wf ((FrS.step wf (FrS.refl (W := []) wf) e12 Inn.nil).extR e18) e31 (hf19.fresh e12.next)), m33, (hf19.fresh e12.next)⟩

theorem c_search_state_all_1 {H : AH} {b_st : Nat} {hd_st_ : Value} {fp_st_ : Fp} {hd_st_2 : Value} {fp_st_2 : Fp} {hd_st_3 : Value} {fp_st_3 : Fp} {b_st_4 : Nat} {hd_st_5 : Value} {fp_st_5 : Fp} {hd_st_8 : Value} {fp_st_8 : Fp} {hd_st_9 : Value} {fp_st_9 : Fp} {st_ : List (Int)} {st_2 : List (Int)} {st_3 : List (Int)} {st_5 : List (Int × Int)} {st_6 : Int} {st_7 : Int} {st_8 : List (Int)} {st_9 : List (Bool)} {r : List (Int)}
  (wf : WF H) (h_st_ : Sq (encI .i64) 1 H hd_st_ st_ fp_st_) (h_st_2 : Sq (encI .i64) 1 H hd_st_2 st_2 fp_st_2) (h_st_3 : Sq (encI .i64) 1 H hd_st_3 st_3 fp_st_3) (h_st_5 : Sq enc_u64_u32 2 H hd_st_5 st_5 fp_st_5) (h_st_4 : Row H b_st_4 [hd_st_5, .int .u32 st_6, .int .i64 st_7]) (h_st_8 : Sq (encI .i64) 1 H hd_st_8 st_8 fp_st_8) (h_st_9 : Sq encB 1 H hd_st_9 st_9 fp_st_9) (h_st : Row H b_st [hd_st_, hd_st_2, hd_st_3, .pointer none, .pointer (some ⟨b_st_4, 0, none⟩), hd_st_8, hd_st_9]) (hr : z_search_state_all_1 st_ st_2 st_3 st_5 st_6 st_7 st_8 st_9 = some r) :
  ACalls Tryd.prog 58 #[.pointer (some ⟨b_st, 0, none⟩)] H fun v H' => ∃ (s3 : Value) (f4 : Fp), v = s3 ∧ FrS [] H H' ∧ Ow (encI .u64) 1 H' s3 r f4 ∧ Inn [] H f4 := by
 refine acalls_of_body mixed Tryd.func58 rfl (Nat.le_of_ble_eq_true rfl) ?_
 unfold z_search_state_all_1 at hr
 refine w_seqk fun K6 k6 => ?_
 refine w_reg (by kernel_rfl) ?_
 refine s_qk (.slice none 0 0) (by kernel_rfl) ?_
 refine s_nil ?_
 refine k6 _ _ ?_
 refine w_seqk fun K7 k7 => ?_
 refine w_reg (by kernel_rfl) ?_
 refine s_qk (.pointer (some ⟨b_st, 0, none⟩)) (by kernel_rfl) ?_
 refine s_qk (.pointer (some ⟨b_st, 0, none⟩)) (by kernel_rfl) ?_
 refine s_qk (.pointer (some ⟨b_st, 0, none⟩)) (by kernel_rfl) ?_
 refine s_ql (.agg #[hd_st_, hd_st_2, hd_st_3]) (x := aLoad Tryd.prog 40 (.pointer (some ⟨b_st, 0, none⟩)) H) (by kernel_rfl) (h_st.ld (by kernel_rfl)) ?_
 obtain ⟨y8, hy9, r10⟩ := bind_some hr
 refine s_ck 60 #[.agg #[hd_st_, hd_st_2, hd_st_3]] (by kernel_rfl) (c_search_nodes wf h_st_ h_st_2 h_st_3 hy9) ?_
 rintro _ H11 ⟨rfl, e12⟩
 obtain ⟨g13, r14⟩ := G_some r10
 refine s_mks (t := 47) (m := 8) (l := y8) (c := y8) (enc := (encI .u64)) (sz := 1) e12.wf (0 : Int) (by kernel_rfl) (by decide) g13.1 (Int.le_refl _) (by omega) (by have := g13; omega) (by kernel_rfl) fun s15 f16 H17 e18 hf19 hm20 => ?_
 obtain ⟨a21, n22, c23, rfl⟩ := hm20.form
 have hm20 : Ow (encI .u64) 1 H17 (.slice a21 n22 c23) (List.replicate y8.toNat (0 : Int)) f16 := hm20
 refine s_qk (.slice a21 n22 c23) (by kernel_rfl) ?_
 refine s_nil ?_
 refine k7 _ _ ?_
 refine w_seqk fun K25 k25 => ?_
 refine w_seqk fun K26 k26 => ?_
 refine w_reg (by kernel_rfl) ?_
 refine s_qk (.slice a21 n22 c23) (by kernel_rfl) ?_
 refine s_ql (.int .i64 ((List.replicate y8.toNat (0 : Int)).length : Int)) (x := aLen Tryd.prog 47 (.slice a21 n22 c23) H17) (by kernel_rfl) (hm20.sq.lenb (by kernel_rfl)) ?_
 refine s_qk (.int .i64 0) (by kernel_rfl) ?_
 refine s_nil ?_
 refine k26 _ _ ?_
 obtain ⟨o27, hx28, r29⟩ := bind_some r14
 refine w_mid (fun α H30 => Has α [(3, .slice a21 n22 c23)] ∧ FrS f16 H17 H30 ∧ Ow (encI .u64) 1 H30 (.slice a21 n22 c23) o27 f16) (fun K34 k34 => ?_) (fun α H30 hM => ?_)
 ·refine w_block ?_
  obtain ⟨n36, hn37⟩ := loopO_iff.1 hx28
  refine w_loopn (fun n α H38 => ∃ (i0 : Int), ∃ (l1 : List (Int)), iterO (fun zz_ => z_search_state_all_1_l0 st_5 st_6 st_7 y8 zz_.1 zz_.2) n (i0, l1) = some o27 ∧ Has α [(0, .pointer (some ⟨b_st, 0, none⟩)), (3, .slice a21 n22 c23), (14, .int .i64 ((List.replicate y8.toNat (0 : Int)).length : Int)), (15, .int .i64 i0)] ∧ FrS f16 H17 H38 ∧ Ow (encI .u64) 1 H38 (.slice a21 n22 c23) l1 f16) n36 ⟨0, (List.replicate y8.toNat (0 : Int)), hn37, ⟨by kernel_rfl, by kernel_rfl, by kernel_rfl, by kernel_rfl, trivial⟩, (FrS.refl (W := f16) e18.wf), hm20⟩ ?_
  rintro n36 α H38 ⟨i0, l1, hi43, hh42, e39, m41⟩ K48 k48
  obtain ⟨n44, z45, rfl, hz46, hn47⟩ := iter_succ hi43
  obtain ⟨β, rfl⟩ := has_ex hh42
  clear hh42
  replace hz46 : z_search_state_all_1_l0 st_5 st_6 st_7 y8 i0 l1 = some z45 := hz46
  unfold z_search_state_all_1_l0 at hz46
  refine w_seqk fun K49 k49 => ?_
  refine w_reg (by kernel_rfl) ?_
  refine s_qk (.bool (decide (i0 < ((List.replicate y8.toNat (0 : Int)).length : Int)))) (by kernel_rfl) ?_
  refine s_nil ?_
  refine k49 _ _ ?_
  refine w_seqk fun K50 k50 => ?_
  refine w_condp (i0 < ((List.replicate y8.toNat (0 : Int)).length : Int)) (by kernel_rfl) rfl (fun h51 => ?_) (fun h51 => ?_)
  ·have r52 := ite_t h51 hz46
   refine w_skip ?_
   refine k50 _ _ ?_
   refine w_seqk fun K53 k53 => ?_
   refine w_block ?_
   refine w_seqk fun K54 k54 => ?_
   refine w_reg (by kernel_rfl) ?_
   refine s_qk (.int .i64 i0) (by kernel_rfl) ?_
   refine s_qk (.int .i64 i0) (by kernel_rfl) ?_
   refine s_nil ?_
   refine k54 _ _ ?_
   refine w_seqk fun K55 k55 => ?_
   refine w_reg (by kernel_rfl) ?_
   refine s_qk (.pointer (some ⟨b_st, 0, none⟩)) (by kernel_rfl) ?_
   refine s_qk (.pointer (some ⟨b_st, 0, none⟩)) (by kernel_rfl) ?_
   refine s_qk (.pointer (some ⟨b_st, 4, none⟩)) (by kernel_rfl) ?_
   have u56 := (((h_st.frS e12 Dj.nil_l).ext e18).frS e39 (hf19.djn (h_st.ltF.le e12.next)))
   refine s_ql (.pointer (some ⟨b_st_4, 0, none⟩)) (x := aLoad Tryd.prog 103 (.pointer (some ⟨b_st, 4, none⟩)) H38) (by kernel_rfl) (u56.ld (by kernel_rfl)) ?_
   refine s_qk (.int .i64 i0) (by kernel_rfl) ?_
   have u57 := (((h_st_5.fr e12 Dj.nil_l).ext e18).fr e39 (hf19.djn (h_st_5.lt.le e12.next)))
   have u58 := (((h_st_4.frS e12 Dj.nil_l).ext e18).frS e39 (hf19.djn (h_st_4.ltF.le e12.next)))
   obtain ⟨y59, hy60, r61⟩ := bind_some r52
   refine s_ck 62 #[.pointer (some ⟨b_st_4, 0, none⟩), .int .i64 i0] (by kernel_rfl) (c_stamp_Stamp_Get_1 e39.wf u57 u58 hy60) ?_
   rintro _ _ ⟨rfl, rfl⟩
   refine s_qk (.tuple #[.int .u64 y59.1, .bool y59.2]) (by kernel_rfl) ?_
   refine s_qk (.int .u64 y59.1) (by kernel_rfl) ?_
   refine s_qk (.bool y59.2) (by kernel_rfl) ?_
   refine s_qk (.int .u64 y59.1) (by kernel_rfl) ?_
   refine s_qk (.bool y59.2) (by kernel_rfl) ?_
   refine s_nil ?_
   refine k55 _ _ ?_
   refine w_seqk fun K64 k64 => ?_
   refine w_seqk fun K65 k65 => ?_
   refine w_reg (by kernel_rfl) ?_
   refine s_qk (.bool y59.2) (by kernel_rfl) ?_
   refine s_qk (.bool (!y59.2)) (by kernel_rfl) ?_
   refine s_nil ?_
   refine k65 _ _ ?_
   refine w_cond ((!y59.2)) (by kernel_rfl) rfl (fun h66 => ?_) (fun h66 => ?_)
   ·have r67 := ite_t h66 r61
    refine w_reg (by kernel_rfl) ?_
    refine s_qk (.int .u64 18446744073709551615) (by kernel_rfl) ?_
    refine s_nil ?_
    refine k64 _ _ ?_
    refine w_reg (by kernel_rfl) ?_
    refine s_qk (.slice a21 n22 c23) (by kernel_rfl) ?_
    refine s_qk (.int .i64 i0) (by kernel_rfl) ?_
    refine s_qk (.int .u64 18446744073709551615) (by kernel_rfl) ?_
    obtain ⟨g68, r69⟩ := G_some r67
    refine s_ql (elp (.slice a21 n22 c23) 1 i0.toNat 0) (x := aIndexAddr Tryd.prog 47 (.slice a21 n22 c23) (.int .i64 i0)) (by kernel_rfl) (m41.sq.idxb (by kernel_rfl) g68.1 g68.2) ?_
    obtain ⟨H70, q71, e72, hm73⟩ := Ow.store (P := Tryd.prog) (t := 42) (off := 0) e39.wf m41 g68.1 g68.2 (.int .u64 18446744073709551615) [.int .u64 18446744073709551615] (by kernel_rfl) (by kernel_rfl) rfl 18446744073709551615 (Nat.le_of_ble_eq_true rfl) (by kernel_rfl)
    refine s_ek (undef) (by kernel_rfl) (map_ok q71) ?_
    refine s_nil ?_
    refine k53 _ _ ?_
    refine w_reg (by kernel_rfl) ?_
    obtain ⟨g74, r75⟩ := G_some r69
    refine s_w ((i0 + 1)) (k := .i64) (x := (i0 + 1)) (by kernel_rfl) (wrap64 (by have := g74; omega)) ?_
    refine s_qk (.int .i64 (i0 + 1)) (by kernel_rfl) ?_
    refine s_nil ?_
    obtain rfl := Option.some.inj r75
    exact k48 n44 _ _ (Nat.lt_succ_self _) ⟨(i0 + 1), (l1.set i0.toNat 18446744073709551615), hn47, ⟨by kernel_rfl, by kernel_rfl, by kernel_rfl, by kernel_rfl, trivial⟩, (FrS.step e18.wf (FrS.step e18.wf (FrS.refl (W := f16) e18.wf) e39 Inn.refl') e72 Inn.refl'), hm73⟩
   ·have r76 := ite_bf h66 r61
    refine w_skip ?_
    refine k64 _ _ ?_
    refine w_reg (by kernel_rfl) ?_
    refine s_qk (.slice a21 n22 c23) (by kernel_rfl) ?_
    refine s_qk (.int .i64 i0) (by kernel_rfl) ?_
    refine s_qk (.int .u64 y59.1) (by kernel_rfl) ?_
    obtain ⟨g77, r78⟩ := G_some r76
    refine s_ql (elp (.slice a21 n22 c23) 1 i0.toNat 0) (x := aIndexAddr Tryd.prog 47 (.slice a21 n22 c23) (.int .i64 i0)) (by kernel_rfl) (m41.sq.idxb (by kernel_rfl) g77.1 g77.2) ?_
    obtain ⟨H79, q80, e81, hm82⟩ := Ow.store (P := Tryd.prog) (t := 42) (off := 0) e39.wf m41 g77.1 g77.2 (.int .u64 y59.1) [.int .u64 y59.1] (by kernel_rfl) (by kernel_rfl) rfl y59.1 (Nat.le_of_ble_eq_true rfl) (by kernel_rfl)
    refine s_ek (undef) (by kernel_rfl) (map_ok q80) ?_
    refine s_nil ?_
    refine k53 _ _ ?_
    refine w_reg (by kernel_rfl) ?_
    obtain ⟨g83, r84⟩ := G_some r78
    refine s_w ((i0 + 1)) (k := .i64) (x := (i0 + 1)) (by kernel_rfl) (wrap64 (by have := g83; omega)) ?_
    refine s_qk (.int .i64 (i0 + 1)) (by kernel_rfl) ?_
    refine s_nil ?_
    obtain rfl := Option.some.inj r84
    exact k48 n44 _ _ (Nat.lt_succ_self _) ⟨(i0 + 1), (l1.set i0.toNat y59.1), hn47, ⟨by kernel_rfl, by kernel_rfl, by kernel_rfl, by kernel_rfl, trivial⟩, (FrS.step e18.wf (FrS.step e18.wf (FrS.refl (W := f16) e18.wf) e39 Inn.refl') e81 Inn.refl'), hm82⟩
  ·have r85 := ite_f h51 hz46
   refine w_exit (th_exit (th_exit (bl_eq ?_)))
   obtain rfl := Option.some.inj r85
   obtain rfl := it_inr hn47
   exact k34 _ _ ⟨⟨by kernel_rfl, trivial⟩, (FrS.step e18.wf (FrS.refl (W := f16) e18.wf) e39 Inn.refl'), m41⟩
 ·obtain ⟨hh35, e31, m33⟩ := hM
  obtain ⟨β, rfl⟩ := has_ex hh35
  clear hh35
  refine k25 _ _ ?_
  refine w_seqk fun K86 k86 => ?_
  refine w_reg (by kernel_rfl) ?_
  refine s_qk (.slice a21 n22 c23) (by kernel_rfl) ?_
  refine s_qk (.slice a21 n22 c23) (by kernel_rfl) ?_
  refine s_nil ?_
  refine k86 _ _ ?_
  refine w_ret ?_
  refine b_ret (fn := Tryd.f58) (vs := [.slice a21 n22 c23]) (aRes_tmp (by kernel_rfl) (rfl)) ?_
  obtain rfl := Option.some.inj r29
  exact ⟨(.slice a21 n22 c23), f16, rfl, (FrS.step wf ((FrS.step wf (FrS.refl (W := []) wf) e12 Inn.nil).extR e18) e31 (hf19.fresh e12.next)), m33, (hf19.fresh e12.next)⟩

theorem c_search_state_all_2 {H : AH} {b_st : Nat} {hd_st_ : Value} {fp_st_ : Fp} {hd_st_2 : Value} {fp_st_2 : Fp} {hd_st_3 : Value} {fp_st_3 : Fp} {b_st_4 : Nat} {hd_st_5 : Value} {fp_st_5 : Fp} {hd_st_6 : Value} {fp_st_6 : Fp} {hd_st_7 : Value} {fp_st_7 : Fp} {hd_st_8 : Value} {fp_st_8 : Fp} {st_ : List (Int)} {st_2 : List (Int)} {st_3 : List (Int)} {st_5 : List (Int × Int)} {st_6 : List (Int)} {st_7 : List (Int)} {st_8 : List (Bool)} {r : List (Int)}
  (wf : WF H) (h_st_ : Sq (encI .i64) 1 H hd_st_ st_ fp_st_) (h_st_2 : Sq (encI .i64) 1 H hd_st_2 st_2 fp_st_2) (h_st_3 : Sq (encI .i64) 1 H hd_st_3 st_3 fp_st_3) (h_st_5 : Sq enc_u64_u32 2 H hd_st_5 st_5 fp_st_5) (h_st_6 : Sq (encI .i64) 1 H hd_st_6 st_6 fp_st_6) (h_st_4 : Row H b_st_4 [hd_st_5, hd_st_6]) (h_st_7 : Sq (encI .i64) 1 H hd_st_7 st_7 fp_st_7) (h_st_8 : Sq encB 1 H hd_st_8 st_8 fp_st_8) (h_st : Row H b_st [hd_st_, hd_st_2, hd_st_3, .pointer (some ⟨b_st_4, 0, none⟩), .pointer none, hd_st_7, hd_st_8]) (hr : z_search_state_all_2 st_ st_2 st_3 st_5 st_6 st_7 st_8 = some r) :
  ACalls Tryd.prog 58 #[.pointer (some ⟨b_st, 0, none⟩)] H fun v H' => ∃ (s3 : Value) (f4 : Fp), v = s3 ∧ FrS [] H H' ∧ Ow (encI .u64) 1 H' s3 r f4 ∧ Inn [] H f4 := by
 refine acalls_of_body mixed Tryd.func58 rfl (Nat.le_of_ble_eq_true rfl) ?_
 unfold z_search_state_all_2 at hr
 refine w_seqk fun K6 k6 => ?_
 refine w_reg (by kernel_rfl) ?_
 refine s_qk (.slice none 0 0) (by kernel_rfl) ?_
 refine s_nil ?_
 refine k6 _ _ ?_
 refine w_seqk fun K7 k7 => ?_
 refine w_reg (by kernel_rfl) ?_
 refine s_qk (.pointer (some ⟨b_st, 0, none⟩)) (by kernel_rfl) ?_
 refine s_qk (.pointer (some ⟨b_st, 0, none⟩)) (by kernel_rfl) ?_
 refine s_qk (.pointer (some ⟨b_st, 0, none⟩)) (by kernel_rfl) ?_
 refine s_ql (.agg #[hd_st_, hd_st_2, hd_st_3]) (x := aLoad Tryd.prog 40 (.pointer (some ⟨b_st, 0, none⟩)) H) (by kernel_rfl) (h_st.ld (by kernel_rfl)) ?_
 obtain ⟨y8, hy9, r10⟩ := bind_some hr
 refine s_ck 60 #[.agg #[hd_st_, hd_st_2, hd_st_3]] (by kernel_rfl) (c_search_nodes wf h_st_ h_st_2 h_st_3 hy9) ?_
 rintro _ H11 ⟨rfl, e12⟩
 obtain ⟨g13, r14⟩ := G_some r10
 refine s_mks (t := 47) (m := 8) (l := y8) (c := y8) (enc := (encI .u64)) (sz := 1) e12.wf (0 : Int) (by kernel_rfl) (by decide) g13.1 (Int.le_refl _) (by omega) (by have := g13; omega) (by kernel_rfl) fun s15 f16 H17 e18 hf19 hm20 => ?_
 obtain ⟨a21, n22, c23, rfl⟩ := hm20.form
 have hm20 : Ow (encI .u64) 1 H17 (.slice a21 n22 c23) (List.replicate y8.toNat (0 : Int)) f16 := hm20
 refine s_qk (.slice a21 n22 c23) (by kernel_rfl) ?_
 refine s_nil ?_
 refine k7 _ _ ?_
 refine w_seqk fun K25 k25 => ?_
 refine w_seqk fun K26 k26 => ?_
 refine w_reg (by kernel_rfl) ?_
 refine s_qk (.slice a21 n22 c23) (by kernel_rfl) ?_
 refine s_ql (.int .i64 ((List.replicate y8.toNat (0 : Int)).length : Int)) (x := aLen Tryd.prog 47 (.slice a21 n22 c23) H17) (by kernel_rfl) (hm20.sq.lenb (by kernel_rfl)) ?_
 refine s_qk (.int .i64 0) (by kernel_rfl) ?_
 refine s_nil ?_
 refine k26 _ _ ?_
 obtain ⟨o27, hx28, r29⟩ := bind_some r14
 refine w_mid (fun α H30 => Has α [(3, .slice a21 n22 c23)] ∧ FrS f16 H17 H30 ∧ Ow (encI .u64) 1 H30 (.slice a21 n22 c23) o27 f16) (fun K34 k34 => ?_) (fun α H30 hM => ?_)
 ·refine w_block ?_
  obtain ⟨n36, hn37⟩ := loopO_iff.1 hx28
  refine w_loopn (fun n α H38 => ∃ (i0 : Int), ∃ (l1 : List (Int)), iterO (fun zz_ => z_search_state_all_2_l0 y8 zz_.1 zz_.2) n (i0, l1) = some o27 ∧ Has α [(0, .pointer (some ⟨b_st, 0, none⟩)), (3, .slice a21 n22 c23), (14, .int .i64 ((List.replicate y8.toNat (0 : Int)).length : Int)), (15, .int .i64 i0)] ∧ FrS f16 H17 H38 ∧ Ow (encI .u64) 1 H38 (.slice a21 n22 c23) l1 f16) n36 ⟨0, (List.replicate y8.toNat (0 : Int)), hn37, ⟨by kernel_rfl, by kernel_rfl, by kernel_rfl, by kernel_rfl, trivial⟩, (FrS.refl (W := f16) e18.wf), hm20⟩ ?_
  rintro n36 α H38 ⟨i0, l1, hi43, hh42, e39, m41⟩ K48 k48
  obtain ⟨n44, z45, rfl, hz46, hn47⟩ := iter_succ hi43
  obtain ⟨β, rfl⟩ := has_ex hh42
  clear hh42
  replace hz46 : z_search_state_all_2_l0 y8 i0 l1 = some z45 := hz46
  unfold z_search_state_all_2_l0 at hz46
  refine w_seqk fun K49 k49 => ?_
  refine w_reg (by kernel_rfl) ?_
  refine s_qk (.bool (decide (i0 < ((List.replicate y8.toNat (0 : Int)).length : Int)))) (by kernel_rfl) ?_
  refine s_nil ?_
  refine k49 _ _ ?_
  refine w_seqk fun K50 k50 => ?_
  refine w_condp (i0 < ((List.replicate y8.toNat (0 : Int)).length : Int)) (by kernel_rfl) rfl (fun h51 => ?_) (fun h51 => ?_)
  ·have r52 := ite_t h51 hz46
   refine w_skip ?_
   refine k50 _ _ ?_
   refine w_seqk fun K53 k53 => ?_
   refine w_block ?_
   refine w_seqk fun K54 k54 => ?_
   refine w_reg (by kernel_rfl) ?_
   refine s_qk (.int .i64 i0) (by kernel_rfl) ?_
   refine s_qk (.int .i64 i0) (by kernel_rfl) ?_
   refine s_nil ?_
   refine k54 _ _ ?_
   refine w_seqk fun K55 k55 => ?_
   refine w_reg (by kernel_rfl) ?_
   refine s_qk (.pointer (some ⟨b_st, 0, none⟩)) (by kernel_rfl) ?_
   refine s_qk (.pointer (some ⟨b_st, 0, none⟩)) (by kernel_rfl) ?_
   refine s_qk (.pointer (some ⟨b_st, 4, none⟩)) (by kernel_rfl) ?_
   have u56 := (((h_st.frS e12 Dj.nil_l).ext e18).frS e39 (hf19.djn (h_st.ltF.le e12.next)))
   refine s_ql (.pointer none) (x := aLoad Tryd.prog 103 (.pointer (some ⟨b_st, 4, none⟩)) H38) (by kernel_rfl) (u56.ld (by kernel_rfl)) ?_
   refine s_qk (.int .i64 i0) (by kernel_rfl) ?_
   obtain ⟨y57, hy58, r59⟩ := bind_some r52
   refine s_ck 62 #[.pointer none, .int .i64 i0] (by kernel_rfl) (c_stamp_Stamp_Get e39.wf hy58) ?_
   rintro _ _ ⟨rfl, rfl⟩
   refine s_qk (.tuple #[.int .u64 0, .bool false]) (by kernel_rfl) ?_
   refine s_qk (.int .u64 0) (by kernel_rfl) ?_
   refine s_qk (.bool false) (by kernel_rfl) ?_
   refine s_qk (.int .u64 0) (by kernel_rfl) ?_
   refine s_qk (.bool false) (by kernel_rfl) ?_
   refine s_nil ?_
   refine k55 _ _ ?_
   refine w_seqk fun K62 k62 => ?_
   refine w_seqk fun K63 k63 => ?_
   refine w_reg (by kernel_rfl) ?_
   refine s_qk (.bool false) (by kernel_rfl) ?_
   refine s_qk (.bool true) (by kernel_rfl) ?_
   refine s_nil ?_
   refine k63 _ _ ?_
   refine w_cond true (by kernel_rfl) rfl (fun _ => ?_) (fun h => by cases h)
   refine w_reg (by kernel_rfl) ?_
   refine s_qk (.int .u64 18446744073709551615) (by kernel_rfl) ?_
   refine s_nil ?_
   refine k62 _ _ ?_
   refine w_reg (by kernel_rfl) ?_
   refine s_qk (.slice a21 n22 c23) (by kernel_rfl) ?_
   refine s_qk (.int .i64 i0) (by kernel_rfl) ?_
   refine s_qk (.int .u64 18446744073709551615) (by kernel_rfl) ?_
   obtain ⟨g64, r65⟩ := G_some r59
   refine s_ql (elp (.slice a21 n22 c23) 1 i0.toNat 0) (x := aIndexAddr Tryd.prog 47 (.slice a21 n22 c23) (.int .i64 i0)) (by kernel_rfl) (m41.sq.idxb (by kernel_rfl) g64.1 g64.2) ?_
   obtain ⟨H66, q67, e68, hm69⟩ := Ow.store (P := Tryd.prog) (t := 42) (off := 0) e39.wf m41 g64.1 g64.2 (.int .u64 18446744073709551615) [.int .u64 18446744073709551615] (by kernel_rfl) (by kernel_rfl) rfl 18446744073709551615 (Nat.le_of_ble_eq_true rfl) (by kernel_rfl)
   refine s_ek (undef) (by kernel_rfl) (map_ok q67) ?_
   refine s_nil ?_
   refine k53 _ _ ?_
   refine w_reg (by kernel_rfl) ?_
   obtain ⟨g70, r71⟩ := G_some r65
   refine s_w ((i0 + 1)) (k := .i64) (x := (i0 + 1)) (by kernel_rfl) (wrap64 (by have := g70; omega)) ?_
   refine s_qk (.int .i64 (i0 + 1)) (by kernel_rfl) ?_
   refine s_nil ?_
   obtain rfl := Option.some.inj r71
   exact k48 n44 _ _ (Nat.lt_succ_self _) ⟨(i0 + 1), (l1.set i0.toNat 18446744073709551615), hn47, ⟨by kernel_rfl, by kernel_rfl, by kernel_rfl, by kernel_rfl, trivial⟩, (FrS.step e18.wf (FrS.step e18.wf (FrS.refl (W := f16) e18.wf) e39 Inn.refl') e68 Inn.refl'), hm69⟩
  ·have r72 := ite_f h51 hz46
   refine w_exit (th_exit (th_exit (bl_eq ?_)))
   obtain rfl := Option.some.inj r72
   obtain rfl := it_inr hn47
   exact k34 _ _ ⟨⟨by kernel_rfl, trivial⟩, (FrS.step e18.wf (FrS.refl (W := f16) e18.wf) e39 Inn.refl'), m41⟩
 ·obtain ⟨hh35, e31, m33⟩ := hM
  obtain ⟨β, rfl⟩ := has_ex hh35
  clear hh35
  refine k25 _ _ ?_
  refine w_seqk fun K73 k73 => ?_
  refine w_reg (by kernel_rfl) ?_
  refine s_qk (.slice a21 n22 c23) (by kernel_rfl) ?_
  refine s_qk (.slice a21 n22 c23) (by kernel_rfl) ?_
  refine s_nil ?_
  refine k73 _ _ ?_
  refine w_ret ?_
  refine b_ret (fn := Tryd.f58) (vs := [.slice a21 n22 c23]) (aRes_tmp (by kernel_rfl) (rfl)) ?_
  obtain rfl := Option.some.inj r29
  exact ⟨(.slice a21 n22 c23), f16, rfl, (FrS.step wf ((FrS.step wf (FrS.refl (W := []) wf) e12 Inn.nil).extR e18) e31 (hf19.fresh e12.next)), m33, (hf19.fresh e12.next)⟩

theorem c_search_state_all_3 {H : AH} {b_st : Nat} {hd_st_ : Value} {fp_st_ : Fp} {hd_st_2 : Value} {fp_st_2 : Fp} {hd_st_3 : Value} {fp_st_3 : Fp} {b_st_4 : Nat} {hd_st_5 : Value} {fp_st_5 : Fp} {hd_st_6 : Value} {fp_st_6 : Fp} {b_st_7 : Nat} {hd_st_8 : Value} {fp_st_8 : Fp} {hd_st_11 : Value} {fp_st_11 : Fp} {hd_st_12 : Value} {fp_st_12 : Fp} {st_ : List (Int)} {st_2 : List (Int)} {st_3 : List (Int)} {st_5 : List (Int × Int)} {st_6 : List (Int)} {st_8 : List (Int × Int)} {st_9 : Int} {st_10 : Int} {st_11 : List (Int)} {st_12 : List (Bool)} {r : List (Int)}
  (wf : WF H) (h_st_ : Sq (encI .i64) 1 H hd_st_ st_ fp_st_) (h_st_2 : Sq (encI .i64) 1 H hd_st_2 st_2 fp_st_2) (h_st_3 : Sq (encI .i64) 1 H hd_st_3 st_3 fp_st_3) (h_st_5 : Sq enc_u64_u32 2 H hd_st_5 st_5 fp_st_5) (h_st_6 : Sq (encI .i64) 1 H hd_st_6 st_6 fp_st_6) (h_st_4 : Row H b_st_4 [hd_st_5, hd_st_6]) (h_st_8 : Sq enc_u64_u32 2 H hd_st_8 st_8 fp_st_8) (h_st_7 : Row H b_st_7 [hd_st_8, .int .u32 st_9, .int .i64 st_10]) (h_st_11 : Sq (encI .i64) 1 H hd_st_11 st_11 fp_st_11) (h_st_12 : Sq encB 1 H hd_st_12 st_12 fp_st_12) (h_st : Row H b_st [hd_st_, hd_st_2, hd_st_3, .pointer (some ⟨b_st_4, 0, none⟩), .pointer (some ⟨b_st_7, 0, none⟩), hd_st_11, hd_st_12]) (hr : z_search_state_all_3 st_ st_2 st_3 st_5 st_6 st_8 st_9 st_10 st_11 st_12 = some r) :
  ACalls Tryd.prog 58 #[.pointer (some ⟨b_st, 0, none⟩)] H fun v H' => ∃ (s3 : Value) (f4 : Fp), v = s3 ∧ FrS [] H H' ∧ Ow (encI .u64) 1 H' s3 r f4 ∧ Inn [] H f4 := by
 refine acalls_of_body mixed Tryd.func58 rfl (Nat.le_of_ble_eq_true rfl) ?_
 unfold z_search_state_all_3 at hr
 refine w_seqk fun K6 k6 => ?_
 refine w_reg (by kernel_rfl) ?_
 refine s_qk (.slice none 0 0) (by kernel_rfl) ?_
 refine s_nil ?_
 refine k6 _ _ ?_
 refine w_seqk fun K7 k7 => ?_
 refine w_reg (by kernel_rfl) ?_
 refine s_qk (.pointer (some ⟨b_st, 0, none⟩)) (by kernel_rfl) ?_
 refine s_qk (.pointer (some ⟨b_st, 0, none⟩)) (by kernel_rfl) ?_
 refine s_qk (.pointer (some ⟨b_st, 0, none⟩)) (by kernel_rfl) ?_
 refine s_ql (.agg #[hd_st_, hd_st_2, hd_st_3]) (x := aLoad Tryd.prog 40 (.pointer (some ⟨b_st, 0, none⟩)) H) (by kernel_rfl) (h_st.ld (by kernel_rfl)) ?_
 obtain ⟨y8, hy9, r10⟩ := bind_some hr
 refine s_ck 60 #[.agg #[hd_st_, hd_st_2, hd_st_3]] (by kernel_rfl) (c_search_nodes wf h_st_ h_st_2 h_st_3 hy9) ?_
 rintro _ H11 ⟨rfl, e12⟩
 obtain ⟨g13, r14⟩ := G_some r10
 refine s_mks (t := 47) (m := 8) (l := y8) (c := y8) (enc := (encI .u64)) (sz := 1) e12.wf (0 : Int) (by kernel_rfl) (by decide) g13.1 (Int.le_refl _) (by omega) (by have := g13; omega) (by kernel_rfl) fun s15 f16 H17 e18 hf19 hm20 => ?_
 obtain ⟨a21, n22, c23, rfl⟩ := hm20.form
 have hm20 : Ow (encI .u64) 1 H17 (.slice a21 n22 c23) (List.replicate y8.toNat (0 : Int)) f16 := hm20
 refine s_qk (.slice a21 n22 c23) (by kernel_rfl) ?_
 refine s_nil ?_
 refine k7 _ _ ?_
 refine w_seqk fun K25 k25 => ?_
 refine w_seqk fun K26 k26 => ?_
 refine w_reg (by kernel_rfl) ?_
 refine s_qk (.slice a21 n22 c23) (by kernel_rfl) ?_
 refine s_ql (.int .i64 ((List.replicate y8.toNat (0 : Int)).length : Int)) (x := aLen Tryd.prog 47 (.slice a21 n22 c23) H17) (by kernel_rfl) (hm20.sq.lenb (by kernel_rfl)) ?_
 refine s_qk (.int .i64 0) (by kernel_rfl) ?_
 refine s_nil ?_
 refine k26 _ _ ?_
 obtain ⟨o27, hx28, r29⟩ := bind_some r14
 refine w_mid (fun α H30 => Has α [(3, .slice a21 n22 c23)] ∧ FrS f16 H17 H30 ∧ Ow (encI .u64) 1 H30 (.slice a21 n22 c23) o27 f16) (fun K34 k34 => ?_) (fun α H30 hM => ?_)
 ·refine w_block ?_
  obtain ⟨n36, hn37⟩ := loopO_iff.1 hx28
  refine w_loopn (fun n α H38 => ∃ (i0 : Int), ∃ (l1 : List (Int)), iterO (fun zz_ => z_search_state_all_3_l0 st_8 st_9 st_10 y8 zz_.1 zz_.2) n (i0, l1) = some o27 ∧ Has α [(0, .pointer (some ⟨b_st, 0, none⟩)), (3, .slice a21 n22 c23), (14, .int .i64 ((List.replicate y8.toNat (0 : Int)).length : Int)), (15, .int .i64 i0)] ∧ FrS f16 H17 H38 ∧ Ow (encI .u64) 1 H38 (.slice a21 n22 c23) l1 f16) n36 ⟨0, (List.replicate y8.toNat (0 : Int)), hn37, ⟨by kernel_rfl, by kernel_rfl, by kernel_rfl, by kernel_rfl, trivial⟩, (FrS.refl (W := f16) e18.wf), hm20⟩ ?_
  rintro n36 α H38 ⟨i0, l1, hi43, hh42, e39, m41⟩ K48 k48
  obtain ⟨n44, z45, rfl, hz46, hn47⟩ := iter_succ hi43
  obtain ⟨β, rfl⟩ := has_ex hh42
  clear hh42
  replace hz46 : z_search_state_all_3_l0 st_8 st_9 st_10 y8 i0 l1 = some z45 := hz46
  unfold z_search_state_all_3_l0 at hz46
  refine w_seqk fun K49 k49 => ?_
  refine w_reg (by kernel_rfl) ?_
  refine s_qk (.bool (decide (i0 < ((List.replicate y8.toNat (0 : Int)).length : Int)))) (by kernel_rfl) ?_
  refine s_nil ?_
  refine k49 _ _ ?_
  refine w_seqk fun K50 k50 => ?_
  refine w_condp (i0 < ((List.replicate y8.toNat (0 : Int)).length : Int)) (by kernel_rfl) rfl (fun h51 => ?_) (fun h51 => ?_)
  ·have r52 := ite_t h51 hz46
   refine w_skip ?_
   refine k50 _ _ ?_
   refine w_seqk fun K53 k53 => ?_
   refine w_block ?_
   refine w_seqk fun K54 k54 => ?_
   refine w_reg (by kernel_rfl) ?_
   refine s_qk (.int .i64 i0) (by kernel_rfl) ?_
   refine s_qk (.int .i64 i0) (by kernel_rfl) ?_
   refine s_nil ?_
   refine k54 _ _ ?_
   refine w_seqk fun K55 k55 => ?_
   refine w_reg (by kernel_rfl) ?_
   refine s_qk (.pointer (some ⟨b_st, 0, none⟩)) (by kernel_rfl) ?_
   refine s_qk (.pointer (some ⟨b_st, 0, none⟩)) (by kernel_rfl) ?_
   refine s_qk (.pointer (some ⟨b_st, 4, none⟩)) (by kernel_rfl) ?_
   have u56 := (((h_st.frS e12 Dj.nil_l).ext e18).frS e39 (hf19.djn (h_st.ltF.le e12.next)))
   refine s_ql (.pointer (some ⟨b_st_7, 0, none⟩)) (x := aLoad Tryd.prog 103 (.pointer (some ⟨b_st, 4, none⟩)) H38) (by kernel_rfl) (u56.ld (by kernel_rfl)) ?_
   refine s_qk (.int .i64 i0) (by kernel_rfl) ?_
   have u57 := (((h_st_8.fr e12 Dj.nil_l).ext e18).fr e39 (hf19.djn (h_st_8.lt.le e12.next)))
   have u58 := (((h_st_7.frS e12 Dj.nil_l).ext e18).frS e39 (hf19.djn (h_st_7.ltF.le e12.next)))
   obtain ⟨y59, hy60, r61⟩ := bind_some r52
   refine s_ck 62 #[.pointer (some ⟨b_st_7, 0, none⟩), .int .i64 i0] (by kernel_rfl) (c_stamp_Stamp_Get_1 e39.wf u57 u58 hy60) ?_
   rintro _ _ ⟨rfl, rfl⟩
   refine s_qk (.tuple #[.int .u64 y59.1, .bool y59.2]) (by kernel_rfl) ?_
   refine s_qk (.int .u64 y59.1) (by kernel_rfl) ?_
   refine s_qk (.bool y59.2) (by kernel_rfl) ?_
   refine s_qk (.int .u64 y59.1) (by kernel_rfl) ?_
   refine s_qk (.bool y59.2) (by kernel_rfl) ?_
   refine s_nil ?_
   refine k55 _ _ ?_
   refine w_seqk fun K64 k64 => ?_
   refine w_seqk fun K65 k65 => ?_
   refine w_reg (by kernel_rfl) ?_
   refine s_qk (.bool y59.2) (by kernel_rfl) ?_
   refine s_qk (.bool (!y59.2)) (by kernel_rfl) ?_
   refine s_nil ?_
   refine k65 _ _ ?_
   refine w_cond ((!y59.2)) (by kernel_rfl) rfl (fun h66 => ?_) (fun h66 => ?_)
   ·have r67 := ite_t h66 r61
    refine w_reg (by kernel_rfl) ?_
    refine s_qk (.int .u64 18446744073709551615) (by kernel_rfl) ?_
    refine s_nil ?_
    refine k64 _ _ ?_
    refine w_reg (by kernel_rfl) ?_
    refine s_qk (.slice a21 n22 c23) (by kernel_rfl) ?_
    refine s_qk (.int .i64 i0) (by kernel_rfl) ?_
    refine s_qk (.int .u64 18446744073709551615) (by kernel_rfl) ?_
    obtain ⟨g68, r69⟩ := G_some r67
    refine s_ql (elp (.slice a21 n22 c23) 1 i0.toNat 0) (x := aIndexAddr Tryd.prog 47 (.slice a21 n22 c23) (.int .i64 i0)) (by kernel_rfl) (m41.sq.idxb (by kernel_rfl) g68.1 g68.2) ?_
    obtain ⟨H70, q71, e72, hm73⟩ := Ow.store (P := Tryd.prog) (t := 42) (off := 0) e39.wf m41 g68.1 g68.2 (.int .u64 18446744073709551615) [.int .u64 18446744073709551615] (by kernel_rfl) (by kernel_rfl) rfl 18446744073709551615 (Nat.le_of_ble_eq_true rfl) (by kernel_rfl)
    refine s_ek (undef) (by kernel_rfl) (map_ok q71) ?_
    refine s_nil ?_
    refine k53 _ _ ?_
    refine w_reg (by kernel_rfl) ?_
    obtain ⟨g74, r75⟩ := G_some r69
    refine s_w ((i0 + 1)) (k := .i64) (x := (i0 + 1)) (by kernel_rfl) (wrap64 (by have := g74; omega)) ?_
    refine s_qk (.int .i64 (i0 + 1)) (by kernel_rfl) ?_
    refine s_nil ?_
    obtain rfl := Option.some.inj r75
    exact k48 n44 _ _ (Nat.lt_succ_self _) ⟨(i0 + 1), (l1.set i0.toNat 18446744073709551615), hn47, ⟨by kernel_rfl, by kernel_rfl, by kernel_rfl, by kernel_rfl, trivial⟩, (FrS.step e18.wf (FrS.step e18.wf (FrS.refl (W := f16) e18.wf) e39 Inn.refl') e72 Inn.refl'), hm73⟩
   ·have r76 := ite_bf h66 r61
    refine w_skip ?_
    refine k64 _ _ ?_
    refine w_reg (by kernel_rfl) ?_
    refine s_qk (.slice a21 n22 c23) (by kernel_rfl) ?_
    refine s_qk (.int .i64 i0) (by kernel_rfl) ?_
    refine s_qk (.int .u64 y59.1) (by kernel_rfl) ?_
    obtain ⟨g77, r78⟩ := G_some r76
    refine s_ql (elp (.slice a21 n22 c23) 1 i0.toNat 0) (x := aIndexAddr Tryd.prog 47 (.slice a21 n22 c23) (.int .i64 i0)) (by kernel_rfl) (m41.sq.idxb (by kernel_rfl) g77.1 g77.2) ?_
    obtain ⟨H79, q80, e81, hm82⟩ := Ow.store (P := Tryd.prog) (t := 42) (off := 0) e39.wf m41 g77.1 g77.2 (.int .u64 y59.1) [.int .u64 y59.1] (by kernel_rfl) (by kernel_rfl) rfl y59.1 (Nat.le_of_ble_eq_true rfl) (by kernel_rfl)
    refine s_ek (undef) (by kernel_rfl) (map_ok q80) ?_
    refine s_nil ?_
    refine k53 _ _ ?_
    refine w_reg (by kernel_rfl) ?_
    obtain ⟨g83, r84⟩ := G_some r78
    refine s_w ((i0 + 1)) (k := .i64) (x := (i0 + 1)) (by kernel_rfl) (wrap64 (by have := g83; omega)) ?_
    refine s_qk (.int .i64 (i0 + 1)) (by kernel_rfl) ?_
    refine s_nil ?_
    obtain rfl := Option.some.inj r84
    exact k48 n44 _ _ (Nat.lt_succ_self _) ⟨(i0 + 1), (l1.set i0.toNat y59.1), hn47, ⟨by kernel_rfl, by kernel_rfl, by kernel_rfl, by kernel_rfl, trivial⟩, (FrS.step e18.wf (FrS.step e18.wf (FrS.refl (W := f16) e18.wf) e39 Inn.refl') e81 Inn.refl'), hm82⟩
  ·have r85 := ite_f h51 hz46
   refine w_exit (th_exit (th_exit (bl_eq ?_)))
   obtain rfl := Option.some.inj r85
   obtain rfl := it_inr hn47
   exact k34 _ _ ⟨⟨by kernel_rfl, trivial⟩, (FrS.step e18.wf (FrS.refl (W := f16) e18.wf) e39 Inn.refl'), m41⟩
 ·obtain ⟨hh35, e31, m33⟩ := hM
  obtain ⟨β, rfl⟩ := has_ex hh35
  clear hh35
  refine k25 _ _ ?_
  refine w_seqk fun K86 k86 => ?_
  refine w_reg (by kernel_rfl) ?_
  refine s_qk (.slice a21 n22 c23) (by kernel_rfl) ?_
  refine s_qk (.slice a21 n22 c23) (by kernel_rfl) ?_
  refine s_nil ?_
  refine k86 _ _ ?_
  refine w_ret ?_
  refine b_ret (fn := Tryd.f58) (vs := [.slice a21 n22 c23]) (aRes_tmp (by kernel_rfl) (rfl)) ?_
  obtain rfl := Option.some.inj r29
  exact ⟨(.slice a21 n22 c23), f16, rfl, (FrS.step wf ((FrS.step wf (FrS.refl (W := []) wf) e12 Inn.nil).extR e18) e31 (hf19.fresh e12.next)), m33, (hf19.fresh e12.next)⟩

theorem c_search_From {H : AH} {hd_First : Value} {fp_First : Fp} {hd_To : Value} {fp_To : Fp} {hd_Weight : Value} {fp_Weight : Fp} {First : List (Int)} {To : List (Int)} {Weight : List (Int)} {s : Int} {r : List (Int) × Er}
  (wf : WF H) (h_First : Sq (encI .i64) 1 H hd_First First fp_First) (h_To : Sq (encI .i64) 1 H hd_To To fp_To) (h_Weight : Sq (encI .i64) 1 H hd_Weight Weight fp_Weight) (hr : z_search_From First To Weight s = some r) :
  ACalls Tryd.prog 26 #[.agg #[hd_First, hd_To, hd_Weight], .int .i64 s] H fun v H' => ∃ (s3 : Value) (f4 : Fp) (v7 : Value) (f8 : Fp), v = .tuple #[s3, v7] ∧ FrS [] H H' ∧ Ow (encI .u64) 1 H' s3 r.1 f4 ∧ Ev 80 86 H' v7 r.2 f8 ∧ Inn [] H f4 ∧ Inn [] H f8 ∧ Dj f4 f8 := by
 refine acalls_of_body mixed Tryd.func26 rfl (Nat.le_of_ble_eq_true rfl) ?_
 unfold z_search_From at hr
 refine w_seqk fun K12 k12 => ?_
 refine w_reg (by kernel_rfl) ?_
 refine s_rwl wf [hd_First, hd_To, hd_Weight] (one_cons (h_First.one1) (one_cons (h_To.one1) (one_cons (h_Weight.one1) (one_nil)))) (by kernel_rfl) fun b13 H14 e15 hb16 r17 => ?_
 refine s_qk (.slice none 0 0) (by kernel_rfl) ?_
 refine s_qk (.nilIface) (by kernel_rfl) ?_
 refine s_nil ?_
 refine k12 _ _ ?_
 refine w_seqk fun K19 k19 => ?_
 refine w_seqk fun K20 k20 => ?_
 refine w_reg (by kernel_rfl) ?_
 refine s_ql (.agg #[hd_First, hd_To, hd_Weight]) (x := aLoad Tryd.prog 40 (.pointer (some ⟨b13, 0, none⟩)) H14) (by kernel_rfl) (r17.ld (by kernel_rfl)) ?_
 refine s_qk (.int .i64 s) (by kernel_rfl) ?_
 refine s_owk (enc := (encI .i64)) (sz := 1) e15.wf [s] 1 (by decide) (fun _ _ => rfl) (fun _ _ => rfl) rfl (by kernel_rfl) fun s21 f22 H23 e24 hf25 hm26 => ?_
 obtain ⟨a27, n28, c29, rfl⟩ := hm26.form
 have u31 := ((h_First.ext e15).ext e24)
 have u32 := ((h_To.ext e15).ext e24)
 have u33 := ((h_Weight.ext e15).ext e24)
 obtain ⟨y34, hy35, r36⟩ := bind_some hr
 refine s_ck 49 #[.agg #[hd_First, hd_To, hd_Weight], .slice a27 n28 c29] (by kernel_rfl) (c_search_node e24.wf u31 u32 u33 hm26.sq hy35) ?_
 rintro v37 H39 ⟨_, f38, rfl, e40, m41, i42⟩
 refine s_qk (v37) (by kernel_rfl) ?_
 refine s_nil ?_
 refine k20 _ _ ?_
 refine w_seqk fun K44 k44 => ?_
 refine w_reg (by kernel_rfl) ?_
 refine s_qk (v37) (by kernel_rfl) ?_
 rcases (m41).cases with ⟨h45, rfl⟩ | ⟨h45, t46, x47, rfl⟩
 ·have r48 := ite_t h45 r36
  refine s_qk (.bool false) (by kernel_rfl) ?_
  refine s_nil ?_
  refine k44 _ _ ?_
  refine w_cond false (by kernel_rfl) rfl (fun h => by cases h) (fun _ => ?_)
  refine w_skip ?_
  refine k19 _ _ ?_
  refine w_seqk fun K49 k49 => ?_
  refine w_draw [0, 1, 2, 3, 4, 5, 6] (by kernel_rfl) ?_
  have u50 := ((r17.ext e24).frS e40 Dj.nil_l)
  refine d_fl (.agg #[hd_First, hd_To, hd_Weight]) (x := aLoad Tryd.prog 40 (.pointer (some ⟨b13, 0, none⟩)) H39) (by kernel_rfl) (u50.ld (by kernel_rfl)) ?_
  refine d_qk (.int .i64 s) (by kernel_rfl) ?_
  obtain ⟨y51, hy52, r53⟩ := bind_some r48
  refine d_ck 51 #[] (by kernel_rfl) (c_search_free e40.wf hy52) ?_
  rintro _ H54 ⟨rfl, e55⟩
  have u56 := (u50.frS e55 Dj.nil_l)
  refine ⟨st_ql (y := aLoad Tryd.prog 40 (.pointer (some ⟨b13, 0, none⟩)) H54) (by kernel_rfl) (u56.ld (by kernel_rfl)) (st_nil), ?_⟩
  have u57 := ((u31.fr e40 Dj.nil_l).fr e55 Dj.nil_l)
  have u58 := ((u32.fr e40 Dj.nil_l).fr e55 Dj.nil_l)
  have u59 := ((u33.fr e40 Dj.nil_l).fr e55 Dj.nil_l)
  obtain ⟨y60, hy61, r62⟩ := bind_some r53
  rcases y60 with y63 | y64
  ·have r65 := elim_l r62
   refine d_ck 50 #[.agg #[hd_First, hd_To, hd_Weight], .int .i64 s, .agg #[.int .i64 4611686018427387904, .int .i64 4611686018427387904, .int .u64 18446744073709551615]] (by kernel_rfl) (c_search_run e55.wf u57 u58 u59 hy61) ?_
   rintro _ H71 ⟨s66, f67, s68, f69, b70, rfl, e72, m73, m74, m75, i76, i77, i78, d79, d80, d81⟩
   obtain ⟨a85, n86, c87, rfl⟩ := m73.form
   obtain ⟨a88, n89, c90, rfl⟩ := m74.form
   refine ⟨st_anc (by kernel_rfl) (st_nil), ?_⟩
   have u91 := (u57.fr e72 Dj.nil_l)
   have u92 := (u58.fr e72 Dj.nil_l)
   have u93 := (u59.fr e72 Dj.nil_l)
   obtain ⟨y94, hy95, r96⟩ := bind_some r65
   refine d_ck 58 #[.pointer (some ⟨b70, 0, none⟩)] (by kernel_rfl) (c_search_state_all e72.wf u91 u92 u93 m73.sq m74.sq m75 hy95) ?_
   rintro s97 H99 ⟨_, f98, rfl, e100, m101, i102⟩
   obtain ⟨a104, n105, c106, rfl⟩ := m101.form
   refine ⟨st_anc (by kernel_rfl) (st_nil), ?_⟩
   refine d_qk (.slice a104 n105 c106) (by kernel_rfl) ?_
   refine d_qk (.nilIface) (by kernel_rfl) ?_
   refine d_nil ?_
   refine k49 _ _ ?_
   refine w_ret ?_
   refine b_ret (fn := Tryd.f26) (vs := [.slice a104 n105 c106, .nilIface]) (aRes_tmp (by kernel_rfl) (aRes_tmp (by kernel_rfl) (rfl))) ?_
   obtain rfl := Option.some.inj r96
   exact ⟨(.slice a104 n105 c106), f98, (.nilIface), [], rfl, (FrS.step wf (FrS.step wf (FrS.step wf (FrS.step wf (((FrS.refl (W := []) wf).extR e15).extR e24) e40 Inn.nil) e55 Inn.nil) e72 Inn.nil) e100 Inn.nil), m101, Ev.nil, (i102.fresh (ntr (ntr (ntr (ntr e15.next e24.next) e40.next) e55.next) e72.next)), Inn.nil, Dj.nil_r⟩
  ·have r107 := elim_r r62
   rcases y64 with y108 | y109
   ·have r110 := elim_l r107
    refine d_ck 50 #[.agg #[hd_First, hd_To, hd_Weight], .int .i64 s, .agg #[.int .i64 4611686018427387904, .int .i64 4611686018427387904, .int .u64 18446744073709551615]] (by kernel_rfl) (c_search_run e55.wf u57 u58 u59 hy61) ?_
    rintro _ H119 ⟨s111, f112, b113, s114, f115, s116, f117, b118, rfl, e120, m121, m122, m123, m124, m125, i126, i127, i128, i129, i130, d131, d132, d133, d134, d135, d136, d137, d138, d139, d140⟩
    obtain ⟨a146, n147, c148, rfl⟩ := m121.form
    obtain ⟨a149, n150, c151, rfl⟩ := m123.form
    obtain ⟨a152, n153, c154, rfl⟩ := m124.form
    refine ⟨st_anc (by kernel_rfl) (st_nil), ?_⟩
    have u155 := (u57.fr e120 Dj.nil_l)
    have u156 := (u58.fr e120 Dj.nil_l)
    have u157 := (u59.fr e120 Dj.nil_l)
    obtain ⟨y158, hy159, r160⟩ := bind_some r110
    refine d_ck 58 #[.pointer (some ⟨b118, 0, none⟩)] (by kernel_rfl) (c_search_state_all_1 e120.wf u155 u156 u157 m121.sq m122 m123.sq m124.sq m125 hy159) ?_
    rintro s161 H163 ⟨_, f162, rfl, e164, m165, i166⟩
    obtain ⟨a168, n169, c170, rfl⟩ := m165.form
    refine ⟨st_anc (by kernel_rfl) (st_nil), ?_⟩
    refine d_qk (.slice a168 n169 c170) (by kernel_rfl) ?_
    refine d_qk (.nilIface) (by kernel_rfl) ?_
    refine d_nil ?_
    refine k49 _ _ ?_
    refine w_ret ?_
    refine b_ret (fn := Tryd.f26) (vs := [.slice a168 n169 c170, .nilIface]) (aRes_tmp (by kernel_rfl) (aRes_tmp (by kernel_rfl) (rfl))) ?_
    obtain rfl := Option.some.inj r160
    exact ⟨(.slice a168 n169 c170), f162, (.nilIface), [], rfl, (FrS.step wf (FrS.step wf (FrS.step wf (FrS.step wf (((FrS.refl (W := []) wf).extR e15).extR e24) e40 Inn.nil) e55 Inn.nil) e120 Inn.nil) e164 Inn.nil), m165, Ev.nil, (i166.fresh (ntr (ntr (ntr (ntr e15.next e24.next) e40.next) e55.next) e120.next)), Inn.nil, Dj.nil_r⟩
   ·have r171 := elim_r r107
    rcases y109 with y172 | y173
    ·have r174 := elim_l r171
     refine d_ck 50 #[.agg #[hd_First, hd_To, hd_Weight], .int .i64 s, .agg #[.int .i64 4611686018427387904, .int .i64 4611686018427387904, .int .u64 18446744073709551615]] (by kernel_rfl) (c_search_run e55.wf u57 u58 u59 hy61) ?_
     rintro _ H185 ⟨s175, f176, s177, f178, b179, s180, f181, s182, f183, b184, rfl, e186, m187, m188, m189, m190, m191, m192, i193, i194, i195, i196, i197, i198, d199, d200, d201, d202, d203, d204, d205, d206, d207, d208, d209, d210, d211, d212, d213⟩
     obtain ⟨a220, n221, c222, rfl⟩ := m187.form
     obtain ⟨a223, n224, c225, rfl⟩ := m188.form
     obtain ⟨a226, n227, c228, rfl⟩ := m190.form
     obtain ⟨a229, n230, c231, rfl⟩ := m191.form
     refine ⟨st_anc (by kernel_rfl) (st_nil), ?_⟩
     have u232 := (u57.fr e186 Dj.nil_l)
     have u233 := (u58.fr e186 Dj.nil_l)
     have u234 := (u59.fr e186 Dj.nil_l)
     obtain ⟨y235, hy236, r237⟩ := bind_some r174
     refine d_ck 58 #[.pointer (some ⟨b184, 0, none⟩)] (by kernel_rfl) (c_search_state_all_2 e186.wf u232 u233 u234 m187.sq m188.sq m189 m190.sq m191.sq m192 hy236) ?_
     rintro s238 H240 ⟨_, f239, rfl, e241, m242, i243⟩
     obtain ⟨a245, n246, c247, rfl⟩ := m242.form
     refine ⟨st_anc (by kernel_rfl) (st_nil), ?_⟩
     refine d_qk (.slice a245 n246 c247) (by kernel_rfl) ?_
     refine d_qk (.nilIface) (by kernel_rfl) ?_
     refine d_nil ?_
     refine k49 _ _ ?_
     refine w_ret ?_
     refine b_ret (fn := Tryd.f26) (vs := [.slice a245 n246 c247, .nilIface]) (aRes_tmp (by kernel_rfl) (aRes_tmp (by kernel_rfl) (rfl))) ?_
     obtain rfl := Option.some.inj r237
     exact ⟨(.slice a245 n246 c247), f239, (.nilIface), [], rfl, (FrS.step wf (FrS.step wf (FrS.step wf (FrS.step wf (((FrS.refl (W := []) wf).extR e15).extR e24) e40 Inn.nil) e55 Inn.nil) e186 Inn.nil) e241 Inn.nil), m242, Ev.nil, (i243.fresh (ntr (ntr (ntr (ntr e15.next e24.next) e40.next) e55.next) e186.next)), Inn.nil, Dj.nil_r⟩
    ·have r248 := elim_r r171
     refine d_ck 50 #[.agg #[hd_First, hd_To, hd_Weight], .int .i64 s, .agg #[.int .i64 4611686018427387904, .int .i64 4611686018427387904, .int .u64 18446744073709551615]] (by kernel_rfl) (c_search_run e55.wf u57 u58 u59 hy61) ?_
     rintro _ H262 ⟨s249, f250, s251, f252, b253, s254, f255, b256, s257, f258, s259, f260, b261, rfl, e263, m264, m265, m266, m267, m268, m269, m270, m271, i272, i273, i274, i275, i276, i277, i278, i279, d280, d281, d282, d283, d284, d285, d286, d287, d288, d289, d290, d291, d292, d293, d294, d295, d296, d297, d298, d299, d300, d301, d302, d303, d304, d305, d306, d307⟩
     obtain ⟨a316, n317, c318, rfl⟩ := m264.form
     obtain ⟨a319, n320, c321, rfl⟩ := m265.form
     obtain ⟨a322, n323, c324, rfl⟩ := m267.form
     obtain ⟨a325, n326, c327, rfl⟩ := m269.form
     obtain ⟨a328, n329, c330, rfl⟩ := m270.form
     refine ⟨st_anc (by kernel_rfl) (st_nil), ?_⟩
     have u331 := (u57.fr e263 Dj.nil_l)
     have u332 := (u58.fr e263 Dj.nil_l)
     have u333 := (u59.fr e263 Dj.nil_l)
     obtain ⟨y334, hy335, r336⟩ := bind_some r248
     refine d_ck 58 #[.pointer (some ⟨b261, 0, none⟩)] (by kernel_rfl) (c_search_state_all_3 e263.wf u331 u332 u333 m264.sq m265.sq m266 m267.sq m268 m269.sq m270.sq m271 hy335) ?_
     rintro s337 H339 ⟨_, f338, rfl, e340, m341, i342⟩
     obtain ⟨a344, n345, c346, rfl⟩ := m341.form
     refine ⟨st_anc (by kernel_rfl) (st_nil), ?_⟩
     refine d_qk (.slice a344 n345 c346) (by kernel_rfl) ?_
     refine d_qk (.nilIface) (by kernel_rfl) ?_
     refine d_nil ?_
     refine k49 _ _ ?_
     refine w_ret ?_
     refine b_ret (fn := Tryd.f26) (vs := [.slice a344 n345 c346, .nilIface]) (aRes_tmp (by kernel_rfl) (aRes_tmp (by kernel_rfl) (rfl))) ?_
     obtain rfl := Option.some.inj r336
     exact ⟨(.slice a344 n345 c346), f338, (.nilIface), [], rfl, (FrS.step wf (FrS.step wf (FrS.step wf (FrS.step wf (((FrS.refl (W := []) wf).extR e15).extR e24) e40 Inn.nil) e55 Inn.nil) e263 Inn.nil) e340 Inn.nil), m341, Ev.nil, (i342.fresh (ntr (ntr (ntr (ntr e15.next e24.next) e40.next) e55.next) e263.next)), Inn.nil, Dj.nil_r⟩
 ·have r347 := ite_f h45 r36
  refine s_ql (.bool true) (x := aBin Tryd.prog .neq 25 (.tmp 11) (.const .nilIface) (.iface t46 x47) .nilIface) (by kernel_rfl) (aBin_nnil (by kernel_rfl)) ?_
  refine s_nil ?_
  refine k44 _ _ ?_
  refine w_cond true (by kernel_rfl) rfl (fun _ => ?_) (fun h => by cases h)
  refine w_seqk fun K348 k348 => ?_
  refine w_reg (by kernel_rfl) ?_
  refine s_qk (.iface t46 x47) (by kernel_rfl) ?_
  refine s_qk (.slice none 0 0) (by kernel_rfl) ?_
  refine s_qk (.iface t46 x47) (by kernel_rfl) ?_
  refine s_nil ?_
  refine k348 _ _ ?_
  refine w_ret (th_ret ?_)
  refine b_ret (fn := Tryd.f26) (vs := [.slice none 0 0, .iface t46 x47]) (aRes_tmp (by kernel_rfl) (aRes_tmp (by kernel_rfl) (rfl))) ?_
  obtain rfl := Option.some.inj r347
  exact ⟨(.slice none 0 0), [], (.iface t46 x47), f38, rfl, (FrS.step wf (((FrS.refl (W := []) wf).extR e15).extR e24) e40 Inn.nil), (Ow.nil (by decide)), m41, Inn.nil, (i42.fresh (ntr e15.next e24.next)), Dj.nil_l⟩

theorem c_walk_Shortest {H : AH} {hd_First : Value} {fp_First : Fp} {hd_To : Value} {fp_To : Fp} {hd_Weight : Value} {fp_Weight : Fp} {hd_list : Value} {fp_list : Fp} {First : List (Int)} {To : List (Int)} {Weight : List (Int)} {list : List (Int)} {r : Bool × Er}
  (wf : WF H) (h_First : Sq (encI .i64) 1 H hd_First First fp_First) (h_To : Sq (encI .i64) 1 H hd_To To fp_To) (h_Weight : Sq (encI .i64) 1 H hd_Weight Weight fp_Weight) (h_list : Sq (encI .i64) 1 H hd_list list fp_list) (hr : z_walk_Shortest First To Weight list = some r) :
  ACalls Tryd.prog 38 #[.agg #[hd_First, hd_To, hd_Weight], hd_list] H fun v H' => ∃ (v3 : Value) (f4 : Fp), v = .tuple #[.bool r.1, v3] ∧ FrS [] H H' ∧ Ev 80 86 H' v3 r.2 f4 ∧ Inn [] H f4 := by
 refine acalls_of_body mixed Tryd.func38 rfl (Nat.le_of_ble_eq_true rfl) ?_
 unfold z_walk_Shortest at hr
 refine w_seqk fun K6 k6 => ?_
 refine w_reg (by kernel_rfl) ?_
 refine s_rwl wf [hd_First, hd_To, hd_Weight] (one_cons (h_First.one1) (one_cons (h_To.one1) (one_cons (h_Weight.one1) (one_nil)))) (by kernel_rfl) fun b7 H8 e9 hb10 r11 => ?_
 refine s_qk (.bool false) (by kernel_rfl) ?_
 refine s_qk (.nilIface) (by kernel_rfl) ?_
 refine s_nil ?_
 refine k6 _ _ ?_
 refine w_seqk fun K13 k13 => ?_
 refine w_reg (by kernel_rfl) ?_
 refine s_ql (.agg #[hd_First, hd_To, hd_Weight]) (x := aLoad Tryd.prog 40 (.pointer (some ⟨b7, 0, none⟩)) H8) (by kernel_rfl) (r11.ld (by kernel_rfl)) ?_
 refine s_qk (hd_list) (by kernel_rfl) ?_
 have u14 := (h_First.ext e9)
 have u15 := (h_To.ext e9)
 have u16 := (h_Weight.ext e9)
 have u17 := (h_list.ext e9)
 obtain ⟨y18, hy19, r20⟩ := bind_some hr
 refine s_ck 35 #[.agg #[hd_First, hd_To, hd_Weight], hd_list] (by kernel_rfl) (c_walk_Length e9.wf u14 u15 u16 u17 hy19) ?_
 rintro _ H23 ⟨v21, f22, rfl, e24, m25, i26⟩
 refine s_qk (.tuple #[.int .u64 y18.1, v21]) (by kernel_rfl) ?_
 refine s_qk (.int .u64 y18.1) (by kernel_rfl) ?_
 refine s_qk (v21) (by kernel_rfl) ?_
 refine s_qk (.int .u64 y18.1) (by kernel_rfl) ?_
 refine s_qk (v21) (by kernel_rfl) ?_
 refine s_nil ?_
 refine k13 _ _ ?_
 refine w_seqk fun K28 k28 => ?_
 refine w_seqk fun K29 k29 => ?_
 refine w_reg (by kernel_rfl) ?_
 refine s_qk (v21) (by kernel_rfl) ?_
 rcases (m25).cases with ⟨h30, rfl⟩ | ⟨h30, t31, x32, rfl⟩
 ·have r33 := ite_t h30 r20
  refine s_qk (.bool false) (by kernel_rfl) ?_
  refine s_nil ?_
  refine k29 _ _ ?_
  refine w_cond false (by kernel_rfl) rfl (fun h => by cases h) (fun _ => ?_)
  refine w_skip ?_
  refine k28 _ _ ?_
  refine w_seqk fun K34 k34 => ?_
  refine w_draw [0, 1, 2, 3, 4, 5, 6, 7, 8, 9] (by kernel_rfl) ?_
  have u35 := (r11.frS e24 Dj.nil_l)
  refine d_ql (.agg #[hd_First, hd_To, hd_Weight]) (x := aLoad Tryd.prog 40 (.pointer (some ⟨b7, 0, none⟩)) H23) (by kernel_rfl) (u35.ld (by kernel_rfl)) ?_
  refine d_qk (hd_list) (by kernel_rfl) ?_
  obtain ⟨g36, r37⟩ := G_some r33
  have u38 := (u17.fr e24 Dj.nil_l)
  refine d_ql (elp hd_list 1 (0 : Int).toNat 0) (x := aIndexAddr Tryd.prog 22 hd_list (.int .i64 0)) (by kernel_rfl) (u38.idxb (by kernel_rfl) (by decide) g36) ?_
  refine d_ql (.int .i64 (gt list 0)) (x := aLoad Tryd.prog 3 (elp hd_list 1 (0 : Int).toNat 0) H23) (by kernel_rfl) (u38.ld (by decide) g36 (by kernel_rfl)) ?_
  have u39 := (u14.fr e24 Dj.nil_l)
  have u40 := (u15.fr e24 Dj.nil_l)
  have u41 := (u16.fr e24 Dj.nil_l)
  obtain ⟨y42, hy43, r44⟩ := bind_some r37
  refine d_ck 26 #[.agg #[hd_First, hd_To, hd_Weight], .int .i64 (gt list 0)] (by kernel_rfl) (c_search_From e24.wf u39 u40 u41 hy43) ?_
  rintro _ H49 ⟨s45, f46, v47, f48, rfl, e50, m51, m52, i53, i54, d55⟩
  obtain ⟨a58, n59, c60, rfl⟩ := m51.form
  refine ⟨st_nil, ?_⟩
  refine d_qk (.tuple #[.slice a58 n59 c60, v47]) (by kernel_rfl) ?_
  refine d_qk (.slice a58 n59 c60) (by kernel_rfl) ?_
  refine d_qk (v47) (by kernel_rfl) ?_
  refine d_qk (.slice a58 n59 c60) (by kernel_rfl) ?_
  refine d_qk (v47) (by kernel_rfl) ?_
  refine d_nil ?_
  refine k34 _ _ ?_
  refine w_seqk fun K61 k61 => ?_
  refine w_seqk fun K62 k62 => ?_
  refine w_reg (by kernel_rfl) ?_
  refine s_qk (v47) (by kernel_rfl) ?_
  rcases (m52).cases with ⟨h63, rfl⟩ | ⟨h63, t64, x65, rfl⟩
  ·have r66 := ite_t h63 r44
   refine s_qk (.bool false) (by kernel_rfl) ?_
   refine s_nil ?_
   refine k62 _ _ ?_
   refine w_cond false (by kernel_rfl) rfl (fun h => by cases h) (fun _ => ?_)
   refine w_skip ?_
   refine k61 _ _ ?_
   refine w_seqk fun K67 k67 => ?_
   refine w_reg (by kernel_rfl) ?_
   refine s_qk (.slice a58 n59 c60) (by kernel_rfl) ?_
   refine s_qk (hd_list) (by kernel_rfl) ?_
   refine s_qk (hd_list) (by kernel_rfl) ?_
   have u68 := (u38.fr e50 Dj.nil_l)
   refine s_ql (.int .i64 (list.length : Int)) (x := aLen Tryd.prog 22 hd_list H49) (by kernel_rfl) (u68.lenb (by kernel_rfl)) ?_
   obtain ⟨g69, r70⟩ := G_some r66
   refine s_w (((list.length : Int) - 1)) (k := .i64) (x := ((list.length : Int) - 1)) (by kernel_rfl) (wrap64 g69) ?_
   obtain ⟨g71, r72⟩ := G_some r70
   refine s_ql (elp hd_list 1 ((list.length : Int) - 1).toNat 0) (x := aIndexAddr Tryd.prog 22 hd_list (.int .i64 ((list.length : Int) - 1))) (by kernel_rfl) (u68.idxb (by kernel_rfl) g71.1 g71.2) ?_
   refine s_ql (.int .i64 (gt list ((list.length : Int) - 1))) (x := aLoad Tryd.prog 3 (elp hd_list 1 ((list.length : Int) - 1).toNat 0) H49) (by kernel_rfl) (u68.ld g71.1 g71.2 (by kernel_rfl)) ?_
   obtain ⟨g73, r74⟩ := G_some r72
   refine s_ql (elp (.slice a58 n59 c60) 1 (gt list ((list.length : Int) - 1)).toNat 0) (x := aIndexAddr Tryd.prog 47 (.slice a58 n59 c60) (.int .i64 (gt list ((list.length : Int) - 1)))) (by kernel_rfl) (m51.sq.idxb (by kernel_rfl) g73.1 g73.2) ?_
   refine s_ql (.int .u64 (gt y42.1 (gt list ((list.length : Int) - 1)))) (x := aLoad Tryd.prog 42 (elp (.slice a58 n59 c60) 1 (gt list ((list.length : Int) - 1)).toNat 0) H49) (by kernel_rfl) (m51.sq.ld g73.1 g73.2 (by kernel_rfl)) ?_
   refine s_qk (.int .u64 y18.1) (by kernel_rfl) ?_
   refine s_qk (.bool (decide ((gt y42.1 (gt list ((list.length : Int) - 1))) = y18.1))) (by kernel_rfl) ?_
   refine s_qk (.bool (decide ((gt y42.1 (gt list ((list.length : Int) - 1))) = y18.1))) (by kernel_rfl) ?_
   refine s_qk (.nilIface) (by kernel_rfl) ?_
   refine s_nil ?_
   refine k67 _ _ ?_
   refine w_ret ?_
   refine b_ret (fn := Tryd.f38) (vs := [.bool (decide ((gt y42.1 (gt list ((list.length : Int) - 1))) = y18.1)), .nilIface]) (aRes_tmp (by kernel_rfl) (aRes_tmp (by kernel_rfl) (rfl))) ?_
   obtain rfl := Option.some.inj r74
   exact ⟨(.nilIface), [], rfl, (FrS.step wf (FrS.step wf ((FrS.refl (W := []) wf).extR e9) e24 Inn.nil) e50 Inn.nil), Ev.nil, Inn.nil⟩
  ·have r75 := ite_f h63 r44
   refine s_ql (.bool true) (x := aBin Tryd.prog .neq 25 (.tmp 26) (.const .nilIface) (.iface t64 x65) .nilIface) (by kernel_rfl) (aBin_nnil (by kernel_rfl)) ?_
   refine s_nil ?_
   refine k62 _ _ ?_
   refine w_cond true (by kernel_rfl) rfl (fun _ => ?_) (fun h => by cases h)
   refine w_seqk fun K76 k76 => ?_
   refine w_reg (by kernel_rfl) ?_
   refine s_qk (.iface t64 x65) (by kernel_rfl) ?_
   refine s_qk (.bool false) (by kernel_rfl) ?_
   refine s_qk (.iface t64 x65) (by kernel_rfl) ?_
   refine s_nil ?_
   refine k76 _ _ ?_
   refine w_ret (th_ret ?_)
   refine b_ret (fn := Tryd.f38) (vs := [.bool false, .iface t64 x65]) (aRes_tmp (by kernel_rfl) (aRes_tmp (by kernel_rfl) (rfl))) ?_
   obtain rfl := Option.some.inj r75
   exact ⟨(.iface t64 x65), f48, rfl, (FrS.step wf (FrS.step wf ((FrS.refl (W := []) wf).extR e9) e24 Inn.nil) e50 Inn.nil), m52, (i54.fresh (ntr e9.next e24.next))⟩
 ·have r77 := ite_f h30 r20
  refine s_ql (.bool true) (x := aBin Tryd.prog .neq 25 (.tmp 15) (.const .nilIface) (.iface t31 x32) .nilIface) (by kernel_rfl) (aBin_nnil (by kernel_rfl)) ?_
  refine s_nil ?_
  refine k29 _ _ ?_
  refine w_cond true (by kernel_rfl) rfl (fun _ => ?_) (fun h => by cases h)
  refine w_seqk fun K78 k78 => ?_
  refine w_reg (by kernel_rfl) ?_
  refine s_qk (.iface t31 x32) (by kernel_rfl) ?_
  refine s_qk (.bool false) (by kernel_rfl) ?_
  refine s_qk (.iface t31 x32) (by kernel_rfl) ?_
  refine s_nil ?_
  refine k78 _ _ ?_
  refine w_ret (th_ret ?_)
  refine b_ret (fn := Tryd.f38) (vs := [.bool false, .iface t31 x32]) (aRes_tmp (by kernel_rfl) (aRes_tmp (by kernel_rfl) (rfl))) ?_
  obtain rfl := Option.some.inj r77
  exact ⟨(.iface t31 x32), f22, rfl, (FrS.step wf ((FrS.refl (W := []) wf).extR e9) e24 Inn.nil), m25, (i26.fresh e9.next)⟩

theorem c_viaductref05_Row {H : AH} {hd_First : Value} {fp_First : Fp} {hd_To : Value} {fp_To : Fp} {hd_Weight : Value} {fp_Weight : Fp} {First : List (Int)} {To : List (Int)} {Weight : List (Int)} {v_ : Int} {r : List (Int × Int × Int)}
  (wf : WF H) (h_First : Sq (encI .i64) 1 H hd_First First fp_First) (h_To : Sq (encI .i64) 1 H hd_To To fp_To) (h_Weight : Sq (encI .i64) 1 H hd_Weight Weight fp_Weight) (hr : z_viaductref05_Row First To Weight v_ = some r) :
  ACalls Tryd.prog 63 #[.agg #[hd_First, hd_To, hd_Weight], .int .i64 v_] H fun v H' => ∃ (s3 : Value) (f4 : Fp), v = s3 ∧ FrS [] H H' ∧ Ow enc_i64_i64_i64 3 H' s3 r f4 ∧ Inn [] H f4 := by
 refine acalls_of_body mixed Tryd.func63 rfl (Nat.le_of_ble_eq_true rfl) ?_
 unfold z_viaductref05_Row at hr
 refine w_seqk fun K6 k6 => ?_
 refine w_reg (by kernel_rfl) ?_
 refine s_rwl wf [hd_First, hd_To, hd_Weight] (one_cons (h_First.one1) (one_cons (h_To.one1) (one_cons (h_Weight.one1) (one_nil)))) (by kernel_rfl) fun b7 H8 e9 hb10 r11 => ?_
 refine s_qk (.slice none 0 0) (by kernel_rfl) ?_
 refine s_nil ?_
 refine k6 _ _ ?_
 refine w_seqk fun K13 k13 => ?_
 refine w_reg (by kernel_rfl) ?_
 refine s_qk (.slice none 0 0) (by kernel_rfl) ?_
 refine s_nil ?_
 refine k13 _ _ ?_
 refine w_seqk fun K14 k14 => ?_
 refine w_seqk fun K15 k15 => ?_
 refine w_reg (by kernel_rfl) ?_
 refine s_qk (.pointer (some ⟨b7, 0, none⟩)) (by kernel_rfl) ?_
 refine s_ql (hd_First) (x := aLoad Tryd.prog 22 (.pointer (some ⟨b7, 0, none⟩)) H8) (by kernel_rfl) (r11.ld (by kernel_rfl)) ?_
 refine s_qk (.int .i64 v_) (by kernel_rfl) ?_
 obtain ⟨g16, r17⟩ := G_some hr
 have u18 := (h_First.ext e9)
 refine s_ql (elp hd_First 1 v_.toNat 0) (x := aIndexAddr Tryd.prog 22 hd_First (.int .i64 v_)) (by kernel_rfl) (u18.idxb (by kernel_rfl) g16.1 g16.2) ?_
 refine s_ql (.int .i64 (gt First v_)) (x := aLoad Tryd.prog 3 (elp hd_First 1 v_.toNat 0) H8) (by kernel_rfl) (u18.ld g16.1 g16.2 (by kernel_rfl)) ?_
 refine s_qk (.int .i64 (gt First v_)) (by kernel_rfl) ?_
 refine s_nil ?_
 refine k15 _ _ ?_
 obtain ⟨o19, hx20, r21⟩ := bind_some r17
 refine w_mid (fun α H22 => ∃ (s26 : Value) (f27 : Fp), Has α [(5, s26)] ∧ FrS [] H8 H22 ∧ Ow enc_i64_i64_i64 3 H22 s26 o19 f27 ∧ Inn [] H8 f27) (fun K29 k29 => ?_) (fun α H22 hM => ?_)
 ·refine w_block ?_
  obtain ⟨n31, hn32⟩ := loopO_iff.1 hx20
  refine w_loopn (fun n α H33 => ∃ (l0 : List (Int × Int × Int)), ∃ (i1 : Int), ∃ (s37 : Value), ∃ (f38 : Fp), iterO (fun zz_ => z_viaductref05_Row_l0 First To Weight v_ zz_.1 zz_.2) n (l0, i1) = some o19 ∧ Has α [(1, .int .i64 v_), (2, .pointer (some ⟨b7, 0, none⟩)), (5, s37), (6, .int .i64 i1)] ∧ FrS [] H8 H33 ∧ Ow enc_i64_i64_i64 3 H33 s37 l0 f38 ∧ Inn [] H8 f38) n31 ⟨[], (gt First v_), (.slice none 0 0), [], hn32, ⟨by kernel_rfl, by kernel_rfl, by kernel_rfl, by kernel_rfl, trivial⟩, (FrS.refl (W := []) e9.wf), (Ow.nil (by decide)), Inn.nil⟩ ?_
  rintro n31 α H33 ⟨l0, i1, s37, f38, hi41, hh40, e34, m36, i39⟩ K46 k46
  obtain ⟨n42, z43, rfl, hz44, hn45⟩ := iter_succ hi41
  obtain ⟨β, rfl⟩ := has_ex hh40
  clear hh40
  replace hz44 : z_viaductref05_Row_l0 First To Weight v_ l0 i1 = some z43 := hz44
  unfold z_viaductref05_Row_l0 at hz44
  obtain ⟨a47, n48, c49, rfl⟩ := m36.form
  refine w_seqk fun K50 k50 => ?_
  refine w_seqk fun K51 k51 => ?_
  refine w_reg (by kernel_rfl) ?_
  refine s_qk (.int .i64 i1) (by kernel_rfl) ?_
  refine s_qk (.pointer (some ⟨b7, 0, none⟩)) (by kernel_rfl) ?_
  have u52 := (r11.frS e34 Dj.nil_l)
  refine s_ql (hd_First) (x := aLoad Tryd.prog 22 (.pointer (some ⟨b7, 0, none⟩)) H33) (by kernel_rfl) (u52.ld (by kernel_rfl)) ?_
  refine s_qk (.int .i64 v_) (by kernel_rfl) ?_
  obtain ⟨g53, r54⟩ := G_some hz44
  refine s_w ((v_ + 1)) (k := .i64) (x := (v_ + 1)) (by kernel_rfl) (wrap64 (by have := g53; omega)) ?_
  obtain ⟨g55, r56⟩ := G_some r54
  have u57 := (u18.fr e34 Dj.nil_l)
  refine s_ql (elp hd_First 1 (v_ + 1).toNat 0) (x := aIndexAddr Tryd.prog 22 hd_First (.int .i64 (v_ + 1))) (by kernel_rfl) (u57.idxb (by kernel_rfl) g55.1 g55.2) ?_
  refine s_ql (.int .i64 (gt First (v_ + 1))) (x := aLoad Tryd.prog 3 (elp hd_First 1 (v_ + 1).toNat 0) H33) (by kernel_rfl) (u57.ld g55.1 g55.2 (by kernel_rfl)) ?_
  refine s_qk (.bool (decide (i1 < (gt First (v_ + 1))))) (by kernel_rfl) ?_
  refine s_nil ?_
  refine k51 _ _ ?_
  refine w_condp (i1 < (gt First (v_ + 1))) (by kernel_rfl) rfl (fun h58 => ?_) (fun h58 => ?_)
  ·have r59 := ite_t h58 r56
   refine w_skip ?_
   refine k50 _ _ ?_
   refine w_seqk fun K60 k60 => ?_
   refine w_block ?_
   refine w_draw [0, 1, 2, 3, 4, 5, 6, 7, 8, 9, 10, 11, 12, 13, 14, 15] (by kernel_rfl) ?_
   refine d_qk (.slice a47 n48 c49) (by kernel_rfl) ?_
   refine d_qk (.int .i64 v_) (by kernel_rfl) ?_
   refine d_qk (.pointer (some ⟨b7, 1, none⟩)) (by kernel_rfl) ?_
   refine d_ql (hd_To) (x := aLoad Tryd.prog 22 (.pointer (some ⟨b7, 1, none⟩)) H33) (by kernel_rfl) (u52.ld (by kernel_rfl)) ?_
   refine d_qk (.int .i64 i1) (by kernel_rfl) ?_
   obtain ⟨g61, r62⟩ := G_some r59
   have u63 := ((h_To.ext e9).fr e34 Dj.nil_l)
   refine d_ql (elp hd_To 1 i1.toNat 0) (x := aIndexAddr Tryd.prog 22 hd_To (.int .i64 i1)) (by kernel_rfl) (u63.idxb (by kernel_rfl) g61.1 g61.2) ?_
   refine d_ql (.int .i64 (gt To i1)) (x := aLoad Tryd.prog 3 (elp hd_To 1 i1.toNat 0) H33) (by kernel_rfl) (u63.ld g61.1 g61.2 (by kernel_rfl)) ?_
   refine d_qk (.pointer (some ⟨b7, 2, none⟩)) (by kernel_rfl) ?_
   refine d_ql (hd_Weight) (x := aLoad Tryd.prog 22 (.pointer (some ⟨b7, 2, none⟩)) H33) (by kernel_rfl) (u52.ld (by kernel_rfl)) ?_
   refine d_qk (.int .i64 i1) (by kernel_rfl) ?_
   obtain ⟨g64, r65⟩ := G_some r62
   have u66 := ((h_Weight.ext e9).fr e34 Dj.nil_l)
   refine d_ql (elp hd_Weight 1 i1.toNat 0) (x := aIndexAddr Tryd.prog 22 hd_Weight (.int .i64 i1)) (by kernel_rfl) (u66.idxb (by kernel_rfl) g61.1 g64) ?_
   refine d_ql (.int .i64 (gt Weight i1)) (x := aLoad Tryd.prog 3 (elp hd_Weight 1 i1.toNat 0) H33) (by kernel_rfl) (u66.ld g61.1 g64 (by kernel_rfl)) ?_
   refine d_qk (.agg #[.int .i64 v_, .int .i64 (gt To i1), .int .i64 (gt Weight i1)]) (by kernel_rfl) ?_
   refine d_owk (enc := enc_i64_i64_i64) (sz := 3) e34.wf [(v_, (gt To i1), (gt Weight i1))] 1 (by decide) (fun _ _ => rfl) (fun _ _ => rfl) rfl (by kernel_rfl) fun s67 f68 H69 e70 hf71 hm72 => ?_
   obtain ⟨a73, n74, c75, rfl⟩ := hm72.form
   have u77 := (m36.ext e70)
   obtain ⟨g78, r79⟩ := G_some r65
   obtain ⟨s80, H81, f82, q86, e83, hm84, hf85⟩ := Ow.append (P := Tryd.prog) 24 e70.wf u77 hm72.sq (fun _ _ => rfl) (at_ := #[120, 120]) rfl rfl (by kernel_rfl) (by kernel_rfl) (by decide) (by have := g78; first | omega | (simp only [List.length_cons, List.length_nil] at this ⊢; omega) | (simp at this ⊢; omega))
   obtain ⟨a87, n88, c89, rfl⟩ := hm84.form
   refine d_ek (.slice a87 n88 c89) (by kernel_rfl) (q86) (st_nil) ?_
   refine d_qk (.slice a87 n88 c89) (by kernel_rfl) ?_
   refine d_nil ?_
   refine k60 _ _ ?_
   refine w_reg (by kernel_rfl) ?_
   refine s_qk (.int .i64 i1) (by kernel_rfl) ?_
   obtain ⟨g91, r92⟩ := G_some r79
   refine s_w ((i1 + 1)) (k := .i64) (x := (i1 + 1)) (by kernel_rfl) (wrap64 (by have := g91; omega)) ?_
   refine s_qk (.int .i64 (i1 + 1)) (by kernel_rfl) ?_
   refine s_nil ?_
   obtain rfl := Option.some.inj r92
   exact k46 n42 _ _ (Nat.lt_succ_self _) ⟨(l0 ++ [(v_, (gt To i1), (gt Weight i1))]), (i1 + 1), (.slice a87 n88 c89), f82, hn45, ⟨by kernel_rfl, by kernel_rfl, by kernel_rfl, by kernel_rfl, trivial⟩, (FrS.step e9.wf ((FrS.step e9.wf (FrS.refl (W := []) e9.wf) e34 Inn.nil).extR e70) e83 (i39.fresh (Nat.le_refl _))), hm84, (Inn.trans (i39.fresh (Nat.le_refl _)) (ntr e34.next e70.next) hf85)⟩
  ·have r93 := ite_f h58 r56
   refine w_exit (th_exit (th_exit (bl_eq ?_)))
   obtain rfl := Option.some.inj r93
   obtain rfl := it_inr hn45
   exact k29 _ _ ⟨(.slice a47 n48 c49), f38, ⟨by kernel_rfl, trivial⟩, (FrS.step e9.wf (FrS.refl (W := []) e9.wf) e34 Inn.nil), m36, (i39.fresh (Nat.le_refl _))⟩
 ·obtain ⟨s26, f27, hh30, e23, m25, i28⟩ := hM
  obtain ⟨β, rfl⟩ := has_ex hh30
  clear hh30
  obtain ⟨a94, n95, c96, rfl⟩ := m25.form
  refine k14 _ _ ?_
  refine w_seqk fun K97 k97 => ?_
  refine w_reg (by kernel_rfl) ?_
  refine s_qk (.slice a94 n95 c96) (by kernel_rfl) ?_
  refine s_qk (.slice a94 n95 c96) (by kernel_rfl) ?_
  refine s_nil ?_
  refine k97 _ _ ?_
  refine w_ret ?_
  refine b_ret (fn := Tryd.f63) (vs := [.slice a94 n95 c96]) (aRes_tmp (by kernel_rfl) (rfl)) ?_
  obtain rfl := Option.some.inj r21
  exact ⟨(.slice a94 n95 c96), f27, rfl, (FrS.step wf ((FrS.refl (W := []) wf).extR e9) e23 Inn.nil), m25, (i28.fresh e9.next)⟩

theorem c_viaductref05_Graph {H : AH} {hd_First : Value} {fp_First : Fp} {hd_To : Value} {fp_To : Fp} {hd_Weight : Value} {fp_Weight : Fp} {First : List (Int)} {To : List (Int)} {Weight : List (Int)} {r : Int × List (Int × Int × Int)}
  (wf : WF H) (h_First : Sq (encI .i64) 1 H hd_First First fp_First) (h_To : Sq (encI .i64) 1 H hd_To To fp_To) (h_Weight : Sq (encI .i64) 1 H hd_Weight Weight fp_Weight) (hr : z_viaductref05_Graph First To Weight = some r) :
  ACalls Tryd.prog 81 #[.agg #[hd_First, hd_To, hd_Weight]] H fun v H' => ∃ (s3 : Value) (f4 : Fp), v = .agg #[.int .i64 r.1, s3] ∧ FrS [] H H' ∧ Ow enc_i64_i64_i64 3 H' s3 r.2 f4 ∧ Inn [] H f4 := by
 refine acalls_of_body mixed Tryd.func81 rfl (Nat.le_of_ble_eq_true rfl) ?_
 unfold z_viaductref05_Graph at hr
 refine w_seqk fun K6 k6 => ?_
 refine w_reg (by kernel_rfl) ?_
 refine s_rwl wf [hd_First, hd_To, hd_Weight] (one_cons (h_First.one1) (one_cons (h_To.one1) (one_cons (h_Weight.one1) (one_nil)))) (by kernel_rfl) fun b7 H8 e9 hb10 r11 => ?_
 refine s_rwk e9.wf [.int .i64 0, .slice none 0 0] (by kernel_rfl) fun b13 H14 e15 hb16 r17 => ?_
 refine s_nil ?_
 refine k6 _ _ ?_
 refine w_seqk fun K19 k19 => ?_
 refine w_reg (by kernel_rfl) ?_
 refine s_qk (.pointer (some ⟨b7, 0, none⟩)) (by kernel_rfl) ?_
 have u20 := (r11.ext e15)
 refine s_ql (hd_First) (x := aLoad Tryd.prog 22 (.pointer (some ⟨b7, 0, none⟩)) H14) (by kernel_rfl) (u20.ld (by kernel_rfl)) ?_
 have u21 := ((h_First.ext e9).ext e15)
 refine s_ql (.int .i64 (First.length : Int)) (x := aLen Tryd.prog 22 hd_First H14) (by kernel_rfl) (u21.lenb (by kernel_rfl)) ?_
 obtain ⟨g22, r23⟩ := G_some hr
 refine s_w (((First.length : Int) - 1)) (k := .i64) (x := ((First.length : Int) - 1)) (by kernel_rfl) (wrap64 g22) ?_
 refine s_qk (.agg #[.int .i64 ((First.length : Int) - 1), .slice none 0 0]) (by kernel_rfl) ?_
 refine s_rwk e15.wf [.int .i64 0, .slice none 0 0] (by kernel_rfl) fun b24 H25 e26 hb27 r28 => ?_
 obtain ⟨H30, q31, e32, r33⟩ := Row.store (P := Tryd.prog) (t := 135) (p := 0) e26.wf r28 (.agg #[.int .i64 ((First.length : Int) - 1), .slice none 0 0]) [.int .i64 ((First.length : Int) - 1), .slice none 0 0] (by kernel_rfl) (by kernel_rfl) (one_cons (rfl) (one_cons (rfl) (one_nil))) (Nat.le_of_ble_eq_true (by kernel_rfl)) [.int .i64 ((First.length : Int) - 1), .slice none 0 0] (by kernel_rfl)
 refine s_ek (undef) (by kernel_rfl) (map_ok q31) ?_
 refine s_nil ?_
 refine k19 _ _ ?_
 refine w_seqk fun K34 k34 => ?_
 refine w_seqk fun K35 k35 => ?_
 refine w_reg (by kernel_rfl) ?_
 refine s_qk (.int .i64 0) (by kernel_rfl) ?_
 refine s_nil ?_
 refine k35 _ _ ?_
 obtain ⟨o36, hx37, r38⟩ := bind_some r23
 refine w_mid (fun α H39 => ∃ (s43 : Value) (f44 : Fp), Has α [(2, .pointer (some ⟨b13, 0, none⟩)), (3, .pointer (some ⟨b24, 0, none⟩))] ∧ FrS [b24] H30 H39 ∧ Ow enc_i64_i64_i64 3 H39 s43 o36 f44 ∧ Row H39 b24 [.int .i64 ((First.length : Int) - 1), s43] ∧ Inn [] H30 f44) (fun K48 k48 => ?_) (fun α H39 hM => ?_)
 ·refine w_block ?_
  obtain ⟨n50, hn51⟩ := loopO_iff.1 hx37
  refine w_loopn (fun n α H52 => ∃ (g0 : List (Int × Int × Int)), ∃ (v1 : Int), ∃ (s56 : Value), ∃ (f57 : Fp), iterO (fun zz_ => z_viaductref05_Graph_l0 First To Weight zz_.1 zz_.2) n (g0, v1) = some o36 ∧ Has α [(1, .pointer (some ⟨b7, 0, none⟩)), (2, .pointer (some ⟨b13, 0, none⟩)), (3, .pointer (some ⟨b24, 0, none⟩)), (4, .int .i64 v1)] ∧ FrS [b24] H30 H52 ∧ Ow enc_i64_i64_i64 3 H52 s56 g0 f57 ∧ Row H52 b24 [.int .i64 ((First.length : Int) - 1), s56] ∧ Inn [] H30 f57) n50 ⟨[], 0, (.slice none 0 0), [], hn51, ⟨by kernel_rfl, by kernel_rfl, by kernel_rfl, by kernel_rfl, trivial⟩, (FrS.refl (W := [b24]) e32.wf), (Ow.nil (by decide)), r33, Inn.nil⟩ ?_
  rintro n50 α H52 ⟨g0, v1, s56, f57, hi62, hh61, e53, m55, m59, i60⟩ K67 k67
  obtain ⟨n63, z64, rfl, hz65, hn66⟩ := iter_succ hi62
  obtain ⟨β, rfl⟩ := has_ex hh61
  clear hh61
  replace hz65 : z_viaductref05_Graph_l0 First To Weight g0 v1 = some z64 := hz65
  unfold z_viaductref05_Graph_l0 at hz65
  obtain ⟨a68, n69, c70, rfl⟩ := m55.form
  refine w_seqk fun K71 k71 => ?_
  refine w_seqk fun K72 k72 => ?_
  refine w_reg (by kernel_rfl) ?_
  refine s_qk (.int .i64 v1) (by kernel_rfl) ?_
  refine s_qk (.pointer (some ⟨b24, 0, none⟩)) (by kernel_rfl) ?_
  refine s_ql (.int .i64 ((First.length : Int) - 1)) (x := aLoad Tryd.prog 3 (.pointer (some ⟨b24, 0, none⟩)) H52) (by kernel_rfl) (m59.ld (by kernel_rfl)) ?_
  refine s_qk (.bool (decide (v1 < ((First.length : Int) - 1)))) (by kernel_rfl) ?_
  refine s_nil ?_
  refine k72 _ _ ?_
  refine w_condp (v1 < ((First.length : Int) - 1)) (by kernel_rfl) rfl (fun h73 => ?_) (fun h73 => ?_)
  ·have r74 := ite_t h73 hz65
   refine w_skip ?_
   refine k71 _ _ ?_
   refine w_seqk fun K75 k75 => ?_
   refine w_block ?_
   refine w_draw [0, 1, 2, 3, 4, 5, 6, 7] (by kernel_rfl) ?_
   refine d_qk (.pointer (some ⟨b24, 1, none⟩)) (by kernel_rfl) ?_
   refine d_fl (.slice a68 n69 c70) (x := aLoad Tryd.prog 120 (.pointer (some ⟨b24, 1, none⟩)) H52) (by kernel_rfl) (m59.ld (by kernel_rfl)) ?_
   have u76 := (((u20.ext e26).frS e32 (hb27.djn (r11.ltF.le e15.next))).frS e53 (hb27.djn (r11.ltF.le e15.next)))
   refine d_ql (.agg #[hd_First, hd_To, hd_Weight]) (x := aLoad Tryd.prog 37 (.pointer (some ⟨b7, 0, none⟩)) H52) (by kernel_rfl) (u76.ld (by kernel_rfl)) ?_
   refine d_qk (.int .i64 v1) (by kernel_rfl) ?_
   have u77 := (((u21.ext e26).fr e32 (hb27.djn (h_First.lt.le (ntr e9.next e15.next)))).fr e53 (hb27.djn (h_First.lt.le (ntr e9.next e15.next))))
   have u78 := (((((h_To.ext e9).ext e15).ext e26).fr e32 (hb27.djn (h_To.lt.le (ntr e9.next e15.next)))).fr e53 (hb27.djn (h_To.lt.le (ntr e9.next e15.next))))
   have u79 := (((((h_Weight.ext e9).ext e15).ext e26).fr e32 (hb27.djn (h_Weight.lt.le (ntr e9.next e15.next)))).fr e53 (hb27.djn (h_Weight.lt.le (ntr e9.next e15.next))))
   obtain ⟨y80, hy81, r82⟩ := bind_some r74
   refine d_ck 63 #[.agg #[hd_First, hd_To, hd_Weight], .int .i64 v1] (by kernel_rfl) (c_viaductref05_Row e53.wf u77 u78 u79 hy81) ?_
   rintro s83 H85 ⟨_, f84, rfl, e86, m87, i88⟩
   obtain ⟨a90, n91, c92, rfl⟩ := m87.form
   have u93 := (m59.frS e86 Dj.nil_l)
   refine ⟨st_ql (y := aLoad Tryd.prog 120 (.pointer (some ⟨b24, 1, none⟩)) H85) (by kernel_rfl) (u93.ld (by kernel_rfl)) (st_nil), ?_⟩
   have u94 := (m55.fr e86 Dj.nil_l)
   obtain ⟨g95, r96⟩ := G_some r82
   obtain ⟨s97, H98, f99, q103, e100, hm101, hf102⟩ := Ow.append (P := Tryd.prog) 24 e86.wf u94 m87.sq (fun _ _ => rfl) (at_ := #[120, 120]) rfl rfl (by kernel_rfl) (by kernel_rfl) (by decide) (by have := g95; first | omega | (simp only [List.length_cons, List.length_nil] at this ⊢; omega) | (simp at this ⊢; omega))
   obtain ⟨a104, n105, c106, rfl⟩ := hm101.form
   refine d_ek (.slice a104 n105 c106) (by kernel_rfl) (q103) (st_anc (by kernel_rfl) (st_nil)) ?_
   refine d_qk (.pointer (some ⟨b24, 1, none⟩)) (by kernel_rfl) ?_
   have u112 := (u93.frS e100 (i60.djn (r28.ltF.le e32.next)))
   obtain ⟨H108, q109, e110, r111⟩ := Row.store (P := Tryd.prog) (t := 120) (p := 1) e100.wf u112 (.slice a104 n105 c106) [.slice a104 n105 c106] (by kernel_rfl) (by kernel_rfl) (one_cons (hm101.one1) (one_nil)) (Nat.le_of_ble_eq_true (by kernel_rfl)) [.int .i64 ((First.length : Int) - 1), .slice a104 n105 c106] (by kernel_rfl)
   refine d_ek (undef) (by kernel_rfl) (map_ok q109) (st_anc (by kernel_rfl) (st_nil)) ?_
   refine d_nil ?_
   refine k75 _ _ ?_
   refine w_reg (by kernel_rfl) ?_
   refine s_qk (.int .i64 v1) (by kernel_rfl) ?_
   obtain ⟨g113, r114⟩ := G_some r96
   refine s_w ((v1 + 1)) (k := .i64) (x := (v1 + 1)) (by kernel_rfl) (wrap64 g113) ?_
   refine s_qk (.int .i64 (v1 + 1)) (by kernel_rfl) ?_
   refine s_nil ?_
   have u115 := (hm101.fr e110 (Dj.symm (hf102.dj (i60.djn (r28.ltF.le e32.next)) (r28.ltF.le (ntr (ntr e32.next e53.next) e86.next)))))
   obtain rfl := Option.some.inj r114
   exact k67 n63 _ _ (Nat.lt_succ_self _) ⟨(g0 ++ y80), (v1 + 1), (.slice a104 n105 c106), f99, hn66, ⟨by kernel_rfl, by kernel_rfl, by kernel_rfl, by kernel_rfl, trivial⟩, (FrS.step e32.wf (FrS.step e32.wf (FrS.step e32.wf (FrS.step e32.wf (FrS.refl (W := [b24]) e32.wf) e53 Inn.refl') e86 Inn.nil) e100 (i60.fresh (Nat.le_refl _))) e110 Inn.refl'), u115, r111, (Inn.trans (i60.fresh (Nat.le_refl _)) (ntr e53.next e86.next) hf102)⟩
  ·have r116 := ite_f h73 hz65
   refine w_exit (th_exit (th_exit (bl_eq ?_)))
   obtain rfl := Option.some.inj r116
   obtain rfl := it_inr hn66
   exact k48 _ _ ⟨(.slice a68 n69 c70), f57, ⟨by kernel_rfl, by kernel_rfl, trivial⟩, (FrS.step e32.wf (FrS.refl (W := [b24]) e32.wf) e53 Inn.refl'), m55, m59, (i60.fresh (Nat.le_refl _))⟩
 ·obtain ⟨s43, f44, hh49, e40, m42, m46, i47⟩ := hM
  obtain ⟨β, rfl⟩ := has_ex hh49
  clear hh49
  obtain ⟨a117, n118, c119, rfl⟩ := m42.form
  refine k34 _ _ ?_
  refine w_seqk fun K120 k120 => ?_
  refine w_reg (by kernel_rfl) ?_
  refine s_ql (.agg #[.int .i64 ((First.length : Int) - 1), .slice a117 n118 c119]) (x := aLoad Tryd.prog 135 (.pointer (some ⟨b24, 0, none⟩)) H39) (by kernel_rfl) (m46.ld (by kernel_rfl)) ?_
  have u125 := (((r17.ext e26).frS e32 (hb27.djn r17.ltF)).frS e40 (hb27.djn r17.ltF))
  obtain ⟨H121, q122, e123, r124⟩ := Row.store (P := Tryd.prog) (t := 135) (p := 0) e40.wf u125 (.agg #[.int .i64 ((First.length : Int) - 1), .slice a117 n118 c119]) [.int .i64 ((First.length : Int) - 1), .slice a117 n118 c119] (by kernel_rfl) (by kernel_rfl) (one_cons (rfl) (one_cons (m42.one1) (one_nil))) (Nat.le_of_ble_eq_true (by kernel_rfl)) [.int .i64 ((First.length : Int) - 1), .slice a117 n118 c119] (by kernel_rfl)
  refine s_ek (undef) (by kernel_rfl) (map_ok q122) ?_
  refine s_nil ?_
  refine k120 _ _ ?_
  refine w_ret ?_
  refine b_ret (fn := Tryd.f81) (vs := [.agg #[.int .i64 ((First.length : Int) - 1), .slice a117 n118 c119]]) (aRes_cell (Eq.trans (b := aLoad Tryd.prog 135 (.pointer (some ⟨b13, 0, none⟩)) H121) (by kernel_rfl) (r124.ld (by kernel_rfl))) (rfl)) ?_
  have u126 := (m42.fr e123 (Dj.symm (i47.djn (r17.ltF.le (ntr e26.next e32.next)))))
  obtain rfl := Option.some.inj r38
  exact ⟨(.slice a117 n118 c119), f44, rfl, (FrS.step wf (FrS.step wf (FrS.step wf ((((FrS.refl (W := []) wf).extR e9).extR e15).extR e26) e32 (hb27.fresh (ntr e9.next e15.next))) e40 (hb27.fresh (ntr e9.next e15.next))) e123 (hb16.fresh e9.next)), u126, (i47.fresh (ntr (ntr (ntr e9.next e15.next) e26.next) e32.next))⟩


end Go.Vd

/-! (KWn7) -/

set_option maxRecDepth 100000
set_option maxHeartbeats 4000000
set_option linter.unusedVariables false
namespace Go.Vd
open Go.Proofs
attribute [local irreducible] wpSeq wpOrd aWp
theorem c_viaductref08_From {H : AH} {hd_First : Value} {fp_First : Fp} {hd_To : Value} {fp_To : Fp} {hd_Weight : Value} {fp_Weight : Fp} {First : List (Int)} {To : List (Int)} {Weight : List (Int)} {s : Int} {r : List (Int)}
  (wf : WF H) (h_First : Sq (encI .i64) 1 H hd_First First fp_First) (h_To : Sq (encI .i64) 1 H hd_To To fp_To) (h_Weight : Sq (encI .i64) 1 H hd_Weight Weight fp_Weight) (hr : z_viaductref08_From First To Weight s = some r) :
  ACalls Tryd.prog 56 #[.agg #[hd_First, hd_To, hd_Weight], .int .i64 s] H fun v H' => ∃ (s3 : Value) (f4 : Fp), v = s3 ∧ FrS [] H H' ∧ Ow (encI .u64) 1 H' s3 r f4 ∧ Inn [] H f4 := by
 refine acalls_of_body mixed Tryd.func56 rfl (Nat.le_of_ble_eq_true rfl) ?_
 unfold z_viaductref08_From at hr
 refine w_seqk fun K6 k6 => ?_
 refine w_reg (by kernel_rfl) ?_
 refine s_rwl wf [hd_First, hd_To, hd_Weight] (one_cons (h_First.one1) (one_cons (h_To.one1) (one_cons (h_Weight.one1) (one_nil)))) (by kernel_rfl) fun b7 H8 e9 hb10 r11 => ?_
 refine s_qk (.slice none 0 0) (by kernel_rfl) ?_
 refine s_nil ?_
 refine k6 _ _ ?_
 refine w_seqk fun K13 k13 => ?_
 refine w_reg (by kernel_rfl) ?_
 refine s_ql (.agg #[hd_First, hd_To, hd_Weight]) (x := aLoad Tryd.prog 37 (.pointer (some ⟨b7, 0, none⟩)) H8) (by kernel_rfl) (r11.ld (by kernel_rfl)) ?_
 have u14 := (h_First.ext e9)
 have u15 := (h_To.ext e9)
 have u16 := (h_Weight.ext e9)
 obtain ⟨y17, hy18, r19⟩ := bind_some hr
 refine s_ck 81 #[.agg #[hd_First, hd_To, hd_Weight]] (by kernel_rfl) (c_viaductref05_Graph e9.wf u14 u15 u16 hy18) ?_
 rintro _ H22 ⟨s20, f21, rfl, e23, m24, i25⟩
 obtain ⟨a27, n28, c29, rfl⟩ := m24.form
 refine s_rwk e23.wf [.int .i64 0, .slice none 0 0] (by kernel_rfl) fun b30 H31 e32 hb33 r34 => ?_
 have u40 := (m24.ext e32)
 obtain ⟨H36, q37, e38, r39⟩ := Row.store (P := Tryd.prog) (t := 135) (p := 0) e32.wf r34 (.agg #[.int .i64 y17.1, .slice a27 n28 c29]) [.int .i64 y17.1, .slice a27 n28 c29] (by kernel_rfl) (by kernel_rfl) (one_cons (rfl) (one_cons (u40.one1) (one_nil))) (Nat.le_of_ble_eq_true (by kernel_rfl)) [.int .i64 y17.1, .slice a27 n28 c29] (by kernel_rfl)
 refine s_ek (undef) (by kernel_rfl) (map_ok q37) ?_
 refine s_nil ?_
 refine k13 _ _ ?_
 refine w_seqk fun K41 k41 => ?_
 refine w_reg (by kernel_rfl) ?_
 refine s_qk (.pointer (some ⟨b30, 0, none⟩)) (by kernel_rfl) ?_
 refine s_ql (.int .i64 y17.1) (x := aLoad Tryd.prog 3 (.pointer (some ⟨b30, 0, none⟩)) H36) (by kernel_rfl) (r39.ld (by kernel_rfl)) ?_
 obtain ⟨g42, r43⟩ := G_some r19
 refine s_mks (t := 47) (m := 8) (l := y17.1) (c := y17.1) (enc := (encI .u64)) (sz := 1) e38.wf (0 : Int) (by kernel_rfl) (by decide) g42.1 (Int.le_refl _) (by omega) (by have := g42; omega) (by kernel_rfl) fun s44 f45 H46 e47 hf48 hm49 => ?_
 obtain ⟨a50, n51, c52, rfl⟩ := hm49.form
 have hm49 : Ow (encI .u64) 1 H46 (.slice a50 n51 c52) (List.replicate y17.1.toNat (0 : Int)) f45 := hm49
 refine s_qk (.slice a50 n51 c52) (by kernel_rfl) ?_
 refine s_nil ?_
 refine k41 _ _ ?_
 refine w_seqk fun K54 k54 => ?_
 refine w_seqk fun K55 k55 => ?_
 refine w_reg (by kernel_rfl) ?_
 refine s_qk (.slice a50 n51 c52) (by kernel_rfl) ?_
 refine s_ql (.int .i64 ((List.replicate y17.1.toNat (0 : Int)).length : Int)) (x := aLen Tryd.prog 47 (.slice a50 n51 c52) H46) (by kernel_rfl) (hm49.sq.lenb (by kernel_rfl)) ?_
 refine s_qk (.int .i64 0) (by kernel_rfl) ?_
 refine s_nil ?_
 refine k55 _ _ ?_
 obtain ⟨o56, hx57, r58⟩ := bind_some r43
 refine w_mid (fun α H59 => Has α [(1, .int .i64 s), (5, .pointer (some ⟨b30, 0, none⟩)), (6, .slice a50 n51 c52)] ∧ FrS f45 H46 H59 ∧ Ow (encI .u64) 1 H59 (.slice a50 n51 c52) o56 f45) (fun K63 k63 => ?_) (fun α H59 hM => ?_)
 ·refine w_block ?_
  obtain ⟨n65, hn66⟩ := loopO_iff.1 hx57
  refine w_loopn (fun n α H67 => ∃ (i0 : Int), ∃ (d1 : List (Int)), iterO (fun zz_ => z_viaductref08_From_l0 y17 zz_.1 zz_.2) n (i0, d1) = some o56 ∧ Has α [(1, .int .i64 s), (5, .pointer (some ⟨b30, 0, none⟩)), (6, .slice a50 n51 c52), (17, .int .i64 ((List.replicate y17.1.toNat (0 : Int)).length : Int)), (18, .int .i64 i0)] ∧ FrS f45 H46 H67 ∧ Ow (encI .u64) 1 H67 (.slice a50 n51 c52) d1 f45) n65 ⟨0, (List.replicate y17.1.toNat (0 : Int)), hn66, ⟨by kernel_rfl, by kernel_rfl, by kernel_rfl, by kernel_rfl, by kernel_rfl, trivial⟩, (FrS.refl (W := f45) e47.wf), hm49⟩ ?_
  rintro n65 α H67 ⟨i0, d1, hi72, hh71, e68, m70⟩ K77 k77
  obtain ⟨n73, z74, rfl, hz75, hn76⟩ := iter_succ hi72
  obtain ⟨β, rfl⟩ := has_ex hh71
  clear hh71
  replace hz75 : z_viaductref08_From_l0 y17 i0 d1 = some z74 := hz75
  unfold z_viaductref08_From_l0 at hz75
  refine w_seqk fun K78 k78 => ?_
  refine w_reg (by kernel_rfl) ?_
  refine s_qk (.bool (decide (i0 < ((List.replicate y17.1.toNat (0 : Int)).length : Int)))) (by kernel_rfl) ?_
  refine s_nil ?_
  refine k78 _ _ ?_
  refine w_seqk fun K79 k79 => ?_
  refine w_condp (i0 < ((List.replicate y17.1.toNat (0 : Int)).length : Int)) (by kernel_rfl) rfl (fun h80 => ?_) (fun h80 => ?_)
  ·have r81 := ite_t h80 hz75
   refine w_skip ?_
   refine k79 _ _ ?_
   refine w_seqk fun K82 k82 => ?_
   refine w_block ?_
   refine w_seqk fun K83 k83 => ?_
   refine w_reg (by kernel_rfl) ?_
   refine s_qk (.int .i64 i0) (by kernel_rfl) ?_
   refine s_qk (.int .i64 i0) (by kernel_rfl) ?_
   refine s_nil ?_
   refine k83 _ _ ?_
   refine w_reg (by kernel_rfl) ?_
   refine s_qk (.slice a50 n51 c52) (by kernel_rfl) ?_
   refine s_qk (.int .i64 i0) (by kernel_rfl) ?_
   obtain ⟨g84, r85⟩ := G_some r81
   refine s_ql (elp (.slice a50 n51 c52) 1 i0.toNat 0) (x := aIndexAddr Tryd.prog 47 (.slice a50 n51 c52) (.int .i64 i0)) (by kernel_rfl) (m70.sq.idxb (by kernel_rfl) g84.1 g84.2) ?_
   obtain ⟨H86, q87, e88, hm89⟩ := Ow.store (P := Tryd.prog) (t := 42) (off := 0) e68.wf m70 g84.1 g84.2 (.int .u64 18446744073709551615) [.int .u64 18446744073709551615] (by kernel_rfl) (by kernel_rfl) rfl 18446744073709551615 (Nat.le_of_ble_eq_true rfl) (by kernel_rfl)
   refine s_ek (undef) (by kernel_rfl) (map_ok q87) ?_
   refine s_nil ?_
   refine k82 _ _ ?_
   refine w_reg (by kernel_rfl) ?_
   obtain ⟨g90, r91⟩ := G_some r85
   refine s_w ((i0 + 1)) (k := .i64) (x := (i0 + 1)) (by kernel_rfl) (wrap64 (by have := g90; omega)) ?_
   refine s_qk (.int .i64 (i0 + 1)) (by kernel_rfl) ?_
   refine s_nil ?_
   obtain rfl := Option.some.inj r91
   exact k77 n73 _ _ (Nat.lt_succ_self _) ⟨(i0 + 1), (d1.set i0.toNat 18446744073709551615), hn76, ⟨by kernel_rfl, by kernel_rfl, by kernel_rfl, by kernel_rfl, by kernel_rfl, trivial⟩, (FrS.step e47.wf (FrS.step e47.wf (FrS.refl (W := f45) e47.wf) e68 Inn.refl') e88 Inn.refl'), hm89⟩
  ·have r92 := ite_f h80 hz75
   refine w_exit (th_exit (th_exit (bl_eq ?_)))
   obtain rfl := Option.some.inj r92
   obtain rfl := it_inr hn76
   exact k63 _ _ ⟨⟨by kernel_rfl, by kernel_rfl, by kernel_rfl, trivial⟩, (FrS.step e47.wf (FrS.refl (W := f45) e47.wf) e68 Inn.refl'), m70⟩
 ·obtain ⟨hh64, e60, m62⟩ := hM
  obtain ⟨β, rfl⟩ := has_ex hh64
  clear hh64
  refine k54 _ _ ?_
  refine w_seqk fun K93 k93 => ?_
  refine w_reg (by kernel_rfl) ?_
  refine s_qk (.slice a50 n51 c52) (by kernel_rfl) ?_
  refine s_qk (.int .i64 s) (by kernel_rfl) ?_
  obtain ⟨g94, r95⟩ := G_some r58
  refine s_ql (elp (.slice a50 n51 c52) 1 s.toNat 0) (x := aIndexAddr Tryd.prog 47 (.slice a50 n51 c52) (.int .i64 s)) (by kernel_rfl) (m62.sq.idxb (by kernel_rfl) g94.1 g94.2) ?_
  obtain ⟨H96, q97, e98, hm99⟩ := Ow.store (P := Tryd.prog) (t := 42) (off := 0) e60.wf m62 g94.1 g94.2 (.int .u64 0) [.int .u64 0] (by kernel_rfl) (by kernel_rfl) rfl 0 (Nat.le_of_ble_eq_true rfl) (by kernel_rfl)
  refine s_ek (undef) (by kernel_rfl) (map_ok q97) ?_
  refine s_nil ?_
  refine k93 _ _ ?_
  refine w_seqk fun K100 k100 => ?_
  refine w_seqk fun K101 k101 => ?_
  refine w_reg (by kernel_rfl) ?_
  refine s_qk (.bool true) (by kernel_rfl) ?_
  refine s_nil ?_
  refine k101 _ _ ?_
  obtain ⟨o102, hx103, r104⟩ := bind_some r95
  refine w_mid (fun α H105 => Has α [(6, .slice a50 n51 c52)] ∧ FrS f45 H96 H105 ∧ Ow (encI .u64) 1 H105 (.slice a50 n51 c52) o102 f45) (fun K109 k109 => ?_) (fun α H105 hM => ?_)
  ·refine w_block ?_
   obtain ⟨n111, hn112⟩ := loopO_iff.1 hx103
   refine w_loopn (fun n α H113 => ∃ (d5 : List (Int)), ∃ (turned6 : Bool), iterO (fun zz_ => z_viaductref08_From_l2 y17 zz_.1 zz_.2) n (d5, turned6) = some o102 ∧ Has α [(5, .pointer (some ⟨b30, 0, none⟩)), (6, .slice a50 n51 c52), (8, .bool turned6)] ∧ FrS f45 H96 H113 ∧ Ow (encI .u64) 1 H113 (.slice a50 n51 c52) d5 f45) n111 ⟨(o56.set s.toNat 0), true, hn112, ⟨by kernel_rfl, by kernel_rfl, by kernel_rfl, trivial⟩, (FrS.refl (W := f45) e98.wf), hm99⟩ ?_
   rintro n111 α H113 ⟨d5, turned6, hi118, hh117, e114, m116⟩ K123 k123
   obtain ⟨n119, z120, rfl, hz121, hn122⟩ := iter_succ hi118
   obtain ⟨β, rfl⟩ := has_ex hh117
   clear hh117
   replace hz121 : z_viaductref08_From_l2 y17 d5 turned6 = some z120 := hz121
   unfold z_viaductref08_From_l2 at hz121
   refine w_seqk fun K124 k124 => ?_
   refine w_seqk fun K125 k125 => ?_
   refine w_reg (by kernel_rfl) ?_
   refine s_qk (.bool turned6) (by kernel_rfl) ?_
   refine s_nil ?_
   refine k125 _ _ ?_
   refine w_cond (turned6) (by kernel_rfl) rfl (fun h126 => ?_) (fun h126 => ?_)
   ·have r127 := ite_t h126 hz121
    refine w_skip ?_
    refine k124 _ _ ?_
    refine w_block ?_
    refine w_seqk fun K128 k128 => ?_
    refine w_reg (by kernel_rfl) ?_
    refine s_qk (.bool false) (by kernel_rfl) ?_
    refine s_nil ?_
    refine k128 _ _ ?_
    refine w_seqk fun K129 k129 => ?_
    refine w_reg (by kernel_rfl) ?_
    refine s_qk (.pointer (some ⟨b30, 1, none⟩)) (by kernel_rfl) ?_
    have u130 := ((((r39.ext e47).frS e60 (hf48.djn (r34.ltF.le e38.next))).frS e98 (hf48.djn (r34.ltF.le e38.next))).frS e114 (hf48.djn (r34.ltF.le e38.next)))
    refine s_ql (.slice a27 n28 c29) (x := aLoad Tryd.prog 120 (.pointer (some ⟨b30, 1, none⟩)) H113) (by kernel_rfl) (u130.ld (by kernel_rfl)) ?_
    have u131 := (((((u40.fr e38 (hb33.djn m24.lt)).ext e47).fr e60 (hf48.djn (m24.lt.le (ntr e32.next e38.next)))).fr e98 (hf48.djn (m24.lt.le (ntr e32.next e38.next)))).fr e114 (hf48.djn (m24.lt.le (ntr e32.next e38.next))))
    refine s_ql (.int .i64 (y17.2.length : Int)) (x := aLen Tryd.prog 120 (.slice a27 n28 c29) H113) (by kernel_rfl) (u131.sq.lenb (by kernel_rfl)) ?_
    refine s_qk (.int .i64 0) (by kernel_rfl) ?_
    refine s_nil ?_
    refine k129 _ _ ?_
    obtain ⟨o132, hx133, r134⟩ := bind_some r127
    refine w_mid (fun α H135 => Has α [(5, .pointer (some ⟨b30, 0, none⟩)), (6, .slice a50 n51 c52), (8, .bool o132.2)] ∧ FrS f45 H113 H135 ∧ Ow (encI .u64) 1 H135 (.slice a50 n51 c52) o132.1 f45) (fun K139 k139 => ?_) (fun α H135 hM => ?_)
    ·refine w_block ?_
     obtain ⟨n141, hn142⟩ := loopO_iff.1 hx133
     refine w_loopn (fun n α H143 => ∃ (i2 : Int), ∃ (d3 : List (Int)), ∃ (turned4 : Bool), iterO (fun zz_ => z_viaductref08_From_l1 y17 zz_.1 zz_.2.1 zz_.2.2) n (i2, d3, turned4) = some o132 ∧ Has α [(5, .pointer (some ⟨b30, 0, none⟩)), (6, .slice a50 n51 c52), (8, .bool turned4), (30, .slice a27 n28 c29), (31, .int .i64 (y17.2.length : Int)), (32, .int .i64 i2)] ∧ FrS f45 H113 H143 ∧ Ow (encI .u64) 1 H143 (.slice a50 n51 c52) d3 f45) n141 ⟨0, d5, false, hn142, ⟨by kernel_rfl, by kernel_rfl, by kernel_rfl, by kernel_rfl, by kernel_rfl, by kernel_rfl, trivial⟩, (FrS.refl (W := f45) e114.wf), m116⟩ ?_
     rintro n141 α H143 ⟨i2, d3, turned4, hi148, hh147, e144, m146⟩ K153 k153
     obtain ⟨n149, z150, rfl, hz151, hn152⟩ := iter_succ hi148
     obtain ⟨β, rfl⟩ := has_ex hh147
     clear hh147
     replace hz151 : z_viaductref08_From_l1 y17 i2 d3 turned4 = some z150 := hz151
     unfold z_viaductref08_From_l1 at hz151
     refine w_seqk fun K154 k154 => ?_
     refine w_reg (by kernel_rfl) ?_
     refine s_qk (.bool (decide (i2 < (y17.2.length : Int)))) (by kernel_rfl) ?_
     refine s_nil ?_
     refine k154 _ _ ?_
     refine w_seqk fun K155 k155 => ?_
     refine w_condp (i2 < (y17.2.length : Int)) (by kernel_rfl) rfl (fun h156 => ?_) (fun h156 => ?_)
     ·have r157 := ite_t h156 hz151
      refine w_skip ?_
      refine k155 _ _ ?_
      refine w_seqk fun K158 k158 => ?_
      refine w_block ?_
      refine w_seqk fun K159 k159 => ?_
      refine w_reg (by kernel_rfl) ?_
      obtain ⟨g160, r161⟩ := G_some r157
      have u162 := (u131.fr e144 (hf48.djn (m24.lt.le (ntr e32.next e38.next))))
      refine s_ql (elp (.slice a27 n28 c29) 3 i2.toNat 0) (x := aIndexAddr Tryd.prog 120 (.slice a27 n28 c29) (.int .i64 i2)) (by kernel_rfl) (u162.sq.idxb (by kernel_rfl) g160 h156) ?_
      refine s_ql (.agg #[.int .i64 ((gt y17.2 i2).1), .int .i64 ((gt y17.2 i2).2.1), .int .i64 ((gt y17.2 i2).2.2)]) (x := aLoad Tryd.prog 123 (elp (.slice a27 n28 c29) 3 i2.toNat 0) H143) (by kernel_rfl) (u162.sq.ld g160 h156 (by kernel_rfl)) ?_
      refine s_rwk e144.wf [.int .i64 0, .int .i64 0, .int .i64 0] (by kernel_rfl) fun b163 H164 e165 hb166 r167 => ?_
      obtain ⟨H169, q170, e171, r172⟩ := Row.store (P := Tryd.prog) (t := 123) (p := 0) e165.wf r167 (.agg #[.int .i64 ((gt y17.2 i2).1), .int .i64 ((gt y17.2 i2).2.1), .int .i64 ((gt y17.2 i2).2.2)]) [.int .i64 ((gt y17.2 i2).1), .int .i64 ((gt y17.2 i2).2.1), .int .i64 ((gt y17.2 i2).2.2)] (by kernel_rfl) (by kernel_rfl) (one_cons (rfl) (one_cons (rfl) (one_cons (rfl) (one_nil)))) (Nat.le_of_ble_eq_true (by kernel_rfl)) [.int .i64 ((gt y17.2 i2).1), .int .i64 ((gt y17.2 i2).2.1), .int .i64 ((gt y17.2 i2).2.2)] (by kernel_rfl)
      refine s_ek (undef) (by kernel_rfl) (map_ok q170) ?_
      refine s_nil ?_
      refine k159 _ _ ?_
      refine w_seqk fun K173 k173 => ?_
      obtain ⟨o174, hx175, r176⟩ := bind_some r161
      refine w_mid (fun α H177 => Has α [(5, .pointer (some ⟨b30, 0, none⟩)), (6, .slice a50 n51 c52), (8, .bool turned4), (10, .pointer (some ⟨b163, 0, none⟩)), (30, .slice a27 n28 c29), (31, .int .i64 (y17.2.length : Int)), (32, .int .i64 i2), (58, .bool o174)] ∧ H169 = H177) (fun K179 k179 => ?_) (fun α H177 hM => ?_)
      ·refine w_draw [0, 1, 2, 3, 4, 5, 6, 7, 8, 9, 10, 11, 12, 13, 14, 15, 16, 17, 18, 19, 20, 21, 22] (by kernel_rfl) ?_
       refine d_qk (.slice a50 n51 c52) (by kernel_rfl) ?_
       refine d_qk (.pointer (some ⟨b163, 0, none⟩)) (by kernel_rfl) ?_
       refine d_ql (.int .i64 ((gt y17.2 i2).1)) (x := aLoad Tryd.prog 3 (.pointer (some ⟨b163, 0, none⟩)) H169) (by kernel_rfl) (r172.ld (by kernel_rfl)) ?_
       obtain ⟨g181, r182⟩ := G_some hx175
       have u183 := ((m146.ext e165).fr e171 (hb166.djn (hm49.lt.le (ntr (ntr (ntr e60.next e98.next) e114.next) e144.next))))
       refine d_ql (elp (.slice a50 n51 c52) 1 ((gt y17.2 i2).1).toNat 0) (x := aIndexAddr Tryd.prog 47 (.slice a50 n51 c52) (.int .i64 ((gt y17.2 i2).1))) (by kernel_rfl) (u183.sq.idxb (by kernel_rfl) g181.1 g181.2) ?_
       refine d_ql (.int .u64 (gt d3 ((gt y17.2 i2).1))) (x := aLoad Tryd.prog 42 (elp (.slice a50 n51 c52) 1 ((gt y17.2 i2).1).toNat 0) H169) (by kernel_rfl) (u183.sq.ld g181.1 g181.2 (by kernel_rfl)) ?_
       refine d_bn ((gt d3 ((gt y17.2 i2).1)) = 18446744073709551615) (by kernel_rfl) (fun h184 => ?_) (fun h184 => ?_)
       ·have r185 := ite_t h184 r182
        refine d_qk (.bool false) (by kernel_rfl) ?_
        refine d_idle (by kernel_rfl) ?_
        refine d_idle (by kernel_rfl) ?_
        refine d_idle (by kernel_rfl) ?_
        refine d_idle (by kernel_rfl) ?_
        refine d_idle (by kernel_rfl) ?_
        refine d_idle (by kernel_rfl) ?_
        refine d_idle (by kernel_rfl) ?_
        refine d_idle (by kernel_rfl) ?_
        refine d_idle (by kernel_rfl) ?_
        refine d_idle (by kernel_rfl) ?_
        refine d_idle (by kernel_rfl) ?_
        refine d_idle (by kernel_rfl) ?_
        refine d_idle (by kernel_rfl) ?_
        refine d_idle (by kernel_rfl) ?_
        refine d_idle (by kernel_rfl) ?_
        refine d_qk (.bool false) (by kernel_rfl) ?_
        refine d_nil ?_
        obtain rfl := Option.some.inj r185
        exact k179 _ _ ⟨⟨by kernel_rfl, by kernel_rfl, by kernel_rfl, by kernel_rfl, by kernel_rfl, by kernel_rfl, by kernel_rfl, by kernel_rfl, trivial⟩, rfl⟩
       ·have r186 := ite_f h184 r182
        refine d_qk (.bool true) (by kernel_rfl) ?_
        refine d_qk (.slice a50 n51 c52) (by kernel_rfl) ?_
        refine d_qk (.pointer (some ⟨b163, 0, none⟩)) (by kernel_rfl) ?_
        refine d_ql (.int .i64 ((gt y17.2 i2).1)) (x := aLoad Tryd.prog 3 (.pointer (some ⟨b163, 0, none⟩)) H169) (by kernel_rfl) (r172.ld (by kernel_rfl)) ?_
        refine d_ql (elp (.slice a50 n51 c52) 1 ((gt y17.2 i2).1).toNat 0) (x := aIndexAddr Tryd.prog 47 (.slice a50 n51 c52) (.int .i64 ((gt y17.2 i2).1))) (by kernel_rfl) (u183.sq.idxb (by kernel_rfl) g181.1 g181.2) ?_
        refine d_ql (.int .u64 (gt d3 ((gt y17.2 i2).1))) (x := aLoad Tryd.prog 42 (elp (.slice a50 n51 c52) 1 ((gt y17.2 i2).1).toNat 0) H169) (by kernel_rfl) (u183.sq.ld g181.1 g181.2 (by kernel_rfl)) ?_
        refine d_qk (.pointer (some ⟨b163, 2, none⟩)) (by kernel_rfl) ?_
        refine d_ql (.int .i64 ((gt y17.2 i2).2.2)) (x := aLoad Tryd.prog 3 (.pointer (some ⟨b163, 2, none⟩)) H169) (by kernel_rfl) (r172.ld (by kernel_rfl)) ?_
        obtain ⟨g187, r188⟩ := G_some r186
        refine d_w ((gt y17.2 i2).2.2) (k := .u64) (x := (gt y17.2 i2).2.2) (by kernel_rfl) (wrapu64 g187) ?_
        obtain ⟨g189, r190⟩ := G_some r188
        refine d_w (((gt d3 ((gt y17.2 i2).1)) + ((gt y17.2 i2).2.2))) (k := .u64) (x := ((gt d3 ((gt y17.2 i2).1)) + ((gt y17.2 i2).2.2))) (by kernel_rfl) (wrapu64 g189) ?_
        refine d_qk (.slice a50 n51 c52) (by kernel_rfl) ?_
        refine d_qk (.pointer (some ⟨b163, 1, none⟩)) (by kernel_rfl) ?_
        refine d_ql (.int .i64 ((gt y17.2 i2).2.1)) (x := aLoad Tryd.prog 3 (.pointer (some ⟨b163, 1, none⟩)) H169) (by kernel_rfl) (r172.ld (by kernel_rfl)) ?_
        obtain ⟨g191, r192⟩ := G_some r190
        refine d_ql (elp (.slice a50 n51 c52) 1 ((gt y17.2 i2).2.1).toNat 0) (x := aIndexAddr Tryd.prog 47 (.slice a50 n51 c52) (.int .i64 ((gt y17.2 i2).2.1))) (by kernel_rfl) (u183.sq.idxb (by kernel_rfl) g191.1 g191.2) ?_
        refine d_ql (.int .u64 (gt d3 ((gt y17.2 i2).2.1))) (x := aLoad Tryd.prog 42 (elp (.slice a50 n51 c52) 1 ((gt y17.2 i2).2.1).toNat 0) H169) (by kernel_rfl) (u183.sq.ld g191.1 g191.2 (by kernel_rfl)) ?_
        refine d_qk (.bool (decide (((gt d3 ((gt y17.2 i2).1)) + ((gt y17.2 i2).2.2)) < (gt d3 ((gt y17.2 i2).2.1))))) (by kernel_rfl) ?_
        refine d_qk (.bool (decide (((gt d3 ((gt y17.2 i2).1)) + ((gt y17.2 i2).2.2)) < (gt d3 ((gt y17.2 i2).2.1))))) (by kernel_rfl) ?_
        refine d_nil ?_
        obtain rfl := Option.some.inj r192
        exact k179 _ _ ⟨⟨by kernel_rfl, by kernel_rfl, by kernel_rfl, by kernel_rfl, by kernel_rfl, by kernel_rfl, by kernel_rfl, by kernel_rfl, trivial⟩, rfl⟩
      ·obtain ⟨hh180, rfl⟩ := hM
       obtain ⟨β, rfl⟩ := has_ex hh180
       clear hh180
       refine k173 _ _ ?_
       refine w_cond (o174) (by kernel_rfl) rfl (fun h193 => ?_) (fun h193 => ?_)
       ·have r194 := ite_t h193 r176
        refine w_seqk fun K195 k195 => ?_
        refine w_draw [0, 1, 2, 3, 4, 5, 6, 7, 8, 9, 10, 11, 12, 13] (by kernel_rfl) ?_
        refine d_qk (.slice a50 n51 c52) (by kernel_rfl) ?_
        refine d_qk (.pointer (some ⟨b163, 1, none⟩)) (by kernel_rfl) ?_
        refine d_ql (.int .i64 ((gt y17.2 i2).2.1)) (x := aLoad Tryd.prog 3 (.pointer (some ⟨b163, 1, none⟩)) H169) (by kernel_rfl) (r172.ld (by kernel_rfl)) ?_
        refine d_qk (.slice a50 n51 c52) (by kernel_rfl) ?_
        refine d_qk (.pointer (some ⟨b163, 0, none⟩)) (by kernel_rfl) ?_
        refine d_ql (.int .i64 ((gt y17.2 i2).1)) (x := aLoad Tryd.prog 3 (.pointer (some ⟨b163, 0, none⟩)) H169) (by kernel_rfl) (r172.ld (by kernel_rfl)) ?_
        obtain ⟨g196, r197⟩ := G_some r194
        have u198 := ((m146.ext e165).fr e171 (hb166.djn (hm49.lt.le (ntr (ntr (ntr e60.next e98.next) e114.next) e144.next))))
        refine d_ql (elp (.slice a50 n51 c52) 1 ((gt y17.2 i2).1).toNat 0) (x := aIndexAddr Tryd.prog 47 (.slice a50 n51 c52) (.int .i64 ((gt y17.2 i2).1))) (by kernel_rfl) (u198.sq.idxb (by kernel_rfl) g196.1 g196.2) ?_
        refine d_ql (.int .u64 (gt d3 ((gt y17.2 i2).1))) (x := aLoad Tryd.prog 42 (elp (.slice a50 n51 c52) 1 ((gt y17.2 i2).1).toNat 0) H169) (by kernel_rfl) (u198.sq.ld g196.1 g196.2 (by kernel_rfl)) ?_
        refine d_qk (.pointer (some ⟨b163, 2, none⟩)) (by kernel_rfl) ?_
        refine d_ql (.int .i64 ((gt y17.2 i2).2.2)) (x := aLoad Tryd.prog 3 (.pointer (some ⟨b163, 2, none⟩)) H169) (by kernel_rfl) (r172.ld (by kernel_rfl)) ?_
        obtain ⟨g199, r200⟩ := G_some r197
        refine d_w ((gt y17.2 i2).2.2) (k := .u64) (x := (gt y17.2 i2).2.2) (by kernel_rfl) (wrapu64 g199) ?_
        obtain ⟨g201, r202⟩ := G_some r200
        refine d_w (((gt d3 ((gt y17.2 i2).1)) + ((gt y17.2 i2).2.2))) (k := .u64) (x := ((gt d3 ((gt y17.2 i2).1)) + ((gt y17.2 i2).2.2))) (by kernel_rfl) (wrapu64 g201) ?_
        obtain ⟨g203, r204⟩ := G_some r202
        refine d_ql (elp (.slice a50 n51 c52) 1 ((gt y17.2 i2).2.1).toNat 0) (x := aIndexAddr Tryd.prog 47 (.slice a50 n51 c52) (.int .i64 ((gt y17.2 i2).2.1))) (by kernel_rfl) (u198.sq.idxb (by kernel_rfl) g203.1 g203.2) ?_
        obtain ⟨H205, q206, e207, hm208⟩ := Ow.store (P := Tryd.prog) (t := 42) (off := 0) e171.wf u198 g203.1 g203.2 (.int .u64 ((gt d3 ((gt y17.2 i2).1)) + ((gt y17.2 i2).2.2))) [.int .u64 ((gt d3 ((gt y17.2 i2).1)) + ((gt y17.2 i2).2.2))] (by kernel_rfl) (by kernel_rfl) rfl ((gt d3 ((gt y17.2 i2).1)) + ((gt y17.2 i2).2.2)) (Nat.le_of_ble_eq_true rfl) (by kernel_rfl)
        refine d_ek (undef) (by kernel_rfl) (map_ok q206) (st_nil) ?_
        refine d_nil ?_
        refine k195 _ _ ?_
        refine w_reg (by kernel_rfl) ?_
        refine s_qk (.bool true) (by kernel_rfl) ?_
        refine s_nil ?_
        refine k158 _ _ ?_
        refine w_reg (by kernel_rfl) ?_
        obtain ⟨g209, r210⟩ := G_some r204
        refine s_w ((i2 + 1)) (k := .i64) (x := (i2 + 1)) (by kernel_rfl) (wrap64 (by have := g209; omega)) ?_
        refine s_qk (.int .i64 (i2 + 1)) (by kernel_rfl) ?_
        refine s_nil ?_
        obtain rfl := Option.some.inj r210
        exact k153 n149 _ _ (Nat.lt_succ_self _) ⟨(i2 + 1), (d3.set ((gt y17.2 i2).2.1).toNat ((gt d3 ((gt y17.2 i2).1)) + ((gt y17.2 i2).2.2))), true, hn152, ⟨by kernel_rfl, by kernel_rfl, by kernel_rfl, by kernel_rfl, by kernel_rfl, by kernel_rfl, trivial⟩, (FrS.step e114.wf (FrS.step e114.wf ((FrS.step e114.wf (FrS.refl (W := f45) e114.wf) e144 Inn.refl').extR e165) e171 (hb166.fresh e144.next)) e207 Inn.refl'), hm208⟩
       ·have r211 := ite_bf h193 r176
        refine w_skip ?_
        refine k158 _ _ ?_
        refine w_reg (by kernel_rfl) ?_
        obtain ⟨g212, r213⟩ := G_some r211
        refine s_w ((i2 + 1)) (k := .i64) (x := (i2 + 1)) (by kernel_rfl) (wrap64 (by have := g212; omega)) ?_
        refine s_qk (.int .i64 (i2 + 1)) (by kernel_rfl) ?_
        refine s_nil ?_
        have u214 := ((m146.ext e165).fr e171 (hb166.djn (hm49.lt.le (ntr (ntr (ntr e60.next e98.next) e114.next) e144.next))))
        obtain rfl := Option.some.inj r213
        exact k153 n149 _ _ (Nat.lt_succ_self _) ⟨(i2 + 1), d3, turned4, hn152, ⟨by kernel_rfl, by kernel_rfl, by kernel_rfl, by kernel_rfl, by kernel_rfl, by kernel_rfl, trivial⟩, (FrS.step e114.wf ((FrS.step e114.wf (FrS.refl (W := f45) e114.wf) e144 Inn.refl').extR e165) e171 (hb166.fresh e144.next)), u214⟩
     ·have r215 := ite_f h156 hz151
      refine w_exit (th_exit (th_exit (bl_eq ?_)))
      obtain rfl := Option.some.inj r215
      obtain rfl := it_inr hn152
      exact k139 _ _ ⟨⟨by kernel_rfl, by kernel_rfl, by kernel_rfl, trivial⟩, (FrS.step e114.wf (FrS.refl (W := f45) e114.wf) e144 Inn.refl'), m146⟩
    ·obtain ⟨hh140, e136, m138⟩ := hM
     obtain ⟨β, rfl⟩ := has_ex hh140
     clear hh140
     obtain rfl := Option.some.inj r134
     exact k123 n119 _ _ (Nat.lt_succ_self _) ⟨o132.1, o132.2, hn122, ⟨by kernel_rfl, by kernel_rfl, by kernel_rfl, trivial⟩, (FrS.step e98.wf (FrS.step e98.wf (FrS.refl (W := f45) e98.wf) e114 Inn.refl') e136 Inn.refl'), m138⟩
   ·have r216 := ite_bf h126 hz121
    refine w_exit (th_exit (th_exit (bl_eq ?_)))
    obtain rfl := Option.some.inj r216
    obtain rfl := it_inr hn122
    exact k109 _ _ ⟨⟨by kernel_rfl, trivial⟩, (FrS.step e98.wf (FrS.refl (W := f45) e98.wf) e114 Inn.refl'), m116⟩
  ·obtain ⟨hh110, e106, m108⟩ := hM
   obtain ⟨β, rfl⟩ := has_ex hh110
   clear hh110
   refine k100 _ _ ?_
   refine w_seqk fun K217 k217 => ?_
   refine w_reg (by kernel_rfl) ?_
   refine s_qk (.slice a50 n51 c52) (by kernel_rfl) ?_
   refine s_qk (.slice a50 n51 c52) (by kernel_rfl) ?_
   refine s_nil ?_
   refine k217 _ _ ?_
   refine w_ret ?_
   refine b_ret (fn := Tryd.f56) (vs := [.slice a50 n51 c52]) (aRes_tmp (by kernel_rfl) (rfl)) ?_
   obtain rfl := Option.some.inj r104
   exact ⟨(.slice a50 n51 c52), f45, rfl, (FrS.step wf (FrS.step wf (FrS.step wf ((FrS.step wf ((FrS.step wf ((FrS.refl (W := []) wf).extR e9) e23 Inn.nil).extR e32) e38 (hb33.fresh (ntr e9.next e23.next))).extR e47) e60 (hf48.fresh (ntr (ntr (ntr e9.next e23.next) e32.next) e38.next))) e98 (hf48.fresh (ntr (ntr (ntr e9.next e23.next) e32.next) e38.next))) e106 (hf48.fresh (ntr (ntr (ntr e9.next e23.next) e32.next) e38.next))), m108, (hf48.fresh (ntr (ntr (ntr e9.next e23.next) e32.next) e38.next))⟩

theorem c_viaductref09_DocShortest {H : AH} {hd_First : Value} {fp_First : Fp} {hd_To : Value} {fp_To : Fp} {hd_Weight : Value} {fp_Weight : Fp} {hd_l : Value} {fp_l : Fp} {First : List (Int)} {To : List (Int)} {Weight : List (Int)} {l : List (Int)} {r : Bool × Int × List (Int × Int)}
  (wf : WF H) (h_First : Sq (encI .i64) 1 H hd_First First fp_First) (h_To : Sq (encI .i64) 1 H hd_To To fp_To) (h_Weight : Sq (encI .i64) 1 H hd_Weight Weight fp_Weight) (h_l : Sq (encI .i64) 1 H hd_l l fp_l) (hr : z_viaductref09_DocShortest First To Weight l = some r) :
  ACalls Tryd.prog 39 #[.agg #[hd_First, hd_To, hd_Weight], hd_l] H fun v H' => ∃ (s3 : Value) (f4 : Fp), v = .tuple #[.bool r.1, .agg #[.int .i64 r.2.1, s3]] ∧ FrS [] H H' ∧ Ow enc_i64_i64 2 H' s3 r.2.2 f4 ∧ Inn [] H f4 := by
 refine acalls_of_body mixed Tryd.func39 rfl (Nat.le_of_ble_eq_true rfl) ?_
 unfold z_viaductref09_DocShortest at hr
 refine w_seqk fun K6 k6 => ?_
 refine w_reg (by kernel_rfl) ?_
 refine s_rwl wf [hd_First, hd_To, hd_Weight] (one_cons (h_First.one1) (one_cons (h_To.one1) (one_cons (h_Weight.one1) (one_nil)))) (by kernel_rfl) fun b7 H8 e9 hb10 r11 => ?_
 refine s_qk (.bool false) (by kernel_rfl) ?_
 refine s_rwk e9.wf [.int .i64 0, .slice none 0 0] (by kernel_rfl) fun b13 H14 e15 hb16 r17 => ?_
 refine s_nil ?_
 refine k6 _ _ ?_
 refine w_seqk fun K19 k19 => ?_
 refine w_reg (by kernel_rfl) ?_
 have u20 := (r11.ext e15)
 refine s_ql (.agg #[hd_First, hd_To, hd_Weight]) (x := aLoad Tryd.prog 37 (.pointer (some ⟨b7, 0, none⟩)) H14) (by kernel_rfl) (u20.ld (by kernel_rfl)) ?_
 refine s_qk (hd_l) (by kernel_rfl) ?_
 have u21 := ((h_First.ext e9).ext e15)
 have u22 := ((h_To.ext e9).ext e15)
 have u23 := ((h_Weight.ext e9).ext e15)
 have u24 := ((h_l.ext e9).ext e15)
 obtain ⟨y25, hy26, r27⟩ := bind_some hr
 refine s_ck 37 #[.agg #[hd_First, hd_To, hd_Weight], hd_l] (by kernel_rfl) (c_viaductref09_DocLength e15.wf u21 u22 u23 u24 hy26) ?_
 rintro _ H30 ⟨s28, f29, rfl, e31, m32, i33⟩
 obtain ⟨a35, n36, c37, rfl⟩ := m32.form
 refine s_qk (.tuple #[.int .u64 y25.1, .agg #[.int .i64 y25.2.1, .slice a35 n36 c37]]) (by kernel_rfl) ?_
 refine s_qk (.int .u64 y25.1) (by kernel_rfl) ?_
 refine s_qk (.agg #[.int .i64 y25.2.1, .slice a35 n36 c37]) (by kernel_rfl) ?_
 refine s_rwk e31.wf [.int .i64 0, .slice none 0 0] (by kernel_rfl) fun b38 H39 e40 hb41 r42 => ?_
 refine s_qk (.int .u64 y25.1) (by kernel_rfl) ?_
 have u48 := (m32.ext e40)
 obtain ⟨H44, q45, e46, r47⟩ := Row.store (P := Tryd.prog) (t := 31) (p := 0) e40.wf r42 (.agg #[.int .i64 y25.2.1, .slice a35 n36 c37]) [.int .i64 y25.2.1, .slice a35 n36 c37] (by kernel_rfl) (by kernel_rfl) (one_cons (rfl) (one_cons (u48.one1) (one_nil))) (Nat.le_of_ble_eq_true (by kernel_rfl)) [.int .i64 y25.2.1, .slice a35 n36 c37] (by kernel_rfl)
 refine s_ek (undef) (by kernel_rfl) (map_ok q45) ?_
 refine s_nil ?_
 refine k19 _ _ ?_
 refine w_seqk fun K49 k49 => ?_
 refine w_seqk fun K50 k50 => ?_
 refine w_reg (by kernel_rfl) ?_
 refine s_ql (.agg #[.int .i64 y25.2.1, .slice a35 n36 c37]) (x := aLoad Tryd.prog 31 (.pointer (some ⟨b38, 0, none⟩)) H44) (by kernel_rfl) (r47.ld (by kernel_rfl)) ?_
 have u51 := (u48.fr e46 (hb41.djn m32.lt))
 obtain ⟨y52, hy53, r54⟩ := bind_some r27
 refine s_ck 24 #[.agg #[.int .i64 y25.2.1, .slice a35 n36 c37]] (by kernel_rfl) (c_viaductref01_Err_Bad e46.wf u51.sq hy53) ?_
 rintro _ H55 ⟨rfl, e56⟩
 refine s_nil ?_
 refine k50 _ _ ?_
 refine w_cond (y52) (by kernel_rfl) rfl (fun h57 => ?_) (fun h57 => ?_)
 ·have r58 := ite_t h57 r54
  refine w_seqk fun K59 k59 => ?_
  refine w_draw [0, 1, 2] (by kernel_rfl) ?_
  have u60 := (r47.frS e56 Dj.nil_l)
  refine d_ql (.agg #[.int .i64 y25.2.1, .slice a35 n36 c37]) (x := aLoad Tryd.prog 31 (.pointer (some ⟨b38, 0, none⟩)) H55) (by kernel_rfl) (u60.ld (by kernel_rfl)) ?_
  refine d_qk (.bool false) (by kernel_rfl) ?_
  have u65 := ((((r17.frS e31 Dj.nil_l).ext e40).frS e46 (hb41.djn (r17.ltF.le e31.next))).frS e56 Dj.nil_l)
  have u66 := (u51.fr e56 Dj.nil_l)
  obtain ⟨H61, q62, e63, r64⟩ := Row.store (P := Tryd.prog) (t := 31) (p := 0) e56.wf u65 (.agg #[.int .i64 y25.2.1, .slice a35 n36 c37]) [.int .i64 y25.2.1, .slice a35 n36 c37] (by kernel_rfl) (by kernel_rfl) (one_cons (rfl) (one_cons (u66.one1) (one_nil))) (Nat.le_of_ble_eq_true (by kernel_rfl)) [.int .i64 y25.2.1, .slice a35 n36 c37] (by kernel_rfl)
  refine d_ek (undef) (by kernel_rfl) (map_ok q62) (st_nil) ?_
  refine d_nil ?_
  refine k59 _ _ ?_
  refine w_ret (th_ret ?_)
  refine b_ret (fn := Tryd.f39) (vs := [.bool false, .agg #[.int .i64 y25.2.1, .slice a35 n36 c37]]) (aRes_tmp (by kernel_rfl) (aRes_cell (Eq.trans (b := aLoad Tryd.prog 31 (.pointer (some ⟨b13, 0, none⟩)) H61) (by kernel_rfl) (r64.ld (by kernel_rfl))) (rfl))) ?_
  have u67 := (u66.fr e63 (Dj.symm (i33.djn r17.ltF)))
  obtain rfl := Option.some.inj r58
  exact ⟨(.slice a35 n36 c37), f29, rfl, (FrS.step wf (FrS.step wf (FrS.step wf ((FrS.step wf (((FrS.refl (W := []) wf).extR e9).extR e15) e31 Inn.nil).extR e40) e46 (hb41.fresh (ntr (ntr e9.next e15.next) e31.next))) e56 Inn.nil) e63 (hb16.fresh e9.next)), u67, (i33.fresh (ntr e9.next e15.next))⟩
 ·have r68 := ite_bf h57 r54
  refine w_skip ?_
  refine k49 _ _ ?_
  refine w_seqk fun K69 k69 => ?_
  refine w_draw [0, 1, 2, 3, 5, 6, 7, 8, 9, 10, 13, 15, 4, 11, 12, 14, 16, 17] (by kernel_rfl) ?_
  have u70 := ((((u20.frS e31 Dj.nil_l).ext e40).frS e46 (hb41.djn (r11.ltF.le (ntr e15.next e31.next)))).frS e56 Dj.nil_l)
  refine d_ql (.agg #[hd_First, hd_To, hd_Weight]) (x := aLoad Tryd.prog 37 (.pointer (some ⟨b7, 0, none⟩)) H55) (by kernel_rfl) (u70.ld (by kernel_rfl)) ?_
  refine d_qk (hd_l) (by kernel_rfl) ?_
  obtain ⟨g71, r72⟩ := G_some r68
  have u73 := ((((u24.fr e31 Dj.nil_l).ext e40).fr e46 (hb41.djn (h_l.lt.le (ntr (ntr e9.next e15.next) e31.next)))).fr e56 Dj.nil_l)
  refine d_ql (elp hd_l 1 (0 : Int).toNat 0) (x := aIndexAddr Tryd.prog 22 hd_l (.int .i64 0)) (by kernel_rfl) (u73.idxb (by kernel_rfl) (by decide) g71) ?_
  refine d_ql (.int .i64 (gt l 0)) (x := aLoad Tryd.prog 3 (elp hd_l 1 (0 : Int).toNat 0) H55) (by kernel_rfl) (u73.ld (by decide) g71 (by kernel_rfl)) ?_
  refine d_qk (hd_l) (by kernel_rfl) ?_
  refine d_qk (hd_l) (by kernel_rfl) ?_
  refine d_ql (.int .i64 (l.length : Int)) (x := aLen Tryd.prog 22 hd_l H55) (by kernel_rfl) (u73.lenb (by kernel_rfl)) ?_
  obtain ⟨g74, r75⟩ := G_some r72
  refine d_w (((l.length : Int) - 1)) (k := .i64) (x := ((l.length : Int) - 1)) (by kernel_rfl) (wrap64 g74) ?_
  obtain ⟨g76, r77⟩ := G_some r75
  refine d_ql (elp hd_l 1 ((l.length : Int) - 1).toNat 0) (x := aIndexAddr Tryd.prog 22 hd_l (.int .i64 ((l.length : Int) - 1))) (by kernel_rfl) (u73.idxb (by kernel_rfl) g76.1 g76.2) ?_
  refine d_fl (.int .i64 (gt l ((l.length : Int) - 1))) (x := aLoad Tryd.prog 3 (elp hd_l 1 ((l.length : Int) - 1).toNat 0) H55) (by kernel_rfl) (u73.ld g76.1 g76.2 (by kernel_rfl)) ?_
  refine d_qk (.int .u64 y25.1) (by kernel_rfl) ?_
  have u78 := (r47.frS e56 Dj.nil_l)
  refine d_fl (.agg #[.int .i64 y25.2.1, .slice a35 n36 c37]) (x := aLoad Tryd.prog 31 (.pointer (some ⟨b38, 0, none⟩)) H55) (by kernel_rfl) (u78.ld (by kernel_rfl)) ?_
  have u79 := ((((u21.fr e31 Dj.nil_l).ext e40).fr e46 (hb41.djn (h_First.lt.le (ntr (ntr e9.next e15.next) e31.next)))).fr e56 Dj.nil_l)
  have u80 := ((((u22.fr e31 Dj.nil_l).ext e40).fr e46 (hb41.djn (h_To.lt.le (ntr (ntr e9.next e15.next) e31.next)))).fr e56 Dj.nil_l)
  have u81 := ((((u23.fr e31 Dj.nil_l).ext e40).fr e46 (hb41.djn (h_Weight.lt.le (ntr (ntr e9.next e15.next) e31.next)))).fr e56 Dj.nil_l)
  obtain ⟨y82, hy83, r84⟩ := bind_some r77
  refine d_ck 56 #[.agg #[hd_First, hd_To, hd_Weight], .int .i64 (gt l 0)] (by kernel_rfl) (c_viaductref08_From e56.wf u79 u80 u81 hy83) ?_
  rintro s85 H87 ⟨_, f86, rfl, e88, m89, i90⟩
  obtain ⟨a92, n93, c94, rfl⟩ := m89.form
  have u95 := (u73.fr e88 Dj.nil_l)
  have u96 := (u78.frS e88 Dj.nil_l)
  refine ⟨st_ql (y := aLoad Tryd.prog 31 (.pointer (some ⟨b38, 0, none⟩)) H87) (by kernel_rfl) (u96.ld (by kernel_rfl)) (st_ql (y := aLoad Tryd.prog 3 (elp hd_l 1 ((l.length : Int) - 1).toNat 0) H87) (by kernel_rfl) (u95.ld g76.1 g76.2 (by kernel_rfl)) (st_nil)), ?_⟩
  obtain ⟨g97, r98⟩ := G_some r84
  refine d_ql (elp (.slice a92 n93 c94) 1 (gt l ((l.length : Int) - 1)).toNat 0) (x := aIndexAddr Tryd.prog 47 (.slice a92 n93 c94) (.int .i64 (gt l ((l.length : Int) - 1)))) (by kernel_rfl) (m89.sq.idxb (by kernel_rfl) g97.1 g97.2) ?_
  refine d_ql (.int .u64 (gt y82 (gt l ((l.length : Int) - 1)))) (x := aLoad Tryd.prog 42 (elp (.slice a92 n93 c94) 1 (gt l ((l.length : Int) - 1)).toNat 0) H87) (by kernel_rfl) (m89.sq.ld g97.1 g97.2 (by kernel_rfl)) ?_
  refine d_qk (.bool (decide ((gt y82 (gt l ((l.length : Int) - 1))) = y25.1))) (by kernel_rfl) ?_
  refine d_qk (.bool (decide ((gt y82 (gt l ((l.length : Int) - 1))) = y25.1))) (by kernel_rfl) ?_
  have u103 := (((((r17.frS e31 Dj.nil_l).ext e40).frS e46 (hb41.djn (r17.ltF.le e31.next))).frS e56 Dj.nil_l).frS e88 Dj.nil_l)
  have u104 := ((u51.fr e56 Dj.nil_l).fr e88 Dj.nil_l)
  obtain ⟨H99, q100, e101, r102⟩ := Row.store (P := Tryd.prog) (t := 31) (p := 0) e88.wf u103 (.agg #[.int .i64 y25.2.1, .slice a35 n36 c37]) [.int .i64 y25.2.1, .slice a35 n36 c37] (by kernel_rfl) (by kernel_rfl) (one_cons (rfl) (one_cons (u104.one1) (one_nil))) (Nat.le_of_ble_eq_true (by kernel_rfl)) [.int .i64 y25.2.1, .slice a35 n36 c37] (by kernel_rfl)
  refine d_ek (undef) (by kernel_rfl) (map_ok q100) (st_anc (by kernel_rfl) (st_anc (by kernel_rfl) (st_nil))) ?_
  refine d_nil ?_
  refine k69 _ _ ?_
  refine w_ret ?_
  refine b_ret (fn := Tryd.f39) (vs := [.bool (decide ((gt y82 (gt l ((l.length : Int) - 1))) = y25.1)), .agg #[.int .i64 y25.2.1, .slice a35 n36 c37]]) (aRes_tmp (by kernel_rfl) (aRes_cell (Eq.trans (b := aLoad Tryd.prog 31 (.pointer (some ⟨b13, 0, none⟩)) H99) (by kernel_rfl) (r102.ld (by kernel_rfl))) (rfl))) ?_
  have u105 := (u104.fr e101 (Dj.symm (i33.djn r17.ltF)))
  obtain rfl := Option.some.inj r98
  exact ⟨(.slice a35 n36 c37), f29, rfl, (FrS.step wf (FrS.step wf (FrS.step wf (FrS.step wf ((FrS.step wf (((FrS.refl (W := []) wf).extR e9).extR e15) e31 Inn.nil).extR e40) e46 (hb41.fresh (ntr (ntr e9.next e15.next) e31.next))) e56 Inn.nil) e88 Inn.nil) e101 (hb16.fresh e9.next)), u105, (i33.fresh (ntr e9.next e15.next))⟩

theorem c_viaductlaw09_WalkLengths {H : AH} {hd_First : Value} {fp_First : Fp} {hd_To : Value} {fp_To : Fp} {hd_Weight : Value} {fp_Weight : Fp} {hd_l : Value} {fp_l : Fp} {First : List (Int)} {To : List (Int)} {Weight : List (Int)} {l : List (Int)} {r : Bool}
  (wf : WF H) (h_First : Sq (encI .i64) 1 H hd_First First fp_First) (h_To : Sq (encI .i64) 1 H hd_To To fp_To) (h_Weight : Sq (encI .i64) 1 H hd_Weight Weight fp_Weight) (h_l : Sq (encI .i64) 1 H hd_l l fp_l) (hr : z_viaductlaw09_WalkLengths First To Weight l = some r) :
  ACalls Tryd.prog 7 #[.agg #[hd_First, hd_To, hd_Weight], hd_l] H fun v H' => v = .bool r ∧ FrS [] H H' := by
 refine acalls_of_body mixed Tryd.func7 rfl (Nat.le_of_ble_eq_true rfl) ?_
 unfold z_viaductlaw09_WalkLengths at hr
 refine w_seqk fun K1 k1 => ?_
 refine w_reg (by kernel_rfl) ?_
 refine s_rwl wf [hd_First, hd_To, hd_Weight] (one_cons (h_First.one1) (one_cons (h_To.one1) (one_cons (h_Weight.one1) (one_nil)))) (by kernel_rfl) fun b2 H3 e4 hb5 r6 => ?_
 refine s_qk (.bool false) (by kernel_rfl) ?_
 refine s_nil ?_
 refine k1 _ _ ?_
 refine w_seqk fun K8 k8 => ?_
 refine w_seqk fun K9 k9 => ?_
 refine w_reg (by kernel_rfl) ?_
 refine s_ck 9 #[] (by kernel_rfl) c_viaductlaw09_awake ?_
 rintro _ _ ⟨rfl, rfl⟩
 refine s_qk (.bool false) (by kernel_rfl) ?_
 refine s_nil ?_
 refine k9 _ _ ?_
 refine w_cond false (by kernel_rfl) rfl (fun h => by cases h) (fun _ => ?_)
 refine w_skip ?_
 refine k8 _ _ ?_
 refine w_seqk fun K10 k10 => ?_
 refine w_seqk fun K11 k11 => ?_
 refine w_reg (by kernel_rfl) ?_
 refine s_ql (.agg #[hd_First, hd_To, hd_Weight]) (x := aLoad Tryd.prog 37 (.pointer (some ⟨b2, 0, none⟩)) H3) (by kernel_rfl) (r6.ld (by kernel_rfl)) ?_
 refine s_qk (hd_l) (by kernel_rfl) ?_
 have u12 := (h_First.ext e4)
 have u13 := (h_To.ext e4)
 have u14 := (h_Weight.ext e4)
 have u15 := (h_l.ext e4)
 obtain ⟨y16, hy17, r18⟩ := bind_some hr
 refine s_ck 34 #[.agg #[hd_First, hd_To, hd_Weight], hd_l] (by kernel_rfl) (c_viaductlaw09_few e4.wf u12 u13 u14 u15 hy17) ?_
 rintro _ H19 ⟨rfl, e20⟩
 refine s_qk (.bool (!y16)) (by kernel_rfl) ?_
 refine s_nil ?_
 refine k11 _ _ ?_
 refine w_cond ((!y16)) (by kernel_rfl) rfl (fun h21 => ?_) (fun h21 => ?_)
 ·have r22 := ite_t h21 r18
  refine w_seqk fun K23 k23 => ?_
  refine w_reg (by kernel_rfl) ?_
  refine s_qk (.bool true) (by kernel_rfl) ?_
  refine s_nil ?_
  refine k23 _ _ ?_
  refine w_ret (th_ret ?_)
  refine b_ret (fn := Tryd.f7) (vs := [.bool true]) (aRes_tmp (by kernel_rfl) (rfl)) ?_
  obtain rfl := Option.some.inj r22
  exact ⟨rfl, (FrS.step wf ((FrS.refl (W := []) wf).extR e4) e20 Inn.nil)⟩
 ·have r24 := ite_bf h21 r18
  refine w_skip ?_
  refine k10 _ _ ?_
  refine w_seqk fun K25 k25 => ?_
  refine w_reg (by kernel_rfl) ?_
  have u26 := (r6.frS e20 Dj.nil_l)
  refine s_ql (.agg #[hd_First, hd_To, hd_Weight]) (x := aLoad Tryd.prog 37 (.pointer (some ⟨b2, 0, none⟩)) H19) (by kernel_rfl) (u26.ld (by kernel_rfl)) ?_
  have u27 := (u12.fr e20 Dj.nil_l)
  have u28 := (u13.fr e20 Dj.nil_l)
  have u29 := (u14.fr e20 Dj.nil_l)
  obtain ⟨y30, hy31, r32⟩ := bind_some r24
  refine s_ck 36 #[.agg #[hd_First, hd_To, hd_Weight]] (by kernel_rfl) (c_viaductlaw09_of e20.wf u27 u28 u29 hy31) ?_
  rintro _ H39 ⟨s33, f34, s35, f36, s37, f38, rfl, e40, m41, m42, m43, i44, i45, i46, d47, d48, d49⟩
  obtain ⟨a53, n54, c55, rfl⟩ := m41.form
  obtain ⟨a56, n57, c58, rfl⟩ := m42.form
  obtain ⟨a59, n60, c61, rfl⟩ := m43.form
  refine s_qk (hd_l) (by kernel_rfl) ?_
  have u62 := ((u15.fr e20 Dj.nil_l).fr e40 Dj.nil_l)
  obtain ⟨y63, hy64, r65⟩ := bind_some r32
  refine s_ck 11 #[hd_l] (by kernel_rfl) (c_viaductref02_TwinInts e40.wf u62 hy64) ?_
  rintro s66 H68 ⟨_, f67, rfl, e69, m70, i71⟩
  obtain ⟨a73, n74, c75, rfl⟩ := m70.form
  have u76 := (m41.fr e69 Dj.nil_l)
  have u77 := (m42.fr e69 Dj.nil_l)
  have u78 := (m43.fr e69 Dj.nil_l)
  obtain ⟨y79, hy80, r81⟩ := bind_some r65
  refine s_ck 35 #[.agg #[.slice a53 n54 c55, .slice a56 n57 c58, .slice a59 n60 c61], .slice a73 n74 c75] (by kernel_rfl) (c_walk_Length e69.wf u76.sq u77.sq u78.sq m70.sq hy80) ?_
  rintro _ H84 ⟨v82, f83, rfl, e85, m86, i87⟩
  refine s_qk (.tuple #[.int .u64 y79.1, v82]) (by kernel_rfl) ?_
  refine s_qk (.int .u64 y79.1) (by kernel_rfl) ?_
  refine s_qk (v82) (by kernel_rfl) ?_
  refine s_qk (.int .u64 y79.1) (by kernel_rfl) ?_
  refine s_qk (v82) (by kernel_rfl) ?_
  refine s_nil ?_
  refine k25 _ _ ?_
  refine w_seqk fun K89 k89 => ?_
  refine w_reg (by kernel_rfl) ?_
  have u90 := (((u26.frS e40 Dj.nil_l).frS e69 Dj.nil_l).frS e85 Dj.nil_l)
  refine s_ql (.agg #[hd_First, hd_To, hd_Weight]) (x := aLoad Tryd.prog 37 (.pointer (some ⟨b2, 0, none⟩)) H84) (by kernel_rfl) (u90.ld (by kernel_rfl)) ?_
  refine s_qk (hd_l) (by kernel_rfl) ?_
  have u91 := (((u27.fr e40 Dj.nil_l).fr e69 Dj.nil_l).fr e85 Dj.nil_l)
  have u92 := (((u28.fr e40 Dj.nil_l).fr e69 Dj.nil_l).fr e85 Dj.nil_l)
  have u93 := (((u29.fr e40 Dj.nil_l).fr e69 Dj.nil_l).fr e85 Dj.nil_l)
  have u94 := ((u62.fr e69 Dj.nil_l).fr e85 Dj.nil_l)
  obtain ⟨y95, hy96, r97⟩ := bind_some r81
  refine s_ck 37 #[.agg #[hd_First, hd_To, hd_Weight], hd_l] (by kernel_rfl) (c_viaductref09_DocLength e85.wf u91 u92 u93 u94 hy96) ?_
  rintro _ H100 ⟨s98, f99, rfl, e101, m102, i103⟩
  obtain ⟨a105, n106, c107, rfl⟩ := m102.form
  refine s_qk (.tuple #[.int .u64 y95.1, .agg #[.int .i64 y95.2.1, .slice a105 n106 c107]]) (by kernel_rfl) ?_
  refine s_qk (.int .u64 y95.1) (by kernel_rfl) ?_
  refine s_qk (.agg #[.int .i64 y95.2.1, .slice a105 n106 c107]) (by kernel_rfl) ?_
  refine s_rwk e101.wf [.int .i64 0, .slice none 0 0] (by kernel_rfl) fun b108 H109 e110 hb111 r112 => ?_
  refine s_qk (.int .u64 y95.1) (by kernel_rfl) ?_
  have u118 := (m102.ext e110)
  obtain ⟨H114, q115, e116, r117⟩ := Row.store (P := Tryd.prog) (t := 31) (p := 0) e110.wf r112 (.agg #[.int .i64 y95.2.1, .slice a105 n106 c107]) [.int .i64 y95.2.1, .slice a105 n106 c107] (by kernel_rfl) (by kernel_rfl) (one_cons (rfl) (one_cons (u118.one1) (one_nil))) (Nat.le_of_ble_eq_true (by kernel_rfl)) [.int .i64 y95.2.1, .slice a105 n106 c107] (by kernel_rfl)
  refine s_ek (undef) (by kernel_rfl) (map_ok q115) ?_
  refine s_nil ?_
  refine k89 _ _ ?_
  refine w_seqk fun K119 k119 => ?_
  refine w_seqk fun K120 k120 => ?_
  obtain ⟨o121, hx122, r123⟩ := bind_some r97
  refine w_mid (fun α H124 => Has α [(1, hd_l), (2, .pointer (some ⟨b2, 0, none⟩)), (8, .pointer (some ⟨b108, 0, none⟩)), (39, .bool o121)] ∧ FrS [] H114 H124) (fun K126 k126 => ?_) (fun α H124 hM => ?_)
  ·refine w_reg (by kernel_rfl) ?_
   refine s_qk (.int .u64 y79.1) (by kernel_rfl) ?_
   refine s_qk (.int .u64 y95.1) (by kernel_rfl) ?_
   refine s_bn (y79.1 = y95.1) (by kernel_rfl) (fun h128 => ?_) (fun h128 => ?_)
   ·have r129 := ite_t h128 hx122
    refine s_qk (.bool false) (by kernel_rfl) ?_
    refine s_qk (v82) (by kernel_rfl) ?_
    refine s_ql (.agg #[.int .i64 y95.2.1, .slice a105 n106 c107]) (x := aLoad Tryd.prog 31 (.pointer (some ⟨b108, 0, none⟩)) H114) (by kernel_rfl) (r117.ld (by kernel_rfl)) ?_
    have u130 := (((m86.fr e101 Dj.nil_l).ext e110).fr e116 (hb111.djn (m86.lt.le e101.next)))
    have u131 := (u118.fr e116 (hb111.djn m102.lt))
    obtain ⟨y132, hy133, r134⟩ := bind_some r129
    refine s_ck 14 #[v82, .agg #[.int .i64 y95.2.1, .slice a105 n106 c107]] (by kernel_rfl) (c_viaductseen_Same e116.wf u130 u131.sq hy133) ?_
    rintro _ H135 ⟨rfl, e136⟩
    refine s_qk (.bool (!y132)) (by kernel_rfl) ?_
    refine s_qk (.bool (!y132)) (by kernel_rfl) ?_
    refine s_nil ?_
    obtain rfl := Option.some.inj r134
    exact k126 _ _ ⟨⟨by kernel_rfl, by kernel_rfl, by kernel_rfl, by kernel_rfl, trivial⟩, (FrS.step e116.wf (FrS.refl (W := []) e116.wf) e136 Inn.nil)⟩
   ·have r137 := ite_f h128 hx122
    refine s_qk (.bool true) (by kernel_rfl) ?_
    refine s_no (by kernel_rfl) ?_
    refine s_no (by kernel_rfl) ?_
    refine s_no (by kernel_rfl) ?_
    refine s_no (by kernel_rfl) ?_
    refine s_qk (.bool true) (by kernel_rfl) ?_
    refine s_nil ?_
    obtain rfl := Option.some.inj r137
    exact k126 _ _ ⟨⟨by kernel_rfl, by kernel_rfl, by kernel_rfl, by kernel_rfl, trivial⟩, (FrS.refl (W := []) e116.wf)⟩
  ·obtain ⟨hh127, e125⟩ := hM
   obtain ⟨β, rfl⟩ := has_ex hh127
   clear hh127
   refine k120 _ _ ?_
   refine w_cond (o121) (by kernel_rfl) rfl (fun h138 => ?_) (fun h138 => ?_)
   ·have r139 := ite_t h138 r123
    refine w_seqk fun K140 k140 => ?_
    refine w_reg (by kernel_rfl) ?_
    refine s_qk (.bool false) (by kernel_rfl) ?_
    refine s_nil ?_
    refine k140 _ _ ?_
    refine w_ret (th_ret ?_)
    refine b_ret (fn := Tryd.f7) (vs := [.bool false]) (aRes_tmp (by kernel_rfl) (rfl)) ?_
    obtain rfl := Option.some.inj r139
    exact ⟨rfl, (FrS.step wf (FrS.step wf ((FrS.step wf (FrS.step wf (FrS.step wf (FrS.step wf (FrS.step wf ((FrS.refl (W := []) wf).extR e4) e20 Inn.nil) e40 Inn.nil) e69 Inn.nil) e85 Inn.nil) e101 Inn.nil).extR e110) e116 (hb111.fresh (ntr (ntr (ntr (ntr (ntr e4.next e20.next) e40.next) e69.next) e85.next) e101.next))) e125 Inn.nil)⟩
   ·have r141 := ite_bf h138 r123
    refine w_skip ?_
    refine k119 _ _ ?_
    refine w_seqk fun K142 k142 => ?_
    refine w_reg (by kernel_rfl) ?_
    have u143 := ((((u90.frS e101 Dj.nil_l).ext e110).frS e116 (hb111.djn (r6.ltF.le (ntr (ntr (ntr (ntr e20.next e40.next) e69.next) e85.next) e101.next)))).frS e125 Dj.nil_l)
    refine s_ql (.agg #[hd_First, hd_To, hd_Weight]) (x := aLoad Tryd.prog 37 (.pointer (some ⟨b2, 0, none⟩)) H124) (by kernel_rfl) (u143.ld (by kernel_rfl)) ?_
    have u144 := ((((u91.fr e101 Dj.nil_l).ext e110).fr e116 (hb111.djn (h_First.lt.le (ntr (ntr (ntr (ntr (ntr e4.next e20.next) e40.next) e69.next) e85.next) e101.next)))).fr e125 Dj.nil_l)
    have u145 := ((((u92.fr e101 Dj.nil_l).ext e110).fr e116 (hb111.djn (h_To.lt.le (ntr (ntr (ntr (ntr (ntr e4.next e20.next) e40.next) e69.next) e85.next) e101.next)))).fr e125 Dj.nil_l)
    have u146 := ((((u93.fr e101 Dj.nil_l).ext e110).fr e116 (hb111.djn (h_Weight.lt.le (ntr (ntr (ntr (ntr (ntr e4.next e20.next) e40.next) e69.next) e85.next) e101.next)))).fr e125 Dj.nil_l)
    obtain ⟨y147, hy148, r149⟩ := bind_some r141
    refine s_ck 36 #[.agg #[hd_First, hd_To, hd_Weight]] (by kernel_rfl) (c_viaductlaw09_of e125.wf u144 u145 u146 hy148) ?_
    rintro _ H156 ⟨s150, f151, s152, f153, s154, f155, rfl, e157, m158, m159, m160, i161, i162, i163, d164, d165, d166⟩
    obtain ⟨a170, n171, c172, rfl⟩ := m158.form
    obtain ⟨a173, n174, c175, rfl⟩ := m159.form
    obtain ⟨a176, n177, c178, rfl⟩ := m160.form
    refine s_qk (hd_l) (by kernel_rfl) ?_
    have u179 := (((((u94.fr e101 Dj.nil_l).ext e110).fr e116 (hb111.djn (h_l.lt.le (ntr (ntr (ntr (ntr (ntr e4.next e20.next) e40.next) e69.next) e85.next) e101.next)))).fr e125 Dj.nil_l).fr e157 Dj.nil_l)
    obtain ⟨y180, hy181, r182⟩ := bind_some r149
    refine s_ck 11 #[hd_l] (by kernel_rfl) (c_viaductref02_TwinInts e157.wf u179 hy181) ?_
    rintro s183 H185 ⟨_, f184, rfl, e186, m187, i188⟩
    obtain ⟨a190, n191, c192, rfl⟩ := m187.form
    have u193 := (m158.fr e186 Dj.nil_l)
    have u194 := (m159.fr e186 Dj.nil_l)
    have u195 := (m160.fr e186 Dj.nil_l)
    obtain ⟨y196, hy197, r198⟩ := bind_some r182
    refine s_ck 38 #[.agg #[.slice a170 n171 c172, .slice a173 n174 c175, .slice a176 n177 c178], .slice a190 n191 c192] (by kernel_rfl) (c_walk_Shortest e186.wf u193.sq u194.sq u195.sq m187.sq hy197) ?_
    rintro _ H201 ⟨v199, f200, rfl, e202, m203, i204⟩
    refine s_qk (.tuple #[.bool y196.1, v199]) (by kernel_rfl) ?_
    refine s_qk (.bool y196.1) (by kernel_rfl) ?_
    refine s_qk (v199) (by kernel_rfl) ?_
    refine s_qk (.bool y196.1) (by kernel_rfl) ?_
    refine s_qk (v199) (by kernel_rfl) ?_
    refine s_nil ?_
    refine k142 _ _ ?_
    refine w_seqk fun K206 k206 => ?_
    refine w_reg (by kernel_rfl) ?_
    have u207 := (((u143.frS e157 Dj.nil_l).frS e186 Dj.nil_l).frS e202 Dj.nil_l)
    refine s_ql (.agg #[hd_First, hd_To, hd_Weight]) (x := aLoad Tryd.prog 37 (.pointer (some ⟨b2, 0, none⟩)) H201) (by kernel_rfl) (u207.ld (by kernel_rfl)) ?_
    refine s_qk (hd_l) (by kernel_rfl) ?_
    have u208 := (((u144.fr e157 Dj.nil_l).fr e186 Dj.nil_l).fr e202 Dj.nil_l)
    have u209 := (((u145.fr e157 Dj.nil_l).fr e186 Dj.nil_l).fr e202 Dj.nil_l)
    have u210 := (((u146.fr e157 Dj.nil_l).fr e186 Dj.nil_l).fr e202 Dj.nil_l)
    have u211 := ((u179.fr e186 Dj.nil_l).fr e202 Dj.nil_l)
    obtain ⟨y212, hy213, r214⟩ := bind_some r198
    refine s_ck 39 #[.agg #[hd_First, hd_To, hd_Weight], hd_l] (by kernel_rfl) (c_viaductref09_DocShortest e202.wf u208 u209 u210 u211 hy213) ?_
    rintro _ H217 ⟨s215, f216, rfl, e218, m219, i220⟩
    obtain ⟨a222, n223, c224, rfl⟩ := m219.form
    refine s_qk (.tuple #[.bool y212.1, .agg #[.int .i64 y212.2.1, .slice a222 n223 c224]]) (by kernel_rfl) ?_
    refine s_qk (.bool y212.1) (by kernel_rfl) ?_
    refine s_qk (.agg #[.int .i64 y212.2.1, .slice a222 n223 c224]) (by kernel_rfl) ?_
    refine s_qk (.bool y212.1) (by kernel_rfl) ?_
    have u229 := (((((r117.frS e125 Dj.nil_l).frS e157 Dj.nil_l).frS e186 Dj.nil_l).frS e202 Dj.nil_l).frS e218 Dj.nil_l)
    obtain ⟨H225, q226, e227, r228⟩ := Row.store (P := Tryd.prog) (t := 31) (p := 0) e218.wf u229 (.agg #[.int .i64 y212.2.1, .slice a222 n223 c224]) [.int .i64 y212.2.1, .slice a222 n223 c224] (by kernel_rfl) (by kernel_rfl) (one_cons (rfl) (one_cons (m219.one1) (one_nil))) (Nat.le_of_ble_eq_true (by kernel_rfl)) [.int .i64 y212.2.1, .slice a222 n223 c224] (by kernel_rfl)
    refine s_ek (undef) (by kernel_rfl) (map_ok q226) ?_
    refine s_nil ?_
    refine k206 _ _ ?_
    refine w_seqk fun K230 k230 => ?_
    refine w_reg (by kernel_rfl) ?_
    refine s_qk (.bool y196.1) (by kernel_rfl) ?_
    refine s_qk (.bool y212.1) (by kernel_rfl) ?_
    refine s_b (y196.1 = y212.1) (by kernel_rfl) (fun h231 => ?_) (fun h231 => ?_)
    ·have r232 := ite_t h231 r214
     refine s_qk (.bool true) (by kernel_rfl) ?_
     refine s_qk (v199) (by kernel_rfl) ?_
     refine s_ql (.agg #[.int .i64 y212.2.1, .slice a222 n223 c224]) (x := aLoad Tryd.prog 31 (.pointer (some ⟨b108, 0, none⟩)) H225) (by kernel_rfl) (r228.ld (by kernel_rfl)) ?_
     have u233 := ((m203.fr e218 Dj.nil_l).fr e227 (Dj.symm (i204.djn (r112.ltF.le (ntr (ntr (ntr e116.next e125.next) e157.next) e186.next)))))
     have u234 := (m219.fr e227 (Dj.symm (i220.djn (r112.ltF.le (ntr (ntr (ntr (ntr e116.next e125.next) e157.next) e186.next) e202.next)))))
     obtain ⟨y235, hy236, r237⟩ := bind_some r232
     refine s_ck 14 #[v199, .agg #[.int .i64 y212.2.1, .slice a222 n223 c224]] (by kernel_rfl) (c_viaductseen_Same e227.wf u233 u234.sq hy236) ?_
     rintro _ H238 ⟨rfl, e239⟩
     refine s_qk (.bool y235) (by kernel_rfl) ?_
     refine s_qk (.bool y235) (by kernel_rfl) ?_
     refine s_nil ?_
     refine k230 _ _ ?_
     refine w_ret ?_
     refine b_ret (fn := Tryd.f7) (vs := [.bool y235]) (aRes_tmp (by kernel_rfl) (rfl)) ?_
     obtain rfl := Option.some.inj r237
     exact ⟨rfl, (FrS.step wf (FrS.step wf (FrS.step wf (FrS.step wf (FrS.step wf (FrS.step wf (FrS.step wf (FrS.step wf ((FrS.step wf (FrS.step wf (FrS.step wf (FrS.step wf (FrS.step wf ((FrS.refl (W := []) wf).extR e4) e20 Inn.nil) e40 Inn.nil) e69 Inn.nil) e85 Inn.nil) e101 Inn.nil).extR e110) e116 (hb111.fresh (ntr (ntr (ntr (ntr (ntr e4.next e20.next) e40.next) e69.next) e85.next) e101.next))) e125 Inn.nil) e157 Inn.nil) e186 Inn.nil) e202 Inn.nil) e218 Inn.nil) e227 (hb111.fresh (ntr (ntr (ntr (ntr (ntr e4.next e20.next) e40.next) e69.next) e85.next) e101.next))) e239 Inn.nil)⟩
    ·have r240 := ite_f h231 r214
     refine s_qk (.bool false) (by kernel_rfl) ?_
     refine s_no (by kernel_rfl) ?_
     refine s_no (by kernel_rfl) ?_
     refine s_no (by kernel_rfl) ?_
     refine s_qk (.bool false) (by kernel_rfl) ?_
     refine s_qk (.bool false) (by kernel_rfl) ?_
     refine s_nil ?_
     refine k230 _ _ ?_
     refine w_ret ?_
     refine b_ret (fn := Tryd.f7) (vs := [.bool false]) (aRes_tmp (by kernel_rfl) (rfl)) ?_
     obtain rfl := Option.some.inj r240
     exact ⟨rfl, (FrS.step wf (FrS.step wf (FrS.step wf (FrS.step wf (FrS.step wf (FrS.step wf (FrS.step wf ((FrS.step wf (FrS.step wf (FrS.step wf (FrS.step wf (FrS.step wf ((FrS.refl (W := []) wf).extR e4) e20 Inn.nil) e40 Inn.nil) e69 Inn.nil) e85 Inn.nil) e101 Inn.nil).extR e110) e116 (hb111.fresh (ntr (ntr (ntr (ntr (ntr e4.next e20.next) e40.next) e69.next) e85.next) e101.next))) e125 Inn.nil) e157 Inn.nil) e186 Inn.nil) e202 Inn.nil) e218 Inn.nil) e227 (hb111.fresh (ntr (ntr (ntr (ntr (ntr e4.next e20.next) e40.next) e69.next) e85.next) e101.next)))⟩


end Go.Vd
