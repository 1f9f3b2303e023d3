/- The walks of the functions (printed by a program of ours). -/
import Derived.Test.YtlohhdkkhedejaaGreatDoorPsf1
import Derived.Test.YtlohhdkkhedejaaGreatDoorPsfDrG
import Derived.Test.YtlohhdkkhedejaaGreatDoorPsfISf
import Derived.Test.YtlohhdkkhedejaaGreatDoorPsfVeN
import Derived.Test.YtlohhdkkhedejaaGreatDoorPsfSoA
import Derived.Test.YtlohhdkkhedejaaGreatDoorPsfVeV
set_option linter.unusedVariables false
set_option linter.unusedSimpArgs false
set_option linter.unusedSectionVars false
/-! (KSf4) -/

set_option maxRecDepth 100000
set_option maxHeartbeats 4000000
set_option linter.unusedVariables false
namespace Go.Vd
open Go.Proofs
attribute [local irreducible] wpSeq wpOrd aWp
theorem c_search_From {H : AH} {hd_First : Value} {fp_First : Fp} {hd_To : Value} {fp_To : Fp} {hd_Weight : Value} {fp_Weight : Fp} {First : List (Int)} {To : List (Int)} {Weight : List (Int)} {s : Int} {r : List (Int) × Er}
    (wf : WF H) (h_First : Sq (encI .i64) 1 H hd_First First fp_First) (h_To : Sq (encI .i64) 1 H hd_To To fp_To) (h_Weight : Sq (encI .i64) 1 H hd_Weight Weight fp_Weight) (hr : z_search_From First To Weight s = some r) :
    ACalls Tryz.prog 8 #[.agg #[hd_First, hd_To, hd_Weight], i_ s] H fun v H' => ∃ (s3 : Value) (f4 : Fp) (v7 : Value) (f8 : Fp), v = .tuple #[s3, v7] ∧ FrS [] H H' ∧ Ow (encI .u64) 1 H' s3 r.1 f4 ∧ Ev 43 81 H' v7 r.2 f8 ∧ Inn [] H f4 ∧ Inn [] H f8 ∧ Dj f4 f8 := by
 refine acalls_of_body mixed Tryz.func8 rfl (Nat.le_of_ble_eq_true rfl) ?_
 unfold z_search_From at hr
 refine w_seqk fun _ k12 => ?_
 refine g_' ?_
 refine s_rwl wf [hd_First, hd_To, hd_Weight] (one_cons (h_First.one1) (one_cons (h_To.one1) (one_cons (h_Weight.one1) (one_nil)))) (by kernel_rfl) fun b13 H14 e15 hb16 r17 => ?_
 refine q_ (.slice none 0 0) ?_
 refine q_ (.nilIface) ?_
 refine s_nil (k12 _ _ ?_)
 refine w_seqk fun _ k19 => ?_
 refine w_seqk fun _ k20 => ?_
 refine g_' ?_
 refine l_' (.agg #[hd_First, hd_To, hd_Weight]) (aLoad Tryz.prog 25 (pt_ b13 0) H14) (r17.ld (by kernel_rfl)) ?_
 refine q_ (i_ s) ?_
 refine s_owk (enc := (encI .i64)) (sz := 1) e15.wf [s] 1 (by decide) (fun _ _ => rfl) (fun _ _ => rfl) rfl (by kernel_rfl) fun s21 f22 H23 e24 hf25 hm26 => ?_
 obtain ⟨a27, n28, c29, rfl⟩ := hm26.form
 have u31 := ((h_First.ext e15).ext e24)
 have u32 := ((h_To.ext e15).ext e24)
 have u33 := ((h_Weight.ext e15).ext e24)
 obtain ⟨y34, hy35, r36⟩ := bind_some hr
 refine s_ck 21 #[.agg #[hd_First, hd_To, hd_Weight], .slice a27 n28 c29] (by kernel_rfl) (c_search_node e24.wf u31 u32 u33 hm26.sq hy35) ?_
 rintro v37 H39 ⟨_, f38, rfl, e40, m41, i42⟩
 refine q_ (v37) ?_
 refine s_nil (k20 _ _ ?_)
 refine w_seqk fun _ k44 => ?_
 refine g_' ?_
 refine q_ (v37) ?_
 rcases (m41).cases with ⟨h45, rfl⟩ | ⟨h45, t46, x47, rfl⟩
 ·have r48 := ite_t h45 r36
  refine q_ (.bool false) ?_
  refine s_nil (k44 _ _ ?_)
  refine w_cond false (by kernel_rfl) rfl (fun h => by cases h) (fun _ => ?_)
  refine w_skip ?_
  refine k19 _ _ ?_
  refine w_seqk fun _ k49 => ?_
  refine w_draw [0, 1, 2, 3, 4, 5, 6] (by kernel_rfl) ?_
  have u50 := ((r17.ext e24).frS e40 Dj.nil_l)
  refine d_fl (.agg #[hd_First, hd_To, hd_Weight]) (x := aLoad Tryz.prog 25 (pt_ b13 0) H39) (by kernel_rfl) (u50.ld (by kernel_rfl)) ?_
  refine e_' (i_ s) ?_
  obtain ⟨y51, hy52, r53⟩ := bind_some r48
  refine d_ck 23 #[] (by kernel_rfl) (c_search_free e40.wf hy52) ?_
  rintro _ H54 ⟨rfl, e55⟩
  have u56 := (u50.frS e55 Dj.nil_l)
  refine ⟨st_ql (y := aLoad Tryz.prog 25 (pt_ b13 0) H54) (by kernel_rfl) (u56.ld (by kernel_rfl)) (st_nil), ?_⟩
  have u57 := ((u31.fr e40 Dj.nil_l).fr e55 Dj.nil_l)
  have u58 := ((u32.fr e40 Dj.nil_l).fr e55 Dj.nil_l)
  have u59 := ((u33.fr e40 Dj.nil_l).fr e55 Dj.nil_l)
  obtain ⟨y60, hy61, r62⟩ := bind_some r53
  refine d_ck 22 #[.agg #[hd_First, hd_To, hd_Weight], i_ s, .agg #[i_ 4611686018427387904, i_ 4611686018427387904, .int .u64 18446744073709551615]] (by kernel_rfl) (c_search_run e55.wf u57 u58 u59 hy61) ?_
  rintro _ H76 ⟨s63, f64, s65, f66, b67, s68, f69, b70, s71, f72, s73, f74, b75, rfl, e77, m78, m79, m80, m81, m82, m83, m84, m85, i86, i87, i88, i89, i90, i91, i92, i93, d94, d95, d96, d97, d98, d99, d100, d101, d102, d103, d104, d105, d106, d107, d108, d109, d110, d111, d112, d113, d114, d115, d116, d117, d118, d119, d120, d121⟩
  obtain ⟨a130, n131, c132, rfl⟩ := m78.form
  obtain ⟨a133, n134, c135, rfl⟩ := m79.form
  obtain ⟨a136, n137, c138, rfl⟩ := m81.form
  obtain ⟨a139, n140, c141, rfl⟩ := m83.form
  obtain ⟨a142, n143, c144, rfl⟩ := m84.form
  refine ⟨st_anc (by kernel_rfl) (st_nil), ?_⟩
  have u145 := (u57.fr e77 Dj.nil_l)
  have u146 := (u58.fr e77 Dj.nil_l)
  have u147 := (u59.fr e77 Dj.nil_l)
  obtain ⟨y148, hy149, r150⟩ := bind_some r62
  refine d_ck 24 #[pt_ b75 0] (by kernel_rfl) (c_search_state_all e77.wf u145 u146 u147 m78.sq m79.sq m80 m81.sq m82 m83.sq m84.sq m85 hy149) ?_
  rintro s151 H153 ⟨_, f152, rfl, e154, m155, i156⟩
  obtain ⟨a158, n159, c160, rfl⟩ := m155.form
  refine ⟨st_anc (by kernel_rfl) (st_nil), ?_⟩
  refine e_' (.slice a158 n159 c160) ?_
  refine e_' (.nilIface) ?_
  refine d_nil ?_
  refine k49 _ _ ?_
  refine w_ret ?_
  refine b_ret (fn := Tryz.f8) (vs := [.slice a158 n159 c160, .nilIface]) (aRes_tmp (by kernel_rfl) (aRes_tmp (by kernel_rfl) (rfl))) ?_
  obtain rfl := Option.some.inj r150
  exact ⟨(.slice a158 n159 c160), f152, (.nilIface), [], rfl, (FrS.step wf (FrS.step wf (FrS.step wf (FrS.step wf (((FrS.refl (W := []) wf).extR e15).extR e24) e40 Inn.nil) e55 Inn.nil) e77 Inn.nil) e154 Inn.nil), m155, Ev.nil, (i156.fresh (ntr (ntr (ntr (ntr e15.next e24.next) e40.next) e55.next) e77.next)), Inn.nil, Dj.nil_r⟩
 have r161 := ite_f h45 r36
 refine l_' (.bool true) (aBin Tryz.prog .neq 31 (.tmp 11) (.const .nilIface) (.iface t46 x47) .nilIface) (aBin_nnil (by kernel_rfl)) ?_
 refine s_nil (k44 _ _ ?_)
 refine w_cond true (by kernel_rfl) rfl (fun _ => ?_) (fun h => by cases h)
 refine w_seqk fun _ k162 => ?_
 refine g_' ?_
 refine q_ (.iface t46 x47) ?_
 refine q_ (.slice none 0 0) ?_
 refine q_ (.iface t46 x47) ?_
 refine s_nil (k162 _ _ ?_)
 refine w_ret (th_ret ?_)
 refine b_ret (fn := Tryz.f8) (vs := [.slice none 0 0, .iface t46 x47]) (aRes_tmp (by kernel_rfl) (aRes_tmp (by kernel_rfl) (rfl))) ?_
 obtain rfl := Option.some.inj r161
 exact ⟨(.slice none 0 0), [], (.iface t46 x47), f38, rfl, (FrS.step wf (((FrS.refl (W := []) wf).extR e15).extR e24) e40 Inn.nil), (Ow.nil (by decide)), m41, Inn.nil, (i42.fresh (ntr e15.next e24.next)), Dj.nil_l⟩

theorem c_search_state_parents {H : AH} {b_st : Nat} {hd_st_ : Value} {fp_st_ : Fp} {hd_st_2 : Value} {fp_st_2 : Fp} {hd_st_3 : Value} {fp_st_3 : Fp} {b_st_4 : Nat} {hd_st_5 : Value} {fp_st_5 : Fp} {hd_st_6 : Value} {fp_st_6 : Fp} {b_st_7 : Nat} {hd_st_8 : Value} {fp_st_8 : Fp} {hd_st_11 : Value} {fp_st_11 : Fp} {hd_st_12 : Value} {fp_st_12 : Fp} {st_ : List (Int)} {st_2 : List (Int)} {st_3 : List (Int)} {st_5 : List (Int × Int)} {st_6 : List (Int)} {st_8 : List (Int × Int)} {st_9 : Int} {st_10 : Int} {st_11 : List (Int)} {st_12 : List (Bool)} {s : Int} {r : List (Int)}
    (wf : WF H) (h_st_ : Sq (encI .i64) 1 H hd_st_ st_ fp_st_) (h_st_2 : Sq (encI .i64) 1 H hd_st_2 st_2 fp_st_2) (h_st_3 : Sq (encI .i64) 1 H hd_st_3 st_3 fp_st_3) (h_st_5 : Sq enc_u64_u32 2 H hd_st_5 st_5 fp_st_5) (h_st_6 : Sq (encI .i64) 1 H hd_st_6 st_6 fp_st_6) (h_st_4 : Row H b_st_4 [hd_st_5, hd_st_6]) (h_st_8 : Sq enc_u64_u32 2 H hd_st_8 st_8 fp_st_8) (h_st_7 : Row H b_st_7 [hd_st_8, .int .u32 st_9, i_ st_10]) (h_st_11 : Sq (encI .i64) 1 H hd_st_11 st_11 fp_st_11) (h_st_12 : Sq encB 1 H hd_st_12 st_12 fp_st_12) (h_st : Row H b_st [hd_st_, hd_st_2, hd_st_3, pt_ b_st_4 0, pt_ b_st_7 0, hd_st_11, hd_st_12]) (hr : z_search_state_parents st_ st_2 st_3 st_5 st_6 st_8 st_9 st_10 st_11 st_12 s = some r) :
    ACalls Tryz.prog 25 #[pt_ b_st 0, i_ s] H fun v H' => ∃ (s3 : Value) (f4 : Fp), v = s3 ∧ FrS [] H H' ∧ Ow (encI .i64) 1 H' s3 r f4 ∧ Inn [] H f4 := by
 refine acalls_of_body mixed Tryz.func25 rfl (Nat.le_of_ble_eq_true rfl) ?_
 unfold z_search_state_parents at hr
 refine w_seqk fun _ k6 => ?_
 refine g_' ?_
 refine q_ (.slice none 0 0) ?_
 refine s_nil (k6 _ _ ?_)
 refine w_seqk fun _ k7 => ?_
 refine g_' ?_
 refine q_ (pt_ b_st 0) ?_
 refine q_ (pt_ b_st 0) ?_
 refine q_ (pt_ b_st 0) ?_
 refine l_' (.agg #[hd_st_, hd_st_2, hd_st_3]) (aLoad Tryz.prog 25 (pt_ b_st 0) H) (h_st.ld (by kernel_rfl)) ?_
 obtain ⟨y8, hy9, r10⟩ := bind_some hr
 refine s_ck 35 #[.agg #[hd_st_, hd_st_2, hd_st_3]] (by kernel_rfl) (c_search_nodes wf h_st_ h_st_2 h_st_3 hy9) ?_
 rintro _ H11 ⟨rfl, e12⟩
 obtain ⟨g13, r14⟩ := G_some r10
 refine s_mks (t := 23) (m := 8) (l := y8) (c := y8) (enc := (encI .i64)) (sz := 1) e12.wf (0 : Int) (by kernel_rfl) (by decide) g13.1 (Int.le_refl _) (by omega) (by have := g13; omega) (by kernel_rfl) fun s15 f16 H17 e18 hf19 hm20 => ?_
 obtain ⟨a21, n22, c23, rfl⟩ := hm20.form
 have hm20 : Ow (encI .i64) 1 H17 (.slice a21 n22 c23) (List.replicate y8.toNat (0 : Int)) f16 := hm20
 refine q_ (.slice a21 n22 c23) ?_
 refine s_nil (k7 _ _ ?_)
 refine w_seqk fun _ k25 => ?_
 refine g_' ?_
 refine q_ (pt_ b_st 0) ?_
 refine q_ (pt_ b_st 0) ?_
 refine q_ (pt_ b_st 0) ?_
 have u26 := ((h_st.frS e12 Dj.nil_l).ext e18)
 refine l_' (.agg #[hd_st_, hd_st_2, hd_st_3]) (aLoad Tryz.prog 25 (pt_ b_st 0) H17) (u26.ld (by kernel_rfl)) ?_
 have u27 := ((h_st_.fr e12 Dj.nil_l).ext e18)
 have u28 := ((h_st_2.fr e12 Dj.nil_l).ext e18)
 have u29 := ((h_st_3.fr e12 Dj.nil_l).ext e18)
 obtain ⟨y30, hy31, r32⟩ := bind_some r14
 refine s_ck 35 #[.agg #[hd_st_, hd_st_2, hd_st_3]] (by kernel_rfl) (c_search_nodes e18.wf u27 u28 u29 hy31) ?_
 rintro _ H33 ⟨rfl, e34⟩
 obtain ⟨g35, r36⟩ := G_some r32
 refine s_mks (t := 23) (m := 8) (l := y30) (c := y30) (enc := (encI .i64)) (sz := 1) e34.wf (0 : Int) (by kernel_rfl) (by decide) g35.1 (Int.le_refl _) (by omega) (by have := g35; omega) (by kernel_rfl) fun s37 f38 H39 e40 hf41 hm42 => ?_
 obtain ⟨a43, n44, c45, rfl⟩ := hm42.form
 have hm42 : Ow (encI .i64) 1 H39 (.slice a43 n44 c45) (List.replicate y30.toNat (0 : Int)) f38 := hm42
 refine q_ (.slice a43 n44 c45) ?_
 refine s_nil (k25 _ _ ?_)
 refine w_seqk fun _ k47 => ?_
 refine g_' ?_
 refine q_ (.slice a43 n44 c45) ?_
 refine q_ (i_ s) ?_
 obtain ⟨g48, r49⟩ := G_some r36
 refine l_' (elp (.slice a43 n44 c45) 1 s.toNat 0) (aIndexAddr Tryz.prog 23 (.slice a43 n44 c45) (i_ s)) (hm42.sq.idxb (by kernel_rfl) g48.1 g48.2) ?_
 obtain ⟨H50, q51, e52, hm53⟩ := Ow.store (P := Tryz.prog) (t := 3) (off := 0) e40.wf hm42 g48.1 g48.2 (i_ 1) [i_ 1] (by kernel_rfl) (by kernel_rfl) rfl 1 (Nat.le_of_ble_eq_true rfl) (by kernel_rfl)
 refine s_ek (undef) (by kernel_rfl) (map_ok q51) ?_
 refine s_nil (k47 _ _ ?_)
 refine w_seqk fun _ k54 => ?_
 refine g_' ?_
 refine q_ (i_ s) ?_
 refine s_owk (enc := (encI .i64)) (sz := 1) e52.wf [s] 1 (by decide) (fun _ _ => rfl) (fun _ _ => rfl) rfl (by kernel_rfl) fun s55 f56 H57 e58 hf59 hm60 => ?_
 obtain ⟨a61, n62, c63, rfl⟩ := hm60.form
 refine q_ (.slice a61 n62 c63) ?_
 refine s_nil (k54 _ _ ?_)
 refine w_seqk fun _ k65 => ?_
 refine w_seqk fun _ k66 => ?_
 refine g_' ?_
 refine q_ (i_ 0) ?_
 refine s_nil (k66 _ _ ?_)
 obtain ⟨o67, hx68, r69⟩ := bind_some r49
 refine w_mid (fun α H70 => Has α [(5, .slice a21 n22 c23)] ∧ FrS (f16 ++ (f38 ++ f56)) H57 H70 ∧ Ow (encI .i64) 1 H70 (.slice a21 n22 c23) o67 f16) (fun _ k74 => ?_) (fun α H70 hM => ?_)
 ·refine w_block ?_
  obtain ⟨n76, hn77⟩ := loopO_iff.1 hx68
  have u95 := ((((hm20.fr e34 Dj.nil_l).ext e40).fr e52 (hf41.djn (hm20.lt.le e34.next))).ext e58)
  have u96 := (hm53.ext e58)
  refine w_loopn (fun n α H78 => ∃ (from4 : List (Int)), ∃ (seen5 : List (Int)), ∃ (list6 : List (Int)), ∃ (i7 : Int), ∃ (s86 : Value), ∃ (f87 : Fp), iterO (fun zz_ => z_search_state_parents_l1 st_ st_2 st_3 st_8 st_9 st_10 zz_.1 zz_.2.1 zz_.2.2.1 zz_.2.2.2) n (from4, seen5, list6, i7) = some o67 ∧ Has α [(0, pt_ b_st 0), (5, .slice a21 n22 c23), (6, .slice a43 n44 c45), (7, s86), (8, i_ i7)] ∧ FrS (f16 ++ (f38 ++ f56)) H57 H78 ∧ Ow (encI .i64) 1 H78 (.slice a21 n22 c23) from4 f16 ∧ Ow (encI .i64) 1 H78 (.slice a43 n44 c45) seen5 f38 ∧ Ow (encI .i64) 1 H78 s86 list6 f87 ∧ Inn f56 H57 f87) n76 ⟨(List.replicate y8.toNat (0 : Int)), ((List.replicate y30.toNat (0 : Int)).set s.toNat 1), [s], 0, (.slice a61 n62 c63), f56, hn77, ha_, (FrS.refl (W := (f16 ++ (f38 ++ f56))) e58.wf), u95, u96, hm60, Inn.refl'⟩ ?_
  rintro n76 α H78 ⟨from4, seen5, list6, i7, s86, f87, hi90, hh89, e79, m81, m83, m85, i88⟩ K97 k97
  obtain ⟨n91, z92, rfl, hz93, hn94⟩ := iter_succ hi90
  obtain ⟨β, rfl⟩ := has_ex hh89
  clear hh89
  replace hz93 : z_search_state_parents_l1 st_ st_2 st_3 st_8 st_9 st_10 from4 seen5 list6 i7 = some z92 := hz93
  unfold z_search_state_parents_l1 at hz93
  obtain ⟨a98, n99, c100, rfl⟩ := m85.form
  refine w_seqk fun _ k101 => ?_
  refine w_seqk fun _ k102 => ?_
  refine g_' ?_
  refine q_ (i_ i7) ?_
  refine q_ (.slice a98 n99 c100) ?_
  refine l_' (i_ (list6.length : Int)) (aLen Tryz.prog 23 (.slice a98 n99 c100) H78) (m85.sq.lenb (by kernel_rfl)) ?_
  refine q_ (.bool (decide (i7 < (list6.length : Int)))) ?_
  refine s_nil (k102 _ _ ?_)
  refine w_condp (i7 < (list6.length : Int)) (by kernel_rfl) rfl (fun h103 => ?_) (fun h103 => ?_)
  ·have r104 := ite_t h103 hz93
   refine w_skip ?_
   refine k101 _ _ ?_
   refine w_seqk fun _ k105 => ?_
   refine w_block ?_
   refine w_seqk fun _ k106 => ?_
   refine g_' ?_
   refine q_ (.slice a98 n99 c100) ?_
   refine q_ (i_ i7) ?_
   obtain ⟨g107, r108⟩ := G_some r104
   refine l_' (elp (.slice a98 n99 c100) 1 i7.toNat 0) (aIndexAddr Tryz.prog 23 (.slice a98 n99 c100) (i_ i7)) (m85.sq.idxb (by kernel_rfl) g107 h103) ?_
   refine l_' (i_ (gt list6 i7)) (aLoad Tryz.prog 3 (elp (.slice a98 n99 c100) 1 i7.toNat 0) H78) (m85.sq.ld g107 h103 (by kernel_rfl)) ?_
   refine q_ (i_ (gt list6 i7)) ?_
   refine s_nil (k106 _ _ ?_)
   refine w_seqk fun _ k109 => ?_
   refine g_' ?_
   refine q_ (pt_ b_st 0) ?_
   refine q_ (pt_ b_st 0) ?_
   refine q_ (pt_ b_st 4) ?_
   have u110 := (((((u26.frS e34 Dj.nil_l).ext e40).frS e52 (hf41.djn (h_st.ltF.le (ntr (ntr e12.next e18.next) e34.next)))).ext e58).frS e79 (Dj.app (hf19.djn (h_st.ltF.le e12.next)) (Dj.app (hf41.djn (h_st.ltF.le (ntr (ntr e12.next e18.next) e34.next))) (hf59.djn (h_st.ltF.le (ntr (ntr (ntr (ntr e12.next e18.next) e34.next) e40.next) e52.next))))))
   refine l_' (pt_ b_st_7 0) (aLoad Tryz.prog 72 (pt_ b_st 4) H78) (u110.ld (by kernel_rfl)) ?_
   refine q_ (i_ (gt list6 i7)) ?_
   have u111 := (((((((h_st_8.fr e12 Dj.nil_l).ext e18).fr e34 Dj.nil_l).ext e40).fr e52 (hf41.djn (h_st_8.lt.le (ntr (ntr e12.next e18.next) e34.next)))).ext e58).fr e79 (Dj.app (hf19.djn (h_st_8.lt.le e12.next)) (Dj.app (hf41.djn (h_st_8.lt.le (ntr (ntr e12.next e18.next) e34.next))) (hf59.djn (h_st_8.lt.le (ntr (ntr (ntr (ntr e12.next e18.next) e34.next) e40.next) e52.next))))))
   have u112 := (((((((h_st_7.frS e12 Dj.nil_l).ext e18).frS e34 Dj.nil_l).ext e40).frS e52 (hf41.djn (h_st_7.ltF.le (ntr (ntr e12.next e18.next) e34.next)))).ext e58).frS e79 (Dj.app (hf19.djn (h_st_7.ltF.le e12.next)) (Dj.app (hf41.djn (h_st_7.ltF.le (ntr (ntr e12.next e18.next) e34.next))) (hf59.djn (h_st_7.ltF.le (ntr (ntr (ntr (ntr e12.next e18.next) e34.next) e40.next) e52.next))))))
   obtain ⟨y113, hy114, r115⟩ := bind_some r108
   refine s_ck 31 #[pt_ b_st_7 0, i_ (gt list6 i7)] (by kernel_rfl) (c_stamp_Stamp_Get e79.wf u111 u112 hy114) ?_
   rintro _ _ ⟨rfl, rfl⟩
   refine q_ (.tuple #[.int .u64 y113.1, .bool y113.2]) ?_
   refine q_ (.int .u64 y113.1) ?_
   refine q_ (.bool y113.2) ?_
   refine q_ (.int .u64 y113.1) ?_
   refine q_ (.bool y113.2) ?_
   refine s_nil (k109 _ _ ?_)
   refine w_seqk fun _ k118 => ?_
   refine g_' ?_
   refine q_ (pt_ b_st 0) ?_
   refine q_ (pt_ b_st 0) ?_
   refine q_ (pt_ b_st 0) ?_
   refine q_ (pt_ b_st 0) ?_
   refine l_' (hd_st_) (aLoad Tryz.prog 23 (pt_ b_st 0) H78) (u110.ld (by kernel_rfl)) ?_
   refine q_ (i_ (gt list6 i7)) ?_
   obtain ⟨g119, r120⟩ := G_some r115
   have u121 := (((((u27.fr e34 Dj.nil_l).ext e40).fr e52 (hf41.djn (h_st_.lt.le (ntr (ntr e12.next e18.next) e34.next)))).ext e58).fr e79 (Dj.app (hf19.djn (h_st_.lt.le e12.next)) (Dj.app (hf41.djn (h_st_.lt.le (ntr (ntr e12.next e18.next) e34.next))) (hf59.djn (h_st_.lt.le (ntr (ntr (ntr (ntr e12.next e18.next) e34.next) e40.next) e52.next))))))
   refine l_' (elp hd_st_ 1 (gt list6 i7).toNat 0) (aIndexAddr Tryz.prog 23 hd_st_ (i_ (gt list6 i7))) (u121.idxb (by kernel_rfl) g119.1 g119.2) ?_
   refine l_' (i_ (gt st_ (gt list6 i7))) (aLoad Tryz.prog 3 (elp hd_st_ 1 (gt list6 i7).toNat 0) H78) (u121.ld g119.1 g119.2 (by kernel_rfl)) ?_
   refine q_ (i_ (gt st_ (gt list6 i7))) ?_
   refine s_nil (k118 _ _ ?_)
   obtain ⟨o122, hx123, r124⟩ := bind_some r120
   refine w_mid (fun α H125 => ∃ (s133 : Value) (f134 : Fp), Has α [(0, pt_ b_st 0), (5, .slice a21 n22 c23), (6, .slice a43 n44 c45), (7, s133), (8, i_ i7)] ∧ FrS (f16 ++ (f38 ++ f87)) H78 H125 ∧ Ow (encI .i64) 1 H125 (.slice a21 n22 c23) o122.1 f16 ∧ Ow (encI .i64) 1 H125 (.slice a43 n44 c45) o122.2.1 f38 ∧ Ow (encI .i64) 1 H125 s133 o122.2.2 f134 ∧ Inn f87 H78 f134) (fun _ k136 => ?_) (fun α H125 hM => ?_)
   ·refine w_block ?_
    obtain ⟨n138, hn139⟩ := loopO_iff.1 hx123
    refine w_loopn (fun n α H140 => ∃ (j0 : Int), ∃ (from1 : List (Int)), ∃ (seen2 : List (Int)), ∃ (list3 : List (Int)), ∃ (s148 : Value), ∃ (f149 : Fp), iterO (fun zz_ => z_search_state_parents_l0 st_ st_2 st_3 st_8 st_9 st_10 list6 i7 y113 zz_.1 zz_.2.1 zz_.2.2.1 zz_.2.2.2) n (j0, from1, seen2, list3) = some o122 ∧ Has α [(0, pt_ b_st 0), (5, .slice a21 n22 c23), (6, .slice a43 n44 c45), (7, s148), (8, i_ i7), (9, i_ (gt list6 i7)), (10, .int .u64 y113.1), (12, i_ j0)] ∧ FrS (f16 ++ (f38 ++ f87)) H78 H140 ∧ Ow (encI .i64) 1 H140 (.slice a21 n22 c23) from1 f16 ∧ Ow (encI .i64) 1 H140 (.slice a43 n44 c45) seen2 f38 ∧ Ow (encI .i64) 1 H140 s148 list3 f149 ∧ Inn f87 H78 f149) n138 ⟨(gt st_ (gt list6 i7)), from4, seen5, list6, (.slice a98 n99 c100), f87, hn139, ha_, (FrS.refl (W := (f16 ++ (f38 ++ f87))) e79.wf), m81, m83, m85, Inn.refl'⟩ ?_
    rintro n138 α H140 ⟨j0, from1, seen2, list3, s148, f149, hi152, hh151, e141, m143, m145, m147, i150⟩ K157 k157
    obtain ⟨n153, z154, rfl, hz155, hn156⟩ := iter_succ hi152
    obtain ⟨β, rfl⟩ := has_ex hh151
    clear hh151
    replace hz155 : z_search_state_parents_l0 st_ st_2 st_3 st_8 st_9 st_10 list6 i7 y113 j0 from1 seen2 list3 = some z154 := hz155
    unfold z_search_state_parents_l0 at hz155
    obtain ⟨a158, n159, c160, rfl⟩ := m147.form
    refine w_seqk fun _ k161 => ?_
    refine w_seqk fun _ k162 => ?_
    refine g_' ?_
    refine q_ (i_ j0) ?_
    refine q_ (pt_ b_st 0) ?_
    refine q_ (pt_ b_st 0) ?_
    refine q_ (pt_ b_st 0) ?_
    refine q_ (pt_ b_st 0) ?_
    have u163 := (u110.frS e141 (Dj.app (hf19.djn (h_st.ltF.le e12.next)) (Dj.app (hf41.djn (h_st.ltF.le (ntr (ntr e12.next e18.next) e34.next))) (i88.dj (hf59.djn (h_st.ltF.le (ntr (ntr (ntr (ntr e12.next e18.next) e34.next) e40.next) e52.next))) (h_st.ltF.le (ntr (ntr (ntr (ntr (ntr e12.next e18.next) e34.next) e40.next) e52.next) e58.next))))))
    refine l_' (hd_st_) (aLoad Tryz.prog 23 (pt_ b_st 0) H140) (u163.ld (by kernel_rfl)) ?_
    refine q_ (i_ (gt list6 i7)) ?_
    obtain ⟨g164, r165⟩ := G_some hz155
    refine s_w (((gt list6 i7) + 1)) (k := .i64) (x := ((gt list6 i7) + 1)) (by kernel_rfl) (wrap64 (by have := g164; omega)) ?_
    obtain ⟨g166, r167⟩ := G_some r165
    have u168 := (u121.fr e141 (Dj.app (hf19.djn (h_st_.lt.le e12.next)) (Dj.app (hf41.djn (h_st_.lt.le (ntr (ntr e12.next e18.next) e34.next))) (i88.dj (hf59.djn (h_st_.lt.le (ntr (ntr (ntr (ntr e12.next e18.next) e34.next) e40.next) e52.next))) (h_st_.lt.le (ntr (ntr (ntr (ntr (ntr e12.next e18.next) e34.next) e40.next) e52.next) e58.next))))))
    refine l_' (elp hd_st_ 1 ((gt list6 i7) + 1).toNat 0) (aIndexAddr Tryz.prog 23 hd_st_ (i_ ((gt list6 i7) + 1))) (u168.idxb (by kernel_rfl) g166.1 g166.2) ?_
    refine l_' (i_ (gt st_ ((gt list6 i7) + 1))) (aLoad Tryz.prog 3 (elp hd_st_ 1 ((gt list6 i7) + 1).toNat 0) H140) (u168.ld g166.1 g166.2 (by kernel_rfl)) ?_
    refine q_ (.bool (decide (j0 < (gt st_ ((gt list6 i7) + 1))))) ?_
    refine s_nil (k162 _ _ ?_)
    refine w_condp (j0 < (gt st_ ((gt list6 i7) + 1))) (by kernel_rfl) rfl (fun h169 => ?_) (fun h169 => ?_)
    ·have r170 := ite_t h169 r167
     refine w_skip ?_
     refine k161 _ _ ?_
     refine w_seqk fun _ k171 => ?_
     refine w_block ?_
     refine w_seqk fun _ k172 => ?_
     refine g_' ?_
     refine q_ (pt_ b_st 0) ?_
     refine q_ (pt_ b_st 0) ?_
     refine q_ (pt_ b_st 0) ?_
     refine q_ (pt_ b_st 1) ?_
     refine l_' (hd_st_2) (aLoad Tryz.prog 23 (pt_ b_st 1) H140) (u163.ld (by kernel_rfl)) ?_
     refine q_ (i_ j0) ?_
     obtain ⟨g173, r174⟩ := G_some r170
     have u175 := ((((((u28.fr e34 Dj.nil_l).ext e40).fr e52 (hf41.djn (h_st_2.lt.le (ntr (ntr e12.next e18.next) e34.next)))).ext e58).fr e79 (Dj.app (hf19.djn (h_st_2.lt.le e12.next)) (Dj.app (hf41.djn (h_st_2.lt.le (ntr (ntr e12.next e18.next) e34.next))) (hf59.djn (h_st_2.lt.le (ntr (ntr (ntr (ntr e12.next e18.next) e34.next) e40.next) e52.next)))))).fr e141 (Dj.app (hf19.djn (h_st_2.lt.le e12.next)) (Dj.app (hf41.djn (h_st_2.lt.le (ntr (ntr e12.next e18.next) e34.next))) (i88.dj (hf59.djn (h_st_2.lt.le (ntr (ntr (ntr (ntr e12.next e18.next) e34.next) e40.next) e52.next))) (h_st_2.lt.le (ntr (ntr (ntr (ntr (ntr e12.next e18.next) e34.next) e40.next) e52.next) e58.next))))))
     refine l_' (elp hd_st_2 1 j0.toNat 0) (aIndexAddr Tryz.prog 23 hd_st_2 (i_ j0)) (u175.idxb (by kernel_rfl) g173.1 g173.2) ?_
     refine l_' (i_ (gt st_2 j0)) (aLoad Tryz.prog 3 (elp hd_st_2 1 j0.toNat 0) H140) (u175.ld g173.1 g173.2 (by kernel_rfl)) ?_
     refine q_ (i_ (gt st_2 j0)) ?_
     refine s_nil (k172 _ _ ?_)
     refine w_seqk fun _ k176 => ?_
     refine g_' ?_
     refine q_ (pt_ b_st 0) ?_
     refine q_ (pt_ b_st 0) ?_
     refine q_ (pt_ b_st 4) ?_
     refine l_' (pt_ b_st_7 0) (aLoad Tryz.prog 72 (pt_ b_st 4) H140) (u163.ld (by kernel_rfl)) ?_
     refine q_ (i_ (gt st_2 j0)) ?_
     have u177 := (u111.fr e141 (Dj.app (hf19.djn (h_st_8.lt.le e12.next)) (Dj.app (hf41.djn (h_st_8.lt.le (ntr (ntr e12.next e18.next) e34.next))) (i88.dj (hf59.djn (h_st_8.lt.le (ntr (ntr (ntr (ntr e12.next e18.next) e34.next) e40.next) e52.next))) (h_st_8.lt.le (ntr (ntr (ntr (ntr (ntr e12.next e18.next) e34.next) e40.next) e52.next) e58.next))))))
     have u178 := (u112.frS e141 (Dj.app (hf19.djn (h_st_7.ltF.le e12.next)) (Dj.app (hf41.djn (h_st_7.ltF.le (ntr (ntr e12.next e18.next) e34.next))) (i88.dj (hf59.djn (h_st_7.ltF.le (ntr (ntr (ntr (ntr e12.next e18.next) e34.next) e40.next) e52.next))) (h_st_7.ltF.le (ntr (ntr (ntr (ntr (ntr e12.next e18.next) e34.next) e40.next) e52.next) e58.next))))))
     obtain ⟨y179, hy180, r181⟩ := bind_some r174
     refine s_ck 31 #[pt_ b_st_7 0, i_ (gt st_2 j0)] (by kernel_rfl) (c_stamp_Stamp_Get e141.wf u177 u178 hy180) ?_
     rintro _ _ ⟨rfl, rfl⟩
     refine q_ (.tuple #[.int .u64 y179.1, .bool y179.2]) ?_
     refine q_ (.int .u64 y179.1) ?_
     refine q_ (.bool y179.2) ?_
     refine q_ (.int .u64 y179.1) ?_
     refine q_ (.bool y179.2) ?_
     refine s_nil (k176 _ _ ?_)
     refine w_seqk fun _ k184 => ?_
     obtain ⟨o185, hx186, r187⟩ := bind_some r181
     refine w_mid (fun α H188 => Has α [(0, pt_ b_st 0), (5, .slice a21 n22 c23), (6, .slice a43 n44 c45), (7, .slice a158 n159 c160), (8, i_ i7), (9, i_ (gt list6 i7)), (10, .int .u64 y113.1), (12, i_ j0), (13, i_ (gt st_2 j0)), (109, .bool o185)] ∧ H140 = H188) (fun _ k190 => ?_) (fun α H188 hM => ?_)
     ·refine g_' ?_
      refine q_ (.slice a43 n44 c45) ?_
      refine q_ (i_ (gt st_2 j0)) ?_
      obtain ⟨g192, r193⟩ := G_some hx186
      refine l_' (elp (.slice a43 n44 c45) 1 (gt st_2 j0).toNat 0) (aIndexAddr Tryz.prog 23 (.slice a43 n44 c45) (i_ (gt st_2 j0))) (m145.sq.idxb (by kernel_rfl) g192.1 g192.2) ?_
      refine l_' (i_ (gt seen2 (gt st_2 j0))) (aLoad Tryz.prog 3 (elp (.slice a43 n44 c45) 1 (gt st_2 j0).toNat 0) H140) (m145.sq.ld g192.1 g192.2 (by kernel_rfl)) ?_
      refine s_b ((gt seen2 (gt st_2 j0)) = 0) (by kernel_rfl) (fun h194 => ?_) (fun h194 => ?_)
      ·have r195 := ite_t h194 r193
       refine q_ (.bool true) ?_
       refine q_ (.int .u64 y179.1) ?_
       refine q_ (.int .u64 y113.1) ?_
       refine q_ (pt_ b_st 0) ?_
       refine q_ (pt_ b_st 0) ?_
       refine q_ (pt_ b_st 0) ?_
       refine q_ (pt_ b_st 2) ?_
       refine l_' (hd_st_3) (aLoad Tryz.prog 23 (pt_ b_st 2) H140) (u163.ld (by kernel_rfl)) ?_
       refine q_ (i_ j0) ?_
       obtain ⟨g196, r197⟩ := G_some r195
       have u198 := ((((((u29.fr e34 Dj.nil_l).ext e40).fr e52 (hf41.djn (h_st_3.lt.le (ntr (ntr e12.next e18.next) e34.next)))).ext e58).fr e79 (Dj.app (hf19.djn (h_st_3.lt.le e12.next)) (Dj.app (hf41.djn (h_st_3.lt.le (ntr (ntr e12.next e18.next) e34.next))) (hf59.djn (h_st_3.lt.le (ntr (ntr (ntr (ntr e12.next e18.next) e34.next) e40.next) e52.next)))))).fr e141 (Dj.app (hf19.djn (h_st_3.lt.le e12.next)) (Dj.app (hf41.djn (h_st_3.lt.le (ntr (ntr e12.next e18.next) e34.next))) (i88.dj (hf59.djn (h_st_3.lt.le (ntr (ntr (ntr (ntr e12.next e18.next) e34.next) e40.next) e52.next))) (h_st_3.lt.le (ntr (ntr (ntr (ntr (ntr e12.next e18.next) e34.next) e40.next) e52.next) e58.next))))))
       refine l_' (elp hd_st_3 1 j0.toNat 0) (aIndexAddr Tryz.prog 23 hd_st_3 (i_ j0)) (u198.idxb (by kernel_rfl) g173.1 g196) ?_
       refine l_' (i_ (gt st_3 j0)) (aLoad Tryz.prog 3 (elp hd_st_3 1 j0.toNat 0) H140) (u198.ld g173.1 g196 (by kernel_rfl)) ?_
       obtain ⟨g199, r200⟩ := G_some r197
       refine s_w ((gt st_3 j0)) (k := .u64) (x := (gt st_3 j0)) (by kernel_rfl) (wrapu64 g199) ?_
       obtain ⟨g201, r202⟩ := G_some r200
       refine s_w ((y113.1 + (gt st_3 j0))) (k := .u64) (x := (y113.1 + (gt st_3 j0))) (by kernel_rfl) (wrapu64 g201) ?_
       refine q_ (.bool (decide (y179.1 = (y113.1 + (gt st_3 j0))))) ?_
       refine q_ (.bool (decide (y179.1 = (y113.1 + (gt st_3 j0))))) ?_
       refine s_nil ?_
       obtain rfl := Option.some.inj r202
       exact k190 _ _ ⟨ha_, rfl⟩
      have r203 := ite_f h194 r193
      refine q_ (.bool false) ?_
      refine n_' ?_
      refine n_' ?_
      refine n_' ?_
      refine n_' ?_
      refine n_' ?_
      refine n_' ?_
      refine n_' ?_
      refine n_' ?_
      refine n_' ?_
      refine n_' ?_
      refine n_' ?_
      refine n_' ?_
      refine n_' ?_
      refine q_ (.bool false) ?_
      refine s_nil ?_
      obtain rfl := Option.some.inj r203
      exact k190 _ _ ⟨ha_, rfl⟩
     obtain ⟨hh191, rfl⟩ := hM
     obtain ⟨β, rfl⟩ := has_ex hh191
     clear hh191
     refine k184 _ _ ?_
     refine w_cond (o185) (by kernel_rfl) rfl (fun h204 => ?_) (fun h204 => ?_)
     ·have r205 := ite_t h204 r187
      refine w_seqk fun _ k206 => ?_
      refine g_' ?_
      refine q_ (.slice a43 n44 c45) ?_
      refine q_ (i_ (gt st_2 j0)) ?_
      obtain ⟨g207, r208⟩ := G_some r205
      refine l_' (elp (.slice a43 n44 c45) 1 (gt st_2 j0).toNat 0) (aIndexAddr Tryz.prog 23 (.slice a43 n44 c45) (i_ (gt st_2 j0))) (m145.sq.idxb (by kernel_rfl) g207.1 g207.2) ?_
      obtain ⟨H209, q210, e211, hm212⟩ := Ow.store (P := Tryz.prog) (t := 3) (off := 0) e141.wf m145 g207.1 g207.2 (i_ 1) [i_ 1] (by kernel_rfl) (by kernel_rfl) rfl 1 (Nat.le_of_ble_eq_true rfl) (by kernel_rfl)
      refine s_ek (undef) (by kernel_rfl) (map_ok q210) ?_
      refine s_nil (k206 _ _ ?_)
      refine w_seqk fun _ k213 => ?_
      refine g_' ?_
      refine q_ (.slice a21 n22 c23) ?_
      refine q_ (i_ (gt st_2 j0)) ?_
      refine q_ (i_ (gt list6 i7)) ?_
      obtain ⟨g214, r215⟩ := G_some r208
      have u216 := (m143.fr e211 (hf41.djn (hm20.lt.le e34.next)))
      refine l_' (elp (.slice a21 n22 c23) 1 (gt st_2 j0).toNat 0) (aIndexAddr Tryz.prog 23 (.slice a21 n22 c23) (i_ (gt st_2 j0))) (u216.sq.idxb (by kernel_rfl) g207.1 g214) ?_
      obtain ⟨H217, q218, e219, hm220⟩ := Ow.store (P := Tryz.prog) (t := 3) (off := 0) e211.wf u216 g207.1 g214 (i_ (gt list6 i7)) [i_ (gt list6 i7)] (by kernel_rfl) (by kernel_rfl) rfl (gt list6 i7) (Nat.le_of_ble_eq_true rfl) (by kernel_rfl)
      refine s_ek (undef) (by kernel_rfl) (map_ok q218) ?_
      refine s_nil (k213 _ _ ?_)
      refine g_' ?_
      refine q_ (.slice a158 n159 c160) ?_
      refine q_ (i_ (gt st_2 j0)) ?_
      refine s_owk (enc := (encI .i64)) (sz := 1) e219.wf [(gt st_2 j0)] 1 (by decide) (fun _ _ => rfl) (fun _ _ => rfl) rfl (by kernel_rfl) fun s221 f222 H223 e224 hf225 hm226 => ?_
      obtain ⟨a227, n228, c229, rfl⟩ := hm226.form
      have u231 := (((m147.fr e211 (Dj.symm (i150.dj (i88.dj (hf59.djn (hm42.lt.le e52.next)) (hm42.lt.le (ntr e52.next e58.next))) (hm42.lt.le (ntr (ntr e52.next e58.next) e79.next))))).fr e219 (Dj.symm (i150.dj (i88.dj (hf59.djn (hm20.lt.le (ntr (ntr e34.next e40.next) e52.next))) (hm20.lt.le (ntr (ntr (ntr e34.next e40.next) e52.next) e58.next))) (hm20.lt.le (ntr (ntr (ntr (ntr e34.next e40.next) e52.next) e58.next) e79.next))))).ext e224)
      obtain ⟨g232, r233⟩ := G_some r215
      obtain ⟨s234, H235, f236, q240, e237, hm238, hf239⟩ := Ow.append (P := Tryz.prog) 8 e224.wf u231 hm226.sq (fun _ _ => rfl) (at_ := #[23, 23]) rfl rfl (by kernel_rfl) (by kernel_rfl) (by decide) (by have := g232; first | omega | (simp only [List.length_cons, List.length_nil] at this ⊢; omega) | (simp at this ⊢; omega))
      obtain ⟨a241, n242, c243, rfl⟩ := hm238.form
      refine s_ek (.slice a241 n242 c243) (by kernel_rfl) (q240) ?_
      refine q_ (.slice a241 n242 c243) ?_
      refine s_nil (k171 _ _ ?_)
      refine g_' ?_
      refine q_ (i_ j0) ?_
      obtain ⟨g245, r246⟩ := G_some r233
      refine s_w ((j0 + 1)) (k := .i64) (x := (j0 + 1)) (by kernel_rfl) (wrap64 (by have := g245; omega)) ?_
      refine q_ (i_ (j0 + 1)) ?_
      refine s_nil ?_
      have u247 := ((hm220.ext e224).fr e237 (i150.dj (i88.dj (hf59.djn (hm20.lt.le (ntr (ntr e34.next e40.next) e52.next))) (hm20.lt.le (ntr (ntr (ntr e34.next e40.next) e52.next) e58.next))) (hm20.lt.le (ntr (ntr (ntr (ntr e34.next e40.next) e52.next) e58.next) e79.next))))
      have u248 := (((hm212.fr e219 (Dj.symm (hf41.djn (hm20.lt.le e34.next)))).ext e224).fr e237 (i150.dj (i88.dj (hf59.djn (hm42.lt.le e52.next)) (hm42.lt.le (ntr e52.next e58.next))) (hm42.lt.le (ntr (ntr e52.next e58.next) e79.next))))
      obtain rfl := Option.some.inj r246
      exact k157 n153 _ _ (Nat.lt_succ_self _) ⟨(j0 + 1), (from1.set (gt st_2 j0).toNat (gt list6 i7)), (seen2.set (gt st_2 j0).toNat 1), (list3 ++ [(gt st_2 j0)]), (.slice a241 n242 c243), f236, hn156, ha_, (FrS.step e79.wf ((FrS.step e79.wf (FrS.step e79.wf (FrS.step e79.wf (FrS.refl (W := (f16 ++ (f38 ++ f87))) e79.wf) e141 (Inn.app Inn.left (Inn.app (Inn.right Inn.left) (Inn.right (Inn.right Inn.refl'))))) e211 (Inn.right Inn.left)) e219 Inn.left).extR e224) e237 (Inn.trans (Inn.right (Inn.right Inn.refl')) (Nat.le_refl _) i150)), u247, u248, hm238, (Inn.trans (Inn.trans Inn.refl' (Nat.le_refl _) i150) (ntr (ntr (ntr e141.next e211.next) e219.next) e224.next) hf239)⟩
     have r249 := ite_bf h204 r187
     refine w_skip ?_
     refine k171 _ _ ?_
     refine g_' ?_
     refine q_ (i_ j0) ?_
     obtain ⟨g250, r251⟩ := G_some r249
     refine s_w ((j0 + 1)) (k := .i64) (x := (j0 + 1)) (by kernel_rfl) (wrap64 (by have := g250; omega)) ?_
     refine q_ (i_ (j0 + 1)) ?_
     refine s_nil ?_
     obtain rfl := Option.some.inj r251
     exact k157 n153 _ _ (Nat.lt_succ_self _) ⟨(j0 + 1), from1, seen2, list3, (.slice a158 n159 c160), f149, hn156, ha_, (FrS.step e79.wf (FrS.refl (W := (f16 ++ (f38 ++ f87))) e79.wf) e141 (Inn.app Inn.left (Inn.app (Inn.right Inn.left) (Inn.right (Inn.right Inn.refl'))))), m143, m145, m147, (Inn.trans Inn.refl' (Nat.le_refl _) i150)⟩
    have r252 := ite_f h169 r167
    refine w_exit (th_exit (th_exit (bl_eq ?_)))
    obtain rfl := Option.some.inj r252
    obtain rfl := it_inr hn156
    exact k136 _ _ ⟨(.slice a158 n159 c160), f149, ha_, (FrS.step e79.wf (FrS.refl (W := (f16 ++ (f38 ++ f87))) e79.wf) e141 (Inn.app Inn.left (Inn.app (Inn.right Inn.left) (Inn.right (Inn.right Inn.refl'))))), m143, m145, m147, (Inn.trans Inn.refl' (Nat.le_refl _) i150)⟩
   obtain ⟨s133, f134, hh137, e126, m128, m130, m132, i135⟩ := hM
   obtain ⟨β, rfl⟩ := has_ex hh137
   clear hh137
   obtain ⟨a253, n254, c255, rfl⟩ := m132.form
   refine k105 _ _ ?_
   refine g_' ?_
   refine q_ (i_ i7) ?_
   obtain ⟨g256, r257⟩ := G_some r124
   refine s_w ((i7 + 1)) (k := .i64) (x := (i7 + 1)) (by kernel_rfl) (wrap64 (by have := g256; omega)) ?_
   refine q_ (i_ (i7 + 1)) ?_
   refine s_nil ?_
   obtain rfl := Option.some.inj r257
   exact k97 n91 _ _ (Nat.lt_succ_self _) ⟨o122.1, o122.2.1, o122.2.2, (i7 + 1), (.slice a253 n254 c255), f134, hn94, ha_, (FrS.step e58.wf (FrS.step e58.wf (FrS.refl (W := (f16 ++ (f38 ++ f56))) e58.wf) e79 (Inn.app Inn.left (Inn.app (Inn.right Inn.left) (Inn.right (Inn.right Inn.refl'))))) e126 (Inn.app Inn.left (Inn.app (Inn.right Inn.left) (Inn.trans (Inn.right (Inn.right Inn.refl')) (Nat.le_refl _) i88)))), m128, m130, m132, (Inn.trans (Inn.trans Inn.refl' (Nat.le_refl _) i88) e79.next i135)⟩
  have r258 := ite_f h103 hz93
  refine w_exit (th_exit (th_exit (bl_eq ?_)))
  obtain rfl := Option.some.inj r258
  obtain rfl := it_inr hn94
  exact k74 _ _ ⟨ha_, (FrS.step e58.wf (FrS.refl (W := (f16 ++ (f38 ++ f56))) e58.wf) e79 (Inn.app Inn.left (Inn.app (Inn.right Inn.left) (Inn.right (Inn.right Inn.refl'))))), m81⟩
 obtain ⟨hh75, e71, m73⟩ := hM
 obtain ⟨β, rfl⟩ := has_ex hh75
 clear hh75
 refine k65 _ _ ?_
 refine w_seqk fun _ k259 => ?_
 refine g_' ?_
 refine q_ (.slice a21 n22 c23) ?_
 refine q_ (.slice a21 n22 c23) ?_
 refine s_nil (k259 _ _ ?_)
 refine w_ret ?_
 refine b_ret (fn := Tryz.f25) (vs := [.slice a21 n22 c23]) (aRes_tmp (by kernel_rfl) (rfl)) ?_
 obtain rfl := Option.some.inj r69
 exact ⟨(.slice a21 n22 c23), f16, rfl, (FrS.step wf ((FrS.step wf ((FrS.step wf ((FrS.step wf (FrS.refl (W := []) wf) e12 Inn.nil).extR e18) e34 Inn.nil).extR e40) e52 (hf41.fresh (ntr (ntr e12.next e18.next) e34.next))).extR e58) e71 (Inn.app (hf19.fresh e12.next) (Inn.app (hf41.fresh (ntr (ntr e12.next e18.next) e34.next)) (hf59.fresh (ntr (ntr (ntr (ntr e12.next e18.next) e34.next) e40.next) e52.next))))), m73, (hf19.fresh e12.next)⟩

theorem c_slices_Reverse {H : AH} {hd_s : Value} {fp_s : Fp} {s : List (Int)} {r : List (Int)}
    (wf : WF H) (h_s : Ow (encI .i64) 1 H hd_s s fp_s) (hr : z_slices_Reverse s = some r) :
    ACalls Tryz.prog 26 #[hd_s] H fun v H' => v = .tuple #[] ∧ FrS fp_s H H' ∧ Ow (encI .i64) 1 H' hd_s r fp_s := by
 refine acalls_of_body mixed Tryz.func26 rfl (Nat.le_of_ble_eq_true rfl) ?_
 unfold z_slices_Reverse at hr
 refine w_seqk fun _ k3 => ?_
 refine g_' ?_
 refine q_ (hd_s) ?_
 refine l_' (i_ (s.length : Int)) (aLen Tryz.prog 23 hd_s H) (h_s.sq.lenb (by kernel_rfl)) ?_
 obtain ⟨g4, r5⟩ := G_some hr
 refine s_w (((s.length : Int) - 1)) (k := .i64) (x := ((s.length : Int) - 1)) (by kernel_rfl) (wrap64 g4) ?_
 refine q_ (i_ 0) ?_
 refine q_ (i_ ((s.length : Int) - 1)) ?_
 refine s_nil (k3 _ _ ?_)
 obtain ⟨o6, hx7, r8⟩ := bind_some r5
 refine w_mid (fun α H9 => Has α [] ∧ FrS fp_s H H9 ∧ Ow (encI .i64) 1 H9 hd_s o6 fp_s) (fun _ k13 => ?_) (fun α H9 hM => ?_)
 ·refine w_block ?_
  obtain ⟨n15, hn16⟩ := loopO_iff.1 hx7
  refine w_loopn (fun n α H17 => ∃ (s0 : List (Int)), ∃ (i1 : Int), ∃ (j2 : Int), iterO (fun zz_ => z_slices_Reverse_l0 zz_.1 zz_.2.1 zz_.2.2) n (s0, i1, j2) = some o6 ∧ Has α [(0, hd_s), (2, i_ i1), (3, i_ j2)] ∧ FrS fp_s H H17 ∧ Ow (encI .i64) 1 H17 hd_s s0 fp_s) n15 ⟨s, 0, ((s.length : Int) - 1), hn16, ha_, (FrS.refl (W := fp_s) wf), h_s⟩ ?_
  rintro n15 α H17 ⟨s0, i1, j2, hi22, hh21, e18, m20⟩ K27 k27
  obtain ⟨n23, z24, rfl, hz25, hn26⟩ := iter_succ hi22
  obtain ⟨β, rfl⟩ := has_ex hh21
  clear hh21
  replace hz25 : z_slices_Reverse_l0 s0 i1 j2 = some z24 := hz25
  unfold z_slices_Reverse_l0 at hz25
  refine w_seqk fun _ k28 => ?_
  refine w_seqk fun _ k29 => ?_
  refine g_' ?_
  refine q_ (i_ i1) ?_
  refine q_ (i_ j2) ?_
  refine q_ (.bool (decide (i1 < j2))) ?_
  refine s_nil (k29 _ _ ?_)
  refine w_condp (i1 < j2) (by kernel_rfl) rfl (fun h30 => ?_) (fun h30 => ?_)
  ·have r31 := ite_t h30 hz25
   refine w_skip ?_
   refine k28 _ _ ?_
   refine w_seqk fun _ k32 => ?_
   refine w_block ?_
   refine w_draw [0, 1, 2, 3, 4, 5, 6, 7, 8, 9, 10, 11, 12, 13, 14, 15] (by kernel_rfl) ?_
   refine e_' (hd_s) ?_
   refine e_' (i_ i1) ?_
   refine e_' (hd_s) ?_
   refine e_' (i_ j2) ?_
   refine e_' (hd_s) ?_
   refine e_' (i_ j2) ?_
   obtain ⟨g33, r34⟩ := G_some r31
   refine m_' (elp hd_s 1 j2.toNat 0) (aIndexAddr Tryz.prog 23 hd_s (i_ j2)) (m20.sq.idxb (by kernel_rfl) g33.1 g33.2) ?_
   refine m_' (i_ (gt s0 j2)) (aLoad Tryz.prog 3 (elp hd_s 1 j2.toNat 0) H17) (m20.sq.ld g33.1 g33.2 (by kernel_rfl)) ?_
   refine e_' (hd_s) ?_
   refine e_' (i_ i1) ?_
   obtain ⟨g35, r36⟩ := G_some r34
   refine m_' (elp hd_s 1 i1.toNat 0) (aIndexAddr Tryz.prog 23 hd_s (i_ i1)) (m20.sq.idxb (by kernel_rfl) g35.1 g35.2) ?_
   refine m_' (i_ (gt s0 i1)) (aLoad Tryz.prog 3 (elp hd_s 1 i1.toNat 0) H17) (m20.sq.ld g35.1 g35.2 (by kernel_rfl)) ?_
   refine m_' (elp hd_s 1 i1.toNat 0) (aIndexAddr Tryz.prog 23 hd_s (i_ i1)) (m20.sq.idxb (by kernel_rfl) g35.1 g35.2) ?_
   obtain ⟨H37, q38, e39, hm40⟩ := Ow.store (P := Tryz.prog) (t := 3) (off := 0) e18.wf m20 g35.1 g35.2 (i_ (gt s0 j2)) [i_ (gt s0 j2)] (by kernel_rfl) (by kernel_rfl) rfl (gt s0 j2) (Nat.le_of_ble_eq_true rfl) (by kernel_rfl)
   refine d_ek (undef) (by kernel_rfl) (map_ok q38) (st_nil) ?_
   obtain ⟨g41, r42⟩ := G_some r36
   refine m_' (elp hd_s 1 j2.toNat 0) (aIndexAddr Tryz.prog 23 hd_s (i_ j2)) (hm40.sq.idxb (by kernel_rfl) g33.1 g41) ?_
   obtain ⟨H43, q44, e45, hm46⟩ := Ow.store (P := Tryz.prog) (t := 3) (off := 0) e39.wf hm40 g33.1 g41 (i_ (gt s0 i1)) [i_ (gt s0 i1)] (by kernel_rfl) (by kernel_rfl) rfl (gt s0 i1) (Nat.le_of_ble_eq_true rfl) (by kernel_rfl)
   refine d_ek (undef) (by kernel_rfl) (map_ok q44) (st_nil) ?_
   refine d_nil ?_
   refine k32 _ _ ?_
   refine g_' ?_
   refine q_ (i_ i1) ?_
   obtain ⟨g47, r48⟩ := G_some r42
   refine s_w ((i1 + 1)) (k := .i64) (x := (i1 + 1)) (by kernel_rfl) (wrap64 (by have := g47; omega)) ?_
   refine q_ (i_ j2) ?_
   obtain ⟨g49, r50⟩ := G_some r48
   refine s_w ((j2 - 1)) (k := .i64) (x := (j2 - 1)) (by kernel_rfl) (wrap64 g49) ?_
   refine q_ (i_ (i1 + 1)) ?_
   refine q_ (i_ (j2 - 1)) ?_
   refine s_nil ?_
   obtain rfl := Option.some.inj r50
   exact k27 n23 _ _ (Nat.lt_succ_self _) ⟨((s0.set i1.toNat (gt s0 j2)).set j2.toNat (gt s0 i1)), (i1 + 1), (j2 - 1), hn26, ha_, (FrS.step wf (FrS.step wf (FrS.step wf (FrS.refl (W := fp_s) wf) e18 Inn.refl') e39 Inn.refl') e45 Inn.refl'), hm46⟩
  have r51 := ite_f h30 hz25
  refine w_exit (th_exit (th_exit (bl_eq ?_)))
  obtain rfl := Option.some.inj r51
  obtain rfl := it_inr hn26
  exact k13 _ _ ⟨trivial, (FrS.step wf (FrS.refl (W := fp_s) wf) e18 Inn.refl'), m20⟩
 obtain ⟨hh14, e10, m12⟩ := hM
 obtain ⟨β, rfl⟩ := has_ex hh14
 clear hh14
 refine b_nrm (fn := Tryz.f26) (vs := []) (rfl) ?_
 obtain rfl := Option.some.inj r8
 exact ⟨rfl, (FrS.step wf (FrS.refl (W := fp_s) wf) e10 Inn.refl'), m12⟩

theorem c_search_Path {H : AH} {hd_First : Value} {fp_First : Fp} {hd_To : Value} {fp_To : Fp} {hd_Weight : Value} {fp_Weight : Fp} {First : List (Int)} {To : List (Int)} {Weight : List (Int)} {s : Int} {t : Int} {r : List (Int) × Er}
    (wf : WF H) (h_First : Sq (encI .i64) 1 H hd_First First fp_First) (h_To : Sq (encI .i64) 1 H hd_To To fp_To) (h_Weight : Sq (encI .i64) 1 H hd_Weight Weight fp_Weight) (hr : z_search_Path First To Weight s t = some r) :
    ACalls Tryz.prog 9 #[.agg #[hd_First, hd_To, hd_Weight], i_ s, i_ t] H fun v H' => ∃ (s3 : Value) (f4 : Fp) (v7 : Value) (f8 : Fp), v = .tuple #[s3, v7] ∧ FrS [] H H' ∧ Ow (encI .i64) 1 H' s3 r.1 f4 ∧ Ev 43 81 H' v7 r.2 f8 ∧ Inn [] H f4 ∧ Inn [] H f8 ∧ Dj f4 f8 := by
 refine acalls_of_body mixed Tryz.func9 rfl (Nat.le_of_ble_eq_true rfl) ?_
 unfold z_search_Path at hr
 refine w_seqk fun _ k12 => ?_
 refine g_' ?_
 refine s_rwl wf [hd_First, hd_To, hd_Weight] (one_cons (h_First.one1) (one_cons (h_To.one1) (one_cons (h_Weight.one1) (one_nil)))) (by kernel_rfl) fun b13 H14 e15 hb16 r17 => ?_
 refine q_ (.slice none 0 0) ?_
 refine q_ (.nilIface) ?_
 refine s_nil (k12 _ _ ?_)
 refine w_seqk fun _ k19 => ?_
 refine w_seqk fun _ k20 => ?_
 refine g_' ?_
 refine l_' (.agg #[hd_First, hd_To, hd_Weight]) (aLoad Tryz.prog 25 (pt_ b13 0) H14) (r17.ld (by kernel_rfl)) ?_
 refine q_ (i_ s) ?_
 refine q_ (i_ t) ?_
 refine s_owk (enc := (encI .i64)) (sz := 1) e15.wf [s, t] 2 (by decide) (fun _ _ => rfl) (fun _ _ => rfl) rfl (by kernel_rfl) fun s21 f22 H23 e24 hf25 hm26 => ?_
 obtain ⟨a27, n28, c29, rfl⟩ := hm26.form
 have u31 := ((h_First.ext e15).ext e24)
 have u32 := ((h_To.ext e15).ext e24)
 have u33 := ((h_Weight.ext e15).ext e24)
 obtain ⟨y34, hy35, r36⟩ := bind_some hr
 refine s_ck 21 #[.agg #[hd_First, hd_To, hd_Weight], .slice a27 n28 c29] (by kernel_rfl) (c_search_node e24.wf u31 u32 u33 hm26.sq hy35) ?_
 rintro v37 H39 ⟨_, f38, rfl, e40, m41, i42⟩
 refine q_ (v37) ?_
 refine s_nil (k20 _ _ ?_)
 refine w_seqk fun _ k44 => ?_
 refine g_' ?_
 refine q_ (v37) ?_
 rcases (m41).cases with ⟨h45, rfl⟩ | ⟨h45, t46, x47, rfl⟩
 ·have r48 := ite_t h45 r36
  refine q_ (.bool false) ?_
  refine s_nil (k44 _ _ ?_)
  refine w_cond false (by kernel_rfl) rfl (fun h => by cases h) (fun _ => ?_)
  refine w_skip ?_
  refine k19 _ _ ?_
  refine w_seqk fun _ k49 => ?_
  refine w_draw [0, 1, 2, 3, 4] (by kernel_rfl) ?_
  have u50 := ((r17.ext e24).frS e40 Dj.nil_l)
  refine d_fl (.agg #[hd_First, hd_To, hd_Weight]) (x := aLoad Tryz.prog 25 (pt_ b13 0) H39) (by kernel_rfl) (u50.ld (by kernel_rfl)) ?_
  refine e_' (i_ s) ?_
  obtain ⟨y51, hy52, r53⟩ := bind_some r48
  refine d_ck 23 #[] (by kernel_rfl) (c_search_free e40.wf hy52) ?_
  rintro _ H54 ⟨rfl, e55⟩
  have u56 := (u50.frS e55 Dj.nil_l)
  refine ⟨st_ql (y := aLoad Tryz.prog 25 (pt_ b13 0) H54) (by kernel_rfl) (u56.ld (by kernel_rfl)) (st_nil), ?_⟩
  have u57 := ((u31.fr e40 Dj.nil_l).fr e55 Dj.nil_l)
  have u58 := ((u32.fr e40 Dj.nil_l).fr e55 Dj.nil_l)
  have u59 := ((u33.fr e40 Dj.nil_l).fr e55 Dj.nil_l)
  obtain ⟨y60, hy61, r62⟩ := bind_some r53
  refine d_ck 22 #[.agg #[hd_First, hd_To, hd_Weight], i_ s, .agg #[i_ 4611686018427387904, i_ 4611686018427387904, .int .u64 18446744073709551615]] (by kernel_rfl) (c_search_run e55.wf u57 u58 u59 hy61) ?_
  rintro _ H76 ⟨s63, f64, s65, f66, b67, s68, f69, b70, s71, f72, s73, f74, b75, rfl, e77, m78, m79, m80, m81, m82, m83, m84, m85, i86, i87, i88, i89, i90, i91, i92, i93, d94, d95, d96, d97, d98, d99, d100, d101, d102, d103, d104, d105, d106, d107, d108, d109, d110, d111, d112, d113, d114, d115, d116, d117, d118, d119, d120, d121⟩
  obtain ⟨a130, n131, c132, rfl⟩ := m78.form
  obtain ⟨a133, n134, c135, rfl⟩ := m79.form
  obtain ⟨a136, n137, c138, rfl⟩ := m81.form
  obtain ⟨a139, n140, c141, rfl⟩ := m83.form
  obtain ⟨a142, n143, c144, rfl⟩ := m84.form
  refine ⟨st_anc (by kernel_rfl) (st_nil), ?_⟩
  refine e_' (pt_ b75 0) ?_
  refine d_nil ?_
  refine k49 _ _ ?_
  refine w_seqk fun _ k145 => ?_
  refine w_seqk fun _ k146 => ?_
  refine g_' ?_
  refine q_ (pt_ b75 0) ?_
  refine q_ (pt_ b75 0) ?_
  refine q_ (pt_ b75 6) ?_
  refine l_' (.slice a142 n143 c144) (aLoad Tryz.prog 73 (pt_ b75 6) H76) (m85.ld (by kernel_rfl)) ?_
  refine q_ (i_ t) ?_
  obtain ⟨g147, r148⟩ := G_some r62
  refine l_' (elp (.slice a142 n143 c144) 1 t.toNat 0) (aIndexAddr Tryz.prog 73 (.slice a142 n143 c144) (i_ t)) (m84.sq.idxb (by kernel_rfl) g147.1 g147.2) ?_
  refine l_' (.bool (gt y60.2.2.2.2.2.2 t)) (aLoad Tryz.prog 4 (elp (.slice a142 n143 c144) 1 t.toNat 0) H76) (m84.sq.ld g147.1 g147.2 (by kernel_rfl)) ?_
  refine q_ (.bool (!(gt y60.2.2.2.2.2.2 t))) ?_
  refine s_nil (k146 _ _ ?_)
  refine w_cond ((!(gt y60.2.2.2.2.2.2 t))) (by kernel_rfl) rfl (fun h149 => ?_) (fun h149 => ?_)
  ·have r150 := ite_t h149 r148
   refine w_seqk fun _ k151 => ?_
   refine g_' ?_
   refine q_ (.iface 43 (i_ 16)) ?_
   refine q_ (.slice none 0 0) ?_
   refine q_ (.iface 43 (i_ 16)) ?_
   refine s_nil (k151 _ _ ?_)
   refine w_ret (th_ret ?_)
   refine b_ret (fn := Tryz.f9) (vs := [.slice none 0 0, .iface 43 (i_ 16)]) (aRes_tmp (by kernel_rfl) (aRes_tmp (by kernel_rfl) (rfl))) ?_
   obtain rfl := Option.some.inj r150
   exact ⟨(.slice none 0 0), [], (.iface 43 (i_ 16)), [], rfl, (FrS.step wf (FrS.step wf (FrS.step wf (((FrS.refl (W := []) wf).extR e15).extR e24) e40 Inn.nil) e55 Inn.nil) e77 Inn.nil), (Ow.nil (by decide)), Ev.no, Inn.nil, Inn.nil, Dj.nil_l⟩
  have r152 := ite_bf h149 r148
  refine w_skip ?_
  refine k145 _ _ ?_
  refine w_seqk fun _ k153 => ?_
  refine g_' ?_
  refine q_ (pt_ b75 0) ?_
  refine q_ (i_ s) ?_
  have u154 := (u57.fr e77 Dj.nil_l)
  have u155 := (u58.fr e77 Dj.nil_l)
  have u156 := (u59.fr e77 Dj.nil_l)
  obtain ⟨y157, hy158, r159⟩ := bind_some r152
  refine s_ck 25 #[pt_ b75 0, i_ s] (by kernel_rfl) (c_search_state_parents e77.wf u154 u155 u156 m78.sq m79.sq m80 m81.sq m82 m83.sq m84.sq m85 hy158) ?_
  rintro s160 H162 ⟨_, f161, rfl, e163, m164, i165⟩
  obtain ⟨a167, n168, c169, rfl⟩ := m164.form
  refine q_ (.slice a167 n168 c169) ?_
  refine s_nil (k153 _ _ ?_)
  refine w_seqk fun _ k170 => ?_
  refine g_' ?_
  refine q_ (i_ t) ?_
  refine s_owk (enc := (encI .i64)) (sz := 1) e163.wf [t] 1 (by decide) (fun _ _ => rfl) (fun _ _ => rfl) rfl (by kernel_rfl) fun s171 f172 H173 e174 hf175 hm176 => ?_
  obtain ⟨a177, n178, c179, rfl⟩ := hm176.form
  refine q_ (.slice a177 n178 c179) ?_
  refine s_nil (k170 _ _ ?_)
  refine w_seqk fun _ k181 => ?_
  refine w_seqk fun _ k182 => ?_
  refine g_' ?_
  refine q_ (i_ t) ?_
  refine q_ (i_ t) ?_
  refine s_nil (k182 _ _ ?_)
  obtain ⟨o183, hx184, r185⟩ := bind_some r159
  refine w_mid (fun α H186 => ∃ (s190 : Value) (f191 : Fp), Has α [(11, s190)] ∧ FrS f172 H173 H186 ∧ Ow (encI .i64) 1 H186 s190 o183 f191 ∧ Inn f172 H173 f191) (fun _ k193 => ?_) (fun α H186 hM => ?_)
  ·refine w_block ?_
   obtain ⟨n195, hn196⟩ := loopO_iff.1 hx184
   refine w_loopn (fun n α H197 => ∃ (l0 : List (Int)), ∃ (v1 : Int), ∃ (s201 : Value), ∃ (f202 : Fp), iterO (fun zz_ => z_search_Path_l0 s y157 zz_.1 zz_.2) n (l0, v1) = some o183 ∧ Has α [(1, i_ s), (10, .slice a167 n168 c169), (11, s201), (12, i_ v1)] ∧ FrS f172 H173 H197 ∧ Ow (encI .i64) 1 H197 s201 l0 f202 ∧ Inn f172 H173 f202) n195 ⟨[t], t, (.slice a177 n178 c179), f172, hn196, ha_, (FrS.refl (W := f172) e174.wf), hm176, Inn.refl'⟩ ?_
   rintro n195 α H197 ⟨l0, v1, s201, f202, hi205, hh204, e198, m200, i203⟩ K210 k210
   obtain ⟨n206, z207, rfl, hz208, hn209⟩ := iter_succ hi205
   obtain ⟨β, rfl⟩ := has_ex hh204
   clear hh204
   replace hz208 : z_search_Path_l0 s y157 l0 v1 = some z207 := hz208
   unfold z_search_Path_l0 at hz208
   obtain ⟨a211, n212, c213, rfl⟩ := m200.form
   refine w_seqk fun _ k214 => ?_
   refine w_seqk fun _ k215 => ?_
   refine g_' ?_
   refine q_ (i_ v1) ?_
   refine q_ (i_ s) ?_
   refine q_ (.bool (!decide (v1 = s))) ?_
   refine s_nil (k215 _ _ ?_)
   refine w_condn (v1 = s) (by kernel_rfl) rfl (fun h216 => ?_) (fun h216 => ?_)
   ·have r217 := ite_f h216 hz208
    refine w_skip ?_
    refine k214 _ _ ?_
    refine w_block ?_
    refine w_seqk fun _ k218 => ?_
    refine g_' ?_
    refine q_ (.slice a167 n168 c169) ?_
    refine q_ (i_ v1) ?_
    obtain ⟨g219, r220⟩ := G_some r217
    have u221 := ((m164.ext e174).fr e198 (hf175.djn m164.lt))
    refine l_' (elp (.slice a167 n168 c169) 1 v1.toNat 0) (aIndexAddr Tryz.prog 23 (.slice a167 n168 c169) (i_ v1)) (u221.sq.idxb (by kernel_rfl) g219.1 g219.2) ?_
    refine l_' (i_ (gt y157 v1)) (aLoad Tryz.prog 3 (elp (.slice a167 n168 c169) 1 v1.toNat 0) H197) (u221.sq.ld g219.1 g219.2 (by kernel_rfl)) ?_
    refine q_ (i_ (gt y157 v1)) ?_
    refine s_nil (k218 _ _ ?_)
    refine g_' ?_
    refine q_ (.slice a211 n212 c213) ?_
    refine q_ (i_ (gt y157 v1)) ?_
    refine s_owk (enc := (encI .i64)) (sz := 1) e198.wf [(gt y157 v1)] 1 (by decide) (fun _ _ => rfl) (fun _ _ => rfl) rfl (by kernel_rfl) fun s222 f223 H224 e225 hf226 hm227 => ?_
    obtain ⟨a228, n229, c230, rfl⟩ := hm227.form
    have u232 := (m200.ext e225)
    obtain ⟨g233, r234⟩ := G_some r220
    obtain ⟨s235, H236, f237, q241, e238, hm239, hf240⟩ := Ow.append (P := Tryz.prog) 8 e225.wf u232 hm227.sq (fun _ _ => rfl) (at_ := #[23, 23]) rfl rfl (by kernel_rfl) (by kernel_rfl) (by decide) (by have := g233; first | omega | (simp only [List.length_cons, List.length_nil] at this ⊢; omega) | (simp at this ⊢; omega))
    obtain ⟨a242, n243, c244, rfl⟩ := hm239.form
    refine s_ek (.slice a242 n243 c244) (by kernel_rfl) (q241) ?_
    refine q_ (.slice a242 n243 c244) ?_
    refine s_nil ?_
    obtain rfl := Option.some.inj r234
    exact k210 n206 _ _ (Nat.lt_succ_self _) ⟨(l0 ++ [(gt y157 v1)]), (gt y157 v1), (.slice a242 n243 c244), f237, hn209, ha_, (FrS.step e174.wf ((FrS.step e174.wf (FrS.refl (W := f172) e174.wf) e198 Inn.refl').extR e225) e238 (Inn.trans Inn.refl' (Nat.le_refl _) i203)), hm239, (Inn.trans (Inn.trans Inn.refl' (Nat.le_refl _) i203) (ntr e198.next e225.next) hf240)⟩
   have r246 := ite_t h216 hz208
   refine w_exit (th_exit (th_exit (bl_eq ?_)))
   obtain rfl := Option.some.inj r246
   obtain rfl := it_inr hn209
   exact k193 _ _ ⟨(.slice a211 n212 c213), f202, ha_, (FrS.step e174.wf (FrS.refl (W := f172) e174.wf) e198 Inn.refl'), m200, (Inn.trans Inn.refl' (Nat.le_refl _) i203)⟩
  obtain ⟨s190, f191, hh194, e187, m189, i192⟩ := hM
  obtain ⟨β, rfl⟩ := has_ex hh194
  clear hh194
  obtain ⟨a247, n248, c249, rfl⟩ := m189.form
  refine k181 _ _ ?_
  refine w_seqk fun _ k250 => ?_
  refine g_' ?_
  refine q_ (.slice a247 n248 c249) ?_
  obtain ⟨y251, hy252, r253⟩ := bind_some r185
  refine s_ck 26 #[.slice a247 n248 c249] (by kernel_rfl) (c_slices_Reverse e187.wf m189 hy252) ?_
  rintro _ H254 ⟨rfl, e255, m256⟩
  refine s_nil (k250 _ _ ?_)
  refine w_seqk fun _ k257 => ?_
  refine g_' ?_
  refine q_ (.slice a247 n248 c249) ?_
  refine q_ (.slice a247 n248 c249) ?_
  refine q_ (.nilIface) ?_
  refine s_nil (k257 _ _ ?_)
  refine w_ret ?_
  refine b_ret (fn := Tryz.f9) (vs := [.slice a247 n248 c249, .nilIface]) (aRes_tmp (by kernel_rfl) (aRes_tmp (by kernel_rfl) (rfl))) ?_
  obtain rfl := Option.some.inj r253
  exact ⟨(.slice a247 n248 c249), f191, (.nilIface), [], rfl, (FrS.step wf (FrS.step wf ((FrS.step wf (FrS.step wf (FrS.step wf (FrS.step wf (((FrS.refl (W := []) wf).extR e15).extR e24) e40 Inn.nil) e55 Inn.nil) e77 Inn.nil) e163 Inn.nil).extR e174) e187 (hf175.fresh (ntr (ntr (ntr (ntr (ntr e15.next e24.next) e40.next) e55.next) e77.next) e163.next))) e255 (Inn.trans (hf175.fresh (ntr (ntr (ntr (ntr (ntr e15.next e24.next) e40.next) e55.next) e77.next) e163.next)) (ntr (ntr (ntr (ntr (ntr (ntr e15.next e24.next) e40.next) e55.next) e77.next) e163.next) e174.next) i192)), m256, Ev.nil, (Inn.trans (hf175.fresh (ntr (ntr (ntr (ntr (ntr e15.next e24.next) e40.next) e55.next) e77.next) e163.next)) (ntr (ntr (ntr (ntr (ntr (ntr e15.next e24.next) e40.next) e55.next) e77.next) e163.next) e174.next) i192), Inn.nil, Dj.nil_r⟩
 have r258 := ite_f h45 r36
 refine l_' (.bool true) (aBin Tryz.prog .neq 31 (.tmp 18) (.const .nilIface) (.iface t46 x47) .nilIface) (aBin_nnil (by kernel_rfl)) ?_
 refine s_nil (k44 _ _ ?_)
 refine w_cond true (by kernel_rfl) rfl (fun _ => ?_) (fun h => by cases h)
 refine w_seqk fun _ k259 => ?_
 refine g_' ?_
 refine q_ (.iface t46 x47) ?_
 refine q_ (.slice none 0 0) ?_
 refine q_ (.iface t46 x47) ?_
 refine s_nil (k259 _ _ ?_)
 refine w_ret (th_ret ?_)
 refine b_ret (fn := Tryz.f9) (vs := [.slice none 0 0, .iface t46 x47]) (aRes_tmp (by kernel_rfl) (aRes_tmp (by kernel_rfl) (rfl))) ?_
 obtain rfl := Option.some.inj r258
 exact ⟨(.slice none 0 0), [], (.iface t46 x47), f38, rfl, (FrS.step wf (((FrS.refl (W := []) wf).extR e15).extR e24) e40 Inn.nil), (Ow.nil (by decide)), m41, Inn.nil, (i42.fresh (ntr e15.next e24.next)), Dj.nil_l⟩

theorem c_viaductref04_SameRow {H : AH} {hd_a : Value} {fp_a : Fp} {hd_b : Value} {fp_b : Fp} {a : List (Int)} {b : List (Int)} {r : Bool}
    (wf : WF H) (h_a : Sq (encI .u64) 1 H hd_a a fp_a) (h_b : Sq (encI .u64) 1 H hd_b b fp_b) (hr : z_viaductref04_SameRow a b = some r) :
    ACalls Tryz.prog 10 #[hd_a, hd_b] H fun v H' => v = .bool r ∧ H = H' := by
 refine acalls_of_body mixed Tryz.func10 rfl (Nat.le_of_ble_eq_true rfl) ?_
 unfold z_viaductref04_SameRow at hr
 refine w_seqk fun _ k1 => ?_
 refine g_' ?_
 refine q_ (.bool false) ?_
 refine s_nil (k1 _ _ ?_)
 refine w_seqk fun _ k2 => ?_
 refine w_seqk fun _ k3 => ?_
 refine g_' ?_
 refine q_ (hd_a) ?_
 refine l_' (i_ (a.length : Int)) (aLen Tryz.prog 29 hd_a H) (h_a.lenb (by kernel_rfl)) ?_
 refine q_ (hd_b) ?_
 refine l_' (i_ (b.length : Int)) (aLen Tryz.prog 29 hd_b H) (h_b.lenb (by kernel_rfl)) ?_
 refine q_ (.bool (!decide ((a.length : Int) = (b.length : Int)))) ?_
 refine s_nil (k3 _ _ ?_)
 refine w_condn ((a.length : Int) = (b.length : Int)) (by kernel_rfl) rfl (fun h4 => ?_) (fun h4 => ?_)
 ·have r5 := ite_f h4 hr
  refine w_seqk fun _ k6 => ?_
  refine g_' ?_
  refine q_ (.bool false) ?_
  refine s_nil (k6 _ _ ?_)
  refine w_ret (th_ret ?_)
  refine b_ret (fn := Tryz.f10) (vs := [.bool false]) (aRes_tmp (by kernel_rfl) (rfl)) ?_
  obtain rfl := Option.some.inj r5
  exact ⟨rfl, rfl⟩
 have r7 := ite_t h4 hr
 refine w_skip ?_
 refine k2 _ _ ?_
 refine w_seqk fun _ k8 => ?_
 refine w_seqk fun _ k9 => ?_
 refine g_' ?_
 refine q_ (hd_a) ?_
 refine l_' (i_ (a.length : Int)) (aLen Tryz.prog 29 hd_a H) (h_a.lenb (by kernel_rfl)) ?_
 refine q_ (i_ 0) ?_
 refine s_nil (k9 _ _ ?_)
 obtain ⟨z13, hx11, r12⟩ := bind_some r7
 refine w_mid (fun α H14 => ∃ o10, z13 = Sum.inr o10 ∧ Has α [] ∧ H = H14) (fun _ k16 => ?_) (fun α H14 hM => ?_)
 ·refine w_block ?_
  obtain ⟨n18, hn19⟩ := loopO_iff.1 hx11
  refine w_loopn (fun n α H20 => ∃ (i0 : Int), iterO (fun zz_ => z_viaductref04_SameRow_l0 a b zz_) n i0 = some z13 ∧ Has α [(0, hd_a), (1, hd_b), (12, i_ (a.length : Int)), (13, i_ i0)] ∧ H = H20) n18 ⟨0, hn19, ha_, rfl⟩ ?_
  rintro n18 α H20 ⟨i0, hi23, hh22, rfl⟩ K28 k28
  obtain ⟨n24, z25, rfl, hz26, hn27⟩ := iter_succ hi23
  obtain ⟨β, rfl⟩ := has_ex hh22
  clear hh22
  replace hz26 : z_viaductref04_SameRow_l0 a b i0 = some z25 := hz26
  unfold z_viaductref04_SameRow_l0 at hz26
  refine w_seqk fun _ k29 => ?_
  refine g_' ?_
  refine q_ (.bool (decide (i0 < (a.length : Int)))) ?_
  refine s_nil (k29 _ _ ?_)
  refine w_seqk fun _ k30 => ?_
  refine w_condp (i0 < (a.length : Int)) (by kernel_rfl) rfl (fun h31 => ?_) (fun h31 => ?_)
  ·have r32 := ite_t h31 hz26
   refine w_skip ?_
   refine k30 _ _ ?_
   refine w_seqk fun _ k33 => ?_
   refine w_block ?_
   refine w_seqk fun _ k34 => ?_
   refine g_' ?_
   refine q_ (i_ i0) ?_
   refine q_ (i_ i0) ?_
   refine s_nil (k34 _ _ ?_)
   refine w_seqk fun _ k35 => ?_
   refine w_draw [0, 1, 2, 3, 4, 5, 6, 7, 8] (by kernel_rfl) ?_
   refine e_' (hd_a) ?_
   refine e_' (i_ i0) ?_
   obtain ⟨g36, r37⟩ := G_some r32
   refine m_' (elp hd_a 1 i0.toNat 0) (aIndexAddr Tryz.prog 29 hd_a (i_ i0)) (h_a.idxb (by kernel_rfl) g36 h31) ?_
   refine m_' (.int .u64 (gt a i0)) (aLoad Tryz.prog 37 (elp hd_a 1 i0.toNat 0) H) (h_a.ld g36 h31 (by kernel_rfl)) ?_
   refine e_' (hd_b) ?_
   refine e_' (i_ i0) ?_
   obtain ⟨g38, r39⟩ := G_some r37
   refine m_' (elp hd_b 1 i0.toNat 0) (aIndexAddr Tryz.prog 29 hd_b (i_ i0)) (h_b.idxb (by kernel_rfl) g36 g38) ?_
   refine m_' (.int .u64 (gt b i0)) (aLoad Tryz.prog 37 (elp hd_b 1 i0.toNat 0) H) (h_b.ld g36 g38 (by kernel_rfl)) ?_
   refine e_' (.bool (!decide ((gt a i0) = (gt b i0)))) ?_
   refine d_nil ?_
   refine k35 _ _ ?_
   refine w_condn ((gt a i0) = (gt b i0)) (by kernel_rfl) rfl (fun h40 => ?_) (fun h40 => ?_)
   ·have r41 := ite_f h40 r39
    refine w_seqk fun _ k42 => ?_
    refine g_' ?_
    refine q_ (.bool false) ?_
    refine s_nil (k42 _ _ ?_)
    refine w_ret (bl_ret (th_ret (th_ret (bl_ret (th_ret (th_ret ?_))))))
    obtain ⟨v43, hv44, hz45⟩ := map_some r41
    subst hz45
    obtain rfl := it_inr hn27
    have hq46 := elim_inl r12
    rw [hq46] at hv44
    refine b_ret (fn := Tryz.f10) (vs := [.bool false]) (aRes_tmp (by kernel_rfl) (rfl)) ?_
    obtain rfl := Option.some.inj hv44
    exact ⟨rfl, rfl⟩
   have r47 := ite_t h40 r39
   refine w_skip ?_
   refine k33 _ _ ?_
   refine g_' ?_
   obtain ⟨g48, r49⟩ := G_some r47
   refine s_w ((i0 + 1)) (k := .i64) (x := (i0 + 1)) (by kernel_rfl) (wrap64 (by have := g48; omega)) ?_
   refine q_ (i_ (i0 + 1)) ?_
   refine s_nil ?_
   obtain rfl := Option.some.inj r49
   exact k28 n24 _ _ (Nat.lt_succ_self _) ⟨(i0 + 1), hn27, ha_, rfl⟩
  have r50 := ite_f h31 hz26
  refine w_exit (th_exit (th_exit (bl_eq ?_)))
  obtain rfl := Option.some.inj r50
  obtain rfl := it_inr hn27
  exact k16 _ _ ⟨_, rfl, trivial, rfl⟩
 obtain ⟨o10, rfl, hh17, rfl⟩ := hM
 have r51 := elim_inr r12
 obtain ⟨β, rfl⟩ := has_ex hh17
 clear hh17
 refine k8 _ _ ?_
 refine w_seqk fun _ k52 => ?_
 refine g_' ?_
 refine q_ (.bool true) ?_
 refine s_nil (k52 _ _ ?_)
 refine w_ret ?_
 refine b_ret (fn := Tryz.f10) (vs := [.bool true]) (aRes_tmp (by kernel_rfl) (rfl)) ?_
 obtain rfl := Option.some.inj r51
 exact ⟨rfl, rfl⟩

theorem c_viaductref01_E {H : AH} {n_ : Int} {r : Int}
    (wf : WF H) (hr : z_viaductref01_E n_ = some r) :
    ACalls Tryz.prog 12 #[i_ n_] H fun v H' => v = .agg #[i_ r, .slice none 0 0] ∧ FrS [] H H' := by
 refine acalls_of_body mixed Tryz.func12 rfl (Nat.le_of_ble_eq_true rfl) ?_
 unfold z_viaductref01_E at hr
 refine w_seqk fun _ k1 => ?_
 refine g_' ?_
 refine s_rwk wf [i_ 0, .slice none 0 0] (by kernel_rfl) fun b2 H3 e4 hb5 r6 => ?_
 refine s_nil (k1 _ _ ?_)
 refine w_seqk fun _ k8 => ?_
 refine g_' ?_
 refine q_ (i_ n_) ?_
 refine q_ (.agg #[i_ n_, .slice none 0 0]) ?_
 obtain ⟨H9, q10, e11, r12⟩ := Row.store (P := Tryz.prog) (t := 41) (p := 0) e4.wf r6 (.agg #[i_ n_, .slice none 0 0]) [i_ n_, .slice none 0 0] (by kernel_rfl) (by kernel_rfl) (one_cons (rfl) (one_cons (rfl) (one_nil))) (Nat.le_of_ble_eq_true (by kernel_rfl)) [i_ n_, .slice none 0 0] (by kernel_rfl)
 refine s_ek (undef) (by kernel_rfl) (map_ok q10) ?_
 refine s_nil (k8 _ _ ?_)
 refine w_ret ?_
 refine b_ret (fn := Tryz.f12) (vs := [.agg #[i_ n_, .slice none 0 0]]) (aRes_cell (Eq.trans (b := aLoad Tryz.prog 41 (pt_ b2 0) H9) (by kernel_rfl) (r12.ld (by kernel_rfl))) (rfl)) ?_
 obtain rfl := Option.some.inj hr
 exact ⟨rfl, (FrS.step wf ((FrS.refl (W := []) wf).extR e4) e11 (hb5.fresh (Nat.le_refl _)))⟩

theorem c_viaductref01_Err_Bad {H : AH} {hd_Places : Value} {fp_Places : Fp} {Code : Int} {Places : List (Int × Int)} {r : Bool}
    (wf : WF H) (h_Places : Sq enc_i64_i64 2 H hd_Places Places fp_Places) (hr : z_viaductref01_Err_Bad Code Places = some r) :
    ACalls Tryz.prog 27 #[.agg #[i_ Code, hd_Places]] H fun v H' => v = .bool r ∧ FrS [] H H' := by
 refine acalls_of_body mixed Tryz.func27 rfl (Nat.le_of_ble_eq_true rfl) ?_
 unfold z_viaductref01_Err_Bad at hr
 refine w_seqk fun _ k1 => ?_
 refine g_' ?_
 refine s_rwl wf [i_ Code, hd_Places] (one_cons (rfl) (one_cons (h_Places.one1) (one_nil))) (by kernel_rfl) fun b2 H3 e4 hb5 r6 => ?_
 refine q_ (.bool false) ?_
 refine s_nil (k1 _ _ ?_)
 refine w_seqk fun _ k8 => ?_
 refine g_' ?_
 refine q_ (pt_ b2 0) ?_
 refine l_' (i_ Code) (aLoad Tryz.prog 3 (pt_ b2 0) H3) (r6.ld (by kernel_rfl)) ?_
 refine s_bn (Code = 0) (by kernel_rfl) (fun h9 => ?_) (fun h9 => ?_)
 ·have r10 := ite_t h9 hr
  refine q_ (.bool false) ?_
  refine q_ (pt_ b2 1) ?_
  refine l_' (hd_Places) (aLoad Tryz.prog 39 (pt_ b2 1) H3) (r6.ld (by kernel_rfl)) ?_
  have u11 := (h_Places.ext e4)
  refine l_' (i_ (Places.length : Int)) (aLen Tryz.prog 39 hd_Places H3) (u11.lenb (by kernel_rfl)) ?_
  refine q_ (.bool (decide ((Places.length : Int) > 0))) ?_
  refine q_ (.bool (decide ((Places.length : Int) > 0))) ?_
  refine q_ (.bool (decide ((Places.length : Int) > 0))) ?_
  refine s_nil (k8 _ _ ?_)
  refine w_ret ?_
  refine b_ret (fn := Tryz.f27) (vs := [.bool (decide ((Places.length : Int) > 0))]) (aRes_tmp (by kernel_rfl) (rfl)) ?_
  obtain rfl := Option.some.inj r10
  exact ⟨rfl, ((FrS.refl (W := []) wf).extR e4)⟩
 have r12 := ite_f h9 hr
 refine q_ (.bool true) ?_
 refine n_' ?_
 refine n_' ?_
 refine n_' ?_
 refine n_' ?_
 refine q_ (.bool true) ?_
 refine q_ (.bool true) ?_
 refine s_nil (k8 _ _ ?_)
 refine w_ret ?_
 refine b_ret (fn := Tryz.f27) (vs := [.bool true]) (aRes_tmp (by kernel_rfl) (rfl)) ?_
 obtain rfl := Option.some.inj r12
 exact ⟨rfl, ((FrS.refl (W := []) wf).extR e4)⟩


end Go.Vd

/-! (KSf5) -/

set_option maxRecDepth 100000
set_option maxHeartbeats 4000000
set_option linter.unusedVariables false
namespace Go.Vd
open Go.Proofs
attribute [local irreducible] wpSeq wpOrd aWp
theorem c_viaductseen_Same {H : AH} {ev_err : Value} {fp_err : Fp} {hd_Places : Value} {fp_Places : Fp} {err : Er} {Code : Int} {Places : List (Int × Int)} {r : Bool}
    (wf : WF H) (h_err : Ev 43 81 H ev_err err fp_err) (h_Places : Sq enc_i64_i64 2 H hd_Places Places fp_Places) (hr : z_viaductseen_Same err Code Places = some r) :
    ACalls Tryz.prog 11 #[ev_err, .agg #[i_ Code, hd_Places]] H fun v H' => v = .bool r ∧ FrS [] H H' := by
 refine acalls_of_body mixed Tryz.func11 rfl (Nat.le_of_ble_eq_true rfl) ?_
 unfold z_viaductseen_Same at hr
 refine w_seqk fun _ k1 => ?_
 refine g_' ?_
 refine s_rwl wf [i_ Code, hd_Places] (one_cons (rfl) (one_cons (h_Places.one1) (one_nil))) (by kernel_rfl) fun b2 H3 e4 hb5 r6 => ?_
 refine q_ (.bool false) ?_
 refine s_nil (k1 _ _ ?_)
 refine w_seqk fun _ k8 => ?_
 refine w_seqk fun _ k9 => ?_
 refine g_' ?_
 refine l_' (.agg #[i_ Code, hd_Places]) (aLoad Tryz.prog 41 (pt_ b2 0) H3) (r6.ld (by kernel_rfl)) ?_
 have u10 := (h_Places.ext e4)
 obtain ⟨y11, hy12, r13⟩ := bind_some hr
 refine s_ck 27 #[.agg #[i_ Code, hd_Places]] (by kernel_rfl) (c_viaductref01_Err_Bad e4.wf u10 hy12) ?_
 rintro _ H14 ⟨rfl, e15⟩
 refine q_ (.bool (!y11)) ?_
 refine s_nil (k9 _ _ ?_)
 refine w_cond ((!y11)) (by kernel_rfl) rfl (fun h16 => ?_) (fun h16 => ?_)
 ·have r17 := ite_t h16 r13
  refine w_seqk fun _ k18 => ?_
  refine g_' ?_
  refine q_ (ev_err) ?_
  have u22 := ((h_err.ext e4).fr e15 Dj.nil_l)
  rcases (u22).cases with ⟨h19, rfl⟩ | ⟨h19, t20, x21, rfl⟩
  ·have r23 := ite_t h19 r17
   refine q_ (.bool true) ?_
   refine q_ (.bool true) ?_
   refine s_nil (k18 _ _ ?_)
   refine w_ret (th_ret ?_)
   refine b_ret (fn := Tryz.f11) (vs := [.bool true]) (aRes_tmp (by kernel_rfl) (rfl)) ?_
   obtain rfl := Option.some.inj r23
   exact ⟨rfl, (FrS.step wf ((FrS.refl (W := []) wf).extR e4) e15 Inn.nil)⟩
  have r24 := ite_f h19 r17
  refine l_' (.bool false) (aBin Tryz.prog .eql 31 (.tmp 15) (.const .nilIface) (.iface t20 x21) .nilIface) (aBin_nil (by kernel_rfl)) ?_
  refine q_ (.bool false) ?_
  refine s_nil (k18 _ _ ?_)
  refine w_ret (th_ret ?_)
  refine b_ret (fn := Tryz.f11) (vs := [.bool false]) (aRes_tmp (by kernel_rfl) (rfl)) ?_
  obtain rfl := Option.some.inj r24
  exact ⟨rfl, (FrS.step wf ((FrS.refl (W := []) wf).extR e4) e15 Inn.nil)⟩
 have r25 := ite_bf h16 r13
 refine w_skip ?_
 refine k8 _ _ ?_
 refine w_seqk fun _ k26 => ?_
 refine w_seqk fun _ k27 => ?_
 refine g_' ?_
 refine q_ (ev_err) ?_
 have u31 := ((h_err.ext e4).fr e15 Dj.nil_l)
 rcases (u31).cases with ⟨h28, rfl⟩ | ⟨h28, t29, x30, rfl⟩
 ·have r32 := ite_t h28 r25
  refine q_ (.bool true) ?_
  refine s_nil (k27 _ _ ?_)
  refine w_cond true (by kernel_rfl) rfl (fun _ => ?_) (fun h => by cases h)
  refine w_seqk fun _ k33 => ?_
  refine g_' ?_
  refine q_ (.bool false) ?_
  refine s_nil (k33 _ _ ?_)
  refine w_ret (th_ret ?_)
  refine b_ret (fn := Tryz.f11) (vs := [.bool false]) (aRes_tmp (by kernel_rfl) (rfl)) ?_
  obtain rfl := Option.some.inj r32
  exact ⟨rfl, (FrS.step wf ((FrS.refl (W := []) wf).extR e4) e15 Inn.nil)⟩
 have r34 := ite_f h28 r25
 refine l_' (.bool false) (aBin Tryz.prog .eql 31 (.tmp 17) (.const .nilIface) (.iface t29 x30) .nilIface) (aBin_nil (by kernel_rfl)) ?_
 refine s_nil (k27 _ _ ?_)
 refine w_cond false (by kernel_rfl) rfl (fun h => by cases h) (fun _ => ?_)
 refine w_skip ?_
 refine k26 _ _ ?_
 refine w_seqk fun _ k35 => ?_
 refine g_' ?_
 refine q_ (.iface t29 x30) ?_
 refine q_ (.iface t29 x30) ?_
 refine s_nil (k35 _ _ ?_)
 refine w_seqk fun _ k36 => ?_
 refine w_seqk fun _ k37 => ?_
 refine g_' ?_
 refine q_ (pt_ b2 1) ?_
 have u38 := (r6.frS e15 Dj.nil_l)
 refine l_' (hd_Places) (aLoad Tryz.prog 39 (pt_ b2 1) H14) (u38.ld (by kernel_rfl)) ?_
 have u39 := (u10.fr e15 Dj.nil_l)
 refine l_' (i_ (Places.length : Int)) (aLen Tryz.prog 39 hd_Places H14) (u39.lenb (by kernel_rfl)) ?_
 refine q_ (i_ 0) ?_
 refine s_nil (k37 _ _ ?_)
 obtain ⟨z43, hx41, r42⟩ := bind_some r34
 refine w_mid (fun α H44 => ∃ o40, z43 = Sum.inr o40 ∧ ∃ (v48 : Value), Has α [(0, .iface t29 x30), (3, pt_ b2 0), (5, v48)] ∧ FrS [] H14 H44 ∧ Ev 43 81 H44 v48 o40 fp_err) (fun _ k49 => ?_) (fun α H44 hM => ?_)
 ·refine w_block ?_
  obtain ⟨n51, hn52⟩ := loopO_iff.1 hx41
  refine w_loopn (fun n α H53 => ∃ (i0 : Int), ∃ (e1 : Er), ∃ (v57 : Value), iterO (fun zz_ => z_viaductseen_Same_l0 Places zz_.1 zz_.2) n (i0, e1) = some z43 ∧ Has α [(0, .iface t29 x30), (3, pt_ b2 0), (5, v57), (21, hd_Places), (22, i_ (Places.length : Int)), (23, i_ i0)] ∧ FrS [] H14 H53 ∧ Ev 43 81 H53 v57 e1 fp_err) n51 ⟨0, err, (.iface t29 x30), hn52, ha_, (FrS.refl (W := []) e15.wf), u31⟩ ?_
  rintro n51 α H53 ⟨i0, e1, v57, hi59, hh58, e54, m56⟩ K64 k64
  obtain ⟨n60, z61, rfl, hz62, hn63⟩ := iter_succ hi59
  obtain ⟨β, rfl⟩ := has_ex hh58
  clear hh58
  replace hz62 : z_viaductseen_Same_l0 Places i0 e1 = some z61 := hz62
  unfold z_viaductseen_Same_l0 at hz62
  refine w_seqk fun _ k65 => ?_
  refine g_' ?_
  refine q_ (.bool (decide (i0 < (Places.length : Int)))) ?_
  refine s_nil (k65 _ _ ?_)
  refine w_seqk fun _ k66 => ?_
  refine w_condp (i0 < (Places.length : Int)) (by kernel_rfl) rfl (fun h67 => ?_) (fun h67 => ?_)
  ·have r68 := ite_t h67 hz62
   refine w_skip ?_
   refine k66 _ _ ?_
   refine w_seqk fun _ k69 => ?_
   refine w_block ?_
   refine w_seqk fun _ k70 => ?_
   refine g_' ?_
   obtain ⟨g71, r72⟩ := G_some r68
   have u73 := (u39.fr e54 Dj.nil_l)
   refine l_' (elp hd_Places 2 i0.toNat 0) (aIndexAddr Tryz.prog 39 hd_Places (i_ i0)) (u73.idxb (by kernel_rfl) g71 h67) ?_
   refine l_' (.agg #[i_ ((gt Places i0).1), i_ ((gt Places i0).2)]) (aLoad Tryz.prog 80 (elp hd_Places 2 i0.toNat 0) H53) (u73.ld g71 h67 (by kernel_rfl)) ?_
   refine s_rwk e54.wf [i_ 0, i_ 0] (by kernel_rfl) fun b74 H75 e76 hb77 r78 => ?_
   obtain ⟨H80, q81, e82, r83⟩ := Row.store (P := Tryz.prog) (t := 80) (p := 0) e76.wf r78 (.agg #[i_ ((gt Places i0).1), i_ ((gt Places i0).2)]) [i_ ((gt Places i0).1), i_ ((gt Places i0).2)] (by kernel_rfl) (by kernel_rfl) (one_cons (rfl) (one_cons (rfl) (one_nil))) (Nat.le_of_ble_eq_true (by kernel_rfl)) [i_ ((gt Places i0).1), i_ ((gt Places i0).2)] (by kernel_rfl)
   refine s_ek (undef) (by kernel_rfl) (map_ok q81) ?_
   refine s_nil (k70 _ _ ?_)
   refine w_seqk fun _ k84 => ?_
   refine g_' ?_
   refine s_rwk e82.wf [.pointer none] (by kernel_rfl) fun b85 H86 e87 hb88 r89 => ?_
   refine s_nil (k84 _ _ ?_)
   refine w_seqk fun _ k91 => ?_
   refine w_seqk fun _ k92 => ?_
   refine w_draw [0, 1, 2, 3, 4, 5, 6, 7, 8, 9, 10, 11, 12, 13, 14, 15] (by kernel_rfl) ?_
   refine e_' (v57) ?_
   refine e_' (.iface 83 (pt_ b85 0)) ?_
   by_cases h93 : Er.isAt e1 = true
   ·have r94 := ite_t h93 r72
    have u103 := (((m56.ext e76).fr e82 (hb77.djn (h_err.lt.le (ntr (ntr e4.next e15.next) e54.next)))).ext e87)
    refine d_ck 28 #[v57, .iface 83 (pt_ b85 0)] (by kernel_rfl) (a_asF_at e87.wf r89 (hb88.djn (h_err.lt.le (ntr (ntr (ntr (ntr e4.next e15.next) e54.next) e76.next) e82.next))) u103 h93) ?_
    rintro _ H95 ⟨rfl, e96, b98, u99, -, i100, r97, r101, v102⟩
    refine ⟨st_nil, ?_⟩
    refine e_' (.bool false) ?_
    refine e_' (.bool false) ?_
    refine m_' (pt_ b98 0) (aLoad Tryz.prog 81 (pt_ b85 0) H95) (r97.ld (by kernel_rfl)) ?_
    refine e_' (.bool false) ?_
    refine e_' (.bool false) ?_
    refine e_' (.bool false) ?_
    refine m_' (pt_ b98 0) (aLoad Tryz.prog 81 (pt_ b85 0) H95) (r97.ld (by kernel_rfl)) ?_
    refine e_' (pt_ b98 0) ?_
    refine e_' (pt_ b98 0) ?_
    refine m_' (.agg #[i_ (Er.fk e1), i_ (Er.fi e1)]) (aLoad Tryz.prog 80 (pt_ b98 0) H95) (r101.ld (by kernel_rfl)) ?_
    have u106 := ((r83.ext e87).frS e96 (hb88.djn (r78.ltF.le e82.next)))
    refine m_' (.agg #[i_ ((gt Places i0).1), i_ ((gt Places i0).2)]) (aLoad Tryz.prog 80 (pt_ b74 0) H95) (u106.ld (by kernel_rfl)) ?_
    refine m_' (.bool (!decide ((Er.fk e1) = ((gt Places i0).1) ∧ (Er.fi e1) = ((gt Places i0).2)))) (aBin Tryz.prog .neq 80 (.tmp 39) (.tmp 40) (.agg #[i_ (Er.fk e1), i_ (Er.fi e1)]) (.agg #[i_ ((gt Places i0).1), i_ ((gt Places i0).2)])) (aBin_neq80 _ _ (Er.fk e1) (Er.fi e1) ((gt Places i0).1) ((gt Places i0).2)) ?_
    refine e_' (.bool (!decide ((Er.fk e1) = ((gt Places i0).1) ∧ (Er.fi e1) = ((gt Places i0).2)))) ?_
    refine d_nil ?_
    refine k92 _ _ ?_
    refine w_condn ((Er.fk e1) = ((gt Places i0).1) ∧ (Er.fi e1) = ((gt Places i0).2)) (by kernel_rfl) rfl (fun h107 => ?_) (fun h107 => ?_)
    ·have r108 := ite_f h107 r94
     refine w_seqk fun _ k109 => ?_
     refine g_' ?_
     refine q_ (.bool false) ?_
     refine s_nil (k109 _ _ ?_)
     refine w_ret (th_ret (bl_ret (th_ret (th_ret (bl_ret (th_ret (th_ret ?_)))))))
     obtain ⟨v110, hv111, hz112⟩ := map_some r108
     subst hz112
     obtain rfl := it_inr hn63
     have hq113 := elim_inl r42
     rw [hq113] at hv111
     refine b_ret (fn := Tryz.f11) (vs := [.bool false]) (aRes_tmp (by kernel_rfl) (rfl)) ?_
     obtain rfl := Option.some.inj hv111
     exact ⟨rfl, (FrS.step wf ((FrS.step wf ((FrS.step wf (FrS.step wf ((FrS.refl (W := []) wf).extR e4) e15 Inn.nil) e54 Inn.nil).extR e76) e82 (hb77.fresh (ntr (ntr e4.next e15.next) e54.next))).extR e87) e96 (hb88.fresh (ntr (ntr (ntr (ntr e4.next e15.next) e54.next) e76.next) e82.next)))⟩
    have r114 := ite_t h107 r94
    refine w_skip ?_
    refine k91 _ _ ?_
    refine g_' ?_
    refine l_' (pt_ b98 0) (aLoad Tryz.prog 81 (pt_ b85 0) H95) (r97.ld (by kernel_rfl)) ?_
    refine q_ (pt_ b98 0) ?_
    refine q_ (pt_ b98 2) ?_
    refine l_' (u99) (aLoad Tryz.prog 31 (pt_ b98 2) H95) (r101.ld (by kernel_rfl)) ?_
    refine q_ (u99) ?_
    refine s_nil (k69 _ _ ?_)
    refine g_' ?_
    obtain ⟨g115, r116⟩ := G_some r114
    refine s_w ((i0 + 1)) (k := .i64) (x := (i0 + 1)) (by kernel_rfl) (wrap64 (by have := g115; omega)) ?_
    refine q_ (i_ (i0 + 1)) ?_
    refine s_nil ?_
    obtain rfl := Option.some.inj r116
    exact k64 n60 _ _ (Nat.lt_succ_self _) ⟨(i0 + 1), (Er.fe e1), (u99), hn63, ha_, (FrS.step e15.wf ((FrS.step e15.wf ((FrS.step e15.wf (FrS.refl (W := []) e15.wf) e54 Inn.nil).extR e76) e82 (hb77.fresh e54.next)).extR e87) e96 (hb88.fresh (ntr (ntr e54.next e76.next) e82.next))), v102⟩
   have r117 := ite_f h93 r72
   have u118 := (((m56.ext e76).fr e82 (hb77.djn (h_err.lt.le (ntr (ntr e4.next e15.next) e54.next)))).ext e87)
   refine d_ck 28 #[v57, .iface 83 (pt_ b85 0)] (by kernel_rfl) (a_asF_no r89 u118 h93) ?_
   rintro _ _ ⟨rfl, rfl⟩
   refine ⟨st_nil, ?_⟩
   refine e_' (.bool true) ?_
   refine e_' (.bool true) ?_
   refine j_' ?_
   refine j_' ?_
   refine e_' (.bool true) ?_
   refine e_' (.bool true) ?_
   refine j_' ?_
   refine j_' ?_
   refine j_' ?_
   refine j_' ?_
   refine j_' ?_
   refine j_' ?_
   refine e_' (.bool true) ?_
   refine d_nil ?_
   refine k92 _ _ ?_
   refine w_cond true (by kernel_rfl) rfl (fun _ => ?_) (fun h => by cases h)
   refine w_seqk fun _ k119 => ?_
   refine g_' ?_
   refine q_ (.bool false) ?_
   refine s_nil (k119 _ _ ?_)
   refine w_ret (th_ret (bl_ret (th_ret (th_ret (bl_ret (th_ret (th_ret ?_)))))))
   obtain ⟨v120, hv121, hz122⟩ := map_some r117
   subst hz122
   obtain rfl := it_inr hn63
   have hq123 := elim_inl r42
   rw [hq123] at hv121
   refine b_ret (fn := Tryz.f11) (vs := [.bool false]) (aRes_tmp (by kernel_rfl) (rfl)) ?_
   obtain rfl := Option.some.inj hv121
   exact ⟨rfl, ((FrS.step wf ((FrS.step wf (FrS.step wf ((FrS.refl (W := []) wf).extR e4) e15 Inn.nil) e54 Inn.nil).extR e76) e82 (hb77.fresh (ntr (ntr e4.next e15.next) e54.next))).extR e87)⟩
  have r124 := ite_f h67 hz62
  refine w_exit (th_exit (th_exit (bl_eq ?_)))
  obtain rfl := Option.some.inj r124
  obtain rfl := it_inr hn63
  exact k49 _ _ ⟨_, rfl, (v57), ha_, (FrS.step e15.wf (FrS.refl (W := []) e15.wf) e54 Inn.nil), m56⟩
 obtain ⟨o40, rfl, v48, hh50, e45, m47⟩ := hM
 have r125 := elim_inr r42
 obtain ⟨β, rfl⟩ := has_ex hh50
 clear hh50
 refine k36 _ _ ?_
 refine w_seqk fun _ k126 => ?_
 refine g_' ?_
 refine s_rwk e45.wf [.pointer none] (by kernel_rfl) fun b127 H128 e129 hb130 r131 => ?_
 refine s_nil (k126 _ _ ?_)
 refine w_seqk fun _ k133 => ?_
 refine w_seqk fun _ k134 => ?_
 refine g_' ?_
 refine q_ (v48) ?_
 refine q_ (.iface 83 (pt_ b127 0)) ?_
 by_cases h135 : Er.isAt o40 = true
 ·have r136 := ite_t h135 r125
  have u145 := (m47.ext e129)
  refine s_ck 28 #[v48, .iface 83 (pt_ b127 0)] (by kernel_rfl) (a_asF_at e129.wf r131 (hb130.djn (h_err.lt.le (ntr (ntr e4.next e15.next) e45.next))) u145 h135) ?_
  rintro _ H137 ⟨rfl, e138, b140, u141, -, i142, r139, r143, v144⟩
  refine s_nil (k134 _ _ ?_)
  refine w_cond true (by kernel_rfl) rfl (fun _ => ?_) (fun h => by cases h)
  refine w_seqk fun _ k148 => ?_
  refine g_' ?_
  refine q_ (.bool false) ?_
  refine s_nil (k148 _ _ ?_)
  refine w_ret (th_ret ?_)
  refine b_ret (fn := Tryz.f11) (vs := [.bool false]) (aRes_tmp (by kernel_rfl) (rfl)) ?_
  obtain rfl := Option.some.inj r136
  exact ⟨rfl, (FrS.step wf ((FrS.step wf (FrS.step wf ((FrS.refl (W := []) wf).extR e4) e15 Inn.nil) e45 Inn.nil).extR e129) e138 (hb130.fresh (ntr (ntr e4.next e15.next) e45.next)))⟩
 have r149 := ite_f h135 r125
 have u150 := (m47.ext e129)
 refine s_ck 28 #[v48, .iface 83 (pt_ b127 0)] (by kernel_rfl) (a_asF_no r131 u150 h135) ?_
 rintro _ _ ⟨rfl, rfl⟩
 refine s_nil (k134 _ _ ?_)
 refine w_cond false (by kernel_rfl) rfl (fun h => by cases h) (fun _ => ?_)
 refine w_skip ?_
 refine k133 _ _ ?_
 refine w_seqk fun _ k151 => ?_
 refine g_' ?_
 refine s_rwk e129.wf [i_ 0] (by kernel_rfl) fun b152 H153 e154 hb155 r156 => ?_
 refine s_nil (k151 _ _ ?_)
 refine w_seqk fun _ k158 => ?_
 refine w_seqk fun _ k159 => ?_
 obtain ⟨o160, hx161, r162⟩ := bind_some r149
 refine w_mid (fun α H163 => Has α [(0, .iface t29 x30), (3, pt_ b2 0), (60, .bool o160)] ∧ FrS [b152] H153 H163) (fun _ k165 => ?_) (fun α H163 hM => ?_)
 ·refine g_' ?_
  refine q_ (.iface t29 x30) ?_
  refine q_ (.iface 86 (pt_ b152 0)) ?_
  by_cases h167 : (Er.num err).isSome = true
  ·have r168 := ite_t h167 hx161
   have u172 := (((u31.fr e45 Dj.nil_l).ext e129).ext e154)
   refine s_ck 28 #[.iface t29 x30, .iface 86 (pt_ b152 0)] (by kernel_rfl) (a_asN_y e154.wf r156 u172 h28 h167) ?_
   rintro _ H169 ⟨rfl, e170, r171⟩
   refine q_ (.bool false) ?_
   refine q_ (.bool false) ?_
   refine l_' (i_ ((Er.num err).getD 0)) (aLoad Tryz.prog 43 (pt_ b152 0) H169) (r171.ld (by kernel_rfl)) ?_
   refine q_ (pt_ b2 0) ?_
   have u173 := ((((u38.frS e45 Dj.nil_l).ext e129).ext e154).frS e170 (hb155.djn (r6.ltF.le (ntr (ntr e15.next e45.next) e129.next))))
   refine l_' (i_ Code) (aLoad Tryz.prog 3 (pt_ b2 0) H169) (u173.ld (by kernel_rfl)) ?_
   refine q_ (.bool (!decide (((Er.num err).getD 0) = Code))) ?_
   refine q_ (.bool (!decide (((Er.num err).getD 0) = Code))) ?_
   refine s_nil ?_
   obtain rfl := Option.some.inj r168
   exact k165 _ _ ⟨ha_, (FrS.step e154.wf (FrS.refl (W := [b152]) e154.wf) e170 Inn.refl')⟩
  have r174 := ite_f h167 hx161
  have u178 := (((u31.fr e45 Dj.nil_l).ext e129).ext e154)
  refine s_ck 28 #[.iface t29 x30, .iface 86 (pt_ b152 0)] (by kernel_rfl) (a_asN_n e154.wf r156 u178 h28 h167) ?_
  rintro _ H175 ⟨rfl, e176, r177⟩
  refine q_ (.bool true) ?_
  refine q_ (.bool true) ?_
  refine n_' ?_
  refine n_' ?_
  refine n_' ?_
  refine n_' ?_
  refine q_ (.bool true) ?_
  refine s_nil ?_
  obtain rfl := Option.some.inj r174
  exact k165 _ _ ⟨ha_, (FrS.step e154.wf (FrS.refl (W := [b152]) e154.wf) e176 Inn.refl')⟩
 obtain ⟨hh166, e164⟩ := hM
 obtain ⟨β, rfl⟩ := has_ex hh166
 clear hh166
 refine k159 _ _ ?_
 refine w_cond (o160) (by kernel_rfl) rfl (fun h179 => ?_) (fun h179 => ?_)
 ·have r180 := ite_t h179 r162
  refine w_seqk fun _ k181 => ?_
  refine g_' ?_
  refine q_ (.bool false) ?_
  refine s_nil (k181 _ _ ?_)
  refine w_ret (th_ret ?_)
  refine b_ret (fn := Tryz.f11) (vs := [.bool false]) (aRes_tmp (by kernel_rfl) (rfl)) ?_
  obtain rfl := Option.some.inj r180
  exact ⟨rfl, (FrS.step wf (((FrS.step wf (FrS.step wf ((FrS.refl (W := []) wf).extR e4) e15 Inn.nil) e45 Inn.nil).extR e129).extR e154) e164 (hb155.fresh (ntr (ntr (ntr e4.next e15.next) e45.next) e129.next)))⟩
 have r182 := ite_bf h179 r162
 refine w_skip ?_
 refine k158 _ _ ?_
 refine w_seqk fun _ k183 => ?_
 refine w_seqk fun _ k184 => ?_
 refine g_' ?_
 refine q_ (i_ 1) ?_
 refine s_nil (k184 _ _ ?_)
 obtain ⟨z188, hx186, r187⟩ := bind_some r182
 refine w_mid (fun α H189 => ∃ o185, z188 = Sum.inr o185 ∧ Has α [] ∧ H163 = H189) (fun _ k191 => ?_) (fun α H189 hM => ?_)
 ·refine w_block ?_
  obtain ⟨n193, hn194⟩ := loopO_iff.1 hx186
  refine w_loopn (fun n α H195 => ∃ (i2 : Int), iterO (fun zz_ => z_viaductseen_Same_l1 err Code zz_) n i2 = some z188 ∧ Has α [(0, .iface t29 x30), (3, pt_ b2 0), (11, i_ i2)] ∧ H163 = H195) n193 ⟨1, hn194, ha_, rfl⟩ ?_
  rintro n193 α H195 ⟨i2, hi198, hh197, rfl⟩ K203 k203
  obtain ⟨n199, z200, rfl, hz201, hn202⟩ := iter_succ hi198
  obtain ⟨β, rfl⟩ := has_ex hh197
  clear hh197
  replace hz201 : z_viaductseen_Same_l1 err Code i2 = some z200 := hz201
  unfold z_viaductseen_Same_l1 at hz201
  refine w_seqk fun _ k204 => ?_
  refine w_seqk fun _ k205 => ?_
  refine g_' ?_
  refine q_ (i_ i2) ?_
  refine q_ (.bool (decide (i2 ≤ 20))) ?_
  refine s_nil (k205 _ _ ?_)
  refine w_condp (i2 ≤ 20) (by kernel_rfl) rfl (fun h206 => ?_) (fun h206 => ?_)
  ·have r207 := ite_t h206 hz201
   refine w_skip ?_
   refine k204 _ _ ?_
   refine w_seqk fun _ k208 => ?_
   refine w_block ?_
   refine w_seqk fun _ k209 => ?_
   refine w_draw [0, 1, 2, 4, 5, 6, 7, 3, 8] (by kernel_rfl) ?_
   refine e_' (.iface t29 x30) ?_
   refine e_' (i_ i2) ?_
   refine e_' (.iface 43 (i_ i2)) ?_
   refine e_' (i_ i2) ?_
   refine e_' (pt_ b2 0) ?_
   have u210 := ((((u38.frS e45 Dj.nil_l).ext e129).ext e154).frS e164 (hb155.djn (r6.ltF.le (ntr (ntr e15.next e45.next) e129.next))))
   refine d_fl (i_ Code) (x := aLoad Tryz.prog 3 (pt_ b2 0) H163) (by kernel_rfl) (u210.ld (by kernel_rfl)) ?_
   refine e_' (.bool (decide (i2 = Code))) ?_
   have u211 := ((((u31.fr e45 Dj.nil_l).ext e129).ext e154).fr e164 (hb155.djn (h_err.lt.le (ntr (ntr (ntr e4.next e15.next) e45.next) e129.next))))
   refine d_ck 29 #[.iface t29 x30, .iface 43 (i_ i2)] (by kernel_rfl) (a_isN u211 h28) ?_
   rintro _ _ ⟨rfl, rfl⟩
   refine ⟨st_ql (y := aLoad Tryz.prog 3 (pt_ b2 0) H163) (by kernel_rfl) (u210.ld (by kernel_rfl)) (st_nil), ?_⟩
   refine e_' (.bool (!decide ((decide (Er.num err = some i2)) = (decide (i2 = Code))))) ?_
   refine d_nil ?_
   refine k209 _ _ ?_
   refine w_condn ((decide (Er.num err = some i2)) = (decide (i2 = Code))) (by kernel_rfl) rfl (fun h212 => ?_) (fun h212 => ?_)
   ·have r213 := ite_f h212 r207
    refine w_seqk fun _ k214 => ?_
    refine g_' ?_
    refine q_ (.bool false) ?_
    refine s_nil (k214 _ _ ?_)
    refine w_ret (bl_ret (th_ret (th_ret (bl_ret (th_ret (th_ret ?_))))))
    obtain ⟨v215, hv216, hz217⟩ := map_some r213
    subst hz217
    obtain rfl := it_inr hn202
    have hq218 := elim_inl r187
    rw [hq218] at hv216
    refine b_ret (fn := Tryz.f11) (vs := [.bool false]) (aRes_tmp (by kernel_rfl) (rfl)) ?_
    obtain rfl := Option.some.inj hv216
    exact ⟨rfl, (FrS.step wf (((FrS.step wf (FrS.step wf ((FrS.refl (W := []) wf).extR e4) e15 Inn.nil) e45 Inn.nil).extR e129).extR e154) e164 (hb155.fresh (ntr (ntr (ntr e4.next e15.next) e45.next) e129.next)))⟩
   have r219 := ite_t h212 r207
   refine w_skip ?_
   refine k208 _ _ ?_
   refine g_' ?_
   refine q_ (i_ i2) ?_
   obtain ⟨g220, r221⟩ := G_some r219
   refine s_w ((i2 + 1)) (k := .i64) (x := (i2 + 1)) (by kernel_rfl) (wrap64 g220) ?_
   refine q_ (i_ (i2 + 1)) ?_
   refine s_nil ?_
   obtain rfl := Option.some.inj r221
   exact k203 n199 _ _ (Nat.lt_succ_self _) ⟨(i2 + 1), hn202, ha_, rfl⟩
  have r222 := ite_f h206 hz201
  refine w_exit (th_exit (th_exit (bl_eq ?_)))
  obtain rfl := Option.some.inj r222
  obtain rfl := it_inr hn202
  exact k191 _ _ ⟨_, rfl, trivial, rfl⟩
 obtain ⟨o185, rfl, hh192, rfl⟩ := hM
 have r223 := elim_inr r187
 obtain ⟨β, rfl⟩ := has_ex hh192
 clear hh192
 refine k183 _ _ ?_
 refine w_seqk fun _ k224 => ?_
 refine g_' ?_
 refine q_ (.bool true) ?_
 refine s_nil (k224 _ _ ?_)
 refine w_ret ?_
 refine b_ret (fn := Tryz.f11) (vs := [.bool true]) (aRes_tmp (by kernel_rfl) (rfl)) ?_
 obtain rfl := Option.some.inj r223
 exact ⟨rfl, (FrS.step wf (((FrS.step wf (FrS.step wf ((FrS.refl (W := []) wf).extR e4) e15 Inn.nil) e45 Inn.nil).extR e129).extR e154) e164 (hb155.fresh (ntr (ntr (ntr e4.next e15.next) e45.next) e129.next)))⟩

theorem c_stamp_Stamp_All {H : AH} {b_s : Nat} {hd_s_ : Value} {fp_s_ : Fp} {s_ : List (Int × Int)} {s_2 : Int} {s_3 : Int} {r : List (Int)}
    (wf : WF H) (h_s_ : Sq enc_u64_u32 2 H hd_s_ s_ fp_s_) (h_s : Row H b_s [hd_s_, .int .u32 s_2, i_ s_3]) (hr : z_stamp_Stamp_All s_ s_2 s_3 = some r) :
    ACalls Tryz.prog 30 #[pt_ b_s 0] H fun v H' => ∃ (s3 : Value) (f4 : Fp), v = s3 ∧ FrS [] H H' ∧ Ow (encI .i64) 1 H' s3 r f4 ∧ Inn [] H f4 := by
 refine acalls_of_body mixed Tryz.func30 rfl (Nat.le_of_ble_eq_true rfl) ?_
 unfold z_stamp_Stamp_All at hr
 refine w_seqk fun _ k6 => ?_
 refine g_' ?_
 refine q_ (.slice none 0 0) ?_
 refine s_nil (k6 _ _ ?_)
 refine w_seqk fun _ k7 => ?_
 refine w_seqk fun _ k8 => ?_
 refine g_' ?_
 refine q_ (pt_ b_s 0) ?_
 refine q_ (.bool false) ?_
 refine s_nil (k8 _ _ ?_)
 refine w_cond false (by kernel_rfl) rfl (fun h => by cases h) (fun _ => ?_)
 refine w_skip ?_
 refine k7 _ _ ?_
 refine w_seqk fun _ k9 => ?_
 refine g_' ?_
 refine q_ (.slice none 0 0) ?_
 refine s_nil (k9 _ _ ?_)
 refine w_seqk fun _ k10 => ?_
 refine w_seqk fun _ k11 => ?_
 refine g_' ?_
 refine q_ (pt_ b_s 0) ?_
 refine q_ (pt_ b_s 0) ?_
 refine q_ (pt_ b_s 0) ?_
 refine l_' (hd_s_) (aLoad Tryz.prog 123 (pt_ b_s 0) H) (h_s.ld (by kernel_rfl)) ?_
 refine l_' (i_ (s_.length : Int)) (aLen Tryz.prog 123 hd_s_ H) (h_s_.lenb (by kernel_rfl)) ?_
 refine q_ (i_ 0) ?_
 refine s_nil (k11 _ _ ?_)
 obtain ⟨o12, hx13, r14⟩ := bind_some hr
 refine w_mid (fun α H15 => ∃ (s19 : Value) (f20 : Fp), Has α [(3, s19)] ∧ FrS [] H H15 ∧ Ow (encI .i64) 1 H15 s19 o12 f20 ∧ Inn [] H f20) (fun _ k22 => ?_) (fun α H15 hM => ?_)
 ·refine w_block ?_
  obtain ⟨n24, hn25⟩ := loopO_iff.1 hx13
  refine w_loopn (fun n α H26 => ∃ (i0 : Int), ∃ (l1 : List (Int)), ∃ (s30 : Value), ∃ (f31 : Fp), iterO (fun zz_ => z_stamp_Stamp_All_l0 s_ s_2 zz_.1 zz_.2) n (i0, l1) = some o12 ∧ Has α [(0, pt_ b_s 0), (3, s30), (11, hd_s_), (12, i_ (s_.length : Int)), (13, i_ i0)] ∧ FrS [] H H26 ∧ Ow (encI .i64) 1 H26 s30 l1 f31 ∧ Inn [] H f31) n24 ⟨0, [], (.slice none 0 0), [], hn25, ha_, (FrS.refl (W := []) wf), (Ow.nil (by decide)), Inn.nil⟩ ?_
  rintro n24 α H26 ⟨i0, l1, s30, f31, hi34, hh33, e27, m29, i32⟩ K39 k39
  obtain ⟨n35, z36, rfl, hz37, hn38⟩ := iter_succ hi34
  obtain ⟨β, rfl⟩ := has_ex hh33
  clear hh33
  replace hz37 : z_stamp_Stamp_All_l0 s_ s_2 i0 l1 = some z36 := hz37
  unfold z_stamp_Stamp_All_l0 at hz37
  obtain ⟨a40, n41, c42, rfl⟩ := m29.form
  refine w_seqk fun _ k43 => ?_
  refine g_' ?_
  refine q_ (.bool (decide (i0 < (s_.length : Int)))) ?_
  refine s_nil (k43 _ _ ?_)
  refine w_seqk fun _ k44 => ?_
  refine w_condp (i0 < (s_.length : Int)) (by kernel_rfl) rfl (fun h45 => ?_) (fun h45 => ?_)
  ·have r46 := ite_t h45 hz37
   refine w_skip ?_
   refine k44 _ _ ?_
   refine w_seqk fun _ k47 => ?_
   refine w_block ?_
   refine w_seqk fun _ k48 => ?_
   refine g_' ?_
   refine q_ (i_ i0) ?_
   obtain ⟨g49, r50⟩ := G_some r46
   have u51 := (h_s_.fr e27 Dj.nil_l)
   refine l_' (elp hd_s_ 2 i0.toNat 0) (aIndexAddr Tryz.prog 123 hd_s_ (i_ i0)) (u51.idxb (by kernel_rfl) g49 h45) ?_
   refine l_' (.agg #[.int .u64 ((gt s_ i0).1), .int .u32 ((gt s_ i0).2)]) (aLoad Tryz.prog 127 (elp hd_s_ 2 i0.toNat 0) H26) (u51.ld g49 h45 (by kernel_rfl)) ?_
   refine s_rwk e27.wf [.int .u64 0, .int .u32 0] (by kernel_rfl) fun b52 H53 e54 hb55 r56 => ?_
   refine q_ (i_ i0) ?_
   obtain ⟨H58, q59, e60, r61⟩ := Row.store (P := Tryz.prog) (t := 127) (p := 0) e54.wf r56 (.agg #[.int .u64 ((gt s_ i0).1), .int .u32 ((gt s_ i0).2)]) [.int .u64 ((gt s_ i0).1), .int .u32 ((gt s_ i0).2)] (by kernel_rfl) (by kernel_rfl) (one_cons (rfl) (one_cons (rfl) (one_nil))) (Nat.le_of_ble_eq_true (by kernel_rfl)) [.int .u64 ((gt s_ i0).1), .int .u32 ((gt s_ i0).2)] (by kernel_rfl)
   refine s_ek (undef) (by kernel_rfl) (map_ok q59) ?_
   refine s_nil (k48 _ _ ?_)
   refine w_seqk fun _ k62 => ?_
   refine w_draw [0, 1, 2, 3, 4, 5, 6] (by kernel_rfl) ?_
   refine e_' (pt_ b52 1) ?_
   refine m_' (.int .u32 ((gt s_ i0).2)) (aLoad Tryz.prog 105 (pt_ b52 1) H58) (r61.ld (by kernel_rfl)) ?_
   refine e_' (pt_ b_s 0) ?_
   refine e_' (pt_ b_s 0) ?_
   refine e_' (pt_ b_s 1) ?_
   have u63 := (((h_s.frS e27 Dj.nil_l).ext e54).frS e60 (hb55.djn (h_s.ltF.le e27.next)))
   refine m_' (.int .u32 s_2) (aLoad Tryz.prog 105 (pt_ b_s 1) H58) (u63.ld (by kernel_rfl)) ?_
   refine e_' (.bool (decide (((gt s_ i0).2) = s_2))) ?_
   refine d_nil ?_
   refine k62 _ _ ?_
   refine w_condp (((gt s_ i0).2) = s_2) (by kernel_rfl) rfl (fun h64 => ?_) (fun h64 => ?_)
   ·have r65 := ite_t h64 r50
    refine g_' ?_
    refine q_ (.slice a40 n41 c42) ?_
    refine q_ (i_ i0) ?_
    refine s_owk (enc := (encI .i64)) (sz := 1) e60.wf [i0] 1 (by decide) (fun _ _ => rfl) (fun _ _ => rfl) rfl (by kernel_rfl) fun s66 f67 H68 e69 hf70 hm71 => ?_
    obtain ⟨a72, n73, c74, rfl⟩ := hm71.form
    have u76 := (((m29.ext e54).fr e60 (hb55.djn m29.lt)).ext e69)
    obtain ⟨g77, r78⟩ := G_some r65
    obtain ⟨s79, H80, f81, q85, e82, hm83, hf84⟩ := Ow.append (P := Tryz.prog) 8 e69.wf u76 hm71.sq (fun _ _ => rfl) (at_ := #[23, 23]) rfl rfl (by kernel_rfl) (by kernel_rfl) (by decide) (by have := g77; first | omega | (simp only [List.length_cons, List.length_nil] at this ⊢; omega) | (simp at this ⊢; omega))
    obtain ⟨a86, n87, c88, rfl⟩ := hm83.form
    refine s_ek (.slice a86 n87 c88) (by kernel_rfl) (q85) ?_
    refine q_ (.slice a86 n87 c88) ?_
    refine s_nil (k47 _ _ ?_)
    refine g_' ?_
    obtain ⟨g90, r91⟩ := G_some r78
    refine s_w ((i0 + 1)) (k := .i64) (x := (i0 + 1)) (by kernel_rfl) (wrap64 (by have := g90; omega)) ?_
    refine q_ (i_ (i0 + 1)) ?_
    refine s_nil ?_
    obtain rfl := Option.some.inj r91
    exact k39 n35 _ _ (Nat.lt_succ_self _) ⟨(i0 + 1), (l1 ++ [i0]), (.slice a86 n87 c88), f81, hn38, ha_, (FrS.step wf ((FrS.step wf ((FrS.step wf (FrS.refl (W := []) wf) e27 Inn.nil).extR e54) e60 (hb55.fresh e27.next)).extR e69) e82 (i32.fresh (Nat.le_refl _))), hm83, (Inn.trans (i32.fresh (Nat.le_refl _)) (ntr (ntr (ntr e27.next e54.next) e60.next) e69.next) hf84)⟩
   have r92 := ite_f h64 r50
   refine w_skip ?_
   refine k47 _ _ ?_
   refine g_' ?_
   obtain ⟨g93, r94⟩ := G_some r92
   refine s_w ((i0 + 1)) (k := .i64) (x := (i0 + 1)) (by kernel_rfl) (wrap64 (by have := g93; omega)) ?_
   refine q_ (i_ (i0 + 1)) ?_
   refine s_nil ?_
   have u95 := ((m29.ext e54).fr e60 (hb55.djn m29.lt))
   obtain rfl := Option.some.inj r94
   exact k39 n35 _ _ (Nat.lt_succ_self _) ⟨(i0 + 1), l1, (.slice a40 n41 c42), f31, hn38, ha_, (FrS.step wf ((FrS.step wf (FrS.refl (W := []) wf) e27 Inn.nil).extR e54) e60 (hb55.fresh e27.next)), u95, (i32.fresh (Nat.le_refl _))⟩
  have r96 := ite_f h45 hz37
  refine w_exit (th_exit (th_exit (bl_eq ?_)))
  obtain rfl := Option.some.inj r96
  obtain rfl := it_inr hn38
  exact k22 _ _ ⟨(.slice a40 n41 c42), f31, ha_, (FrS.step wf (FrS.refl (W := []) wf) e27 Inn.nil), m29, (i32.fresh (Nat.le_refl _))⟩
 obtain ⟨s19, f20, hh23, e16, m18, i21⟩ := hM
 obtain ⟨β, rfl⟩ := has_ex hh23
 clear hh23
 obtain ⟨a97, n98, c99, rfl⟩ := m18.form
 refine k10 _ _ ?_
 refine w_seqk fun _ k100 => ?_
 refine g_' ?_
 refine q_ (.slice a97 n98 c99) ?_
 refine q_ (.slice a97 n98 c99) ?_
 refine s_nil (k100 _ _ ?_)
 refine w_ret ?_
 refine b_ret (fn := Tryz.f30) (vs := [.slice a97 n98 c99]) (aRes_tmp (by kernel_rfl) (rfl)) ?_
 obtain rfl := Option.some.inj r14
 exact ⟨(.slice a97 n98 c99), f20, rfl, (FrS.step wf (FrS.refl (W := []) wf) e16 Inn.nil), m18, (i21.fresh (Nat.le_refl _))⟩

theorem c_search_Bounded {H : AH} {hd_First : Value} {fp_First : Fp} {hd_To : Value} {fp_To : Fp} {hd_Weight : Value} {fp_Weight : Fp} {First : List (Int)} {To : List (Int)} {Weight : List (Int)} {s : Int} {hops : Int} {settles : Int} {most : Int} {r : List (Int × Int × Int × Bool) × Er}
    (wf : WF H) (h_First : Sq (encI .i64) 1 H hd_First First fp_First) (h_To : Sq (encI .i64) 1 H hd_To To fp_To) (h_Weight : Sq (encI .i64) 1 H hd_Weight Weight fp_Weight) (hr : z_search_Bounded First To Weight s hops settles most = some r) :
    ACalls Tryz.prog 13 #[.agg #[hd_First, hd_To, hd_Weight], i_ s, i_ hops, i_ settles, .int .u64 most] H fun v H' => ∃ (s3 : Value) (f4 : Fp) (v7 : Value) (f8 : Fp), v = .tuple #[s3, v7] ∧ FrS [] H H' ∧ Ow enc_i64_u64_i64_bool 4 H' s3 r.1 f4 ∧ Ev 43 81 H' v7 r.2 f8 ∧ Inn [] H f4 ∧ Inn [] H f8 ∧ Dj f4 f8 := by
 refine acalls_of_body mixed Tryz.func13 rfl (Nat.le_of_ble_eq_true rfl) ?_
 unfold z_search_Bounded at hr
 refine w_seqk fun _ k12 => ?_
 refine g_' ?_
 refine s_rwl wf [hd_First, hd_To, hd_Weight] (one_cons (h_First.one1) (one_cons (h_To.one1) (one_cons (h_Weight.one1) (one_nil)))) (by kernel_rfl) fun b13 H14 e15 hb16 r17 => ?_
 refine q_ (.slice none 0 0) ?_
 refine q_ (.nilIface) ?_
 refine s_nil (k12 _ _ ?_)
 refine w_seqk fun _ k19 => ?_
 refine w_seqk fun _ k20 => ?_
 refine g_' ?_
 refine l_' (.agg #[hd_First, hd_To, hd_Weight]) (aLoad Tryz.prog 25 (pt_ b13 0) H14) (r17.ld (by kernel_rfl)) ?_
 refine q_ (i_ s) ?_
 refine s_owk (enc := (encI .i64)) (sz := 1) e15.wf [s] 1 (by decide) (fun _ _ => rfl) (fun _ _ => rfl) rfl (by kernel_rfl) fun s21 f22 H23 e24 hf25 hm26 => ?_
 obtain ⟨a27, n28, c29, rfl⟩ := hm26.form
 have u31 := ((h_First.ext e15).ext e24)
 have u32 := ((h_To.ext e15).ext e24)
 have u33 := ((h_Weight.ext e15).ext e24)
 obtain ⟨y34, hy35, r36⟩ := bind_some hr
 refine s_ck 21 #[.agg #[hd_First, hd_To, hd_Weight], .slice a27 n28 c29] (by kernel_rfl) (c_search_node e24.wf u31 u32 u33 hm26.sq hy35) ?_
 rintro v37 H39 ⟨_, f38, rfl, e40, m41, i42⟩
 refine q_ (v37) ?_
 refine s_nil (k20 _ _ ?_)
 refine w_seqk fun _ k44 => ?_
 refine g_' ?_
 refine q_ (v37) ?_
 rcases (m41).cases with ⟨h45, rfl⟩ | ⟨h45, t46, x47, rfl⟩
 ·have r48 := ite_t h45 r36
  refine q_ (.bool false) ?_
  refine s_nil (k44 _ _ ?_)
  refine w_cond false (by kernel_rfl) rfl (fun h => by cases h) (fun _ => ?_)
  refine w_skip ?_
  refine k19 _ _ ?_
  refine w_seqk fun _ k49 => ?_
  refine g_' ?_
  have u50 := ((r17.ext e24).frS e40 Dj.nil_l)
  refine l_' (.agg #[hd_First, hd_To, hd_Weight]) (aLoad Tryz.prog 25 (pt_ b13 0) H39) (u50.ld (by kernel_rfl)) ?_
  refine q_ (i_ s) ?_
  refine q_ (i_ hops) ?_
  refine q_ (i_ settles) ?_
  refine q_ (.int .u64 most) ?_
  refine q_ (.agg #[i_ hops, i_ settles, .int .u64 most]) ?_
  have u51 := (u31.fr e40 Dj.nil_l)
  have u52 := (u32.fr e40 Dj.nil_l)
  have u53 := (u33.fr e40 Dj.nil_l)
  obtain ⟨y54, hy55, r56⟩ := bind_some r48
  refine s_ck 22 #[.agg #[hd_First, hd_To, hd_Weight], i_ s, .agg #[i_ hops, i_ settles, .int .u64 most]] (by kernel_rfl) (c_search_run e40.wf u51 u52 u53 hy55) ?_
  rintro _ H70 ⟨s57, f58, s59, f60, b61, s62, f63, b64, s65, f66, s67, f68, b69, rfl, e71, m72, m73, m74, m75, m76, m77, m78, m79, i80, i81, i82, i83, i84, i85, i86, i87, d88, d89, d90, d91, d92, d93, d94, d95, d96, d97, d98, d99, d100, d101, d102, d103, d104, d105, d106, d107, d108, d109, d110, d111, d112, d113, d114, d115⟩
  obtain ⟨a124, n125, c126, rfl⟩ := m72.form
  obtain ⟨a127, n128, c129, rfl⟩ := m73.form
  obtain ⟨a130, n131, c132, rfl⟩ := m75.form
  obtain ⟨a133, n134, c135, rfl⟩ := m77.form
  obtain ⟨a136, n137, c138, rfl⟩ := m78.form
  refine q_ (pt_ b69 0) ?_
  refine s_nil (k49 _ _ ?_)
  refine w_seqk fun _ k139 => ?_
  refine g_' ?_
  refine q_ (.slice none 0 0) ?_
  refine s_nil (k139 _ _ ?_)
  refine w_seqk fun _ k140 => ?_
  refine w_seqk fun _ k141 => ?_
  refine g_' ?_
  refine q_ (pt_ b69 0) ?_
  refine q_ (pt_ b69 0) ?_
  refine q_ (pt_ b69 4) ?_
  refine l_' (pt_ b64 0) (aLoad Tryz.prog 72 (pt_ b69 4) H70) (m79.ld (by kernel_rfl)) ?_
  obtain ⟨y142, hy143, r144⟩ := bind_some r56
  refine s_ck 30 #[pt_ b64 0] (by kernel_rfl) (c_stamp_Stamp_All e71.wf m75.sq m76 hy143) ?_
  rintro s145 H147 ⟨_, f146, rfl, e148, m149, i150⟩
  obtain ⟨a152, n153, c154, rfl⟩ := m149.form
  refine l_' (i_ (y142.length : Int)) (aLen Tryz.prog 23 (.slice a152 n153 c154) H147) (m149.sq.lenb (by kernel_rfl)) ?_
  refine q_ (i_ 0) ?_
  refine s_nil (k141 _ _ ?_)
  obtain ⟨o155, hx156, r157⟩ := bind_some r144
  refine w_mid (fun α H158 => ∃ (s162 : Value) (f163 : Fp), Has α [(14, s162)] ∧ FrS [] H147 H158 ∧ Ow enc_i64_u64_i64_bool 4 H158 s162 o155 f163 ∧ Inn [] H147 f163) (fun _ k165 => ?_) (fun α H158 hM => ?_)
  ·refine w_block ?_
   obtain ⟨n167, hn168⟩ := loopO_iff.1 hx156
   refine w_loopn (fun n α H169 => ∃ (l0 : List (Int × Int × Int × Bool)), ∃ (i1 : Int), ∃ (s173 : Value), ∃ (f174 : Fp), iterO (fun zz_ => z_search_Bounded_l0 y54 y142 zz_.1 zz_.2) n (l0, i1) = some o155 ∧ Has α [(13, pt_ b69 0), (14, s173), (37, .slice a152 n153 c154), (38, i_ (y142.length : Int)), (39, i_ i1)] ∧ FrS [] H147 H169 ∧ Ow enc_i64_u64_i64_bool 4 H169 s173 l0 f174 ∧ Inn [] H147 f174) n167 ⟨[], 0, (.slice none 0 0), [], hn168, ha_, (FrS.refl (W := []) e148.wf), (Ow.nil (by decide)), Inn.nil⟩ ?_
   rintro n167 α H169 ⟨l0, i1, s173, f174, hi177, hh176, e170, m172, i175⟩ K182 k182
   obtain ⟨n178, z179, rfl, hz180, hn181⟩ := iter_succ hi177
   obtain ⟨β, rfl⟩ := has_ex hh176
   clear hh176
   replace hz180 : z_search_Bounded_l0 y54 y142 l0 i1 = some z179 := hz180
   unfold z_search_Bounded_l0 at hz180
   obtain ⟨a183, n184, c185, rfl⟩ := m172.form
   refine w_seqk fun _ k186 => ?_
   refine g_' ?_
   refine q_ (.bool (decide (i1 < (y142.length : Int)))) ?_
   refine s_nil (k186 _ _ ?_)
   refine w_seqk fun _ k187 => ?_
   refine w_condp (i1 < (y142.length : Int)) (by kernel_rfl) rfl (fun h188 => ?_) (fun h188 => ?_)
   ·have r189 := ite_t h188 hz180
    refine w_skip ?_
    refine k187 _ _ ?_
    refine w_seqk fun _ k190 => ?_
    refine w_block ?_
    refine w_seqk fun _ k191 => ?_
    refine g_' ?_
    obtain ⟨g192, r193⟩ := G_some r189
    have u194 := (m149.fr e170 Dj.nil_l)
    refine l_' (elp (.slice a152 n153 c154) 1 i1.toNat 0) (aIndexAddr Tryz.prog 23 (.slice a152 n153 c154) (i_ i1)) (u194.sq.idxb (by kernel_rfl) g192 h188) ?_
    refine l_' (i_ (gt y142 i1)) (aLoad Tryz.prog 3 (elp (.slice a152 n153 c154) 1 i1.toNat 0) H169) (u194.sq.ld g192 h188 (by kernel_rfl)) ?_
    refine q_ (i_ (gt y142 i1)) ?_
    refine s_nil (k191 _ _ ?_)
    refine w_seqk fun _ k195 => ?_
    refine g_' ?_
    refine q_ (pt_ b69 0) ?_
    refine q_ (pt_ b69 0) ?_
    refine q_ (pt_ b69 4) ?_
    have u196 := ((m79.frS e148 Dj.nil_l).frS e170 Dj.nil_l)
    refine l_' (pt_ b64 0) (aLoad Tryz.prog 72 (pt_ b69 4) H169) (u196.ld (by kernel_rfl)) ?_
    refine q_ (i_ (gt y142 i1)) ?_
    have u197 := ((m75.fr e148 Dj.nil_l).fr e170 Dj.nil_l)
    have u198 := ((m76.frS e148 Dj.nil_l).frS e170 Dj.nil_l)
    obtain ⟨y199, hy200, r201⟩ := bind_some r193
    refine s_ck 31 #[pt_ b64 0, i_ (gt y142 i1)] (by kernel_rfl) (c_stamp_Stamp_Get e170.wf u197.sq u198 hy200) ?_
    rintro _ _ ⟨rfl, rfl⟩
    refine q_ (.tuple #[.int .u64 y199.1, .bool y199.2]) ?_
    refine q_ (.int .u64 y199.1) ?_
    refine q_ (.bool y199.2) ?_
    refine q_ (.int .u64 y199.1) ?_
    refine q_ (.bool y199.2) ?_
    refine s_nil (k195 _ _ ?_)
    refine w_draw [0, 1, 2, 3, 4, 5, 6, 7, 8, 9, 10, 11, 12, 13, 14, 15, 16, 17, 18, 19, 20] (by kernel_rfl) ?_
    refine e_' (.slice a183 n184 c185) ?_
    refine e_' (i_ (gt y142 i1)) ?_
    refine e_' (.int .u64 y199.1) ?_
    refine e_' (pt_ b69 0) ?_
    refine e_' (pt_ b69 0) ?_
    refine e_' (pt_ b69 5) ?_
    refine m_' (.slice a133 n134 c135) (aLoad Tryz.prog 23 (pt_ b69 5) H169) (u196.ld (by kernel_rfl)) ?_
    refine e_' (i_ (gt y142 i1)) ?_
    obtain ⟨g204, r205⟩ := G_some r201
    have u206 := ((m77.fr e148 Dj.nil_l).fr e170 Dj.nil_l)
    refine m_' (elp (.slice a133 n134 c135) 1 (gt y142 i1).toNat 0) (aIndexAddr Tryz.prog 23 (.slice a133 n134 c135) (i_ (gt y142 i1))) (u206.sq.idxb (by kernel_rfl) g204.1 g204.2) ?_
    refine m_' (i_ (gt y54.2.2.2.2.2.1 (gt y142 i1))) (aLoad Tryz.prog 3 (elp (.slice a133 n134 c135) 1 (gt y142 i1).toNat 0) H169) (u206.sq.ld g204.1 g204.2 (by kernel_rfl)) ?_
    refine e_' (pt_ b69 0) ?_
    refine e_' (pt_ b69 0) ?_
    refine e_' (pt_ b69 6) ?_
    refine m_' (.slice a136 n137 c138) (aLoad Tryz.prog 73 (pt_ b69 6) H169) (u196.ld (by kernel_rfl)) ?_
    refine e_' (i_ (gt y142 i1)) ?_
    obtain ⟨g207, r208⟩ := G_some r205
    have u209 := ((m78.fr e148 Dj.nil_l).fr e170 Dj.nil_l)
    refine m_' (elp (.slice a136 n137 c138) 1 (gt y142 i1).toNat 0) (aIndexAddr Tryz.prog 73 (.slice a136 n137 c138) (i_ (gt y142 i1))) (u209.sq.idxb (by kernel_rfl) g204.1 g207) ?_
    refine m_' (.bool (gt y54.2.2.2.2.2.2 (gt y142 i1))) (aLoad Tryz.prog 4 (elp (.slice a136 n137 c138) 1 (gt y142 i1).toNat 0) H169) (u209.sq.ld g204.1 g207 (by kernel_rfl)) ?_
    refine e_' (.agg #[i_ (gt y142 i1), .int .u64 y199.1, i_ (gt y54.2.2.2.2.2.1 (gt y142 i1)), .bool (gt y54.2.2.2.2.2.2 (gt y142 i1))]) ?_
    refine d_owk (enc := enc_i64_u64_i64_bool) (sz := 4) e170.wf [((gt y142 i1), y199.1, (gt y54.2.2.2.2.2.1 (gt y142 i1)), (gt y54.2.2.2.2.2.2 (gt y142 i1)))] 1 (by decide) (fun _ _ => rfl) (fun _ _ => rfl) rfl (by kernel_rfl) fun s210 f211 H212 e213 hf214 hm215 => ?_
    obtain ⟨a216, n217, c218, rfl⟩ := hm215.form
    have u220 := (m172.ext e213)
    obtain ⟨g221, r222⟩ := G_some r208
    obtain ⟨s223, H224, f225, q229, e226, hm227, hf228⟩ := Ow.append (P := Tryz.prog) 32 e213.wf u220 hm215.sq (fun _ _ => rfl) (at_ := #[44, 44]) rfl rfl (by kernel_rfl) (by kernel_rfl) (by decide) (by have := g221; first | omega | (simp only [List.length_cons, List.length_nil] at this ⊢; omega) | (simp at this ⊢; omega))
    obtain ⟨a230, n231, c232, rfl⟩ := hm227.form
    refine d_ek (.slice a230 n231 c232) (by kernel_rfl) (q229) (st_nil) ?_
    refine e_' (.slice a230 n231 c232) ?_
    refine d_nil ?_
    refine k190 _ _ ?_
    refine g_' ?_
    obtain ⟨g234, r235⟩ := G_some r222
    refine s_w ((i1 + 1)) (k := .i64) (x := (i1 + 1)) (by kernel_rfl) (wrap64 (by have := g234; omega)) ?_
    refine q_ (i_ (i1 + 1)) ?_
    refine s_nil ?_
    obtain rfl := Option.some.inj r235
    exact k182 n178 _ _ (Nat.lt_succ_self _) ⟨(l0 ++ [((gt y142 i1), y199.1, (gt y54.2.2.2.2.2.1 (gt y142 i1)), (gt y54.2.2.2.2.2.2 (gt y142 i1)))]), (i1 + 1), (.slice a230 n231 c232), f225, hn181, ha_, (FrS.step e148.wf ((FrS.step e148.wf (FrS.refl (W := []) e148.wf) e170 Inn.nil).extR e213) e226 (i175.fresh (Nat.le_refl _))), hm227, (Inn.trans (i175.fresh (Nat.le_refl _)) (ntr e170.next e213.next) hf228)⟩
   have r236 := ite_f h188 hz180
   refine w_exit (th_exit (th_exit (bl_eq ?_)))
   obtain rfl := Option.some.inj r236
   obtain rfl := it_inr hn181
   exact k165 _ _ ⟨(.slice a183 n184 c185), f174, ha_, (FrS.step e148.wf (FrS.refl (W := []) e148.wf) e170 Inn.nil), m172, (i175.fresh (Nat.le_refl _))⟩
  obtain ⟨s162, f163, hh166, e159, m161, i164⟩ := hM
  obtain ⟨β, rfl⟩ := has_ex hh166
  clear hh166
  obtain ⟨a237, n238, c239, rfl⟩ := m161.form
  refine k140 _ _ ?_
  refine w_seqk fun _ k240 => ?_
  refine g_' ?_
  refine q_ (.slice a237 n238 c239) ?_
  refine q_ (.slice a237 n238 c239) ?_
  refine q_ (.nilIface) ?_
  refine s_nil (k240 _ _ ?_)
  refine w_ret ?_
  refine b_ret (fn := Tryz.f13) (vs := [.slice a237 n238 c239, .nilIface]) (aRes_tmp (by kernel_rfl) (aRes_tmp (by kernel_rfl) (rfl))) ?_
  obtain rfl := Option.some.inj r157
  exact ⟨(.slice a237 n238 c239), f163, (.nilIface), [], rfl, (FrS.step wf (FrS.step wf (FrS.step wf (FrS.step wf (((FrS.refl (W := []) wf).extR e15).extR e24) e40 Inn.nil) e71 Inn.nil) e148 Inn.nil) e159 Inn.nil), m161, Ev.nil, (i164.fresh (ntr (ntr (ntr (ntr e15.next e24.next) e40.next) e71.next) e148.next)), Inn.nil, Dj.nil_r⟩
 have r241 := ite_f h45 r36
 refine l_' (.bool true) (aBin Tryz.prog .neq 31 (.tmp 23) (.const .nilIface) (.iface t46 x47) .nilIface) (aBin_nnil (by kernel_rfl)) ?_
 refine s_nil (k44 _ _ ?_)
 refine w_cond true (by kernel_rfl) rfl (fun _ => ?_) (fun h => by cases h)
 refine w_seqk fun _ k242 => ?_
 refine g_' ?_
 refine q_ (.iface t46 x47) ?_
 refine q_ (.slice none 0 0) ?_
 refine q_ (.iface t46 x47) ?_
 refine s_nil (k242 _ _ ?_)
 refine w_ret (th_ret ?_)
 refine b_ret (fn := Tryz.f13) (vs := [.slice none 0 0, .iface t46 x47]) (aRes_tmp (by kernel_rfl) (aRes_tmp (by kernel_rfl) (rfl))) ?_
 obtain rfl := Option.some.inj r241
 exact ⟨(.slice none 0 0), [], (.iface t46 x47), f38, rfl, (FrS.step wf (((FrS.refl (W := []) wf).extR e15).extR e24) e40 Inn.nil), (Ow.nil (by decide)), m41, Inn.nil, (i42.fresh (ntr e15.next e24.next)), Dj.nil_l⟩

theorem c_gtext_within {H : AH} {x : Int} {n_ : Int} {r : Bool}
    (wf : WF H) (hr : z_gtext_within x n_ = some r) :
    ACalls Tryz.prog 80 #[i_ x, i_ n_] H fun v H' => v = .bool r ∧ H = H' := by
 refine acalls_of_body mixed Tryz.func80 rfl (Nat.le_of_ble_eq_true rfl) ?_
 unfold z_gtext_within at hr
 refine w_seqk fun _ k1 => ?_
 refine g_' ?_
 refine q_ (.bool false) ?_
 refine s_nil (k1 _ _ ?_)
 refine w_seqk fun _ k2 => ?_
 refine g_' ?_
 refine q_ (i_ x) ?_
 refine s_b (x ≥ 0) (by kernel_rfl) (fun h3 => ?_) (fun h3 => ?_)
 ·have r4 := ite_t h3 hr
  refine q_ (.bool true) ?_
  refine q_ (i_ x) ?_
  refine q_ (i_ n_) ?_
  refine q_ (.bool (decide (x < n_))) ?_
  refine q_ (.bool (decide (x < n_))) ?_
  refine q_ (.bool (decide (x < n_))) ?_
  refine s_nil (k2 _ _ ?_)
  refine w_ret ?_
  refine b_ret (fn := Tryz.f80) (vs := [.bool (decide (x < n_))]) (aRes_tmp (by kernel_rfl) (rfl)) ?_
  obtain rfl := Option.some.inj r4
  exact ⟨rfl, rfl⟩
 have r5 := ite_f h3 hr
 refine q_ (.bool false) ?_
 refine n_' ?_
 refine n_' ?_
 refine n_' ?_
 refine q_ (.bool false) ?_
 refine q_ (.bool false) ?_
 refine s_nil (k2 _ _ ?_)
 refine w_ret ?_
 refine b_ret (fn := Tryz.f80) (vs := [.bool false]) (aRes_tmp (by kernel_rfl) (rfl)) ?_
 obtain rfl := Option.some.inj r5
 exact ⟨rfl, rfl⟩

theorem c_gtext_arc {H : AH} {From : Int} {To : Int} {Weight : Int} {n_ : Int} {r : Er}
    (wf : WF H) (hr : z_gtext_arc From To Weight n_ = some r) :
    ACalls Tryz.prog 68 #[.agg #[i_ From, i_ To, i_ Weight], i_ n_] H fun v H' => ∃ (v3 : Value) (f4 : Fp), v = v3 ∧ FrS [] H H' ∧ Ev 43 81 H' v3 r f4 ∧ Inn [] H f4 := by
 refine acalls_of_body mixed Tryz.func68 rfl (Nat.le_of_ble_eq_true rfl) ?_
 unfold z_gtext_arc at hr
 refine w_seqk fun _ k6 => ?_
 refine g_' ?_
 refine s_rwl wf [i_ From, i_ To, i_ Weight] (one_cons (rfl) (one_cons (rfl) (one_cons (rfl) (one_nil)))) (by kernel_rfl) fun b7 H8 e9 hb10 r11 => ?_
 refine q_ (.nilIface) ?_
 refine s_nil (k6 _ _ ?_)
 refine w_seqk fun _ k13 => ?_
 refine w_block ?_
 refine w_seqk fun _ k14 => ?_
 obtain ⟨o15, hx16, r17⟩ := bind_some hr
 refine w_mid (fun α H18 => Has α [(2, pt_ b7 0), (5, .bool o15)] ∧ H8 = H18) (fun _ k20 => ?_) (fun α H18 hM => ?_)
 ·refine g_' ?_
  refine q_ (pt_ b7 0) ?_
  refine l_' (i_ From) (aLoad Tryz.prog 3 (pt_ b7 0) H8) (r11.ld (by kernel_rfl)) ?_
  refine q_ (i_ n_) ?_
  obtain ⟨y22, hy23, r24⟩ := bind_some hx16
  refine s_ck 80 #[i_ From, i_ n_] (by kernel_rfl) (c_gtext_within e9.wf hy23) ?_
  rintro _ _ ⟨rfl, rfl⟩
  by_cases h27 : y22 = true
  ·have r28 := ite_t h27 r24
   rw [h27]
   refine q_ (.bool false) ?_
   refine q_ (.bool false) ?_
   refine q_ (pt_ b7 1) ?_
   refine l_' (i_ To) (aLoad Tryz.prog 3 (pt_ b7 1) H8) (r11.ld (by kernel_rfl)) ?_
   refine q_ (i_ n_) ?_
   obtain ⟨y30, hy31, r32⟩ := bind_some r28
   refine s_ck 80 #[i_ To, i_ n_] (by kernel_rfl) (c_gtext_within e9.wf hy31) ?_
   rintro _ _ ⟨rfl, rfl⟩
   refine q_ (.bool (!y30)) ?_
   refine q_ (.bool (!y30)) ?_
   refine q_ (.bool (!y30)) ?_
   refine s_nil ?_
   obtain rfl := Option.some.inj r32
   exact k20 _ _ ⟨ha_, rfl⟩
  have r35 := ite_f h27 r24
  rw [nb h27]
  refine q_ (.bool true) ?_
  refine q_ (.bool true) ?_
  refine n_' ?_
  refine n_' ?_
  refine n_' ?_
  refine n_' ?_
  refine n_' ?_
  refine q_ (.bool true) ?_
  refine q_ (.bool true) ?_
  refine s_nil ?_
  obtain rfl := Option.some.inj r35
  exact k20 _ _ ⟨ha_, rfl⟩
 obtain ⟨hh21, rfl⟩ := hM
 obtain ⟨β, rfl⟩ := has_ex hh21
 clear hh21
 refine k14 _ _ ?_
 refine w_cond (o15) (by kernel_rfl) rfl (fun h37 => ?_) (fun h37 => ?_)
 ·have r38 := ite_t h37 r17
  refine w_seqk fun _ k39 => ?_
  refine g_' ?_
  refine q_ (.iface 43 (i_ 7)) ?_
  refine q_ (.iface 43 (i_ 7)) ?_
  refine s_nil (k39 _ _ ?_)
  refine w_ret (bl_ret (th_ret ?_))
  refine b_ret (fn := Tryz.f68) (vs := [.iface 43 (i_ 7)]) (aRes_tmp (by kernel_rfl) (rfl)) ?_
  obtain rfl := Option.some.inj r38
  exact ⟨(.iface 43 (i_ 7)), [], rfl, ((FrS.refl (W := []) wf).extR e9), Ev.no, Inn.nil⟩
 have r40 := ite_bf h37 r17
 refine w_seqk fun _ k41 => ?_
 refine g_' ?_
 refine q_ (pt_ b7 2) ?_
 refine l_' (i_ Weight) (aLoad Tryz.prog 3 (pt_ b7 2) H8) (r11.ld (by kernel_rfl)) ?_
 refine s_b (Weight < 0) (by kernel_rfl) (fun h42 => ?_) (fun h42 => ?_)
 ·have r43 := ite_t h42 r40
  refine q_ (.bool true) ?_
  refine n_' ?_
  refine n_' ?_
  refine n_' ?_
  refine q_ (.bool true) ?_
  refine q_ (.bool true) ?_
  refine s_nil (k41 _ _ ?_)
  refine w_cond true (by kernel_rfl) rfl (fun _ => ?_) (fun h => by cases h)
  refine w_seqk fun _ k44 => ?_
  refine g_' ?_
  refine q_ (.iface 43 (i_ 8)) ?_
  refine q_ (.iface 43 (i_ 8)) ?_
  refine s_nil (k44 _ _ ?_)
  refine w_ret (bl_ret (th_ret ?_))
  refine b_ret (fn := Tryz.f68) (vs := [.iface 43 (i_ 8)]) (aRes_tmp (by kernel_rfl) (rfl)) ?_
  obtain rfl := Option.some.inj r43
  exact ⟨(.iface 43 (i_ 8)), [], rfl, ((FrS.refl (W := []) wf).extR e9), Ev.no, Inn.nil⟩
 have r45 := ite_f h42 r40
 refine q_ (.bool false) ?_
 refine q_ (pt_ b7 2) ?_
 refine l_' (i_ Weight) (aLoad Tryz.prog 3 (pt_ b7 2) H8) (r11.ld (by kernel_rfl)) ?_
 refine q_ (.bool (decide (Weight > 2147483647))) ?_
 refine q_ (.bool (decide (Weight > 2147483647))) ?_
 refine q_ (.bool (decide (Weight > 2147483647))) ?_
 refine s_nil (k41 _ _ ?_)
 refine w_condp (Weight > 2147483647) (by kernel_rfl) rfl (fun h46 => ?_) (fun h46 => ?_)
 ·have r47 := ite_t h46 r45
  refine w_seqk fun _ k48 => ?_
  refine g_' ?_
  refine q_ (.iface 43 (i_ 8)) ?_
  refine q_ (.iface 43 (i_ 8)) ?_
  refine s_nil (k48 _ _ ?_)
  refine w_ret (bl_ret (th_ret ?_))
  refine b_ret (fn := Tryz.f68) (vs := [.iface 43 (i_ 8)]) (aRes_tmp (by kernel_rfl) (rfl)) ?_
  obtain rfl := Option.some.inj r47
  exact ⟨(.iface 43 (i_ 8)), [], rfl, ((FrS.refl (W := []) wf).extR e9), Ev.no, Inn.nil⟩
 have r49 := ite_f h46 r45
 refine w_skip ?_
 refine k13 _ _ ?_
 refine w_seqk fun _ k50 => ?_
 refine g_' ?_
 refine q_ (.nilIface) ?_
 refine s_nil (k50 _ _ ?_)
 refine w_ret ?_
 refine b_ret (fn := Tryz.f68) (vs := [.nilIface]) (aRes_tmp (by kernel_rfl) (rfl)) ?_
 obtain rfl := Option.some.inj r49
 exact ⟨(.nilIface), [], rfl, ((FrS.refl (W := []) wf).extR e9), Ev.nil, Inn.nil⟩

theorem c_gtext_Check {H : AH} {hd_Arcs : Value} {fp_Arcs : Fp} {N_ : Int} {Arcs : List (Int × Int × Int)} {r : Er}
    (wf : WF H) (h_Arcs : Sq enc_i64_i64_i64 3 H hd_Arcs Arcs fp_Arcs) (hr : z_gtext_Check N_ Arcs = some r) :
    ACalls Tryz.prog 53 #[.agg #[i_ N_, hd_Arcs]] H fun v H' => ∃ (v3 : Value) (f4 : Fp), v = v3 ∧ FrS [] H H' ∧ Ev 43 81 H' v3 r f4 ∧ Inn [] H f4 := by
 refine acalls_of_body mixed Tryz.func53 rfl (Nat.le_of_ble_eq_true rfl) ?_
 unfold z_gtext_Check at hr
 refine w_seqk fun _ k6 => ?_
 refine g_' ?_
 refine s_rwl wf [i_ N_, hd_Arcs] (one_cons (rfl) (one_cons (h_Arcs.one1) (one_nil))) (by kernel_rfl) fun b7 H8 e9 hb10 r11 => ?_
 refine q_ (.nilIface) ?_
 refine s_nil (k6 _ _ ?_)
 refine w_seqk fun _ k13 => ?_
 refine w_seqk fun _ k14 => ?_
 obtain ⟨o15, hx16, r17⟩ := bind_some hr
 refine w_mid (fun α H18 => Has α [(1, pt_ b7 0), (19, .bool o15)] ∧ H8 = H18) (fun _ k20 => ?_) (fun α H18 hM => ?_)
 ·refine g_' ?_
  refine q_ (pt_ b7 0) ?_
  refine l_' (i_ N_) (aLoad Tryz.prog 3 (pt_ b7 0) H8) (r11.ld (by kernel_rfl)) ?_
  refine s_b (N_ < 0) (by kernel_rfl) (fun h22 => ?_) (fun h22 => ?_)
  ·have r23 := ite_t h22 hx16
   refine q_ (.bool true) ?_
   refine n_' ?_
   refine n_' ?_
   refine n_' ?_
   refine q_ (.bool true) ?_
   refine q_ (.bool true) ?_
   refine n_' ?_
   refine n_' ?_
   refine n_' ?_
   refine n_' ?_
   refine q_ (.bool true) ?_
   refine s_nil ?_
   obtain rfl := Option.some.inj r23
   exact k20 _ _ ⟨ha_, rfl⟩
  have r24 := ite_f h22 hx16
  refine q_ (.bool false) ?_
  refine q_ (pt_ b7 0) ?_
  refine l_' (i_ N_) (aLoad Tryz.prog 3 (pt_ b7 0) H8) (r11.ld (by kernel_rfl)) ?_
  refine s_b (N_ > 65536) (by kernel_rfl) (fun h25 => ?_) (fun h25 => ?_)
  ·have r26 := ite_t h25 r24
   refine q_ (.bool true) ?_
   refine q_ (.bool true) ?_
   refine n_' ?_
   refine n_' ?_
   refine n_' ?_
   refine n_' ?_
   refine q_ (.bool true) ?_
   refine s_nil ?_
   obtain rfl := Option.some.inj r26
   exact k20 _ _ ⟨ha_, rfl⟩
  have r27 := ite_f h25 r24
  refine q_ (.bool false) ?_
  refine q_ (.bool false) ?_
  refine q_ (pt_ b7 1) ?_
  refine l_' (hd_Arcs) (aLoad Tryz.prog 49 (pt_ b7 1) H8) (r11.ld (by kernel_rfl)) ?_
  have u28 := (h_Arcs.ext e9)
  refine l_' (i_ (Arcs.length : Int)) (aLen Tryz.prog 49 hd_Arcs H8) (u28.lenb (by kernel_rfl)) ?_
  refine q_ (.bool (decide ((Arcs.length : Int) > 262144))) ?_
  refine q_ (.bool (decide ((Arcs.length : Int) > 262144))) ?_
  refine s_nil ?_
  obtain rfl := Option.some.inj r27
  exact k20 _ _ ⟨ha_, rfl⟩
 obtain ⟨hh21, rfl⟩ := hM
 obtain ⟨β, rfl⟩ := has_ex hh21
 clear hh21
 refine k14 _ _ ?_
 refine w_cond (o15) (by kernel_rfl) rfl (fun h29 => ?_) (fun h29 => ?_)
 ·have r30 := ite_t h29 r17
  refine w_seqk fun _ k31 => ?_
  refine g_' ?_
  refine q_ (.iface 43 (i_ 9)) ?_
  refine q_ (.iface 43 (i_ 9)) ?_
  refine s_nil (k31 _ _ ?_)
  refine w_ret (th_ret ?_)
  refine b_ret (fn := Tryz.f53) (vs := [.iface 43 (i_ 9)]) (aRes_tmp (by kernel_rfl) (rfl)) ?_
  obtain rfl := Option.some.inj r30
  exact ⟨(.iface 43 (i_ 9)), [], rfl, ((FrS.refl (W := []) wf).extR e9), Ev.no, Inn.nil⟩
 have r32 := ite_bf h29 r17
 refine w_skip ?_
 refine k13 _ _ ?_
 refine w_seqk fun _ k33 => ?_
 refine w_seqk fun _ k34 => ?_
 refine g_' ?_
 refine q_ (pt_ b7 1) ?_
 refine l_' (hd_Arcs) (aLoad Tryz.prog 49 (pt_ b7 1) H8) (r11.ld (by kernel_rfl)) ?_
 have u35 := (h_Arcs.ext e9)
 refine l_' (i_ (Arcs.length : Int)) (aLen Tryz.prog 49 hd_Arcs H8) (u35.lenb (by kernel_rfl)) ?_
 refine q_ (i_ 0) ?_
 refine s_nil (k34 _ _ ?_)
 obtain ⟨z39, hx37, r38⟩ := bind_some r32
 refine w_mid (fun α H40 => ∃ o36, z39 = Sum.inr o36 ∧ Has α [] ∧ FrS [] H8 H40) (fun _ k42 => ?_) (fun α H40 hM => ?_)
 ·refine w_block ?_
  obtain ⟨n44, hn45⟩ := loopO_iff.1 hx37
  refine w_loopn (fun n α H46 => ∃ (i0 : Int), iterO (fun zz_ => z_gtext_Check_l0 N_ Arcs zz_) n i0 = some z39 ∧ Has α [(1, pt_ b7 0), (22, hd_Arcs), (23, i_ (Arcs.length : Int)), (24, i_ i0)] ∧ FrS [] H8 H46) n44 ⟨0, hn45, ha_, (FrS.refl (W := []) e9.wf)⟩ ?_
  rintro n44 α H46 ⟨i0, hi49, hh48, e47⟩ K54 k54
  obtain ⟨n50, z51, rfl, hz52, hn53⟩ := iter_succ hi49
  obtain ⟨β, rfl⟩ := has_ex hh48
  clear hh48
  replace hz52 : z_gtext_Check_l0 N_ Arcs i0 = some z51 := hz52
  unfold z_gtext_Check_l0 at hz52
  refine w_seqk fun _ k55 => ?_
  refine g_' ?_
  refine q_ (.bool (decide (i0 < (Arcs.length : Int)))) ?_
  refine s_nil (k55 _ _ ?_)
  refine w_seqk fun _ k56 => ?_
  refine w_condp (i0 < (Arcs.length : Int)) (by kernel_rfl) rfl (fun h57 => ?_) (fun h57 => ?_)
  ·have r58 := ite_t h57 hz52
   refine w_skip ?_
   refine k56 _ _ ?_
   refine w_seqk fun _ k59 => ?_
   refine w_block ?_
   refine w_seqk fun _ k60 => ?_
   refine g_' ?_
   refine q_ (i_ i0) ?_
   obtain ⟨g61, r62⟩ := G_some r58
   have u63 := (u35.fr e47 Dj.nil_l)
   refine l_' (elp hd_Arcs 3 i0.toNat 0) (aIndexAddr Tryz.prog 49 hd_Arcs (i_ i0)) (u63.idxb (by kernel_rfl) g61 h57) ?_
   refine l_' (.agg #[i_ ((gt Arcs i0).1), i_ ((gt Arcs i0).2.1), i_ ((gt Arcs i0).2.2)]) (aLoad Tryz.prog 53 (elp hd_Arcs 3 i0.toNat 0) H46) (u63.ld g61 h57 (by kernel_rfl)) ?_
   refine s_rwk e47.wf [i_ 0, i_ 0, i_ 0] (by kernel_rfl) fun b64 H65 e66 hb67 r68 => ?_
   refine q_ (i_ i0) ?_
   obtain ⟨H70, q71, e72, r73⟩ := Row.store (P := Tryz.prog) (t := 53) (p := 0) e66.wf r68 (.agg #[i_ ((gt Arcs i0).1), i_ ((gt Arcs i0).2.1), i_ ((gt Arcs i0).2.2)]) [i_ ((gt Arcs i0).1), i_ ((gt Arcs i0).2.1), i_ ((gt Arcs i0).2.2)] (by kernel_rfl) (by kernel_rfl) (one_cons (rfl) (one_cons (rfl) (one_cons (rfl) (one_nil)))) (Nat.le_of_ble_eq_true (by kernel_rfl)) [i_ ((gt Arcs i0).1), i_ ((gt Arcs i0).2.1), i_ ((gt Arcs i0).2.2)] (by kernel_rfl)
   refine s_ek (undef) (by kernel_rfl) (map_ok q71) ?_
   refine s_nil (k60 _ _ ?_)
   refine w_seqk fun _ k74 => ?_
   refine g_' ?_
   refine l_' (.agg #[i_ ((gt Arcs i0).1), i_ ((gt Arcs i0).2.1), i_ ((gt Arcs i0).2.2)]) (aLoad Tryz.prog 53 (pt_ b64 0) H70) (r73.ld (by kernel_rfl)) ?_
   refine q_ (pt_ b7 0) ?_
   have u75 := (((r11.frS e47 Dj.nil_l).ext e66).frS e72 (hb67.djn (r11.ltF.le e47.next)))
   refine l_' (i_ N_) (aLoad Tryz.prog 3 (pt_ b7 0) H70) (u75.ld (by kernel_rfl)) ?_
   obtain ⟨y76, hy77, r78⟩ := bind_some r62
   refine s_ck 68 #[.agg #[i_ ((gt Arcs i0).1), i_ ((gt Arcs i0).2.1), i_ ((gt Arcs i0).2.2)], i_ N_] (by kernel_rfl) (c_gtext_arc e72.wf hy77) ?_
   rintro v79 H81 ⟨_, f80, rfl, e82, m83, i84⟩
   refine q_ (v79) ?_
   refine s_nil (k74 _ _ ?_)
   refine w_seqk fun _ k86 => ?_
   refine g_' ?_
   refine q_ (v79) ?_
   rcases (m83).cases with ⟨h87, rfl⟩ | ⟨h87, t88, x89, rfl⟩
   ·have r90 := ite_t h87 r78
    refine q_ (.bool false) ?_
    refine s_nil (k86 _ _ ?_)
    refine w_cond false (by kernel_rfl) rfl (fun h => by cases h) (fun _ => ?_)
    refine w_skip ?_
    refine k59 _ _ ?_
    refine g_' ?_
    obtain ⟨g91, r92⟩ := G_some r90
    refine s_w ((i0 + 1)) (k := .i64) (x := (i0 + 1)) (by kernel_rfl) (wrap64 (by have := g91; omega)) ?_
    refine q_ (i_ (i0 + 1)) ?_
    refine s_nil ?_
    obtain rfl := Option.some.inj r92
    exact k54 n50 _ _ (Nat.lt_succ_self _) ⟨(i0 + 1), hn53, ha_, (FrS.step e9.wf (FrS.step e9.wf ((FrS.step e9.wf (FrS.refl (W := []) e9.wf) e47 Inn.nil).extR e66) e72 (hb67.fresh e47.next)) e82 Inn.nil)⟩
   have r93 := ite_f h87 r78
   refine l_' (.bool true) (aBin Tryz.prog .neq 31 (.tmp 33) (.const .nilIface) (.iface t88 x89) .nilIface) (aBin_nnil (by kernel_rfl)) ?_
   refine s_nil (k86 _ _ ?_)
   refine w_cond true (by kernel_rfl) rfl (fun _ => ?_) (fun h => by cases h)
   refine w_seqk fun _ k94 => ?_
   refine g_' ?_
   refine q_ (i_ i0) ?_
   refine q_ (.iface t88 x89) ?_
   obtain ⟨y95, hy96, r97⟩ := bind_some r93
   refine s_ck 59 #[i_ 4, i_ i0, .iface t88 x89] (by kernel_rfl) (c_fault_At e82.wf m83 hy96) ?_
   rintro v98 H100 ⟨_, f99, rfl, e101, m102, i103⟩
   refine q_ (v98) ?_
   refine s_nil (k94 _ _ ?_)
   refine w_ret (bl_ret (th_ret (th_ret (bl_ret (th_ret (th_ret ?_))))))
   obtain ⟨v105, hv106, hz107⟩ := map_some r97
   subst hz107
   obtain rfl := it_inr hn53
   have hq108 := elim_inl r38
   rw [hq108] at hv106
   refine b_ret (fn := Tryz.f53) (vs := [v98]) (aRes_tmp (by kernel_rfl) (rfl)) ?_
   obtain rfl := Option.some.inj hv106
   exact ⟨(v98), f99, rfl, (FrS.step wf (FrS.step wf (FrS.step wf ((FrS.step wf ((FrS.refl (W := []) wf).extR e9) e47 Inn.nil).extR e66) e72 (hb67.fresh (ntr e9.next e47.next))) e82 Inn.nil) e101 Inn.nil), m102, (Inn.trans (i84.fresh (ntr (ntr (ntr e9.next e47.next) e66.next) e72.next)) (ntr (ntr (ntr (ntr e9.next e47.next) e66.next) e72.next) e82.next) i103)⟩
  have r109 := ite_f h57 hz52
  refine w_exit (th_exit (th_exit (bl_eq ?_)))
  obtain rfl := Option.some.inj r109
  obtain rfl := it_inr hn53
  exact k42 _ _ ⟨_, rfl, trivial, (FrS.step e9.wf (FrS.refl (W := []) e9.wf) e47 Inn.nil)⟩
 obtain ⟨o36, rfl, hh43, e41⟩ := hM
 have r110 := elim_inr r38
 obtain ⟨β, rfl⟩ := has_ex hh43
 clear hh43
 refine k33 _ _ ?_
 refine w_seqk fun _ k111 => ?_
 refine g_' ?_
 refine q_ (.nilIface) ?_
 refine s_nil (k111 _ _ ?_)
 refine w_ret ?_
 refine b_ret (fn := Tryz.f53) (vs := [.nilIface]) (aRes_tmp (by kernel_rfl) (rfl)) ?_
 obtain rfl := Option.some.inj r110
 exact ⟨(.nilIface), [], rfl, (FrS.step wf ((FrS.refl (W := []) wf).extR e9) e41 Inn.nil), Ev.nil, Inn.nil⟩

theorem c_cmp_isNaN {H : AH} {x : Int} {r : Bool}
    (wf : WF H) (hr : z_cmp_isNaN x = some r) :
    ACalls Tryz.prog 91 #[i_ x] H fun v H' => v = .bool r ∧ H = H' := by
 refine acalls_of_body mixed Tryz.func91 rfl (Nat.le_of_ble_eq_true rfl) ?_
 unfold z_cmp_isNaN at hr
 refine w_seqk fun _ k1 => ?_
 refine g_' ?_
 refine q_ (.bool false) ?_
 refine s_nil (k1 _ _ ?_)
 refine w_seqk fun _ k2 => ?_
 refine g_' ?_
 refine q_ (i_ x) ?_
 refine q_ (i_ x) ?_
 refine q_ (.bool (!decide (x = x))) ?_
 refine q_ (.bool (!decide (x = x))) ?_
 refine s_nil (k2 _ _ ?_)
 refine w_ret ?_
 refine b_ret (fn := Tryz.f91) (vs := [.bool (!decide (x = x))]) (aRes_tmp (by kernel_rfl) (rfl)) ?_
 obtain rfl := Option.some.inj hr
 exact ⟨rfl, rfl⟩

theorem c_cmp_Compare {H : AH} {x : Int} {y : Int} {r : Int}
    (wf : WF H) (hr : z_cmp_Compare x y = some r) :
    ACalls Tryz.prog 72 #[i_ x, i_ y] H fun v H' => v = i_ r ∧ H = H' := by
 refine acalls_of_body mixed Tryz.func72 rfl (Nat.le_of_ble_eq_true rfl) ?_
 unfold z_cmp_Compare at hr
 refine w_seqk fun _ k1 => ?_
 refine g_' ?_
 refine q_ (i_ 0) ?_
 refine s_nil (k1 _ _ ?_)
 refine w_seqk fun _ k2 => ?_
 refine g_' ?_
 refine q_ (i_ x) ?_
 obtain ⟨y3, hy4, r5⟩ := bind_some hr
 refine s_ck 91 #[i_ x] (by kernel_rfl) (c_cmp_isNaN wf hy4) ?_
 rintro _ _ ⟨rfl, rfl⟩
 refine q_ (.bool y3) ?_
 refine s_nil (k2 _ _ ?_)
 refine w_seqk fun _ k8 => ?_
 refine g_' ?_
 refine q_ (i_ y) ?_
 obtain ⟨y9, hy10, r11⟩ := bind_some r5
 refine s_ck 91 #[i_ y] (by kernel_rfl) (c_cmp_isNaN wf hy10) ?_
 rintro _ _ ⟨rfl, rfl⟩
 refine q_ (.bool y9) ?_
 refine s_nil (k8 _ _ ?_)
 refine w_seqk fun _ k14 => ?_
 refine w_seqk fun _ k15 => ?_
 refine g_' ?_
 refine q_ (.bool y3) ?_
 refine s_nil (k15 _ _ ?_)
 refine w_cond (y3) (by kernel_rfl) rfl (fun h16 => ?_) (fun h16 => ?_)
 ·have r17 := ite_t h16 r11
  refine w_seqk fun _ k18 => ?_
  refine w_seqk fun _ k19 => ?_
  refine g_' ?_
  refine q_ (.bool y9) ?_
  refine s_nil (k19 _ _ ?_)
  refine w_cond (y9) (by kernel_rfl) rfl (fun h20 => ?_) (fun h20 => ?_)
  ·have r21 := ite_t h20 r17
   refine w_seqk fun _ k22 => ?_
   refine g_' ?_
   refine q_ (i_ 0) ?_
   refine s_nil (k22 _ _ ?_)
   refine w_ret (th_ret (th_ret ?_))
   refine b_ret (fn := Tryz.f72) (vs := [i_ 0]) (aRes_tmp (by kernel_rfl) (rfl)) ?_
   obtain rfl := Option.some.inj r21
   exact ⟨rfl, rfl⟩
  have r23 := ite_bf h20 r17
  refine w_skip ?_
  refine k18 _ _ ?_
  refine w_seqk fun _ k24 => ?_
  refine g_' ?_
  refine q_ (i_ (-1)) ?_
  refine s_nil (k24 _ _ ?_)
  refine w_ret (th_ret ?_)
  refine b_ret (fn := Tryz.f72) (vs := [i_ (-1)]) (aRes_tmp (by kernel_rfl) (rfl)) ?_
  obtain rfl := Option.some.inj r23
  exact ⟨rfl, rfl⟩
 have r25 := ite_bf h16 r11
 refine w_skip ?_
 refine k14 _ _ ?_
 refine w_seqk fun _ k26 => ?_
 refine w_seqk fun _ k27 => ?_
 refine g_' ?_
 refine q_ (.bool y9) ?_
 refine s_nil (k27 _ _ ?_)
 refine w_cond (y9) (by kernel_rfl) rfl (fun h28 => ?_) (fun h28 => ?_)
 ·have r29 := ite_t h28 r25
  refine w_seqk fun _ k30 => ?_
  refine g_' ?_
  refine q_ (i_ 1) ?_
  refine s_nil (k30 _ _ ?_)
  refine w_ret (th_ret ?_)
  refine b_ret (fn := Tryz.f72) (vs := [i_ 1]) (aRes_tmp (by kernel_rfl) (rfl)) ?_
  obtain rfl := Option.some.inj r29
  exact ⟨rfl, rfl⟩
 have r31 := ite_bf h28 r25
 refine w_skip ?_
 refine k26 _ _ ?_
 refine w_seqk fun _ k32 => ?_
 refine w_seqk fun _ k33 => ?_
 refine g_' ?_
 refine q_ (i_ x) ?_
 refine q_ (i_ y) ?_
 refine q_ (.bool (decide (x < y))) ?_
 refine s_nil (k33 _ _ ?_)
 refine w_condp (x < y) (by kernel_rfl) rfl (fun h34 => ?_) (fun h34 => ?_)
 ·have r35 := ite_t h34 r31
  refine w_seqk fun _ k36 => ?_
  refine g_' ?_
  refine q_ (i_ (-1)) ?_
  refine s_nil (k36 _ _ ?_)
  refine w_ret (th_ret ?_)
  refine b_ret (fn := Tryz.f72) (vs := [i_ (-1)]) (aRes_tmp (by kernel_rfl) (rfl)) ?_
  obtain rfl := Option.some.inj r35
  exact ⟨rfl, rfl⟩
 have r37 := ite_f h34 r31
 refine w_skip ?_
 refine k32 _ _ ?_
 refine w_seqk fun _ k38 => ?_
 refine w_seqk fun _ k39 => ?_
 refine g_' ?_
 refine q_ (i_ x) ?_
 refine q_ (i_ y) ?_
 refine q_ (.bool (decide (x > y))) ?_
 refine s_nil (k39 _ _ ?_)
 refine w_condp (x > y) (by kernel_rfl) rfl (fun h40 => ?_) (fun h40 => ?_)
 ·have r41 := ite_t h40 r37
  refine w_seqk fun _ k42 => ?_
  refine g_' ?_
  refine q_ (i_ 1) ?_
  refine s_nil (k42 _ _ ?_)
  refine w_ret (th_ret ?_)
  refine b_ret (fn := Tryz.f72) (vs := [i_ 1]) (aRes_tmp (by kernel_rfl) (rfl)) ?_
  obtain rfl := Option.some.inj r41
  exact ⟨rfl, rfl⟩
 have r43 := ite_f h40 r37
 refine w_skip ?_
 refine k38 _ _ ?_
 refine w_seqk fun _ k44 => ?_
 refine g_' ?_
 refine q_ (i_ 0) ?_
 refine s_nil (k44 _ _ ?_)
 refine w_ret ?_
 refine b_ret (fn := Tryz.f72) (vs := [i_ 0]) (aRes_tmp (by kernel_rfl) (rfl)) ?_
 obtain rfl := Option.some.inj r43
 exact ⟨rfl, rfl⟩

theorem c_cmp_Or {H : AH} {hd_vals : Value} {fp_vals : Fp} {vals : List (Int)} {r : Int}
    (wf : WF H) (h_vals : Sq (encI .i64) 1 H hd_vals vals fp_vals) (hr : z_cmp_Or vals = some r) :
    ACalls Tryz.prog 71 #[hd_vals] H fun v H' => v = i_ r ∧ H = H' := by
 refine acalls_of_body mixed Tryz.func71 rfl (Nat.le_of_ble_eq_true rfl) ?_
 unfold z_cmp_Or at hr
 refine w_seqk fun _ k1 => ?_
 refine g_' ?_
 refine q_ (i_ 0) ?_
 refine s_nil (k1 _ _ ?_)
 refine w_seqk fun _ k2 => ?_
 refine g_' ?_
 refine q_ (i_ 0) ?_
 refine s_nil (k2 _ _ ?_)
 refine w_seqk fun _ k3 => ?_
 refine w_seqk fun _ k4 => ?_
 refine g_' ?_
 refine q_ (hd_vals) ?_
 refine l_' (i_ (vals.length : Int)) (aLen Tryz.prog 23 hd_vals H) (h_vals.lenb (by kernel_rfl)) ?_
 refine q_ (i_ 0) ?_
 refine s_nil (k4 _ _ ?_)
 obtain ⟨z8, hx6, r7⟩ := bind_some hr
 refine w_mid (fun α H9 => ∃ o5, z8 = Sum.inr o5 ∧ Has α [(3, i_ 0)] ∧ H = H9) (fun _ k11 => ?_) (fun α H9 hM => ?_)
 ·refine w_block ?_
  obtain ⟨n13, hn14⟩ := loopO_iff.1 hx6
  refine w_loopn (fun n α H15 => ∃ (i0 : Int), iterO (fun zz_ => z_cmp_Or_l0 vals zz_) n i0 = some z8 ∧ Has α [(3, i_ 0), (6, hd_vals), (7, i_ (vals.length : Int)), (8, i_ i0)] ∧ H = H15) n13 ⟨0, hn14, ha_, rfl⟩ ?_
  rintro n13 α H15 ⟨i0, hi18, hh17, rfl⟩ K23 k23
  obtain ⟨n19, z20, rfl, hz21, hn22⟩ := iter_succ hi18
  obtain ⟨β, rfl⟩ := has_ex hh17
  clear hh17
  replace hz21 : z_cmp_Or_l0 vals i0 = some z20 := hz21
  unfold z_cmp_Or_l0 at hz21
  refine w_seqk fun _ k24 => ?_
  refine g_' ?_
  refine q_ (.bool (decide (i0 < (vals.length : Int)))) ?_
  refine s_nil (k24 _ _ ?_)
  refine w_seqk fun _ k25 => ?_
  refine w_condp (i0 < (vals.length : Int)) (by kernel_rfl) rfl (fun h26 => ?_) (fun h26 => ?_)
  ·have r27 := ite_t h26 hz21
   refine w_skip ?_
   refine k25 _ _ ?_
   refine w_seqk fun _ k28 => ?_
   refine w_block ?_
   refine w_seqk fun _ k29 => ?_
   refine g_' ?_
   obtain ⟨g30, r31⟩ := G_some r27
   refine l_' (elp hd_vals 1 i0.toNat 0) (aIndexAddr Tryz.prog 23 hd_vals (i_ i0)) (h_vals.idxb (by kernel_rfl) g30 h26) ?_
   refine l_' (i_ (gt vals i0)) (aLoad Tryz.prog 3 (elp hd_vals 1 i0.toNat 0) H) (h_vals.ld g30 h26 (by kernel_rfl)) ?_
   refine q_ (i_ (gt vals i0)) ?_
   refine s_nil (k29 _ _ ?_)
   refine w_seqk fun _ k32 => ?_
   refine g_' ?_
   refine q_ (i_ (gt vals i0)) ?_
   refine q_ (i_ 0) ?_
   refine q_ (.bool (!decide ((gt vals i0) = 0))) ?_
   refine s_nil (k32 _ _ ?_)
   refine w_condn ((gt vals i0) = 0) (by kernel_rfl) rfl (fun h33 => ?_) (fun h33 => ?_)
   ·have r34 := ite_f h33 r31
    refine w_seqk fun _ k35 => ?_
    refine g_' ?_
    refine q_ (i_ (gt vals i0)) ?_
    refine q_ (i_ (gt vals i0)) ?_
    refine s_nil (k35 _ _ ?_)
    refine w_ret (bl_ret (th_ret (th_ret (bl_ret (th_ret (th_ret ?_))))))
    obtain ⟨v36, hv37, hz38⟩ := map_some r34
    subst hz38
    obtain rfl := it_inr hn22
    have hq39 := elim_inl r7
    rw [hq39] at hv37
    refine b_ret (fn := Tryz.f71) (vs := [i_ (gt vals i0)]) (aRes_tmp (by kernel_rfl) (rfl)) ?_
    obtain rfl := Option.some.inj hv37
    exact ⟨rfl, rfl⟩
   have r40 := ite_t h33 r31
   refine w_skip ?_
   refine k28 _ _ ?_
   refine g_' ?_
   obtain ⟨g41, r42⟩ := G_some r40
   refine s_w ((i0 + 1)) (k := .i64) (x := (i0 + 1)) (by kernel_rfl) (wrap64 (by have := g41; omega)) ?_
   refine q_ (i_ (i0 + 1)) ?_
   refine s_nil ?_
   obtain rfl := Option.some.inj r42
   exact k23 n19 _ _ (Nat.lt_succ_self _) ⟨(i0 + 1), hn22, ha_, rfl⟩
  have r43 := ite_f h26 hz21
  refine w_exit (th_exit (th_exit (bl_eq ?_)))
  obtain rfl := Option.some.inj r43
  obtain rfl := it_inr hn22
  exact k11 _ _ ⟨_, rfl, ha_, rfl⟩
 obtain ⟨o5, rfl, hh12, rfl⟩ := hM
 have r44 := elim_inr r7
 obtain ⟨β, rfl⟩ := has_ex hh12
 clear hh12
 refine k3 _ _ ?_
 refine w_seqk fun _ k45 => ?_
 refine g_' ?_
 refine q_ (i_ 0) ?_
 refine q_ (i_ 0) ?_
 refine s_nil (k45 _ _ ?_)
 refine w_ret ?_
 refine b_ret (fn := Tryz.f71) (vs := [i_ 0]) (aRes_tmp (by kernel_rfl) (rfl)) ?_
 obtain rfl := Option.some.inj r44
 exact ⟨rfl, rfl⟩

theorem c_normal_order {H : AH} {From : Int} {To : Int} {Weight : Int} {From_ : Int} {To_ : Int} {Weight_ : Int} {r : Int}
    (wf : WF H) (hr : z_normal_order From To Weight From_ To_ Weight_ = some r) :
    ACalls Tryz.prog 55 #[.agg #[i_ From, i_ To, i_ Weight], .agg #[i_ From_, i_ To_, i_ Weight_]] H fun v H' => v = i_ r ∧ FrS [] H H' := by
 refine acalls_of_body mixed Tryz.func55 rfl (Nat.le_of_ble_eq_true rfl) ?_
 unfold z_normal_order at hr
 refine w_seqk fun _ k1 => ?_
 refine g_' ?_
 refine s_rwl wf [i_ From, i_ To, i_ Weight] (one_cons (rfl) (one_cons (rfl) (one_cons (rfl) (one_nil)))) (by kernel_rfl) fun b2 H3 e4 hb5 r6 => ?_
 refine s_rwl e4.wf [i_ From_, i_ To_, i_ Weight_] (one_cons (rfl) (one_cons (rfl) (one_cons (rfl) (one_nil)))) (by kernel_rfl) fun b8 H9 e10 hb11 r12 => ?_
 refine q_ (i_ 0) ?_
 refine s_nil (k1 _ _ ?_)
 refine w_seqk fun _ k14 => ?_
 refine w_draw [0, 1, 2, 3, 5, 6, 7, 8, 10, 11, 12, 13, 4, 9, 14, 15, 16, 17] (by kernel_rfl) ?_
 refine e_' (pt_ b2 0) ?_
 have u15 := (r6.ext e10)
 refine m_' (i_ From) (aLoad Tryz.prog 3 (pt_ b2 0) H9) (u15.ld (by kernel_rfl)) ?_
 refine e_' (pt_ b8 0) ?_
 refine m_' (i_ From_) (aLoad Tryz.prog 3 (pt_ b8 0) H9) (r12.ld (by kernel_rfl)) ?_
 refine e_' (pt_ b2 1) ?_
 refine d_fl (i_ To) (x := aLoad Tryz.prog 3 (pt_ b2 1) H9) (by kernel_rfl) (u15.ld (by kernel_rfl)) ?_
 refine e_' (pt_ b8 1) ?_
 refine d_fl (i_ To_) (x := aLoad Tryz.prog 3 (pt_ b8 1) H9) (by kernel_rfl) (r12.ld (by kernel_rfl)) ?_
 refine e_' (pt_ b2 2) ?_
 refine d_fl (i_ Weight) (x := aLoad Tryz.prog 3 (pt_ b2 2) H9) (by kernel_rfl) (u15.ld (by kernel_rfl)) ?_
 refine e_' (pt_ b8 2) ?_
 refine d_fl (i_ Weight_) (x := aLoad Tryz.prog 3 (pt_ b8 2) H9) (by kernel_rfl) (r12.ld (by kernel_rfl)) ?_
 obtain ⟨y16, hy17, r18⟩ := bind_some hr
 refine d_ck 72 #[i_ From, i_ From_] (by kernel_rfl) (c_cmp_Compare e10.wf hy17) ?_
 rintro _ _ ⟨rfl, rfl⟩
 refine ⟨st_ql (y := aLoad Tryz.prog 3 (pt_ b8 2) H9) (by kernel_rfl) (r12.ld (by kernel_rfl)) (st_ql (y := aLoad Tryz.prog 3 (pt_ b2 2) H9) (by kernel_rfl) (u15.ld (by kernel_rfl)) (st_ql (y := aLoad Tryz.prog 3 (pt_ b8 1) H9) (by kernel_rfl) (r12.ld (by kernel_rfl)) (st_ql (y := aLoad Tryz.prog 3 (pt_ b2 1) H9) (by kernel_rfl) (u15.ld (by kernel_rfl)) (st_nil)))), ?_⟩
 obtain ⟨y21, hy22, r23⟩ := bind_some r18
 refine d_ck 72 #[i_ To, i_ To_] (by kernel_rfl) (c_cmp_Compare e10.wf hy22) ?_
 rintro _ _ ⟨rfl, rfl⟩
 refine ⟨st_ql (y := aLoad Tryz.prog 3 (pt_ b8 2) H9) (by kernel_rfl) (r12.ld (by kernel_rfl)) (st_ql (y := aLoad Tryz.prog 3 (pt_ b2 2) H9) (by kernel_rfl) (u15.ld (by kernel_rfl)) (st_anc (by kernel_rfl) (st_anc (by kernel_rfl) (st_nil)))), ?_⟩
 obtain ⟨y26, hy27, r28⟩ := bind_some r23
 refine d_ck 72 #[i_ Weight, i_ Weight_] (by kernel_rfl) (c_cmp_Compare e10.wf hy27) ?_
 rintro _ _ ⟨rfl, rfl⟩
 refine ⟨st_anc (by kernel_rfl) (st_anc (by kernel_rfl) (st_anc (by kernel_rfl) (st_anc (by kernel_rfl) (st_nil)))), ?_⟩
 refine d_owk (enc := (encI .i64)) (sz := 1) e10.wf [y16, y21, y26] 3 (by decide) (fun _ _ => rfl) (fun _ _ => rfl) rfl (by kernel_rfl) fun s31 f32 H33 e34 hf35 hm36 => ?_
 obtain ⟨a37, n38, c39, rfl⟩ := hm36.form
 obtain ⟨y41, hy42, r43⟩ := bind_some r28
 refine d_ck 71 #[.slice a37 n38 c39] (by kernel_rfl) (c_cmp_Or e34.wf hm36.sq hy42) ?_
 rintro _ _ ⟨rfl, rfl⟩
 refine ⟨st_anc (by kernel_rfl) (st_anc (by kernel_rfl) (st_anc (by kernel_rfl) (st_anc (by kernel_rfl) (st_nil)))), ?_⟩
 refine e_' (i_ y41) ?_
 refine d_nil ?_
 refine k14 _ _ ?_
 refine w_ret ?_
 refine b_ret (fn := Tryz.f55) (vs := [i_ y41]) (aRes_tmp (by kernel_rfl) (rfl)) ?_
 obtain rfl := Option.some.inj r43
 exact ⟨rfl, ((((FrS.refl (W := []) wf).extR e4).extR e10).extR e34)⟩

theorem c_normal_Of_1 {H : AH} {From : Int} {To : Int} {Weight : Int} {From_ : Int} {To_ : Int} {Weight_ : Int} {r : Bool}
    (wf : WF H) (hr : z_normal_Of_1 From To Weight From_ To_ Weight_ = some r) :
    ACalls Tryz.prog 57 #[.agg #[i_ From, i_ To, i_ Weight], .agg #[i_ From_, i_ To_, i_ Weight_]] H fun v H' => v = .bool r ∧ FrS [] H H' := by
 refine acalls_of_body mixed Tryz.func57 rfl (Nat.le_of_ble_eq_true rfl) ?_
 unfold z_normal_Of_1 at hr
 refine w_seqk fun _ k1 => ?_
 refine g_' ?_
 refine s_rwl wf [i_ From, i_ To, i_ Weight] (one_cons (rfl) (one_cons (rfl) (one_cons (rfl) (one_nil)))) (by kernel_rfl) fun b2 H3 e4 hb5 r6 => ?_
 refine s_rwl e4.wf [i_ From_, i_ To_, i_ Weight_] (one_cons (rfl) (one_cons (rfl) (one_cons (rfl) (one_nil)))) (by kernel_rfl) fun b8 H9 e10 hb11 r12 => ?_
 refine q_ (.bool false) ?_
 refine s_nil (k1 _ _ ?_)
 refine w_seqk fun _ k14 => ?_
 refine g_' ?_
 refine q_ (pt_ b2 0) ?_
 have u15 := (r6.ext e10)
 refine l_' (i_ From) (aLoad Tryz.prog 3 (pt_ b2 0) H9) (u15.ld (by kernel_rfl)) ?_
 refine q_ (pt_ b8 0) ?_
 refine l_' (i_ From_) (aLoad Tryz.prog 3 (pt_ b8 0) H9) (r12.ld (by kernel_rfl)) ?_
 refine s_b (From = From_) (by kernel_rfl) (fun h16 => ?_) (fun h16 => ?_)
 ·have r17 := ite_t h16 hr
  refine q_ (.bool true) ?_
  refine q_ (pt_ b2 1) ?_
  refine l_' (i_ To) (aLoad Tryz.prog 3 (pt_ b2 1) H9) (u15.ld (by kernel_rfl)) ?_
  refine q_ (pt_ b8 1) ?_
  refine l_' (i_ To_) (aLoad Tryz.prog 3 (pt_ b8 1) H9) (r12.ld (by kernel_rfl)) ?_
  refine q_ (.bool (decide (To = To_))) ?_
  refine q_ (.bool (decide (To = To_))) ?_
  refine q_ (.bool (decide (To = To_))) ?_
  refine s_nil (k14 _ _ ?_)
  refine w_ret ?_
  refine b_ret (fn := Tryz.f57) (vs := [.bool (decide (To = To_))]) (aRes_tmp (by kernel_rfl) (rfl)) ?_
  obtain rfl := Option.some.inj r17
  exact ⟨rfl, (((FrS.refl (W := []) wf).extR e4).extR e10)⟩
 have r18 := ite_f h16 hr
 refine q_ (.bool false) ?_
 refine n_' ?_
 refine n_' ?_
 refine n_' ?_
 refine n_' ?_
 refine n_' ?_
 refine q_ (.bool false) ?_
 refine q_ (.bool false) ?_
 refine s_nil (k14 _ _ ?_)
 refine w_ret ?_
 refine b_ret (fn := Tryz.f57) (vs := [.bool false]) (aRes_tmp (by kernel_rfl) (rfl)) ?_
 obtain rfl := Option.some.inj r18
 exact ⟨rfl, (((FrS.refl (W := []) wf).extR e4).extR e10)⟩


end Go.Vd

/-! (KSf6) -/

set_option maxRecDepth 100000
set_option maxHeartbeats 4000000
set_option linter.unusedVariables false
namespace Go.Vd
open Go.Proofs
attribute [local irreducible] wpSeq wpOrd aWp
theorem c_slices_CompactFunc {H : AH} {hd_s : Value} {fp_s : Fp} {s : List (Int × Int × Int)} {r : List (Int × Int × Int) × List (Int × Int × Int)}
    (wf : WF H) (h_s : Ow enc_i64_i64_i64 3 H hd_s s fp_s) (hr : z_slices_CompactFunc s = some r) :
    ACalls Tryz.prog 56 #[hd_s, .func (.func 57) #[] #[]] H fun v H' => ∃ (s3 : Value), v = s3 ∧ FrS fp_s H H' ∧ Ow enc_i64_i64_i64 3 H' s3 r.1 fp_s ∧ Ow enc_i64_i64_i64 3 H' hd_s r.2 fp_s := by
 refine acalls_of_body mixed Tryz.func56 rfl (Nat.le_of_ble_eq_true rfl) ?_
 unfold z_slices_CompactFunc at hr
 refine w_seqk fun _ k6 => ?_
 refine g_' ?_
 refine q_ (.slice none 0 0) ?_
 refine s_nil (k6 _ _ ?_)
 refine w_seqk fun _ k7 => ?_
 refine w_seqk fun _ k8 => ?_
 refine g_' ?_
 refine q_ (hd_s) ?_
 refine l_' (i_ (s.length : Int)) (aLen Tryz.prog 49 hd_s H) (h_s.sq.lenb (by kernel_rfl)) ?_
 refine q_ (.bool (decide ((s.length : Int) < 2))) ?_
 refine s_nil (k8 _ _ ?_)
 refine w_condp ((s.length : Int) < 2) (by kernel_rfl) rfl (fun h9 => ?_) (fun h9 => ?_)
 ·have r10 := ite_t h9 hr
  refine w_seqk fun _ k11 => ?_
  refine g_' ?_
  refine q_ (hd_s) ?_
  refine q_ (hd_s) ?_
  refine s_nil (k11 _ _ ?_)
  refine w_ret (th_ret ?_)
  refine b_ret (fn := Tryz.f56) (vs := [hd_s]) (aRes_tmp (by kernel_rfl) (rfl)) ?_
  obtain rfl := Option.some.inj r10
  exact ⟨(hd_s), rfl, (FrS.refl (W := fp_s) wf), h_s, h_s⟩
 have r12 := ite_f h9 hr
 refine w_skip ?_
 refine k7 _ _ ?_
 refine w_seqk fun _ k13 => ?_
 refine w_seqk fun _ k14 => ?_
 refine g_' ?_
 refine q_ (i_ 1) ?_
 refine s_nil (k14 _ _ ?_)
 obtain ⟨z18, hx16, r17⟩ := bind_some r12
 refine w_mid (fun α H19 => ∃ o15, z18 = Sum.inr o15 ∧ Has α [(0, hd_s)] ∧ FrS [] H H19) (fun _ k21 => ?_) (fun α H19 hM => ?_)
 ·refine w_block ?_
  obtain ⟨n23, hn24⟩ := loopO_iff.1 hx16
  refine w_loopn (fun n α H25 => ∃ (k3 : Int), iterO (fun zz_ => z_slices_CompactFunc_l1 s zz_) n k3 = some z18 ∧ Has α [(0, hd_s), (1, .func (.func 57) #[] #[]), (5, i_ k3)] ∧ FrS [] H H25) n23 ⟨1, hn24, ha_, (FrS.refl (W := []) wf)⟩ ?_
  rintro n23 α H25 ⟨k3, hi28, hh27, e26⟩ K33 k33
  obtain ⟨n29, z30, rfl, hz31, hn32⟩ := iter_succ hi28
  obtain ⟨β, rfl⟩ := has_ex hh27
  clear hh27
  replace hz31 : z_slices_CompactFunc_l1 s k3 = some z30 := hz31
  unfold z_slices_CompactFunc_l1 at hz31
  refine w_seqk fun _ k34 => ?_
  refine w_seqk fun _ k35 => ?_
  refine g_' ?_
  refine q_ (i_ k3) ?_
  refine q_ (hd_s) ?_
  have u36 := (h_s.fr e26 Dj.nil_l)
  refine l_' (i_ (s.length : Int)) (aLen Tryz.prog 49 hd_s H25) (u36.sq.lenb (by kernel_rfl)) ?_
  refine q_ (.bool (decide (k3 < (s.length : Int)))) ?_
  refine s_nil (k35 _ _ ?_)
  refine w_condp (k3 < (s.length : Int)) (by kernel_rfl) rfl (fun h37 => ?_) (fun h37 => ?_)
  ·have r38 := ite_t h37 hz31
   refine w_skip ?_
   refine k34 _ _ ?_
   refine w_seqk fun _ k39 => ?_
   refine w_block ?_
   refine w_seqk fun _ k40 => ?_
   refine w_draw [0, 1, 2, 3, 4, 5, 6, 7, 8, 9, 10] (by kernel_rfl) ?_
   refine e_' (.func (.func 57) #[] #[]) ?_
   refine e_' (hd_s) ?_
   refine e_' (i_ k3) ?_
   obtain ⟨g41, r42⟩ := G_some r38
   refine m_' (elp hd_s 3 k3.toNat 0) (aIndexAddr Tryz.prog 49 hd_s (i_ k3)) (u36.sq.idxb (by kernel_rfl) g41 h37) ?_
   refine m_' (.agg #[i_ ((gt s k3).1), i_ ((gt s k3).2.1), i_ ((gt s k3).2.2)]) (aLoad Tryz.prog 53 (elp hd_s 3 k3.toNat 0) H25) (u36.sq.ld g41 h37 (by kernel_rfl)) ?_
   refine e_' (hd_s) ?_
   refine e_' (i_ k3) ?_
   obtain ⟨g43, r44⟩ := G_some r42
   refine d_w ((k3 - 1)) (k := .i64) (x := (k3 - 1)) (by kernel_rfl) (wrap64 g43) ?_
   obtain ⟨g45, r46⟩ := G_some r44
   refine m_' (elp hd_s 3 (k3 - 1).toNat 0) (aIndexAddr Tryz.prog 49 hd_s (i_ (k3 - 1))) (u36.sq.idxb (by kernel_rfl) g45.1 g45.2) ?_
   refine m_' (.agg #[i_ ((gt s (k3 - 1)).1), i_ ((gt s (k3 - 1)).2.1), i_ ((gt s (k3 - 1)).2.2)]) (aLoad Tryz.prog 53 (elp hd_s 3 (k3 - 1).toNat 0) H25) (u36.sq.ld g45.1 g45.2 (by kernel_rfl)) ?_
   obtain ⟨y47, hy48, r49⟩ := bind_some r46
   refine d_ck 57 #[.agg #[i_ ((gt s k3).1), i_ ((gt s k3).2.1), i_ ((gt s k3).2.2)], .agg #[i_ ((gt s (k3 - 1)).1), i_ ((gt s (k3 - 1)).2.1), i_ ((gt s (k3 - 1)).2.2)]] (by kernel_rfl) (c_normal_Of_1 e26.wf hy48) ?_
   rintro _ H50 ⟨rfl, e51⟩
   refine ⟨st_nil, ?_⟩
   refine d_nil ?_
   refine k40 _ _ ?_
   refine w_cond (y47) (by kernel_rfl) rfl (fun h52 => ?_) (fun h52 => ?_)
   ·have r53 := ite_t h52 r49
    refine w_seqk fun _ k54 => ?_
    refine g_' ?_
    refine q_ (hd_s) ?_
    refine q_ (i_ k3) ?_
    obtain ⟨g55, r56⟩ := G_some r53
    have u60 := (u36.fr e51 Dj.nil_l)
    obtain ⟨s57, q58, vw59⟩ := Ow.view (P := Tryz.prog) u60 (t := 49) (by kernel_rfl) (lo := some (i_ k3)) (l := k3.toNat) (aBound_int _ (by have := g55; omega)) (by have := g55; omega)
    obtain ⟨a61, n62, c63, rfl⟩ := vw59.form
    refine s_ql (.slice a61 n62 c63) (by kernel_rfl) q58 ?_
    refine q_ (.slice a61 n62 c63) ?_
    refine s_nil (k54 _ _ ?_)
    refine w_seqk fun _ k64 => ?_
    refine w_seqk fun _ k65 => ?_
    refine g_' ?_
    refine q_ (i_ 1) ?_
    refine s_nil (k65 _ _ ?_)
    obtain ⟨o66, hx67, r68⟩ := bind_some r56
    refine w_mid (fun α H69 => Has α [(0, hd_s), (5, i_ o66.2)] ∧ FrS fp_s H50 H69 ∧ Ow enc_i64_i64_i64 3 H69 hd_s o66.1 fp_s) (fun _ k73 => ?_) (fun α H69 hM => ?_)
    ·refine w_block ?_
     obtain ⟨n75, hn76⟩ := loopO_iff.1 hx67
     refine w_loopn (fun n α H77 => ∃ (s0 : List (Int × Int × Int)), ∃ (k1 : Int), ∃ (k22 : Int), iterO (fun zz_ => z_slices_CompactFunc_l0 k3 zz_.1 zz_.2.1 zz_.2.2) n (s0, k1, k22) = some o66 ∧ Has α [(0, hd_s), (1, .func (.func 57) #[] #[]), (5, i_ k1), (6, .slice a61 n62 c63), (7, i_ k22)] ∧ FrS fp_s H50 H77 ∧ Ow enc_i64_i64_i64 3 H77 hd_s s0 fp_s) n75 ⟨s, k3, 1, hn76, ha_, (FrS.refl (W := fp_s) e51.wf), u60⟩ ?_
     rintro n75 α H77 ⟨s0, k1, k22, hi82, hh81, e78, m80⟩ K87 k87
     obtain ⟨n83, z84, rfl, hz85, hn86⟩ := iter_succ hi82
     obtain ⟨β, rfl⟩ := has_ex hh81
     clear hh81
     replace hz85 : z_slices_CompactFunc_l0 k3 s0 k1 k22 = some z84 := hz85
     unfold z_slices_CompactFunc_l0 at hz85
     refine w_seqk fun _ k88 => ?_
     refine w_seqk fun _ k89 => ?_
     refine g_' ?_
     refine q_ (i_ k22) ?_
     refine q_ (.slice a61 n62 c63) ?_
     obtain ⟨hs90, hl91⟩ := vw59.sq m80
     refine l_' (i_ ((s0.drop k3.toNat).length : Int)) (aLen Tryz.prog 49 (.slice a61 n62 c63) H77) (hs90.lenb (by kernel_rfl)) ?_
     refine q_ (.bool (decide (k22 < ((s0.drop k3.toNat).length : Int)))) ?_
     refine s_nil (k89 _ _ ?_)
     refine w_condp (k22 < ((s0.drop k3.toNat).length : Int)) (by kernel_rfl) rfl (fun h93 => ?_) (fun h93 => ?_)
     ·have r94 := ite_t h93 hz85
      refine w_skip ?_
      refine k88 _ _ ?_
      refine w_seqk fun _ k95 => ?_
      refine w_block ?_
      refine w_seqk fun _ k96 => ?_
      refine w_draw [0, 1, 2, 3, 4, 5, 6, 7, 8, 9, 10, 11] (by kernel_rfl) ?_
      refine e_' (.func (.func 57) #[] #[]) ?_
      refine e_' (.slice a61 n62 c63) ?_
      refine e_' (i_ k22) ?_
      obtain ⟨hs97, hl98⟩ := vw59.sq m80
      obtain ⟨g100, r101⟩ := G_some r94
      refine m_' (elp (.slice a61 n62 c63) 3 k22.toNat 0) (aIndexAddr Tryz.prog 49 (.slice a61 n62 c63) (i_ k22)) (hs97.idxb (by kernel_rfl) g100 h93) ?_
      refine m_' (.agg #[i_ ((gt (s0.drop k3.toNat) k22).1), i_ ((gt (s0.drop k3.toNat) k22).2.1), i_ ((gt (s0.drop k3.toNat) k22).2.2)]) (aLoad Tryz.prog 53 (elp (.slice a61 n62 c63) 3 k22.toNat 0) H77) (hs97.ld g100 h93 (by kernel_rfl)) ?_
      refine e_' (.slice a61 n62 c63) ?_
      refine e_' (i_ k22) ?_
      obtain ⟨g102, r103⟩ := G_some r101
      refine d_w ((k22 - 1)) (k := .i64) (x := (k22 - 1)) (by kernel_rfl) (wrap64 g102) ?_
      obtain ⟨hs104, hl105⟩ := vw59.sq m80
      obtain ⟨g107, r108⟩ := G_some r103
      refine m_' (elp (.slice a61 n62 c63) 3 (k22 - 1).toNat 0) (aIndexAddr Tryz.prog 49 (.slice a61 n62 c63) (i_ (k22 - 1))) (hs104.idxb (by kernel_rfl) g107.1 g107.2) ?_
      refine m_' (.agg #[i_ ((gt (s0.drop k3.toNat) (k22 - 1)).1), i_ ((gt (s0.drop k3.toNat) (k22 - 1)).2.1), i_ ((gt (s0.drop k3.toNat) (k22 - 1)).2.2)]) (aLoad Tryz.prog 53 (elp (.slice a61 n62 c63) 3 (k22 - 1).toNat 0) H77) (hs104.ld g107.1 g107.2 (by kernel_rfl)) ?_
      obtain ⟨y109, hy110, r111⟩ := bind_some r108
      refine d_ck 57 #[.agg #[i_ ((gt (s0.drop k3.toNat) k22).1), i_ ((gt (s0.drop k3.toNat) k22).2.1), i_ ((gt (s0.drop k3.toNat) k22).2.2)], .agg #[i_ ((gt (s0.drop k3.toNat) (k22 - 1)).1), i_ ((gt (s0.drop k3.toNat) (k22 - 1)).2.1), i_ ((gt (s0.drop k3.toNat) (k22 - 1)).2.2)]] (by kernel_rfl) (c_normal_Of_1 e78.wf hy110) ?_
      rintro _ H112 ⟨rfl, e113⟩
      refine ⟨st_nil, ?_⟩
      refine e_' (.bool (!y109)) ?_
      refine d_nil ?_
      refine k96 _ _ ?_
      refine w_cond ((!y109)) (by kernel_rfl) rfl (fun h114 => ?_) (fun h114 => ?_)
      ·have r115 := ite_t h114 r111
       refine w_seqk fun _ k116 => ?_
       refine g_' ?_
       refine q_ (hd_s) ?_
       refine q_ (i_ k1) ?_
       refine q_ (.slice a61 n62 c63) ?_
       refine q_ (i_ k22) ?_
       have u119 := (m80.fr e113 Dj.nil_l)
       obtain ⟨hs117, hl118⟩ := vw59.sq u119
       refine l_' (elp (.slice a61 n62 c63) 3 k22.toNat 0) (aIndexAddr Tryz.prog 49 (.slice a61 n62 c63) (i_ k22)) (hs117.idxb (by kernel_rfl) g100 h93) ?_
       refine l_' (.agg #[i_ ((gt (s0.drop k3.toNat) k22).1), i_ ((gt (s0.drop k3.toNat) k22).2.1), i_ ((gt (s0.drop k3.toNat) k22).2.2)]) (aLoad Tryz.prog 53 (elp (.slice a61 n62 c63) 3 k22.toNat 0) H112) (hs117.ld g100 h93 (by kernel_rfl)) ?_
       obtain ⟨g121, r122⟩ := G_some r115
       refine l_' (elp hd_s 3 k1.toNat 0) (aIndexAddr Tryz.prog 49 hd_s (i_ k1)) (u119.sq.idxb (by kernel_rfl) g121.1 g121.2) ?_
       obtain ⟨H123, q124, e125, hm126⟩ := Ow.store (P := Tryz.prog) (t := 53) (off := 0) e113.wf u119 g121.1 g121.2 (.agg #[i_ ((gt (s0.drop k3.toNat) k22).1), i_ ((gt (s0.drop k3.toNat) k22).2.1), i_ ((gt (s0.drop k3.toNat) k22).2.2)]) [i_ ((gt (s0.drop k3.toNat) k22).1), i_ ((gt (s0.drop k3.toNat) k22).2.1), i_ ((gt (s0.drop k3.toNat) k22).2.2)] (by kernel_rfl) (by kernel_rfl) rfl ((gt (s0.drop k3.toNat) k22).1, (gt (s0.drop k3.toNat) k22).2.1, (gt (s0.drop k3.toNat) k22).2.2) (Nat.le_of_ble_eq_true rfl) (by kernel_rfl)
       refine s_ek (undef) (by kernel_rfl) (map_ok q124) ?_
       refine s_nil (k116 _ _ ?_)
       refine g_' ?_
       refine q_ (i_ k1) ?_
       obtain ⟨g127, r128⟩ := G_some r122
       refine s_w ((k1 + 1)) (k := .i64) (x := (k1 + 1)) (by kernel_rfl) (wrap64 (by have := g127; omega)) ?_
       refine q_ (i_ (k1 + 1)) ?_
       refine s_nil (k95 _ _ ?_)
       refine g_' ?_
       refine q_ (i_ k22) ?_
       obtain ⟨g129, r130⟩ := G_some r128
       refine s_w ((k22 + 1)) (k := .i64) (x := (k22 + 1)) (by kernel_rfl) (wrap64 (by have := g129; omega)) ?_
       refine q_ (i_ (k22 + 1)) ?_
       refine s_nil ?_
       obtain rfl := Option.some.inj r130
       exact k87 n83 _ _ (Nat.lt_succ_self _) ⟨(s0.set k1.toNat ((gt (s0.drop k3.toNat) k22).1, (gt (s0.drop k3.toNat) k22).2.1, (gt (s0.drop k3.toNat) k22).2.2)), (k1 + 1), (k22 + 1), hn86, ha_, (FrS.step e51.wf (FrS.step e51.wf (FrS.step e51.wf (FrS.refl (W := fp_s) e51.wf) e78 Inn.refl') e113 Inn.nil) e125 Inn.refl'), hm126⟩
      have r131 := ite_bf h114 r111
      refine w_skip ?_
      refine k95 _ _ ?_
      refine g_' ?_
      refine q_ (i_ k22) ?_
      obtain ⟨g132, r133⟩ := G_some r131
      refine s_w ((k22 + 1)) (k := .i64) (x := (k22 + 1)) (by kernel_rfl) (wrap64 (by have := g132; omega)) ?_
      refine q_ (i_ (k22 + 1)) ?_
      refine s_nil ?_
      have u134 := (m80.fr e113 Dj.nil_l)
      obtain rfl := Option.some.inj r133
      exact k87 n83 _ _ (Nat.lt_succ_self _) ⟨s0, k1, (k22 + 1), hn86, ha_, (FrS.step e51.wf (FrS.step e51.wf (FrS.refl (W := fp_s) e51.wf) e78 Inn.refl') e113 Inn.nil), u134⟩
     have r135 := ite_f h93 hz85
     refine w_exit (th_exit (th_exit (bl_eq ?_)))
     obtain rfl := Option.some.inj r135
     obtain rfl := it_inr hn86
     exact k73 _ _ ⟨ha_, (FrS.step e51.wf (FrS.refl (W := fp_s) e51.wf) e78 Inn.refl'), m80⟩
    obtain ⟨hh74, e70, m72⟩ := hM
    obtain ⟨β, rfl⟩ := has_ex hh74
    clear hh74
    refine k64 _ _ ?_
    refine w_seqk fun _ k136 => ?_
    refine g_' ?_
    refine q_ (hd_s) ?_
    refine q_ (i_ o66.2) ?_
    obtain ⟨g137, r138⟩ := G_some r68
    obtain ⟨s139, q140, vw141⟩ := Ow.view (P := Tryz.prog) m72 (t := 49) (by kernel_rfl) (lo := some (i_ o66.2)) (l := o66.2.toNat) (aBound_int _ (by have := g137; omega)) (by have := g137; omega)
    obtain ⟨a142, n143, c144, rfl⟩ := vw141.form
    refine s_ql (.slice a142 n143 c144) (by kernel_rfl) q140 ?_
    obtain ⟨g145, r146⟩ := G_some r138
    obtain ⟨H147, q148, e149, hm150⟩ := View.clear (P := Tryz.prog) (m := 24) (at_ := #[49]) vw141 ((0, 0, 0) : Int × Int × Int) e70.wf m72 g145 rfl (by kernel_rfl)
    refine s_ek (.tuple #[]) (by kernel_rfl) (map_ok q148) ?_
    refine s_nil (k136 _ _ ?_)
    refine w_seqk fun _ k151 => ?_
    refine g_' ?_
    refine q_ (hd_s) ?_
    refine q_ (i_ o66.2) ?_
    obtain ⟨g152, r153⟩ := G_some r146
    obtain ⟨s154, q155, hs156⟩ := Ow.head (P := Tryz.prog) hm150 (t := 49) (by kernel_rfl) (hi := (some (i_ o66.2))) (r := o66.2.toNat) (aBound_int _ (by have := g152; omega)) (by have := g152; omega)
    obtain ⟨a157, n158, c159, rfl⟩ := hs156.form
    refine s_ql (.slice a157 n158 c159) (by kernel_rfl) q155 ?_
    refine q_ (.slice a157 n158 c159) ?_
    refine s_nil (k151 _ _ ?_)
    refine w_ret (bl_ret (th_ret (th_ret (bl_ret (th_ret (th_ret ?_))))))
    obtain ⟨v161, hv162, hz163⟩ := map_some r153
    subst hz163
    obtain rfl := it_inr hn32
    have hq164 := elim_inl r17
    rw [hq164] at hv162
    refine b_ret (fn := Tryz.f56) (vs := [.slice a157 n158 c159]) (aRes_tmp (by kernel_rfl) (rfl)) ?_
    obtain rfl := Option.some.inj hv162
    exact ⟨(.slice a157 n158 c159), rfl, (FrS.step wf (FrS.step wf (FrS.step wf (FrS.step wf (FrS.refl (W := fp_s) wf) e26 Inn.nil) e51 Inn.nil) e70 Inn.refl') e149 Inn.refl'), hs156, hm150⟩
   have r165 := ite_bf h52 r49
   refine w_skip ?_
   refine k39 _ _ ?_
   refine g_' ?_
   refine q_ (i_ k3) ?_
   obtain ⟨g166, r167⟩ := G_some r165
   refine s_w ((k3 + 1)) (k := .i64) (x := (k3 + 1)) (by kernel_rfl) (wrap64 (by have := g166; omega)) ?_
   refine q_ (i_ (k3 + 1)) ?_
   refine s_nil ?_
   obtain rfl := Option.some.inj r167
   exact k33 n29 _ _ (Nat.lt_succ_self _) ⟨(k3 + 1), hn32, ha_, (FrS.step wf (FrS.step wf (FrS.refl (W := []) wf) e26 Inn.nil) e51 Inn.nil)⟩
  have r168 := ite_f h37 hz31
  refine w_exit (th_exit (th_exit (bl_eq ?_)))
  obtain rfl := Option.some.inj r168
  obtain rfl := it_inr hn32
  exact k21 _ _ ⟨_, rfl, ha_, (FrS.step wf (FrS.refl (W := []) wf) e26 Inn.nil)⟩
 obtain ⟨o15, rfl, hh22, e20⟩ := hM
 have r169 := elim_inr r17
 obtain ⟨β, rfl⟩ := has_ex hh22
 clear hh22
 refine k13 _ _ ?_
 refine w_seqk fun _ k170 => ?_
 refine g_' ?_
 refine q_ (hd_s) ?_
 refine q_ (hd_s) ?_
 refine s_nil (k170 _ _ ?_)
 refine w_ret ?_
 refine b_ret (fn := Tryz.f56) (vs := [hd_s]) (aRes_tmp (by kernel_rfl) (rfl)) ?_
 have u171 := (h_s.fr e20 Dj.nil_l)
 obtain rfl := Option.some.inj r169
 exact ⟨(hd_s), rfl, (FrS.step wf (FrS.refl (W := fp_s) wf) e20 Inn.nil), u171, u171⟩

theorem c_normal_Of {H : AH} {hd_Arcs : Value} {fp_Arcs : Fp} {N_ : Int} {Arcs : List (Int × Int × Int)} {r : Int × List (Int × Int × Int) × Er}
    (wf : WF H) (h_Arcs : Sq enc_i64_i64_i64 3 H hd_Arcs Arcs fp_Arcs) (hr : z_normal_Of N_ Arcs = some r) :
    ACalls Tryz.prog 32 #[.agg #[i_ N_, hd_Arcs]] H fun v H' => ∃ (s3 : Value) (f4 : Fp) (v7 : Value) (f8 : Fp), v = .tuple #[.agg #[i_ r.1, s3], v7] ∧ FrS [] H H' ∧ Ow enc_i64_i64_i64 3 H' s3 r.2.1 f4 ∧ Ev 43 81 H' v7 r.2.2 f8 ∧ Inn [] H f4 ∧ Inn [] H f8 ∧ Dj f4 f8 := by
 refine acalls_of_body mixed Tryz.func32 rfl (Nat.le_of_ble_eq_true rfl) ?_
 unfold z_normal_Of at hr
 refine w_seqk fun _ k12 => ?_
 refine g_' ?_
 refine s_rwl wf [i_ N_, hd_Arcs] (one_cons (rfl) (one_cons (h_Arcs.one1) (one_nil))) (by kernel_rfl) fun b13 H14 e15 hb16 r17 => ?_
 refine s_rwk e15.wf [i_ 0, .slice none 0 0] (by kernel_rfl) fun b19 H20 e21 hb22 r23 => ?_
 refine q_ (.nilIface) ?_
 refine s_nil (k12 _ _ ?_)
 refine w_seqk fun _ k25 => ?_
 refine w_seqk fun _ k26 => ?_
 refine g_' ?_
 have u27 := (r17.ext e21)
 refine l_' (.agg #[i_ N_, hd_Arcs]) (aLoad Tryz.prog 51 (pt_ b13 0) H20) (u27.ld (by kernel_rfl)) ?_
 have u28 := ((h_Arcs.ext e15).ext e21)
 obtain ⟨y29, hy30, r31⟩ := bind_some hr
 refine s_ck 53 #[.agg #[i_ N_, hd_Arcs]] (by kernel_rfl) (c_gtext_Check e21.wf u28 hy30) ?_
 rintro v32 H34 ⟨_, f33, rfl, e35, m36, i37⟩
 refine q_ (v32) ?_
 refine s_nil (k26 _ _ ?_)
 refine w_seqk fun _ k39 => ?_
 refine g_' ?_
 refine q_ (v32) ?_
 rcases (m36).cases with ⟨h40, rfl⟩ | ⟨h40, t41, x42, rfl⟩
 ·have r43 := ite_t h40 r31
  refine q_ (.bool false) ?_
  refine s_nil (k39 _ _ ?_)
  refine w_cond false (by kernel_rfl) rfl (fun h => by cases h) (fun _ => ?_)
  refine w_skip ?_
  refine k25 _ _ ?_
  refine w_seqk fun _ k44 => ?_
  refine g_' ?_
  refine q_ (pt_ b13 0) ?_
  have u45 := (u27.frS e35 Dj.nil_l)
  refine l_' (i_ N_) (aLoad Tryz.prog 3 (pt_ b13 0) H34) (u45.ld (by kernel_rfl)) ?_
  refine q_ (.agg #[i_ N_, .slice none 0 0]) ?_
  refine s_rwk e35.wf [i_ 0, .slice none 0 0] (by kernel_rfl) fun b46 H47 e48 hb49 r50 => ?_
  obtain ⟨H52, q53, e54, r55⟩ := Row.store (P := Tryz.prog) (t := 51) (p := 0) e48.wf r50 (.agg #[i_ N_, .slice none 0 0]) [i_ N_, .slice none 0 0] (by kernel_rfl) (by kernel_rfl) (one_cons (rfl) (one_cons (rfl) (one_nil))) (Nat.le_of_ble_eq_true (by kernel_rfl)) [i_ N_, .slice none 0 0] (by kernel_rfl)
  refine s_ek (undef) (by kernel_rfl) (map_ok q53) ?_
  refine s_nil (k44 _ _ ?_)
  refine w_seqk fun _ k56 => ?_
  refine w_seqk fun _ k57 => ?_
  refine g_' ?_
  refine q_ (pt_ b13 1) ?_
  have u58 := ((u45.ext e48).frS e54 (hb49.djn (r17.ltF.le (ntr e21.next e35.next))))
  refine l_' (hd_Arcs) (aLoad Tryz.prog 49 (pt_ b13 1) H52) (u58.ld (by kernel_rfl)) ?_
  have u59 := (((u28.fr e35 Dj.nil_l).ext e48).fr e54 (hb49.djn (h_Arcs.lt.le (ntr (ntr e15.next e21.next) e35.next))))
  refine l_' (i_ (Arcs.length : Int)) (aLen Tryz.prog 49 hd_Arcs H52) (u59.lenb (by kernel_rfl)) ?_
  refine q_ (i_ 0) ?_
  refine s_nil (k57 _ _ ?_)
  obtain ⟨o60, hx61, r62⟩ := bind_some r43
  refine w_mid (fun α H63 => ∃ (s67 : Value) (f68 : Fp), Has α [(2, pt_ b19 0), (5, pt_ b46 0)] ∧ FrS [b46] H52 H63 ∧ Ow enc_i64_i64_i64 3 H63 s67 o60 f68 ∧ Row H63 b46 [i_ N_, s67] ∧ Inn [] H52 f68) (fun _ k72 => ?_) (fun α H63 hM => ?_)
  ·refine w_block ?_
   obtain ⟨n74, hn75⟩ := loopO_iff.1 hx61
   refine w_loopn (fun n α H76 => ∃ (i0 : Int), ∃ (c1 : List (Int × Int × Int)), ∃ (s80 : Value), ∃ (f81 : Fp), iterO (fun zz_ => z_normal_Of_l0 Arcs zz_.1 zz_.2) n (i0, c1) = some o60 ∧ Has α [(2, pt_ b19 0), (5, pt_ b46 0), (18, hd_Arcs), (19, i_ (Arcs.length : Int)), (20, i_ i0)] ∧ FrS [b46] H52 H76 ∧ Ow enc_i64_i64_i64 3 H76 s80 c1 f81 ∧ Row H76 b46 [i_ N_, s80] ∧ Inn [] H52 f81) n74 ⟨0, [], (.slice none 0 0), [], hn75, ha_, (FrS.refl (W := [b46]) e54.wf), (Ow.nil (by decide)), r55, Inn.nil⟩ ?_
   rintro n74 α H76 ⟨i0, c1, s80, f81, hi86, hh85, e77, m79, m83, i84⟩ K91 k91
   obtain ⟨n87, z88, rfl, hz89, hn90⟩ := iter_succ hi86
   obtain ⟨β, rfl⟩ := has_ex hh85
   clear hh85
   replace hz89 : z_normal_Of_l0 Arcs i0 c1 = some z88 := hz89
   unfold z_normal_Of_l0 at hz89
   obtain ⟨a92, n93, c94, rfl⟩ := m79.form
   refine w_seqk fun _ k95 => ?_
   refine g_' ?_
   refine q_ (.bool (decide (i0 < (Arcs.length : Int)))) ?_
   refine s_nil (k95 _ _ ?_)
   refine w_seqk fun _ k96 => ?_
   refine w_condp (i0 < (Arcs.length : Int)) (by kernel_rfl) rfl (fun h97 => ?_) (fun h97 => ?_)
   ·have r98 := ite_t h97 hz89
    refine w_skip ?_
    refine k96 _ _ ?_
    refine w_seqk fun _ k99 => ?_
    refine w_block ?_
    refine w_seqk fun _ k100 => ?_
    refine g_' ?_
    obtain ⟨g101, r102⟩ := G_some r98
    have u103 := (u59.fr e77 (hb49.djn (h_Arcs.lt.le (ntr (ntr e15.next e21.next) e35.next))))
    refine l_' (elp hd_Arcs 3 i0.toNat 0) (aIndexAddr Tryz.prog 49 hd_Arcs (i_ i0)) (u103.idxb (by kernel_rfl) g101 h97) ?_
    refine l_' (.agg #[i_ ((gt Arcs i0).1), i_ ((gt Arcs i0).2.1), i_ ((gt Arcs i0).2.2)]) (aLoad Tryz.prog 53 (elp hd_Arcs 3 i0.toNat 0) H76) (u103.ld g101 h97 (by kernel_rfl)) ?_
    refine s_rwk e77.wf [i_ 0, i_ 0, i_ 0] (by kernel_rfl) fun b104 H105 e106 hb107 r108 => ?_
    obtain ⟨H110, q111, e112, r113⟩ := Row.store (P := Tryz.prog) (t := 53) (p := 0) e106.wf r108 (.agg #[i_ ((gt Arcs i0).1), i_ ((gt Arcs i0).2.1), i_ ((gt Arcs i0).2.2)]) [i_ ((gt Arcs i0).1), i_ ((gt Arcs i0).2.1), i_ ((gt Arcs i0).2.2)] (by kernel_rfl) (by kernel_rfl) (one_cons (rfl) (one_cons (rfl) (one_cons (rfl) (one_nil)))) (Nat.le_of_ble_eq_true (by kernel_rfl)) [i_ ((gt Arcs i0).1), i_ ((gt Arcs i0).2.1), i_ ((gt Arcs i0).2.2)] (by kernel_rfl)
    refine s_ek (undef) (by kernel_rfl) (map_ok q111) ?_
    refine s_nil (k100 _ _ ?_)
    refine w_seqk fun _ k114 => ?_
    refine g_' ?_
    refine q_ (pt_ b104 0) ?_
    refine l_' (i_ ((gt Arcs i0).1)) (aLoad Tryz.prog 3 (pt_ b104 0) H110) (r113.ld (by kernel_rfl)) ?_
    refine q_ (pt_ b104 1) ?_
    refine l_' (i_ ((gt Arcs i0).2.1)) (aLoad Tryz.prog 3 (pt_ b104 1) H110) (r113.ld (by kernel_rfl)) ?_
    refine q_ (.bool (!decide (((gt Arcs i0).1) = ((gt Arcs i0).2.1)))) ?_
    refine s_nil (k114 _ _ ?_)
    refine w_condn (((gt Arcs i0).1) = ((gt Arcs i0).2.1)) (by kernel_rfl) rfl (fun h115 => ?_) (fun h115 => ?_)
    ·have r116 := ite_f h115 r102
     refine g_' ?_
     refine q_ (pt_ b46 1) ?_
     have u117 := ((m83.ext e106).frS e112 (hb107.djn (r50.ltF.le (ntr e54.next e77.next))))
     refine l_' (.slice a92 n93 c94) (aLoad Tryz.prog 49 (pt_ b46 1) H110) (u117.ld (by kernel_rfl)) ?_
     refine l_' (.agg #[i_ ((gt Arcs i0).1), i_ ((gt Arcs i0).2.1), i_ ((gt Arcs i0).2.2)]) (aLoad Tryz.prog 53 (pt_ b104 0) H110) (r113.ld (by kernel_rfl)) ?_
     refine s_owk (enc := enc_i64_i64_i64) (sz := 3) e112.wf [((gt Arcs i0).1, (gt Arcs i0).2.1, (gt Arcs i0).2.2)] 1 (by decide) (fun _ _ => rfl) (fun _ _ => rfl) rfl (by kernel_rfl) fun s118 f119 H120 e121 hf122 hm123 => ?_
     obtain ⟨a124, n125, c126, rfl⟩ := hm123.form
     have u128 := (((m79.ext e106).fr e112 (hb107.djn m79.lt)).ext e121)
     obtain ⟨g129, r130⟩ := G_some r116
     obtain ⟨s131, H132, f133, q137, e134, hm135, hf136⟩ := Ow.append (P := Tryz.prog) 24 e121.wf u128 hm123.sq (fun _ _ => rfl) (at_ := #[49, 49]) rfl rfl (by kernel_rfl) (by kernel_rfl) (by decide) (by have := g129; first | omega | (simp only [List.length_cons, List.length_nil] at this ⊢; omega) | (simp at this ⊢; omega))
     obtain ⟨a138, n139, c140, rfl⟩ := hm135.form
     refine s_ek (.slice a138 n139 c140) (by kernel_rfl) (q137) ?_
     refine q_ (pt_ b46 1) ?_
     have u146 := ((u117.ext e121).frS e134 (i84.djn (r50.ltF.le e54.next)))
     obtain ⟨H142, q143, e144, r145⟩ := Row.store (P := Tryz.prog) (t := 49) (p := 1) e134.wf u146 (.slice a138 n139 c140) [.slice a138 n139 c140] (by kernel_rfl) (by kernel_rfl) (one_cons (hm135.one1) (one_nil)) (Nat.le_of_ble_eq_true (by kernel_rfl)) [i_ N_, .slice a138 n139 c140] (by kernel_rfl)
     refine s_ek (undef) (by kernel_rfl) (map_ok q143) ?_
     refine s_nil (k99 _ _ ?_)
     refine g_' ?_
     obtain ⟨g147, r148⟩ := G_some r130
     refine s_w ((i0 + 1)) (k := .i64) (x := (i0 + 1)) (by kernel_rfl) (wrap64 (by have := g147; omega)) ?_
     refine q_ (i_ (i0 + 1)) ?_
     refine s_nil ?_
     have u149 := (hm135.fr e144 (Dj.symm (hf136.dj (i84.djn (r50.ltF.le e54.next)) (r50.ltF.le (ntr (ntr (ntr (ntr e54.next e77.next) e106.next) e112.next) e121.next)))))
     obtain rfl := Option.some.inj r148
     exact k91 n87 _ _ (Nat.lt_succ_self _) ⟨(i0 + 1), (c1 ++ [((gt Arcs i0).1, (gt Arcs i0).2.1, (gt Arcs i0).2.2)]), (.slice a138 n139 c140), f133, hn90, ha_, (FrS.step e54.wf (FrS.step e54.wf ((FrS.step e54.wf ((FrS.step e54.wf (FrS.refl (W := [b46]) e54.wf) e77 Inn.refl').extR e106) e112 (hb107.fresh e77.next)).extR e121) e134 (i84.fresh (Nat.le_refl _))) e144 Inn.refl'), u149, r145, (Inn.trans (i84.fresh (Nat.le_refl _)) (ntr (ntr (ntr e77.next e106.next) e112.next) e121.next) hf136)⟩
    have r150 := ite_t h115 r102
    refine w_skip ?_
    refine k99 _ _ ?_
    refine g_' ?_
    obtain ⟨g151, r152⟩ := G_some r150
    refine s_w ((i0 + 1)) (k := .i64) (x := (i0 + 1)) (by kernel_rfl) (wrap64 (by have := g151; omega)) ?_
    refine q_ (i_ (i0 + 1)) ?_
    refine s_nil ?_
    have u153 := ((m79.ext e106).fr e112 (hb107.djn m79.lt))
    have u154 := ((m83.ext e106).frS e112 (hb107.djn (r50.ltF.le (ntr e54.next e77.next))))
    obtain rfl := Option.some.inj r152
    exact k91 n87 _ _ (Nat.lt_succ_self _) ⟨(i0 + 1), c1, (.slice a92 n93 c94), f81, hn90, ha_, (FrS.step e54.wf ((FrS.step e54.wf (FrS.refl (W := [b46]) e54.wf) e77 Inn.refl').extR e106) e112 (hb107.fresh e77.next)), u153, u154, (i84.fresh (Nat.le_refl _))⟩
   have r155 := ite_f h97 hz89
   refine w_exit (th_exit (th_exit (bl_eq ?_)))
   obtain rfl := Option.some.inj r155
   obtain rfl := it_inr hn90
   exact k72 _ _ ⟨(.slice a92 n93 c94), f81, ha_, (FrS.step e54.wf (FrS.refl (W := [b46]) e54.wf) e77 Inn.refl'), m79, m83, (i84.fresh (Nat.le_refl _))⟩
  obtain ⟨s67, f68, hh73, e64, m66, m70, i71⟩ := hM
  obtain ⟨β, rfl⟩ := has_ex hh73
  clear hh73
  obtain ⟨a156, n157, c158, rfl⟩ := m66.form
  refine k56 _ _ ?_
  refine w_seqk fun _ k159 => ?_
  refine g_' ?_
  refine q_ (pt_ b46 1) ?_
  refine l_' (.slice a156 n157 c158) (aLoad Tryz.prog 49 (pt_ b46 1) H63) (m70.ld (by kernel_rfl)) ?_
  obtain ⟨g160, r161⟩ := G_some r62
  obtain ⟨y162, hy163, r164⟩ := bind_some r161
  refine s_ck 54 #[.slice a156 n157 c158, .func (.func 55) #[] #[]] (by kernel_rfl) (a_sortO (enc := enc_i64_i64_i64) (fun _ => rfl) (by intro x v hv; simp only [enc_i64_i64_i64, List.mem_cons, List.not_mem_nil, or_false] at hv; rcases hv with rfl | rfl | rfl <;> rfl) (by intro x v hv; simp only [enc_i64_i64_i64, List.mem_cons, List.not_mem_nil, or_false] at hv; rcases hv with rfl | rfl | rfl <;> rfl) (c := (fun (a_ b_ : Int × Int × Int) => z_normal_order a_.1 a_.2.1 a_.2.2 b_.1 b_.2.1 b_.2.2)) (Go.Proofs.enters_of Tryz.func55 (by kernel_rfl) rfl) (fun x y r hr => (c_normal_order aNil_wf hr).mono fun v H' h => h.1) e64.wf m66 g160 hy163) ?_
  rintro _ H165 ⟨rfl, e166, hm167⟩
  refine s_nil (k159 _ _ ?_)
  refine w_seqk fun _ k168 => ?_
  refine g_' ?_
  refine q_ (pt_ b46 1) ?_
  have u169 := (m70.frS e166 (i71.djn (r50.ltF.le e54.next)))
  refine l_' (.slice a156 n157 c158) (aLoad Tryz.prog 49 (pt_ b46 1) H165) (u169.ld (by kernel_rfl)) ?_
  obtain ⟨y170, hy171, r172⟩ := bind_some r164
  refine s_ck 56 #[.slice a156 n157 c158, .func (.func 57) #[] #[]] (by kernel_rfl) (c_slices_CompactFunc e166.wf hm167 hy171) ?_
  rintro s173 H174 ⟨_, rfl, e175, m176, m177⟩
  obtain ⟨a179, n180, c181, rfl⟩ := m176.form
  refine q_ (pt_ b46 1) ?_
  have u186 := (u169.frS e175 (i71.djn (r50.ltF.le e54.next)))
  obtain ⟨H182, q183, e184, r185⟩ := Row.store (P := Tryz.prog) (t := 49) (p := 1) e175.wf u186 (.slice a179 n180 c181) [.slice a179 n180 c181] (by kernel_rfl) (by kernel_rfl) (one_cons (m176.one1) (one_nil)) (Nat.le_of_ble_eq_true (by kernel_rfl)) [i_ N_, .slice a179 n180 c181] (by kernel_rfl)
  refine s_ek (undef) (by kernel_rfl) (map_ok q183) ?_
  refine s_nil (k168 _ _ ?_)
  refine w_seqk fun _ k187 => ?_
  refine g_' ?_
  refine l_' (.agg #[i_ N_, .slice a179 n180 c181]) (aLoad Tryz.prog 51 (pt_ b46 0) H182) (r185.ld (by kernel_rfl)) ?_
  have u192 := (((((((r23.frS e35 Dj.nil_l).ext e48).frS e54 (hb49.djn (r23.ltF.le e35.next))).frS e64 (hb49.djn (r23.ltF.le e35.next))).frS e166 (i71.djn (r23.ltF.le (ntr (ntr e35.next e48.next) e54.next)))).frS e175 (i71.djn (r23.ltF.le (ntr (ntr e35.next e48.next) e54.next)))).frS e184 (hb49.djn (r23.ltF.le e35.next)))
  have u193 := (m176.fr e184 (Dj.symm (i71.djn (r50.ltF.le e54.next))))
  obtain ⟨H188, q189, e190, r191⟩ := Row.store (P := Tryz.prog) (t := 51) (p := 0) e184.wf u192 (.agg #[i_ N_, .slice a179 n180 c181]) [i_ N_, .slice a179 n180 c181] (by kernel_rfl) (by kernel_rfl) (one_cons (rfl) (one_cons (u193.one1) (one_nil))) (Nat.le_of_ble_eq_true (by kernel_rfl)) [i_ N_, .slice a179 n180 c181] (by kernel_rfl)
  refine s_ek (undef) (by kernel_rfl) (map_ok q189) ?_
  refine q_ (.nilIface) ?_
  refine s_nil (k187 _ _ ?_)
  refine w_ret ?_
  refine b_ret (fn := Tryz.f32) (vs := [.agg #[i_ N_, .slice a179 n180 c181], .nilIface]) (aRes_cell (Eq.trans (b := aLoad Tryz.prog 51 (pt_ b19 0) H188) (by kernel_rfl) (r191.ld (by kernel_rfl))) (aRes_tmp (by kernel_rfl) (rfl))) ?_
  have u194 := (u193.fr e190 (Dj.symm (i71.djn (r23.ltF.le (ntr (ntr e35.next e48.next) e54.next)))))
  obtain rfl := Option.some.inj r172
  exact ⟨(.slice a179 n180 c181), f68, (.nilIface), [], rfl, (FrS.step wf (FrS.step wf (FrS.step wf (FrS.step wf (FrS.step wf (FrS.step wf ((FrS.step wf (((FrS.refl (W := []) wf).extR e15).extR e21) e35 Inn.nil).extR e48) e54 (hb49.fresh (ntr (ntr e15.next e21.next) e35.next))) e64 (hb49.fresh (ntr (ntr e15.next e21.next) e35.next))) e166 (i71.fresh (ntr (ntr (ntr (ntr e15.next e21.next) e35.next) e48.next) e54.next))) e175 (i71.fresh (ntr (ntr (ntr (ntr e15.next e21.next) e35.next) e48.next) e54.next))) e184 (hb49.fresh (ntr (ntr e15.next e21.next) e35.next))) e190 (hb22.fresh e15.next)), u194, Ev.nil, (i71.fresh (ntr (ntr (ntr (ntr e15.next e21.next) e35.next) e48.next) e54.next)), Inn.nil, Dj.nil_r⟩
 have r195 := ite_f h40 r31
 refine l_' (.bool true) (aBin Tryz.prog .neq 31 (.tmp 10) (.const .nilIface) (.iface t41 x42) .nilIface) (aBin_nnil (by kernel_rfl)) ?_
 refine s_nil (k39 _ _ ?_)
 refine w_cond true (by kernel_rfl) rfl (fun _ => ?_) (fun h => by cases h)
 refine w_seqk fun _ k196 => ?_
 refine g_' ?_
 refine q_ (.agg #[i_ 0, .slice none 0 0]) ?_
 refine q_ (.iface t41 x42) ?_
 have u201 := (r23.frS e35 Dj.nil_l)
 obtain ⟨H197, q198, e199, r200⟩ := Row.store (P := Tryz.prog) (t := 51) (p := 0) e35.wf u201 (.agg #[i_ 0, .slice none 0 0]) [i_ 0, .slice none 0 0] (by kernel_rfl) (by kernel_rfl) (one_cons (rfl) (one_cons (rfl) (one_nil))) (Nat.le_of_ble_eq_true (by kernel_rfl)) [i_ 0, .slice none 0 0] (by kernel_rfl)
 refine s_ek (undef) (by kernel_rfl) (map_ok q198) ?_
 refine q_ (.iface t41 x42) ?_
 refine s_nil (k196 _ _ ?_)
 refine w_ret (th_ret ?_)
 refine b_ret (fn := Tryz.f32) (vs := [.agg #[i_ 0, .slice none 0 0], .iface t41 x42]) (aRes_cell (Eq.trans (b := aLoad Tryz.prog 51 (pt_ b19 0) H197) (by kernel_rfl) (r200.ld (by kernel_rfl))) (aRes_tmp (by kernel_rfl) (rfl))) ?_
 have u202 := (m36.fr e199 (Dj.symm (i37.djn r23.ltF)))
 obtain rfl := Option.some.inj r195
 exact ⟨(.slice none 0 0), [], (.iface t41 x42), f33, rfl, (FrS.step wf (FrS.step wf (((FrS.refl (W := []) wf).extR e15).extR e21) e35 Inn.nil) e199 (hb22.fresh e15.next)), (Ow.nil (by decide)), u202, Inn.nil, (i37.fresh (ntr e15.next e21.next)), Dj.nil_l⟩

theorem c_csr_flat {H : AH} {hd_Arcs : Value} {fp_Arcs : Fp} {N_ : Int} {Arcs : List (Int × Int × Int)} {r : List (Int) × List (Int) × List (Int)}
    (wf : WF H) (h_Arcs : Sq enc_i64_i64_i64 3 H hd_Arcs Arcs fp_Arcs) (hr : z_csr_flat N_ Arcs = some r) :
    ACalls Tryz.prog 33 #[.agg #[i_ N_, hd_Arcs]] H fun v H' => ∃ (s3 : Value) (f4 : Fp) (s7 : Value) (f8 : Fp) (s11 : Value) (f12 : Fp), v = .agg #[s3, s7, s11] ∧ FrS [] H H' ∧ Ow (encI .i64) 1 H' s3 r.1 f4 ∧ Ow (encI .i64) 1 H' s7 r.2.1 f8 ∧ Ow (encI .i64) 1 H' s11 r.2.2 f12 ∧ Inn [] H f4 ∧ Inn [] H f8 ∧ Inn [] H f12 ∧ Dj f4 f8 ∧ Dj f4 f12 ∧ Dj f8 f12 := by
 refine acalls_of_body mixed Tryz.func33 rfl (Nat.le_of_ble_eq_true rfl) ?_
 unfold z_csr_flat at hr
 refine w_seqk fun _ k19 => ?_
 refine g_' ?_
 refine s_rwl wf [i_ N_, hd_Arcs] (one_cons (rfl) (one_cons (h_Arcs.one1) (one_nil))) (by kernel_rfl) fun b20 H21 e22 hb23 r24 => ?_
 refine s_rwk e22.wf [.slice none 0 0, .slice none 0 0, .slice none 0 0] (by kernel_rfl) fun b26 H27 e28 hb29 r30 => ?_
 refine s_nil (k19 _ _ ?_)
 refine w_seqk fun _ k32 => ?_
 refine g_' ?_
 refine q_ (pt_ b20 0) ?_
 have u33 := (r24.ext e28)
 refine l_' (i_ N_) (aLoad Tryz.prog 3 (pt_ b20 0) H27) (u33.ld (by kernel_rfl)) ?_
 obtain ⟨g34, r35⟩ := G_some hr
 refine s_w ((N_ + 1)) (k := .i64) (x := (N_ + 1)) (by kernel_rfl) (wrap64 g34) ?_
 obtain ⟨g36, r37⟩ := G_some r35
 refine s_mks (t := 23) (m := 8) (l := (N_ + 1)) (c := (N_ + 1)) (enc := (encI .i64)) (sz := 1) e28.wf (0 : Int) (by kernel_rfl) (by decide) g36.1 (Int.le_refl _) (by omega) (by have := g36; omega) (by kernel_rfl) fun s38 f39 H40 e41 hf42 hm43 => ?_
 obtain ⟨a44, n45, c46, rfl⟩ := hm43.form
 have hm43 : Ow (encI .i64) 1 H40 (.slice a44 n45 c46) (List.replicate (N_ + 1).toNat (0 : Int)) f39 := hm43
 refine q_ (.agg #[.slice a44 n45 c46, .slice none 0 0, .slice none 0 0]) ?_
 refine s_rwk e41.wf [.slice none 0 0, .slice none 0 0, .slice none 0 0] (by kernel_rfl) fun b48 H49 e50 hb51 r52 => ?_
 have u58 := (hm43.ext e50)
 obtain ⟨H54, q55, e56, r57⟩ := Row.store (P := Tryz.prog) (t := 25) (p := 0) e50.wf r52 (.agg #[.slice a44 n45 c46, .slice none 0 0, .slice none 0 0]) [.slice a44 n45 c46, .slice none 0 0, .slice none 0 0] (by kernel_rfl) (by kernel_rfl) (one_cons (u58.one1) (one_cons (rfl) (one_cons (rfl) (one_nil)))) (Nat.le_of_ble_eq_true (by kernel_rfl)) [.slice a44 n45 c46, .slice none 0 0, .slice none 0 0] (by kernel_rfl)
 refine s_ek (undef) (by kernel_rfl) (map_ok q55) ?_
 refine s_nil (k32 _ _ ?_)
 refine w_seqk fun _ k59 => ?_
 refine w_seqk fun _ k60 => ?_
 refine g_' ?_
 refine q_ (pt_ b20 1) ?_
 have u61 := (((u33.ext e41).ext e50).frS e56 (hb51.djn (r24.ltF.le (ntr e28.next e41.next))))
 refine l_' (hd_Arcs) (aLoad Tryz.prog 49 (pt_ b20 1) H54) (u61.ld (by kernel_rfl)) ?_
 have u62 := (((((h_Arcs.ext e22).ext e28).ext e41).ext e50).fr e56 (hb51.djn (h_Arcs.lt.le (ntr (ntr e22.next e28.next) e41.next))))
 refine l_' (i_ (Arcs.length : Int)) (aLen Tryz.prog 49 hd_Arcs H54) (u62.lenb (by kernel_rfl)) ?_
 refine q_ (i_ 0) ?_
 refine s_nil (k60 _ _ ?_)
 obtain ⟨o63, hx64, r65⟩ := bind_some r37
 refine w_mid (fun α H66 => ∃ (s72 : Value) (f73 : Fp) (s76 : Value) (f77 : Fp), Has α [(1, pt_ b20 0), (2, pt_ b26 0), (3, pt_ b48 0)] ∧ FrS ([b48] ++ f39) H54 H66 ∧ Ow (encI .i64) 1 H66 (.slice a44 n45 c46) o63.1 f39 ∧ Ow (encI .i64) 1 H66 s72 o63.2.1 f73 ∧ Ow (encI .i64) 1 H66 s76 o63.2.2 f77 ∧ Row H66 b48 [.slice a44 n45 c46, s72, s76] ∧ Inn [] H54 f73 ∧ Inn [] H54 f77 ∧ Dj f73 f77) (fun _ k83 => ?_) (fun α H66 hM => ?_)
 ·refine w_block ?_
  obtain ⟨n85, hn86⟩ := loopO_iff.1 hx64
  have u110 := (u58.fr e56 (hb51.djn hm43.lt))
  refine w_loopn (fun n α H87 => ∃ (i0 : Int), ∃ (c1 : List (Int)), ∃ (c2 : List (Int)), ∃ (c3 : List (Int)), ∃ (s93 : Value), ∃ (f94 : Fp), ∃ (s97 : Value), ∃ (f98 : Fp), iterO (fun zz_ => z_csr_flat_l0 Arcs zz_.1 zz_.2.1 zz_.2.2.1 zz_.2.2.2) n (i0, c1, c2, c3) = some o63 ∧ Has α [(1, pt_ b20 0), (2, pt_ b26 0), (3, pt_ b48 0), (13, hd_Arcs), (14, i_ (Arcs.length : Int)), (15, i_ i0)] ∧ FrS ([b48] ++ f39) H54 H87 ∧ Ow (encI .i64) 1 H87 (.slice a44 n45 c46) c1 f39 ∧ Ow (encI .i64) 1 H87 s93 c2 f94 ∧ Ow (encI .i64) 1 H87 s97 c3 f98 ∧ Row H87 b48 [.slice a44 n45 c46, s93, s97] ∧ Inn [] H54 f94 ∧ Inn [] H54 f98 ∧ Dj f94 f98) n85 ⟨0, (List.replicate (N_ + 1).toNat (0 : Int)), [], [], (.slice none 0 0), [], (.slice none 0 0), [], hn86, ha_, (FrS.refl (W := ([b48] ++ f39)) e56.wf), u110, (Ow.nil (by decide)), (Ow.nil (by decide)), r57, Inn.nil, Inn.nil, Dj.nil_l⟩ ?_
  rintro n85 α H87 ⟨i0, c1, c2, c3, s93, f94, s97, f98, hi105, hh104, e88, m90, m92, m96, m100, i101, i102, d103⟩ K111 k111
  obtain ⟨n106, z107, rfl, hz108, hn109⟩ := iter_succ hi105
  obtain ⟨β, rfl⟩ := has_ex hh104
  clear hh104
  replace hz108 : z_csr_flat_l0 Arcs i0 c1 c2 c3 = some z107 := hz108
  unfold z_csr_flat_l0 at hz108
  obtain ⟨a112, n113, c114, rfl⟩ := m92.form
  obtain ⟨a115, n116, c117, rfl⟩ := m96.form
  refine w_seqk fun _ k118 => ?_
  refine g_' ?_
  refine q_ (.bool (decide (i0 < (Arcs.length : Int)))) ?_
  refine s_nil (k118 _ _ ?_)
  refine w_seqk fun _ k119 => ?_
  refine w_condp (i0 < (Arcs.length : Int)) (by kernel_rfl) rfl (fun h120 => ?_) (fun h120 => ?_)
  ·have r121 := ite_t h120 hz108
   refine w_skip ?_
   refine k119 _ _ ?_
   refine w_seqk fun _ k122 => ?_
   refine w_block ?_
   refine w_seqk fun _ k123 => ?_
   refine g_' ?_
   obtain ⟨g124, r125⟩ := G_some r121
   have u126 := (u62.fr e88 (Dj.app (hb51.djn (h_Arcs.lt.le (ntr (ntr e22.next e28.next) e41.next))) (hf42.djn (h_Arcs.lt.le (ntr e22.next e28.next)))))
   refine l_' (elp hd_Arcs 3 i0.toNat 0) (aIndexAddr Tryz.prog 49 hd_Arcs (i_ i0)) (u126.idxb (by kernel_rfl) g124 h120) ?_
   refine l_' (.agg #[i_ ((gt Arcs i0).1), i_ ((gt Arcs i0).2.1), i_ ((gt Arcs i0).2.2)]) (aLoad Tryz.prog 53 (elp hd_Arcs 3 i0.toNat 0) H87) (u126.ld g124 h120 (by kernel_rfl)) ?_
   refine s_rwk e88.wf [i_ 0, i_ 0, i_ 0] (by kernel_rfl) fun b127 H128 e129 hb130 r131 => ?_
   obtain ⟨H133, q134, e135, r136⟩ := Row.store (P := Tryz.prog) (t := 53) (p := 0) e129.wf r131 (.agg #[i_ ((gt Arcs i0).1), i_ ((gt Arcs i0).2.1), i_ ((gt Arcs i0).2.2)]) [i_ ((gt Arcs i0).1), i_ ((gt Arcs i0).2.1), i_ ((gt Arcs i0).2.2)] (by kernel_rfl) (by kernel_rfl) (one_cons (rfl) (one_cons (rfl) (one_cons (rfl) (one_nil)))) (Nat.le_of_ble_eq_true (by kernel_rfl)) [i_ ((gt Arcs i0).1), i_ ((gt Arcs i0).2.1), i_ ((gt Arcs i0).2.2)] (by kernel_rfl)
   refine s_ek (undef) (by kernel_rfl) (map_ok q134) ?_
   refine s_nil (k123 _ _ ?_)
   refine w_seqk fun _ k137 => ?_
   refine g_' ?_
   refine q_ (pt_ b48 0) ?_
   have u138 := ((m100.ext e129).frS e135 (hb130.djn (r52.ltF.le (ntr e56.next e88.next))))
   refine l_' (.slice a44 n45 c46) (aLoad Tryz.prog 23 (pt_ b48 0) H133) (u138.ld (by kernel_rfl)) ?_
   refine q_ (pt_ b127 0) ?_
   refine l_' (i_ ((gt Arcs i0).1)) (aLoad Tryz.prog 3 (pt_ b127 0) H133) (r136.ld (by kernel_rfl)) ?_
   obtain ⟨g139, r140⟩ := G_some r125
   refine s_w ((((gt Arcs i0).1) + 1)) (k := .i64) (x := (((gt Arcs i0).1) + 1)) (by kernel_rfl) (wrap64 g139) ?_
   obtain ⟨g141, r142⟩ := G_some r140
   have u143 := ((m90.ext e129).fr e135 (hb130.djn (hm43.lt.le (ntr (ntr e50.next e56.next) e88.next))))
   refine l_' (elp (.slice a44 n45 c46) 1 (((gt Arcs i0).1) + 1).toNat 0) (aIndexAddr Tryz.prog 23 (.slice a44 n45 c46) (i_ (((gt Arcs i0).1) + 1))) (u143.sq.idxb (by kernel_rfl) g141.1 g141.2) ?_
   refine l_' (i_ (gt c1 (((gt Arcs i0).1) + 1))) (aLoad Tryz.prog 3 (elp (.slice a44 n45 c46) 1 (((gt Arcs i0).1) + 1).toNat 0) H133) (u143.sq.ld g141.1 g141.2 (by kernel_rfl)) ?_
   obtain ⟨g144, r145⟩ := G_some r142
   refine s_w (((gt c1 (((gt Arcs i0).1) + 1)) + 1)) (k := .i64) (x := ((gt c1 (((gt Arcs i0).1) + 1)) + 1)) (by kernel_rfl) (wrap64 g144) ?_
   refine l_' (elp (.slice a44 n45 c46) 1 (((gt Arcs i0).1) + 1).toNat 0) (aIndexAddr Tryz.prog 23 (.slice a44 n45 c46) (i_ (((gt Arcs i0).1) + 1))) (u143.sq.idxb (by kernel_rfl) g141.1 g141.2) ?_
   obtain ⟨H146, q147, e148, hm149⟩ := Ow.store (P := Tryz.prog) (t := 3) (off := 0) e135.wf u143 g141.1 g141.2 (i_ ((gt c1 (((gt Arcs i0).1) + 1)) + 1)) [i_ ((gt c1 (((gt Arcs i0).1) + 1)) + 1)] (by kernel_rfl) (by kernel_rfl) rfl ((gt c1 (((gt Arcs i0).1) + 1)) + 1) (Nat.le_of_ble_eq_true rfl) (by kernel_rfl)
   refine s_ek (undef) (by kernel_rfl) (map_ok q147) ?_
   refine s_nil (k137 _ _ ?_)
   refine w_seqk fun _ k150 => ?_
   refine g_' ?_
   refine q_ (pt_ b48 1) ?_
   have u151 := (u138.frS e148 (Dj.symm (hb51.djn hm43.lt)))
   refine l_' (.slice a112 n113 c114) (aLoad Tryz.prog 23 (pt_ b48 1) H146) (u151.ld (by kernel_rfl)) ?_
   refine q_ (pt_ b127 1) ?_
   have u152 := (r136.frS e148 (Dj.symm (hb130.djn (hm43.lt.le (ntr (ntr e50.next e56.next) e88.next)))))
   refine l_' (i_ ((gt Arcs i0).2.1)) (aLoad Tryz.prog 3 (pt_ b127 1) H146) (u152.ld (by kernel_rfl)) ?_
   refine s_owk (enc := (encI .i64)) (sz := 1) e148.wf [(gt Arcs i0).2.1] 1 (by decide) (fun _ _ => rfl) (fun _ _ => rfl) rfl (by kernel_rfl) fun s153 f154 H155 e156 hf157 hm158 => ?_
   obtain ⟨a159, n160, c161, rfl⟩ := hm158.form
   have u163 := ((((m92.ext e129).fr e135 (hb130.djn m92.lt)).fr e148 (Dj.symm (i101.djn (hm43.lt.le (ntr e50.next e56.next))))).ext e156)
   obtain ⟨g164, r165⟩ := G_some r145
   obtain ⟨s166, H167, f168, q172, e169, hm170, hf171⟩ := Ow.append (P := Tryz.prog) 8 e156.wf u163 hm158.sq (fun _ _ => rfl) (at_ := #[23, 23]) rfl rfl (by kernel_rfl) (by kernel_rfl) (by decide) (by have := g164; first | omega | (simp only [List.length_cons, List.length_nil] at this ⊢; omega) | (simp at this ⊢; omega))
   obtain ⟨a173, n174, c175, rfl⟩ := hm170.form
   refine s_ek (.slice a173 n174 c175) (by kernel_rfl) (q172) ?_
   refine q_ (pt_ b48 1) ?_
   have u181 := ((u151.ext e156).frS e169 (i101.djn (r52.ltF.le e56.next)))
   obtain ⟨H177, q178, e179, r180⟩ := Row.store (P := Tryz.prog) (t := 23) (p := 1) e169.wf u181 (.slice a173 n174 c175) [.slice a173 n174 c175] (by kernel_rfl) (by kernel_rfl) (one_cons (hm170.one1) (one_nil)) (Nat.le_of_ble_eq_true (by kernel_rfl)) [.slice a44 n45 c46, .slice a173 n174 c175, .slice a115 n116 c117] (by kernel_rfl)
   refine s_ek (undef) (by kernel_rfl) (map_ok q178) ?_
   refine s_nil (k150 _ _ ?_)
   refine g_' ?_
   refine q_ (pt_ b48 2) ?_
   refine l_' (.slice a115 n116 c117) (aLoad Tryz.prog 23 (pt_ b48 2) H177) (r180.ld (by kernel_rfl)) ?_
   refine q_ (pt_ b127 2) ?_
   have u182 := (((u152.ext e156).frS e169 (Dj.symm (hb130.djn m92.lt))).frS e179 (Dj.symm (hb130.djn (r52.ltF.le (ntr e56.next e88.next)))))
   refine l_' (i_ ((gt Arcs i0).2.2)) (aLoad Tryz.prog 3 (pt_ b127 2) H177) (u182.ld (by kernel_rfl)) ?_
   refine s_owk (enc := (encI .i64)) (sz := 1) e179.wf [(gt Arcs i0).2.2] 1 (by decide) (fun _ _ => rfl) (fun _ _ => rfl) rfl (by kernel_rfl) fun s183 f184 H185 e186 hf187 hm188 => ?_
   obtain ⟨a189, n190, c191, rfl⟩ := hm188.form
   have u193 := (((((((m96.ext e129).fr e135 (hb130.djn m96.lt)).fr e148 (Dj.symm (i102.djn (hm43.lt.le (ntr e50.next e56.next))))).ext e156).fr e169 d103).fr e179 (Dj.symm (i102.djn (r52.ltF.le e56.next)))).ext e186)
   obtain ⟨g194, r195⟩ := G_some r165
   obtain ⟨s196, H197, f198, q202, e199, hm200, hf201⟩ := Ow.append (P := Tryz.prog) 8 e186.wf u193 hm188.sq (fun _ _ => rfl) (at_ := #[23, 23]) rfl rfl (by kernel_rfl) (by kernel_rfl) (by decide) (by have := g194; first | omega | (simp only [List.length_cons, List.length_nil] at this ⊢; omega) | (simp at this ⊢; omega))
   obtain ⟨a203, n204, c205, rfl⟩ := hm200.form
   refine s_ek (.slice a203 n204 c205) (by kernel_rfl) (q202) ?_
   refine q_ (pt_ b48 2) ?_
   have u211 := ((r180.ext e186).frS e199 (i102.djn (r52.ltF.le e56.next)))
   obtain ⟨H207, q208, e209, r210⟩ := Row.store (P := Tryz.prog) (t := 23) (p := 2) e199.wf u211 (.slice a203 n204 c205) [.slice a203 n204 c205] (by kernel_rfl) (by kernel_rfl) (one_cons (hm200.one1) (one_nil)) (Nat.le_of_ble_eq_true (by kernel_rfl)) [.slice a44 n45 c46, .slice a173 n174 c175, .slice a203 n204 c205] (by kernel_rfl)
   refine s_ek (undef) (by kernel_rfl) (map_ok q208) ?_
   refine s_nil (k122 _ _ ?_)
   refine g_' ?_
   obtain ⟨g212, r213⟩ := G_some r195
   refine s_w ((i0 + 1)) (k := .i64) (x := (i0 + 1)) (by kernel_rfl) (wrap64 (by have := g212; omega)) ?_
   refine q_ (i_ (i0 + 1)) ?_
   refine s_nil ?_
   have u214 := ((((((hm149.ext e156).fr e169 (i101.djn (hm43.lt.le (ntr e50.next e56.next)))).fr e179 (hb51.djn hm43.lt)).ext e186).fr e199 (i102.djn (hm43.lt.le (ntr e50.next e56.next)))).fr e209 (hb51.djn hm43.lt))
   have u215 := ((((hm170.fr e179 (Dj.symm (hf171.dj (i101.djn (r52.ltF.le e56.next)) (r52.ltF.le (ntr (ntr (ntr (ntr (ntr e56.next e88.next) e129.next) e135.next) e148.next) e156.next))))).ext e186).fr e199 (Dj.symm (hf171.dj d103 (m96.lt.le (ntr (ntr (ntr e129.next e135.next) e148.next) e156.next))))).fr e209 (Dj.symm (hf171.dj (i101.djn (r52.ltF.le e56.next)) (r52.ltF.le (ntr (ntr (ntr (ntr (ntr e56.next e88.next) e129.next) e135.next) e148.next) e156.next)))))
   have u216 := (hm200.fr e209 (Dj.symm (hf201.dj (i102.djn (r52.ltF.le e56.next)) (r52.ltF.le (ntr (ntr (ntr (ntr (ntr (ntr (ntr (ntr e56.next e88.next) e129.next) e135.next) e148.next) e156.next) e169.next) e179.next) e186.next)))))
   obtain rfl := Option.some.inj r213
   exact k111 n106 _ _ (Nat.lt_succ_self _) ⟨(i0 + 1), (c1.set (((gt Arcs i0).1) + 1).toNat ((gt c1 (((gt Arcs i0).1) + 1)) + 1)), (c2 ++ [(gt Arcs i0).2.1]), (c3 ++ [(gt Arcs i0).2.2]), (.slice a173 n174 c175), f168, (.slice a203 n204 c205), f198, hn109, ha_, (FrS.step e56.wf (FrS.step e56.wf ((FrS.step e56.wf (FrS.step e56.wf ((FrS.step e56.wf (FrS.step e56.wf ((FrS.step e56.wf (FrS.refl (W := ([b48] ++ f39)) e56.wf) e88 (Inn.app Inn.left (Inn.right Inn.refl'))).extR e129) e135 (hb130.fresh e88.next)) e148 (Inn.right Inn.refl')).extR e156) e169 (i101.fresh (Nat.le_refl _))) e179 Inn.left).extR e186) e199 (i102.fresh (Nat.le_refl _))) e209 Inn.left), u214, u215, u216, r210, (Inn.trans (i101.fresh (Nat.le_refl _)) (ntr (ntr (ntr (ntr e88.next e129.next) e135.next) e148.next) e156.next) hf171), (Inn.trans (i102.fresh (Nat.le_refl _)) (ntr (ntr (ntr (ntr (ntr (ntr (ntr e88.next e129.next) e135.next) e148.next) e156.next) e169.next) e179.next) e186.next) hf201), (Dj.symm (hf201.dj (Dj.symm (hf171.dj d103 (m96.lt.le (ntr (ntr (ntr e129.next e135.next) e148.next) e156.next)))) (hm170.lt.le (ntr e179.next e186.next))))⟩
  have r217 := ite_f h120 hz108
  refine w_exit (th_exit (th_exit (bl_eq ?_)))
  obtain rfl := Option.some.inj r217
  obtain rfl := it_inr hn109
  exact k83 _ _ ⟨(.slice a112 n113 c114), f94, (.slice a115 n116 c117), f98, ha_, (FrS.step e56.wf (FrS.refl (W := ([b48] ++ f39)) e56.wf) e88 (Inn.app Inn.left (Inn.right Inn.refl'))), m90, m92, m96, m100, (i101.fresh (Nat.le_refl _)), (i102.fresh (Nat.le_refl _)), d103⟩
 obtain ⟨s72, f73, s76, f77, hh84, e67, m69, m71, m75, m79, i80, i81, d82⟩ := hM
 obtain ⟨β, rfl⟩ := has_ex hh84
 clear hh84
 obtain ⟨a218, n219, c220, rfl⟩ := m71.form
 obtain ⟨a221, n222, c223, rfl⟩ := m75.form
 refine k59 _ _ ?_
 refine w_seqk fun _ k224 => ?_
 refine w_seqk fun _ k225 => ?_
 refine g_' ?_
 refine q_ (pt_ b20 0) ?_
 have u226 := (u61.frS e67 (Dj.app (hb51.djn (r24.ltF.le (ntr e28.next e41.next))) (hf42.djn (r24.ltF.le e28.next))))
 refine l_' (i_ N_) (aLoad Tryz.prog 3 (pt_ b20 0) H66) (u226.ld (by kernel_rfl)) ?_
 refine q_ (i_ 0) ?_
 refine s_nil (k225 _ _ ?_)
 obtain ⟨o227, hx228, r229⟩ := bind_some r65
 refine w_mid (fun α H230 => Has α [(2, pt_ b26 0), (3, pt_ b48 0)] ∧ FrS f39 H66 H230 ∧ Ow (encI .i64) 1 H230 (.slice a44 n45 c46) o227 f39) (fun _ k234 => ?_) (fun α H230 hM => ?_)
 ·refine w_block ?_
  obtain ⟨n236, hn237⟩ := loopO_iff.1 hx228
  refine w_loopn (fun n α H238 => ∃ (c4 : List (Int)), ∃ (i5 : Int), iterO (fun zz_ => z_csr_flat_l1 N_ zz_.1 zz_.2) n (c4, i5) = some o227 ∧ Has α [(2, pt_ b26 0), (3, pt_ b48 0), (44, i_ N_), (45, i_ i5)] ∧ FrS f39 H66 H238 ∧ Ow (encI .i64) 1 H238 (.slice a44 n45 c46) c4 f39) n236 ⟨o63.1, 0, hn237, ha_, (FrS.refl (W := f39) e67.wf), m69⟩ ?_
  rintro n236 α H238 ⟨c4, i5, hi243, hh242, e239, m241⟩ K248 k248
  obtain ⟨n244, z245, rfl, hz246, hn247⟩ := iter_succ hi243
  obtain ⟨β, rfl⟩ := has_ex hh242
  clear hh242
  replace hz246 : z_csr_flat_l1 N_ c4 i5 = some z245 := hz246
  unfold z_csr_flat_l1 at hz246
  refine w_seqk fun _ k249 => ?_
  refine g_' ?_
  refine q_ (.bool (decide (i5 < N_))) ?_
  refine s_nil (k249 _ _ ?_)
  refine w_seqk fun _ k250 => ?_
  refine w_condp (i5 < N_) (by kernel_rfl) rfl (fun h251 => ?_) (fun h251 => ?_)
  ·have r252 := ite_t h251 hz246
   refine w_skip ?_
   refine k250 _ _ ?_
   refine w_seqk fun _ k253 => ?_
   refine w_block ?_
   refine w_seqk fun _ k254 => ?_
   refine g_' ?_
   refine q_ (i_ i5) ?_
   refine q_ (i_ i5) ?_
   refine s_nil (k254 _ _ ?_)
   refine w_draw [0, 1, 2, 3, 4, 5, 6, 7, 8, 9, 10, 11, 12, 13] (by kernel_rfl) ?_
   refine e_' (pt_ b48 0) ?_
   have u255 := (m79.frS e239 (Dj.symm (hb51.djn hm43.lt)))
   refine m_' (.slice a44 n45 c46) (aLoad Tryz.prog 23 (pt_ b48 0) H238) (u255.ld (by kernel_rfl)) ?_
   refine e_' (i_ i5) ?_
   obtain ⟨g256, r257⟩ := G_some r252
   refine d_w ((i5 + 1)) (k := .i64) (x := (i5 + 1)) (by kernel_rfl) (wrap64 g256) ?_
   obtain ⟨g258, r259⟩ := G_some r257
   refine m_' (elp (.slice a44 n45 c46) 1 (i5 + 1).toNat 0) (aIndexAddr Tryz.prog 23 (.slice a44 n45 c46) (i_ (i5 + 1))) (m241.sq.idxb (by kernel_rfl) g258.1 g258.2) ?_
   refine m_' (i_ (gt c4 (i5 + 1))) (aLoad Tryz.prog 3 (elp (.slice a44 n45 c46) 1 (i5 + 1).toNat 0) H238) (m241.sq.ld g258.1 g258.2 (by kernel_rfl)) ?_
   refine e_' (pt_ b48 0) ?_
   refine m_' (.slice a44 n45 c46) (aLoad Tryz.prog 23 (pt_ b48 0) H238) (u255.ld (by kernel_rfl)) ?_
   refine e_' (i_ i5) ?_
   obtain ⟨g260, r261⟩ := G_some r259
   refine m_' (elp (.slice a44 n45 c46) 1 i5.toNat 0) (aIndexAddr Tryz.prog 23 (.slice a44 n45 c46) (i_ i5)) (m241.sq.idxb (by kernel_rfl) g260.1 g260.2) ?_
   refine m_' (i_ (gt c4 i5)) (aLoad Tryz.prog 3 (elp (.slice a44 n45 c46) 1 i5.toNat 0) H238) (m241.sq.ld g260.1 g260.2 (by kernel_rfl)) ?_
   obtain ⟨g262, r263⟩ := G_some r261
   refine d_w (((gt c4 (i5 + 1)) + (gt c4 i5))) (k := .i64) (x := ((gt c4 (i5 + 1)) + (gt c4 i5))) (by kernel_rfl) (wrap64 g262) ?_
   refine m_' (elp (.slice a44 n45 c46) 1 (i5 + 1).toNat 0) (aIndexAddr Tryz.prog 23 (.slice a44 n45 c46) (i_ (i5 + 1))) (m241.sq.idxb (by kernel_rfl) g258.1 g258.2) ?_
   obtain ⟨H264, q265, e266, hm267⟩ := Ow.store (P := Tryz.prog) (t := 3) (off := 0) e239.wf m241 g258.1 g258.2 (i_ ((gt c4 (i5 + 1)) + (gt c4 i5))) [i_ ((gt c4 (i5 + 1)) + (gt c4 i5))] (by kernel_rfl) (by kernel_rfl) rfl ((gt c4 (i5 + 1)) + (gt c4 i5)) (Nat.le_of_ble_eq_true rfl) (by kernel_rfl)
   refine d_ek (undef) (by kernel_rfl) (map_ok q265) (st_nil) ?_
   refine d_nil ?_
   refine k253 _ _ ?_
   refine g_' ?_
   obtain ⟨g268, r269⟩ := G_some r263
   refine s_w ((i5 + 1)) (k := .i64) (x := (i5 + 1)) (by kernel_rfl) (wrap64 (by have := g268; omega)) ?_
   refine q_ (i_ (i5 + 1)) ?_
   refine s_nil ?_
   obtain rfl := Option.some.inj r269
   exact k248 n244 _ _ (Nat.lt_succ_self _) ⟨(c4.set (i5 + 1).toNat ((gt c4 (i5 + 1)) + (gt c4 i5))), (i5 + 1), hn247, ha_, (FrS.step e67.wf (FrS.step e67.wf (FrS.refl (W := f39) e67.wf) e239 Inn.refl') e266 Inn.refl'), hm267⟩
  have r270 := ite_f h251 hz246
  refine w_exit (th_exit (th_exit (bl_eq ?_)))
  obtain rfl := Option.some.inj r270
  obtain rfl := it_inr hn247
  exact k234 _ _ ⟨ha_, (FrS.step e67.wf (FrS.refl (W := f39) e67.wf) e239 Inn.refl'), m241⟩
 obtain ⟨hh235, e231, m233⟩ := hM
 obtain ⟨β, rfl⟩ := has_ex hh235
 clear hh235
 refine k224 _ _ ?_
 refine w_seqk fun _ k271 => ?_
 refine g_' ?_
 have u272 := (m79.frS e231 (Dj.symm (hb51.djn hm43.lt)))
 refine l_' (.agg #[.slice a44 n45 c46, .slice a218 n219 c220, .slice a221 n222 c223]) (aLoad Tryz.prog 25 (pt_ b48 0) H230) (u272.ld (by kernel_rfl)) ?_
 have u277 := (((((r30.ext e41).ext e50).frS e56 (hb51.djn (r30.ltF.le e41.next))).frS e67 (Dj.app (hb51.djn (r30.ltF.le e41.next)) (hf42.djn r30.ltF))).frS e231 (hf42.djn r30.ltF))
 have u278 := (m75.fr e231 (Dj.symm (i81.djn (hm43.lt.le (ntr e50.next e56.next)))))
 have u279 := (m71.fr e231 (Dj.symm (i80.djn (hm43.lt.le (ntr e50.next e56.next)))))
 obtain ⟨H273, q274, e275, r276⟩ := Row.store (P := Tryz.prog) (t := 25) (p := 0) e231.wf u277 (.agg #[.slice a44 n45 c46, .slice a218 n219 c220, .slice a221 n222 c223]) [.slice a44 n45 c46, .slice a218 n219 c220, .slice a221 n222 c223] (by kernel_rfl) (by kernel_rfl) (one_cons (m233.one1) (one_cons (u279.one1) (one_cons (u278.one1) (one_nil)))) (Nat.le_of_ble_eq_true (by kernel_rfl)) [.slice a44 n45 c46, .slice a218 n219 c220, .slice a221 n222 c223] (by kernel_rfl)
 refine s_ek (undef) (by kernel_rfl) (map_ok q274) ?_
 refine s_nil (k271 _ _ ?_)
 refine w_ret ?_
 refine b_ret (fn := Tryz.f33) (vs := [.agg #[.slice a44 n45 c46, .slice a218 n219 c220, .slice a221 n222 c223]]) (aRes_cell (Eq.trans (b := aLoad Tryz.prog 25 (pt_ b26 0) H273) (by kernel_rfl) (r276.ld (by kernel_rfl))) (rfl)) ?_
 have u280 := (m233.fr e275 (Dj.symm (hf42.djn r30.ltF)))
 have u281 := (u279.fr e275 (Dj.symm (i80.djn (r30.ltF.le (ntr (ntr e41.next e50.next) e56.next)))))
 have u282 := (u278.fr e275 (Dj.symm (i81.djn (r30.ltF.le (ntr (ntr e41.next e50.next) e56.next)))))
 obtain rfl := Option.some.inj r229
 exact ⟨(.slice a44 n45 c46), f39, (.slice a218 n219 c220), f73, (.slice a221 n222 c223), f77, rfl, (FrS.step wf (FrS.step wf (FrS.step wf (FrS.step wf (((((FrS.refl (W := []) wf).extR e22).extR e28).extR e41).extR e50) e56 (hb51.fresh (ntr (ntr e22.next e28.next) e41.next))) e67 (Inn.app (hb51.fresh (ntr (ntr e22.next e28.next) e41.next)) (hf42.fresh (ntr e22.next e28.next)))) e231 (hf42.fresh (ntr e22.next e28.next))) e275 (hb29.fresh e22.next)), u280, u281, u282, (hf42.fresh (ntr e22.next e28.next)), (i80.fresh (ntr (ntr (ntr (ntr e22.next e28.next) e41.next) e50.next) e56.next)), (i81.fresh (ntr (ntr (ntr (ntr e22.next e28.next) e41.next) e50.next) e56.next)), (Dj.symm (i80.djn (hm43.lt.le (ntr e50.next e56.next)))), (Dj.symm (i81.djn (hm43.lt.le (ntr e50.next e56.next)))), d82⟩

theorem c_csr_Build {H : AH} {hd_Arcs : Value} {fp_Arcs : Fp} {N_ : Int} {Arcs : List (Int × Int × Int)} {r : List (Int) × List (Int) × List (Int) × Er}
    (wf : WF H) (h_Arcs : Sq enc_i64_i64_i64 3 H hd_Arcs Arcs fp_Arcs) (hr : z_csr_Build N_ Arcs = some r) :
    ACalls Tryz.prog 14 #[.agg #[i_ N_, hd_Arcs]] H fun v H' => ∃ (s3 : Value) (f4 : Fp) (s7 : Value) (f8 : Fp) (s11 : Value) (f12 : Fp) (v15 : Value) (f16 : Fp), v = .tuple #[.agg #[s3, s7, s11], v15] ∧ FrS [] H H' ∧ Ow (encI .i64) 1 H' s3 r.1 f4 ∧ Ow (encI .i64) 1 H' s7 r.2.1 f8 ∧ Ow (encI .i64) 1 H' s11 r.2.2.1 f12 ∧ Ev 43 81 H' v15 r.2.2.2 f16 ∧ Inn [] H f4 ∧ Inn [] H f8 ∧ Inn [] H f12 ∧ Inn [] H f16 ∧ Dj f4 f8 ∧ Dj f4 f12 ∧ Dj f8 f12 ∧ Dj f4 f16 ∧ Dj f8 f16 ∧ Dj f12 f16 := by
 refine acalls_of_body mixed Tryz.func14 rfl (Nat.le_of_ble_eq_true rfl) ?_
 unfold z_csr_Build at hr
 refine w_seqk fun _ k27 => ?_
 refine g_' ?_
 refine s_rwl wf [i_ N_, hd_Arcs] (one_cons (rfl) (one_cons (h_Arcs.one1) (one_nil))) (by kernel_rfl) fun b28 H29 e30 hb31 r32 => ?_
 refine s_rwk e30.wf [.slice none 0 0, .slice none 0 0, .slice none 0 0] (by kernel_rfl) fun b34 H35 e36 hb37 r38 => ?_
 refine q_ (.nilIface) ?_
 refine s_nil (k27 _ _ ?_)
 refine w_seqk fun _ k40 => ?_
 refine g_' ?_
 have u41 := (r32.ext e36)
 refine l_' (.agg #[i_ N_, hd_Arcs]) (aLoad Tryz.prog 51 (pt_ b28 0) H35) (u41.ld (by kernel_rfl)) ?_
 have u42 := ((h_Arcs.ext e30).ext e36)
 obtain ⟨y43, hy44, r45⟩ := bind_some hr
 refine s_ck 32 #[.agg #[i_ N_, hd_Arcs]] (by kernel_rfl) (c_normal_Of e36.wf u42 hy44) ?_
 rintro _ H50 ⟨s46, f47, v48, f49, rfl, e51, m52, m53, i54, i55, d56⟩
 obtain ⟨a59, n60, c61, rfl⟩ := m52.form
 refine q_ (.tuple #[.agg #[i_ y43.1, .slice a59 n60 c61], v48]) ?_
 refine q_ (.agg #[i_ y43.1, .slice a59 n60 c61]) ?_
 refine q_ (v48) ?_
 refine s_rwk e51.wf [i_ 0, .slice none 0 0] (by kernel_rfl) fun b62 H63 e64 hb65 r66 => ?_
 have u72 := (m52.ext e64)
 obtain ⟨H68, q69, e70, r71⟩ := Row.store (P := Tryz.prog) (t := 51) (p := 0) e64.wf r66 (.agg #[i_ y43.1, .slice a59 n60 c61]) [i_ y43.1, .slice a59 n60 c61] (by kernel_rfl) (by kernel_rfl) (one_cons (rfl) (one_cons (u72.one1) (one_nil))) (Nat.le_of_ble_eq_true (by kernel_rfl)) [i_ y43.1, .slice a59 n60 c61] (by kernel_rfl)
 refine s_ek (undef) (by kernel_rfl) (map_ok q69) ?_
 refine q_ (v48) ?_
 refine s_nil (k40 _ _ ?_)
 refine w_seqk fun _ k73 => ?_
 refine w_seqk fun _ k74 => ?_
 refine g_' ?_
 refine q_ (v48) ?_
 have u78 := ((m53.ext e64).fr e70 (hb65.djn m53.lt))
 rcases (u78).cases with ⟨h75, rfl⟩ | ⟨h75, t76, x77, rfl⟩
 ·have r79 := ite_t h75 r45
  refine q_ (.bool false) ?_
  refine s_nil (k74 _ _ ?_)
  refine w_cond false (by kernel_rfl) rfl (fun h => by cases h) (fun _ => ?_)
  refine w_skip ?_
  refine k73 _ _ ?_
  refine w_seqk fun _ k80 => ?_
  refine g_' ?_
  refine l_' (.agg #[i_ y43.1, .slice a59 n60 c61]) (aLoad Tryz.prog 51 (pt_ b62 0) H68) (r71.ld (by kernel_rfl)) ?_
  have u81 := (u72.fr e70 (hb65.djn m52.lt))
  obtain ⟨y82, hy83, r84⟩ := bind_some r79
  refine s_ck 33 #[.agg #[i_ y43.1, .slice a59 n60 c61]] (by kernel_rfl) (c_csr_flat e70.wf u81.sq hy83) ?_
  rintro _ H91 ⟨s85, f86, s87, f88, s89, f90, rfl, e92, m93, m94, m95, i96, i97, i98, d99, d100, d101⟩
  obtain ⟨a105, n106, c107, rfl⟩ := m93.form
  obtain ⟨a108, n109, c110, rfl⟩ := m94.form
  obtain ⟨a111, n112, c113, rfl⟩ := m95.form
  have u118 := ((((r38.frS e51 Dj.nil_l).ext e64).frS e70 (hb65.djn (r38.ltF.le e51.next))).frS e92 Dj.nil_l)
  obtain ⟨H114, q115, e116, r117⟩ := Row.store (P := Tryz.prog) (t := 25) (p := 0) e92.wf u118 (.agg #[.slice a105 n106 c107, .slice a108 n109 c110, .slice a111 n112 c113]) [.slice a105 n106 c107, .slice a108 n109 c110, .slice a111 n112 c113] (by kernel_rfl) (by kernel_rfl) (one_cons (m93.one1) (one_cons (m94.one1) (one_cons (m95.one1) (one_nil)))) (Nat.le_of_ble_eq_true (by kernel_rfl)) [.slice a105 n106 c107, .slice a108 n109 c110, .slice a111 n112 c113] (by kernel_rfl)
  refine s_ek (undef) (by kernel_rfl) (map_ok q115) ?_
  refine q_ (.nilIface) ?_
  refine s_nil (k80 _ _ ?_)
  refine w_ret ?_
  refine b_ret (fn := Tryz.f14) (vs := [.agg #[.slice a105 n106 c107, .slice a108 n109 c110, .slice a111 n112 c113], .nilIface]) (aRes_cell (Eq.trans (b := aLoad Tryz.prog 25 (pt_ b34 0) H114) (by kernel_rfl) (r117.ld (by kernel_rfl))) (aRes_tmp (by kernel_rfl) (rfl))) ?_
  have u119 := (m93.fr e116 (Dj.symm (i96.djn (r38.ltF.le (ntr (ntr e51.next e64.next) e70.next)))))
  have u120 := (m94.fr e116 (Dj.symm (i97.djn (r38.ltF.le (ntr (ntr e51.next e64.next) e70.next)))))
  have u121 := (m95.fr e116 (Dj.symm (i98.djn (r38.ltF.le (ntr (ntr e51.next e64.next) e70.next)))))
  obtain rfl := Option.some.inj r84
  exact ⟨(.slice a105 n106 c107), f86, (.slice a108 n109 c110), f88, (.slice a111 n112 c113), f90, (.nilIface), [], rfl, (FrS.step wf (FrS.step wf (FrS.step wf ((FrS.step wf (((FrS.refl (W := []) wf).extR e30).extR e36) e51 Inn.nil).extR e64) e70 (hb65.fresh (ntr (ntr e30.next e36.next) e51.next))) e92 Inn.nil) e116 (hb37.fresh e30.next)), u119, u120, u121, Ev.nil, (i96.fresh (ntr (ntr (ntr (ntr e30.next e36.next) e51.next) e64.next) e70.next)), (i97.fresh (ntr (ntr (ntr (ntr e30.next e36.next) e51.next) e64.next) e70.next)), (i98.fresh (ntr (ntr (ntr (ntr e30.next e36.next) e51.next) e64.next) e70.next)), Inn.nil, d99, d100, d101, Dj.nil_r, Dj.nil_r, Dj.nil_r⟩
 have r122 := ite_f h75 r45
 refine l_' (.bool true) (aBin Tryz.prog .neq 31 (.tmp 11) (.const .nilIface) (.iface t76 x77) .nilIface) (aBin_nnil (by kernel_rfl)) ?_
 refine s_nil (k74 _ _ ?_)
 refine w_cond true (by kernel_rfl) rfl (fun _ => ?_) (fun h => by cases h)
 refine w_seqk fun _ k123 => ?_
 refine g_' ?_
 refine q_ (.agg #[.slice none 0 0, .slice none 0 0, .slice none 0 0]) ?_
 refine q_ (.iface t76 x77) ?_
 have u128 := (((r38.frS e51 Dj.nil_l).ext e64).frS e70 (hb65.djn (r38.ltF.le e51.next)))
 obtain ⟨H124, q125, e126, r127⟩ := Row.store (P := Tryz.prog) (t := 25) (p := 0) e70.wf u128 (.agg #[.slice none 0 0, .slice none 0 0, .slice none 0 0]) [.slice none 0 0, .slice none 0 0, .slice none 0 0] (by kernel_rfl) (by kernel_rfl) (one_cons (rfl) (one_cons (rfl) (one_cons (rfl) (one_nil)))) (Nat.le_of_ble_eq_true (by kernel_rfl)) [.slice none 0 0, .slice none 0 0, .slice none 0 0] (by kernel_rfl)
 refine s_ek (undef) (by kernel_rfl) (map_ok q125) ?_
 refine q_ (.iface t76 x77) ?_
 refine s_nil (k123 _ _ ?_)
 refine w_ret (th_ret ?_)
 refine b_ret (fn := Tryz.f14) (vs := [.agg #[.slice none 0 0, .slice none 0 0, .slice none 0 0], .iface t76 x77]) (aRes_cell (Eq.trans (b := aLoad Tryz.prog 25 (pt_ b34 0) H124) (by kernel_rfl) (r127.ld (by kernel_rfl))) (aRes_tmp (by kernel_rfl) (rfl))) ?_
 have u129 := (u78.fr e126 (Dj.symm (i55.djn r38.ltF)))
 obtain rfl := Option.some.inj r122
 exact ⟨(.slice none 0 0), [], (.slice none 0 0), [], (.slice none 0 0), [], (.iface t76 x77), f49, rfl, (FrS.step wf (FrS.step wf ((FrS.step wf (((FrS.refl (W := []) wf).extR e30).extR e36) e51 Inn.nil).extR e64) e70 (hb65.fresh (ntr (ntr e30.next e36.next) e51.next))) e126 (hb37.fresh e30.next)), (Ow.nil (by decide)), (Ow.nil (by decide)), (Ow.nil (by decide)), u129, Inn.nil, Inn.nil, Inn.nil, (i55.fresh (ntr e30.next e36.next)), Dj.nil_l, Dj.nil_l, Dj.nil_l, Dj.nil_l, Dj.nil_l, Dj.nil_l⟩

theorem c_search_Matrix {H : AH} {hd_First : Value} {fp_First : Fp} {hd_To : Value} {fp_To : Fp} {hd_Weight : Value} {fp_Weight : Fp} {First : List (Int)} {To : List (Int)} {Weight : List (Int)} {r : List (List (Int)) × Er}
    (wf : WF H) (h_First : Sq (encI .i64) 1 H hd_First First fp_First) (h_To : Sq (encI .i64) 1 H hd_To To fp_To) (h_Weight : Sq (encI .i64) 1 H hd_Weight Weight fp_Weight) (hr : z_search_Matrix First To Weight = some r) :
    ACalls Tryz.prog 15 #[.agg #[hd_First, hd_To, hd_Weight]] H fun v H' => ∃ (s3 : Value) (f4 : Fp) (v7 : Value) (f8 : Fp), v = .tuple #[s3, v7] ∧ FrS [] H H' ∧ Nst (CR.sl (encI .u64) 1) H' s3 r.1 f4 ∧ Ev 43 81 H' v7 r.2 f8 ∧ Inn [] H f4 ∧ Inn [] H f8 ∧ Dj f4 f8 := by
 refine acalls_of_body mixed Tryz.func15 rfl (Nat.le_of_ble_eq_true rfl) ?_
 unfold z_search_Matrix at hr
 refine w_seqk fun _ k12 => ?_
 refine g_' ?_
 refine s_rwl wf [hd_First, hd_To, hd_Weight] (one_cons (h_First.one1) (one_cons (h_To.one1) (one_cons (h_Weight.one1) (one_nil)))) (by kernel_rfl) fun b13 H14 e15 hb16 r17 => ?_
 refine q_ (.slice none 0 0) ?_
 refine q_ (.nilIface) ?_
 refine s_nil (k12 _ _ ?_)
 refine w_seqk fun _ k19 => ?_
 refine w_seqk fun _ k20 => ?_
 refine g_' ?_
 refine l_' (.agg #[hd_First, hd_To, hd_Weight]) (aLoad Tryz.prog 25 (pt_ b13 0) H14) (r17.ld (by kernel_rfl)) ?_
 have u21 := (h_First.ext e15)
 have u22 := (h_To.ext e15)
 have u23 := (h_Weight.ext e15)
 obtain ⟨y24, hy25, r26⟩ := bind_some hr
 refine s_ck 34 #[.agg #[hd_First, hd_To, hd_Weight]] (by kernel_rfl) (c_csr_Check e15.wf u21 u22 u23 hy25) ?_
 rintro v27 H29 ⟨_, f28, rfl, e30, m31, i32⟩
 refine q_ (v27) ?_
 refine s_nil (k20 _ _ ?_)
 refine w_seqk fun _ k34 => ?_
 refine g_' ?_
 refine q_ (v27) ?_
 rcases (m31).cases with ⟨h35, rfl⟩ | ⟨h35, t36, x37, rfl⟩
 ·have r38 := ite_t h35 r26
  refine q_ (.bool false) ?_
  refine s_nil (k34 _ _ ?_)
  refine w_cond false (by kernel_rfl) rfl (fun h => by cases h) (fun _ => ?_)
  refine w_skip ?_
  refine k19 _ _ ?_
  refine w_seqk fun _ k39 => ?_
  refine g_' ?_
  have u40 := (r17.frS e30 Dj.nil_l)
  refine l_' (.agg #[hd_First, hd_To, hd_Weight]) (aLoad Tryz.prog 25 (pt_ b13 0) H29) (u40.ld (by kernel_rfl)) ?_
  have u41 := (u21.fr e30 Dj.nil_l)
  have u42 := (u22.fr e30 Dj.nil_l)
  have u43 := (u23.fr e30 Dj.nil_l)
  obtain ⟨y44, hy45, r46⟩ := bind_some r38
  refine s_ck 35 #[.agg #[hd_First, hd_To, hd_Weight]] (by kernel_rfl) (c_search_nodes e30.wf u41 u42 u43 hy45) ?_
  rintro _ H47 ⟨rfl, e48⟩
  refine q_ (i_ y44) ?_
  refine s_nil (k39 _ _ ?_)
  refine w_seqk fun _ k49 => ?_
  refine w_seqk fun _ k50 => ?_
  refine g_' ?_
  refine q_ (i_ y44) ?_
  refine q_ (i_ y44) ?_
  obtain ⟨g51, r52⟩ := G_some r46
  refine s_w ((y44 * y44)) (k := .i64) (x := (y44 * y44)) (by kernel_rfl) (wrap64 g51) ?_
  refine q_ (.bool (decide ((y44 * y44) > 1048576))) ?_
  refine s_nil (k50 _ _ ?_)
  refine w_condp ((y44 * y44) > 1048576) (by kernel_rfl) rfl (fun h53 => ?_) (fun h53 => ?_)
  ·have r54 := ite_t h53 r52
   refine w_seqk fun _ k55 => ?_
   refine g_' ?_
   refine q_ (.iface 43 (i_ 9)) ?_
   refine q_ (.slice none 0 0) ?_
   refine q_ (.iface 43 (i_ 9)) ?_
   refine s_nil (k55 _ _ ?_)
   refine w_ret (th_ret ?_)
   refine b_ret (fn := Tryz.f15) (vs := [.slice none 0 0, .iface 43 (i_ 9)]) (aRes_tmp (by kernel_rfl) (aRes_tmp (by kernel_rfl) (rfl))) ?_
   obtain rfl := Option.some.inj r54
   exact ⟨(.slice none 0 0), [], (.iface 43 (i_ 9)), [], rfl, (FrS.step wf (FrS.step wf ((FrS.refl (W := []) wf).extR e15) e30 Inn.nil) e48 Inn.nil), Nst.nil, Ev.no, Inn.nil, Inn.nil, Dj.nil_l⟩
  have r56 := ite_f h53 r52
  refine w_skip ?_
  refine k49 _ _ ?_
  refine w_seqk fun _ k57 => ?_
  refine g_' ?_
  refine q_ (.slice none 0 0) ?_
  refine s_nil (k57 _ _ ?_)
  refine w_seqk fun _ k58 => ?_
  refine w_seqk fun _ k59 => ?_
  refine g_' ?_
  refine q_ (i_ y44) ?_
  refine q_ (i_ 0) ?_
  refine s_nil (k59 _ _ ?_)
  obtain ⟨o60, hx61, r62⟩ := bind_some r56
  refine w_mid (fun α H63 => ∃ (s67 : Value) (f68 : Fp), Has α [(6, s67)] ∧ FrS [] H47 H63 ∧ Nst (CR.sl (encI .u64) 1) H63 s67 o60 f68 ∧ Inn [] H47 f68) (fun _ k70 => ?_) (fun α H63 hM => ?_)
  ·refine w_block ?_
   obtain ⟨n72, hn73⟩ := loopO_iff.1 hx61
   refine w_loopn (fun n α H74 => ∃ (i0 : Int), ∃ (l1 : List (List (Int))), ∃ (s78 : Value), ∃ (f79 : Fp), iterO (fun zz_ => z_search_Matrix_l0 First To Weight y44 zz_.1 zz_.2) n (i0, l1) = some o60 ∧ Has α [(1, pt_ b13 0), (6, s78), (20, i_ y44), (21, i_ i0)] ∧ FrS [] H47 H74 ∧ Nst (CR.sl (encI .u64) 1) H74 s78 l1 f79 ∧ Inn [] H47 f79) n72 ⟨0, [], (.slice none 0 0), [], hn73, ha_, (FrS.refl (W := []) e48.wf), Nst.nil, Inn.nil⟩ ?_
   rintro n72 α H74 ⟨i0, l1, s78, f79, hi82, hh81, e75, m77, i80⟩ K87 k87
   obtain ⟨n83, z84, rfl, hz85, hn86⟩ := iter_succ hi82
   obtain ⟨β, rfl⟩ := has_ex hh81
   clear hh81
   replace hz85 : z_search_Matrix_l0 First To Weight y44 i0 l1 = some z84 := hz85
   unfold z_search_Matrix_l0 at hz85
   obtain ⟨a88, n89, c90, rfl⟩ := m77.form
   refine w_seqk fun _ k91 => ?_
   refine g_' ?_
   refine q_ (.bool (decide (i0 < y44))) ?_
   refine s_nil (k91 _ _ ?_)
   refine w_seqk fun _ k92 => ?_
   refine w_condp (i0 < y44) (by kernel_rfl) rfl (fun h93 => ?_) (fun h93 => ?_)
   ·have r94 := ite_t h93 hz85
    refine w_skip ?_
    refine k92 _ _ ?_
    refine w_seqk fun _ k95 => ?_
    refine w_block ?_
    refine w_seqk fun _ k96 => ?_
    refine g_' ?_
    refine q_ (i_ i0) ?_
    refine q_ (i_ i0) ?_
    refine s_nil (k96 _ _ ?_)
    refine w_draw [0, 1, 2, 3, 4, 5, 6, 7, 8] (by kernel_rfl) ?_
    refine e_' (.slice a88 n89 c90) ?_
    have u97 := ((u40.frS e48 Dj.nil_l).frS e75 Dj.nil_l)
    refine d_fl (.agg #[hd_First, hd_To, hd_Weight]) (x := aLoad Tryz.prog 25 (pt_ b13 0) H74) (by kernel_rfl) (u97.ld (by kernel_rfl)) ?_
    refine e_' (i_ i0) ?_
    obtain ⟨y98, hy99, r100⟩ := bind_some r94
    refine d_ck 23 #[] (by kernel_rfl) (c_search_free e75.wf hy99) ?_
    rintro _ H101 ⟨rfl, e102⟩
    have u103 := (u97.frS e102 Dj.nil_l)
    refine ⟨st_ql (y := aLoad Tryz.prog 25 (pt_ b13 0) H101) (by kernel_rfl) (u103.ld (by kernel_rfl)) (st_nil), ?_⟩
    have u104 := (((u41.fr e48 Dj.nil_l).fr e75 Dj.nil_l).fr e102 Dj.nil_l)
    have u105 := (((u42.fr e48 Dj.nil_l).fr e75 Dj.nil_l).fr e102 Dj.nil_l)
    have u106 := (((u43.fr e48 Dj.nil_l).fr e75 Dj.nil_l).fr e102 Dj.nil_l)
    obtain ⟨y107, hy108, r109⟩ := bind_some r100
    refine d_ck 22 #[.agg #[hd_First, hd_To, hd_Weight], i_ i0, .agg #[i_ 4611686018427387904, i_ 4611686018427387904, .int .u64 18446744073709551615]] (by kernel_rfl) (c_search_run e102.wf u104 u105 u106 hy108) ?_
    rintro _ H123 ⟨s110, f111, s112, f113, b114, s115, f116, b117, s118, f119, s120, f121, b122, rfl, e124, m125, m126, m127, m128, m129, m130, m131, m132, i133, i134, i135, i136, i137, i138, i139, i140, d141, d142, d143, d144, d145, d146, d147, d148, d149, d150, d151, d152, d153, d154, d155, d156, d157, d158, d159, d160, d161, d162, d163, d164, d165, d166, d167, d168⟩
    obtain ⟨a177, n178, c179, rfl⟩ := m125.form
    obtain ⟨a180, n181, c182, rfl⟩ := m126.form
    obtain ⟨a183, n184, c185, rfl⟩ := m128.form
    obtain ⟨a186, n187, c188, rfl⟩ := m130.form
    obtain ⟨a189, n190, c191, rfl⟩ := m131.form
    refine ⟨st_anc (by kernel_rfl) (st_nil), ?_⟩
    have u192 := (u104.fr e124 Dj.nil_l)
    have u193 := (u105.fr e124 Dj.nil_l)
    have u194 := (u106.fr e124 Dj.nil_l)
    obtain ⟨y195, hy196, r197⟩ := bind_some r109
    refine d_ck 24 #[pt_ b122 0] (by kernel_rfl) (c_search_state_all e124.wf u192 u193 u194 m125.sq m126.sq m127 m128.sq m129 m130.sq m131.sq m132 hy196) ?_
    rintro s198 H200 ⟨_, f199, rfl, e201, m202, i203⟩
    obtain ⟨a205, n206, c207, rfl⟩ := m202.form
    refine ⟨st_anc (by kernel_rfl) (st_nil), ?_⟩
    refine d_lsl e201.wf [.slice a205 n206 c207] 1 (one_cons (m202.one1) (one_nil)) (by kernel_rfl) fun b208 H209 e210 hb211 r212 => ?_
    have u214 := ((((m77.fr e102 Dj.nil_l).fr e124 Dj.nil_l).fr e201 Dj.nil_l).ext e210)
    have u215 := (m202.ext e210)
    obtain ⟨g216, r217⟩ := G_some r197
    obtain ⟨s218, H219, f220, q224, e221, hm222, hf223⟩ := Nst.append1 (P := Tryz.prog) (C := (CR.sl (encI .u64) 1)) 24 e210.wf u214 r212 (cr_sl_mk u215) (Dj.symm (i203.djn (m77.lt.le (ntr e102.next e124.next)))) (at_ := #[56, 56]) rfl rfl (by kernel_rfl) (by kernel_rfl) (by decide) (by have := g216; first | omega | (simp at this ⊢; omega))
    obtain ⟨a225, n226, c227, rfl⟩ := hm222.form
    have w229 := hf223.grow2 (i203.fresh (Nat.le_refl _)) (ntr e201.next e210.next)
    refine d_ek (.slice a225 n226 c227) (by kernel_rfl) (q224) (st_anc (by kernel_rfl) (st_nil)) ?_
    refine e_' (.slice a225 n226 c227) ?_
    refine d_nil ?_
    refine k95 _ _ ?_
    refine g_' ?_
    obtain ⟨g230, r231⟩ := G_some r217
    refine s_w ((i0 + 1)) (k := .i64) (x := (i0 + 1)) (by kernel_rfl) (wrap64 g230) ?_
    refine q_ (i_ (i0 + 1)) ?_
    refine s_nil ?_
    obtain rfl := Option.some.inj r231
    exact k87 n83 _ _ (Nat.lt_succ_self _) ⟨(i0 + 1), (l1 ++ [y195]), (.slice a225 n226 c227), f220, hn86, ha_, (FrS.step e48.wf ((FrS.step e48.wf (FrS.step e48.wf (FrS.step e48.wf (FrS.step e48.wf (FrS.refl (W := []) e48.wf) e75 Inn.nil) e102 Inn.nil) e124 Inn.nil) e201 Inn.nil).extR e210) e221 (i80.fresh (Nat.le_refl _))), hm222, (Inn.trans (i80.fresh (Nat.le_refl _)) (ntr (ntr e75.next e102.next) e124.next) w229)⟩
   have r232 := ite_f h93 hz85
   refine w_exit (th_exit (th_exit (bl_eq ?_)))
   obtain rfl := Option.some.inj r232
   obtain rfl := it_inr hn86
   exact k70 _ _ ⟨(.slice a88 n89 c90), f79, ha_, (FrS.step e48.wf (FrS.refl (W := []) e48.wf) e75 Inn.nil), m77, (i80.fresh (Nat.le_refl _))⟩
  obtain ⟨s67, f68, hh71, e64, m66, i69⟩ := hM
  obtain ⟨β, rfl⟩ := has_ex hh71
  clear hh71
  obtain ⟨a233, n234, c235, rfl⟩ := m66.form
  refine k58 _ _ ?_
  refine w_seqk fun _ k236 => ?_
  refine g_' ?_
  refine q_ (.slice a233 n234 c235) ?_
  refine q_ (.slice a233 n234 c235) ?_
  refine q_ (.nilIface) ?_
  refine s_nil (k236 _ _ ?_)
  refine w_ret ?_
  refine b_ret (fn := Tryz.f15) (vs := [.slice a233 n234 c235, .nilIface]) (aRes_tmp (by kernel_rfl) (aRes_tmp (by kernel_rfl) (rfl))) ?_
  obtain rfl := Option.some.inj r62
  exact ⟨(.slice a233 n234 c235), f68, (.nilIface), [], rfl, (FrS.step wf (FrS.step wf (FrS.step wf ((FrS.refl (W := []) wf).extR e15) e30 Inn.nil) e48 Inn.nil) e64 Inn.nil), m66, Ev.nil, (i69.fresh (ntr (ntr e15.next e30.next) e48.next)), Inn.nil, Dj.nil_r⟩
 have r237 := ite_f h35 r26
 refine l_' (.bool true) (aBin Tryz.prog .neq 31 (.tmp 10) (.const .nilIface) (.iface t36 x37) .nilIface) (aBin_nnil (by kernel_rfl)) ?_
 refine s_nil (k34 _ _ ?_)
 refine w_cond true (by kernel_rfl) rfl (fun _ => ?_) (fun h => by cases h)
 refine w_seqk fun _ k238 => ?_
 refine g_' ?_
 refine q_ (.iface t36 x37) ?_
 refine q_ (.slice none 0 0) ?_
 refine q_ (.iface t36 x37) ?_
 refine s_nil (k238 _ _ ?_)
 refine w_ret (th_ret ?_)
 refine b_ret (fn := Tryz.f15) (vs := [.slice none 0 0, .iface t36 x37]) (aRes_tmp (by kernel_rfl) (aRes_tmp (by kernel_rfl) (rfl))) ?_
 obtain rfl := Option.some.inj r237
 exact ⟨(.slice none 0 0), [], (.iface t36 x37), f28, rfl, (FrS.step wf ((FrS.refl (W := []) wf).extR e15) e30 Inn.nil), Nst.nil, m31, Inn.nil, (i32.fresh e15.next), Dj.nil_l⟩


end Go.Vd

/-! (KSf7) -/

set_option maxRecDepth 100000
set_option maxHeartbeats 4000000
set_option linter.unusedVariables false
namespace Go.Vd
open Go.Proofs
attribute [local irreducible] wpSeq wpOrd aWp
theorem c_viaductlaw08_SearchFixed {H : AH} {r : Bool}
    (wf : WF H) (hr : z_viaductlaw08_SearchFixed = some r) :
    ACalls Tryz.prog 3 #[] H fun v H' => v = .bool r ∧ FrS [] H H' := by
 refine acalls_of_body mixed Tryz.func3 rfl (Nat.le_of_ble_eq_true rfl) ?_
 unfold z_viaductlaw08_SearchFixed at hr
 refine w_seqk fun _ k1 => ?_
 refine g_' ?_
 refine q_ (.bool false) ?_
 refine s_nil (k1 _ _ ?_)
 refine w_seqk fun _ k2 => ?_
 refine w_seqk fun _ k3 => ?_
 refine g_' ?_
 refine s_ck 5 #[] (by kernel_rfl) c_viaductlaw08_awake ?_
 rintro _ _ ⟨rfl, rfl⟩
 refine q_ (.bool false) ?_
 refine s_nil (k3 _ _ ?_)
 refine w_cond false (by kernel_rfl) rfl (fun h => by cases h) (fun _ => ?_)
 refine w_skip ?_
 refine k2 _ _ ?_
 refine w_seqk fun _ k4 => ?_
 refine g_' ?_
 obtain ⟨y5, hy6, r7⟩ := bind_some hr
 refine s_ck 7 #[] (by kernel_rfl) (c_viaductlaw08_four wf hy6) ?_
 rintro _ H14 ⟨s8, f9, s10, f11, s12, f13, rfl, e15, m16, m17, m18, i19, i20, i21, d22, d23, d24⟩
 obtain ⟨a28, n29, c30, rfl⟩ := m16.form
 obtain ⟨a31, n32, c33, rfl⟩ := m17.form
 obtain ⟨a34, n35, c36, rfl⟩ := m18.form
 obtain ⟨y37, hy38, r39⟩ := bind_some r7
 refine s_ck 6 #[.agg #[.slice a28 n29 c30, .slice a31 n32 c33, .slice a34 n35 c36]] (by kernel_rfl) (c_viaductlaw08_of e15.wf m16.sq m17.sq m18.sq hy38) ?_
 rintro _ H46 ⟨s40, f41, s42, f43, s44, f45, rfl, e47, m48, m49, m50, i51, i52, i53, d54, d55, d56⟩
 obtain ⟨a60, n61, c62, rfl⟩ := m48.form
 obtain ⟨a63, n64, c65, rfl⟩ := m49.form
 obtain ⟨a66, n67, c68, rfl⟩ := m50.form
 refine s_rwk e47.wf [.slice none 0 0, .slice none 0 0, .slice none 0 0] (by kernel_rfl) fun b69 H70 e71 hb72 r73 => ?_
 have u79 := (m50.ext e71)
 have u80 := (m49.ext e71)
 have u81 := (m48.ext e71)
 obtain ⟨H75, q76, e77, r78⟩ := Row.store (P := Tryz.prog) (t := 25) (p := 0) e71.wf r73 (.agg #[.slice a60 n61 c62, .slice a63 n64 c65, .slice a66 n67 c68]) [.slice a60 n61 c62, .slice a63 n64 c65, .slice a66 n67 c68] (by kernel_rfl) (by kernel_rfl) (one_cons (u81.one1) (one_cons (u80.one1) (one_cons (u79.one1) (one_nil)))) (Nat.le_of_ble_eq_true (by kernel_rfl)) [.slice a60 n61 c62, .slice a63 n64 c65, .slice a66 n67 c68] (by kernel_rfl)
 refine s_ek (undef) (by kernel_rfl) (map_ok q76) ?_
 refine s_nil (k4 _ _ ?_)
 refine w_seqk fun _ k82 => ?_
 refine g_' ?_
 refine l_' (.agg #[.slice a60 n61 c62, .slice a63 n64 c65, .slice a66 n67 c68]) (aLoad Tryz.prog 25 (pt_ b69 0) H75) (r78.ld (by kernel_rfl)) ?_
 have u83 := (u81.fr e77 (hb72.djn m48.lt))
 have u84 := (u80.fr e77 (hb72.djn m49.lt))
 have u85 := (u79.fr e77 (hb72.djn m50.lt))
 obtain ⟨y86, hy87, r88⟩ := bind_some r39
 refine s_ck 8 #[.agg #[.slice a60 n61 c62, .slice a63 n64 c65, .slice a66 n67 c68], i_ 3] (by kernel_rfl) (c_search_From e77.wf u83.sq u84.sq u85.sq hy87) ?_
 rintro _ H93 ⟨s89, f90, v91, f92, rfl, e94, m95, m96, i97, i98, d99⟩
 obtain ⟨a102, n103, c104, rfl⟩ := m95.form
 refine q_ (.tuple #[.slice a102 n103 c104, v91]) ?_
 refine q_ (.slice a102 n103 c104) ?_
 refine q_ (v91) ?_
 refine q_ (.slice a102 n103 c104) ?_
 refine q_ (v91) ?_
 refine s_nil (k82 _ _ ?_)
 refine w_seqk fun _ k105 => ?_
 refine g_' ?_
 have u106 := (r78.frS e94 Dj.nil_l)
 refine l_' (.agg #[.slice a60 n61 c62, .slice a63 n64 c65, .slice a66 n67 c68]) (aLoad Tryz.prog 25 (pt_ b69 0) H93) (u106.ld (by kernel_rfl)) ?_
 have u107 := (u83.fr e94 Dj.nil_l)
 have u108 := (u84.fr e94 Dj.nil_l)
 have u109 := (u85.fr e94 Dj.nil_l)
 obtain ⟨y110, hy111, r112⟩ := bind_some r88
 refine s_ck 9 #[.agg #[.slice a60 n61 c62, .slice a63 n64 c65, .slice a66 n67 c68], i_ 2, i_ 2] (by kernel_rfl) (c_search_Path e94.wf u107.sq u108.sq u109.sq hy111) ?_
 rintro _ H117 ⟨s113, f114, v115, f116, rfl, e118, m119, m120, i121, i122, d123⟩
 obtain ⟨a126, n127, c128, rfl⟩ := m119.form
 refine q_ (.tuple #[.slice a126 n127 c128, v115]) ?_
 refine q_ (.slice a126 n127 c128) ?_
 refine q_ (v115) ?_
 refine q_ (.slice a126 n127 c128) ?_
 refine q_ (v115) ?_
 refine s_nil (k105 _ _ ?_)
 refine w_seqk fun _ k129 => ?_
 refine g_' ?_
 have u130 := (u106.frS e118 Dj.nil_l)
 refine l_' (.agg #[.slice a60 n61 c62, .slice a63 n64 c65, .slice a66 n67 c68]) (aLoad Tryz.prog 25 (pt_ b69 0) H117) (u130.ld (by kernel_rfl)) ?_
 have u131 := (u107.fr e118 Dj.nil_l)
 have u132 := (u108.fr e118 Dj.nil_l)
 have u133 := (u109.fr e118 Dj.nil_l)
 obtain ⟨y134, hy135, r136⟩ := bind_some r112
 refine s_ck 9 #[.agg #[.slice a60 n61 c62, .slice a63 n64 c65, .slice a66 n67 c68], i_ 3, i_ 0] (by kernel_rfl) (c_search_Path e118.wf u131.sq u132.sq u133.sq hy135) ?_
 rintro _ H141 ⟨s137, f138, v139, f140, rfl, e142, m143, m144, i145, i146, d147⟩
 obtain ⟨a150, n151, c152, rfl⟩ := m143.form
 refine q_ (.tuple #[.slice a150 n151 c152, v139]) ?_
 refine q_ (.slice a150 n151 c152) ?_
 refine q_ (v139) ?_
 refine q_ (.slice a150 n151 c152) ?_
 refine q_ (v139) ?_
 refine s_nil (k129 _ _ ?_)
 refine w_seqk fun _ k153 => ?_
 refine g_' ?_
 have u154 := (u130.frS e142 Dj.nil_l)
 refine l_' (.agg #[.slice a60 n61 c62, .slice a63 n64 c65, .slice a66 n67 c68]) (aLoad Tryz.prog 25 (pt_ b69 0) H141) (u154.ld (by kernel_rfl)) ?_
 have u155 := (u131.fr e142 Dj.nil_l)
 have u156 := (u132.fr e142 Dj.nil_l)
 have u157 := (u133.fr e142 Dj.nil_l)
 obtain ⟨y158, hy159, r160⟩ := bind_some r136
 refine s_ck 8 #[.agg #[.slice a60 n61 c62, .slice a63 n64 c65, .slice a66 n67 c68], i_ 4] (by kernel_rfl) (c_search_From e142.wf u155.sq u156.sq u157.sq hy159) ?_
 rintro _ H165 ⟨s161, f162, v163, f164, rfl, e166, m167, m168, i169, i170, d171⟩
 obtain ⟨a174, n175, c176, rfl⟩ := m167.form
 refine q_ (.tuple #[.slice a174 n175 c176, v163]) ?_
 refine q_ (.slice a174 n175 c176) ?_
 refine q_ (v163) ?_
 refine q_ (.slice a174 n175 c176) ?_
 refine q_ (v163) ?_
 refine s_nil (k153 _ _ ?_)
 refine w_seqk fun _ k177 => ?_
 refine g_' ?_
 refine s_owk (enc := (encI .i64)) (sz := 1) e166.wf [1] 1 (by decide) (fun _ _ => rfl) (fun _ _ => rfl) rfl (by kernel_rfl) fun s178 f179 H180 e181 hf182 hm183 => ?_
 obtain ⟨a184, n185, c186, rfl⟩ := hm183.form
 refine q_ (.agg #[.slice a184 n185 c186, .slice none 0 0, .slice none 0 0]) ?_
 obtain ⟨y188, hy189, r190⟩ := bind_some r160
 refine s_ck 8 #[.agg #[.slice a184 n185 c186, .slice none 0 0, .slice none 0 0], i_ 0] (by kernel_rfl) (c_search_From e181.wf hm183.sq (Sq.nil (enc := (encI .i64)) (sz := 1) (by decide)) (Sq.nil (enc := (encI .i64)) (sz := 1) (by decide)) hy189) ?_
 rintro _ H195 ⟨s191, f192, v193, f194, rfl, e196, m197, m198, i199, i200, d201⟩
 obtain ⟨a204, n205, c206, rfl⟩ := m197.form
 refine q_ (.tuple #[.slice a204 n205 c206, v193]) ?_
 refine q_ (.slice a204 n205 c206) ?_
 refine q_ (v193) ?_
 refine q_ (.slice a204 n205 c206) ?_
 refine q_ (v193) ?_
 refine s_nil (k177 _ _ ?_)
 refine w_seqk fun _ k207 => ?_
 refine g_' ?_
 have u208 := (((u154.frS e166 Dj.nil_l).ext e181).frS e196 Dj.nil_l)
 refine l_' (.agg #[.slice a60 n61 c62, .slice a63 n64 c65, .slice a66 n67 c68]) (aLoad Tryz.prog 25 (pt_ b69 0) H195) (u208.ld (by kernel_rfl)) ?_
 have u209 := (((u155.fr e166 Dj.nil_l).ext e181).fr e196 Dj.nil_l)
 have u210 := (((u156.fr e166 Dj.nil_l).ext e181).fr e196 Dj.nil_l)
 have u211 := (((u157.fr e166 Dj.nil_l).ext e181).fr e196 Dj.nil_l)
 obtain ⟨y212, hy213, r214⟩ := bind_some r190
 refine s_ck 9 #[.agg #[.slice a60 n61 c62, .slice a63 n64 c65, .slice a66 n67 c68], i_ 4, i_ (-1)] (by kernel_rfl) (c_search_Path e196.wf u209.sq u210.sq u211.sq hy213) ?_
 rintro _ H219 ⟨s215, f216, v217, f218, rfl, e220, m221, m222, i223, i224, d225⟩
 obtain ⟨a228, n229, c230, rfl⟩ := m221.form
 refine q_ (.tuple #[.slice a228 n229 c230, v217]) ?_
 refine q_ (.slice a228 n229 c230) ?_
 refine q_ (v217) ?_
 refine q_ (.slice a228 n229 c230) ?_
 refine q_ (v217) ?_
 refine s_nil (k207 _ _ ?_)
 refine w_seqk fun _ k231 => ?_
 refine g_' ?_
 have u232 := (u208.frS e220 Dj.nil_l)
 refine l_' (.agg #[.slice a60 n61 c62, .slice a63 n64 c65, .slice a66 n67 c68]) (aLoad Tryz.prog 25 (pt_ b69 0) H219) (u232.ld (by kernel_rfl)) ?_
 have u233 := (u209.fr e220 Dj.nil_l)
 have u234 := (u210.fr e220 Dj.nil_l)
 have u235 := (u211.fr e220 Dj.nil_l)
 obtain ⟨y236, hy237, r238⟩ := bind_some r214
 refine s_ck 9 #[.agg #[.slice a60 n61 c62, .slice a63 n64 c65, .slice a66 n67 c68], i_ 0, i_ (-1)] (by kernel_rfl) (c_search_Path e220.wf u233.sq u234.sq u235.sq hy237) ?_
 rintro _ H243 ⟨s239, f240, v241, f242, rfl, e244, m245, m246, i247, i248, d249⟩
 obtain ⟨a252, n253, c254, rfl⟩ := m245.form
 refine q_ (.tuple #[.slice a252 n253 c254, v241]) ?_
 refine q_ (.slice a252 n253 c254) ?_
 refine q_ (v241) ?_
 refine q_ (.slice a252 n253 c254) ?_
 refine q_ (v241) ?_
 refine s_nil (k231 _ _ ?_)
 refine w_seqk fun _ k255 => ?_
 refine w_seqk fun _ k256 => ?_
 obtain ⟨o257, hx258, r259⟩ := bind_some r238
 refine w_mid (fun α H260 => Has α [(1, pt_ b69 0), (115, .bool o257)] ∧ FrS [] H243 H260) (fun _ k262 => ?_) (fun α H260 hM => ?_)
 ·refine g_' ?_
  refine q_ (v91) ?_
  have u267 := (((((((m96.fr e118 Dj.nil_l).fr e142 Dj.nil_l).fr e166 Dj.nil_l).ext e181).fr e196 Dj.nil_l).fr e220 Dj.nil_l).fr e244 Dj.nil_l)
  rcases (u267).cases with ⟨h264, rfl⟩ | ⟨h264, t265, x266, rfl⟩
  ·have r268 := ite_t h264 hx258
   refine q_ (.bool false) ?_
   refine q_ (.bool false) ?_
   refine q_ (.slice a102 n103 c104) ?_
   refine s_owk (enc := (encI .u64)) (sz := 1) e244.wf [18446744073709551615, 18446744073709551615, 18446744073709551615, 0] 4 (by decide) (fun _ _ => rfl) (fun _ _ => rfl) rfl (by kernel_rfl) fun s269 f270 H271 e272 hf273 hm274 => ?_
   obtain ⟨a275, n276, c277, rfl⟩ := hm274.form
   have u279 := ((((((((m95.fr e118 Dj.nil_l).fr e142 Dj.nil_l).fr e166 Dj.nil_l).ext e181).fr e196 Dj.nil_l).fr e220 Dj.nil_l).fr e244 Dj.nil_l).ext e272)
   obtain ⟨y280, hy281, r282⟩ := bind_some r268
   refine s_ck 10 #[.slice a102 n103 c104, .slice a275 n276 c277] (by kernel_rfl) (c_viaductref04_SameRow e272.wf u279.sq hm274.sq hy281) ?_
   rintro _ _ ⟨rfl, rfl⟩
   by_cases h285 : y280 = true
   ·have r286 := ite_t h285 r282
    rw [h285]
    refine q_ (.bool false) ?_
    refine q_ (.bool false) ?_
    refine q_ (.bool false) ?_
    refine q_ (v115) ?_
    have u291 := (((((((m120.fr e142 Dj.nil_l).fr e166 Dj.nil_l).ext e181).fr e196 Dj.nil_l).fr e220 Dj.nil_l).fr e244 Dj.nil_l).ext e272)
    rcases (u291).cases with ⟨h288, rfl⟩ | ⟨h288, t289, x290, rfl⟩
    ·have r292 := ite_t h288 r286
     refine q_ (.bool false) ?_
     refine q_ (.bool false) ?_
     refine q_ (.bool false) ?_
     refine q_ (.slice a126 n127 c128) ?_
     have u293 := (((((((m119.fr e142 Dj.nil_l).fr e166 Dj.nil_l).ext e181).fr e196 Dj.nil_l).fr e220 Dj.nil_l).fr e244 Dj.nil_l).ext e272)
     refine l_' (i_ (y110.1.length : Int)) (aLen Tryz.prog 23 (.slice a126 n127 c128) H271) (u293.sq.lenb (by kernel_rfl)) ?_
     refine s_bn ((y110.1.length : Int) = 1) (by kernel_rfl) (fun h294 => ?_) (fun h294 => ?_)
     ·have r295 := ite_t h294 r292
      refine q_ (.bool false) ?_
      refine q_ (.bool false) ?_
      refine q_ (.slice a126 n127 c128) ?_
      obtain ⟨g296, r297⟩ := G_some r295
      refine l_' (elp (.slice a126 n127 c128) 1 (0 : Int).toNat 0) (aIndexAddr Tryz.prog 23 (.slice a126 n127 c128) (i_ 0)) (u293.sq.idxb (by kernel_rfl) (by decide) g296) ?_
      refine l_' (i_ (gt y110.1 0)) (aLoad Tryz.prog 3 (elp (.slice a126 n127 c128) 1 (0 : Int).toNat 0) H271) (u293.sq.ld (by decide) g296 (by kernel_rfl)) ?_
      refine s_bn ((gt y110.1 0) = 2) (by kernel_rfl) (fun h298 => ?_) (fun h298 => ?_)
      ·have r299 := ite_t h298 r297
       refine q_ (.bool false) ?_
       refine q_ (.bool false) ?_
       refine q_ (v139) ?_
       obtain ⟨y300, hy301, r302⟩ := bind_some r299
       refine s_ck 12 #[i_ 16] (by kernel_rfl) (c_viaductref01_E e272.wf hy301) ?_
       rintro _ H303 ⟨rfl, e304⟩
       have u305 := (((((((m144.fr e166 Dj.nil_l).ext e181).fr e196 Dj.nil_l).fr e220 Dj.nil_l).fr e244 Dj.nil_l).ext e272).fr e304 Dj.nil_l)
       obtain ⟨y306, hy307, r308⟩ := bind_some r302
       refine s_ck 11 #[v139, .agg #[i_ y300, .slice none 0 0]] (by kernel_rfl) (c_viaductseen_Same e304.wf u305 (Sq.nil (enc := enc_i64_i64) (sz := 2) (by decide)) hy307) ?_
       rintro _ H309 ⟨rfl, e310⟩
       by_cases h311 : y306 = true
       ·have r312 := ite_t h311 r308
        rw [h311]
        refine q_ (.bool false) ?_
        refine q_ (.bool false) ?_
        refine q_ (.bool false) ?_
        refine q_ (v163) ?_
        obtain ⟨y314, hy315, r316⟩ := bind_some r312
        refine s_ck 12 #[i_ 7] (by kernel_rfl) (c_viaductref01_E e310.wf hy315) ?_
        rintro _ H317 ⟨rfl, e318⟩
        have u319 := ((((((((m168.ext e181).fr e196 Dj.nil_l).fr e220 Dj.nil_l).fr e244 Dj.nil_l).ext e272).fr e304 Dj.nil_l).fr e310 Dj.nil_l).fr e318 Dj.nil_l)
        obtain ⟨y320, hy321, r322⟩ := bind_some r316
        refine s_ck 11 #[v163, .agg #[i_ y314, .slice none 0 0]] (by kernel_rfl) (c_viaductseen_Same e318.wf u319 (Sq.nil (enc := enc_i64_i64) (sz := 2) (by decide)) hy321) ?_
        rintro _ H323 ⟨rfl, e324⟩
        by_cases h325 : y320 = true
        ·have r326 := ite_t h325 r322
         rw [h325]
         refine q_ (.bool false) ?_
         refine q_ (.bool false) ?_
         refine q_ (.bool false) ?_
         refine q_ (v193) ?_
         obtain ⟨y328, hy329, r330⟩ := bind_some r326
         refine s_ck 12 #[i_ 14] (by kernel_rfl) (c_viaductref01_E e324.wf hy329) ?_
         rintro _ H331 ⟨rfl, e332⟩
         have u333 := ((((((((m198.fr e220 Dj.nil_l).fr e244 Dj.nil_l).ext e272).fr e304 Dj.nil_l).fr e310 Dj.nil_l).fr e318 Dj.nil_l).fr e324 Dj.nil_l).fr e332 Dj.nil_l)
         obtain ⟨y334, hy335, r336⟩ := bind_some r330
         refine s_ck 11 #[v193, .agg #[i_ y328, .slice none 0 0]] (by kernel_rfl) (c_viaductseen_Same e332.wf u333 (Sq.nil (enc := enc_i64_i64) (sz := 2) (by decide)) hy335) ?_
         rintro _ H337 ⟨rfl, e338⟩
         by_cases h339 : y334 = true
         ·have r340 := ite_t h339 r336
          rw [h339]
          refine q_ (.bool false) ?_
          refine q_ (.bool false) ?_
          refine q_ (.bool false) ?_
          refine q_ (v217) ?_
          obtain ⟨y342, hy343, r344⟩ := bind_some r340
          refine s_ck 12 #[i_ 7] (by kernel_rfl) (c_viaductref01_E e338.wf hy343) ?_
          rintro _ H345 ⟨rfl, e346⟩
          have u347 := (((((((((m222.fr e244 Dj.nil_l).ext e272).fr e304 Dj.nil_l).fr e310 Dj.nil_l).fr e318 Dj.nil_l).fr e324 Dj.nil_l).fr e332 Dj.nil_l).fr e338 Dj.nil_l).fr e346 Dj.nil_l)
          obtain ⟨y348, hy349, r350⟩ := bind_some r344
          refine s_ck 11 #[v217, .agg #[i_ y342, .slice none 0 0]] (by kernel_rfl) (c_viaductseen_Same e346.wf u347 (Sq.nil (enc := enc_i64_i64) (sz := 2) (by decide)) hy349) ?_
          rintro _ H351 ⟨rfl, e352⟩
          by_cases h353 : y348 = true
          ·have r354 := ite_t h353 r350
           rw [h353]
           refine q_ (.bool false) ?_
           refine q_ (.bool false) ?_
           refine q_ (.bool false) ?_
           refine q_ (v241) ?_
           obtain ⟨y356, hy357, r358⟩ := bind_some r354
           refine s_ck 12 #[i_ 7] (by kernel_rfl) (c_viaductref01_E e352.wf hy357) ?_
           rintro _ H359 ⟨rfl, e360⟩
           have u361 := ((((((((((m246.ext e272).fr e304 Dj.nil_l).fr e310 Dj.nil_l).fr e318 Dj.nil_l).fr e324 Dj.nil_l).fr e332 Dj.nil_l).fr e338 Dj.nil_l).fr e346 Dj.nil_l).fr e352 Dj.nil_l).fr e360 Dj.nil_l)
           obtain ⟨y362, hy363, r364⟩ := bind_some r358
           refine s_ck 11 #[v241, .agg #[i_ y356, .slice none 0 0]] (by kernel_rfl) (c_viaductseen_Same e360.wf u361 (Sq.nil (enc := enc_i64_i64) (sz := 2) (by decide)) hy363) ?_
           rintro _ H365 ⟨rfl, e366⟩
           refine q_ (.bool (!y362)) ?_
           refine q_ (.bool (!y362)) ?_
           refine s_nil ?_
           obtain rfl := Option.some.inj r364
           exact k262 _ _ ⟨ha_, (FrS.step e244.wf (FrS.step e244.wf (FrS.step e244.wf (FrS.step e244.wf (FrS.step e244.wf (FrS.step e244.wf (FrS.step e244.wf (FrS.step e244.wf (FrS.step e244.wf (FrS.step e244.wf ((FrS.refl (W := []) e244.wf).extR e272) e304 Inn.nil) e310 Inn.nil) e318 Inn.nil) e324 Inn.nil) e332 Inn.nil) e338 Inn.nil) e346 Inn.nil) e352 Inn.nil) e360 Inn.nil) e366 Inn.nil)⟩
          have r367 := ite_f h353 r350
          rw [nb h353]
          refine q_ (.bool true) ?_
          refine q_ (.bool true) ?_
          refine q_ (.bool true) ?_
          refine n_' ?_
          refine n_' ?_
          refine n_' ?_
          refine n_' ?_
          refine q_ (.bool true) ?_
          refine s_nil ?_
          obtain rfl := Option.some.inj r367
          exact k262 _ _ ⟨ha_, (FrS.step e244.wf (FrS.step e244.wf (FrS.step e244.wf (FrS.step e244.wf (FrS.step e244.wf (FrS.step e244.wf (FrS.step e244.wf (FrS.step e244.wf ((FrS.refl (W := []) e244.wf).extR e272) e304 Inn.nil) e310 Inn.nil) e318 Inn.nil) e324 Inn.nil) e332 Inn.nil) e338 Inn.nil) e346 Inn.nil) e352 Inn.nil)⟩
         have r369 := ite_f h339 r336
         rw [nb h339]
         refine q_ (.bool true) ?_
         refine q_ (.bool true) ?_
         refine q_ (.bool true) ?_
         refine n_' ?_
         refine n_' ?_
         refine n_' ?_
         refine n_' ?_
         refine q_ (.bool true) ?_
         refine q_ (.bool true) ?_
         refine n_' ?_
         refine n_' ?_
         refine n_' ?_
         refine n_' ?_
         refine q_ (.bool true) ?_
         refine s_nil ?_
         obtain rfl := Option.some.inj r369
         exact k262 _ _ ⟨ha_, (FrS.step e244.wf (FrS.step e244.wf (FrS.step e244.wf (FrS.step e244.wf (FrS.step e244.wf (FrS.step e244.wf ((FrS.refl (W := []) e244.wf).extR e272) e304 Inn.nil) e310 Inn.nil) e318 Inn.nil) e324 Inn.nil) e332 Inn.nil) e338 Inn.nil)⟩
        have r371 := ite_f h325 r322
        rw [nb h325]
        refine q_ (.bool true) ?_
        refine q_ (.bool true) ?_
        refine q_ (.bool true) ?_
        refine n_' ?_
        refine n_' ?_
        refine n_' ?_
        refine n_' ?_
        refine q_ (.bool true) ?_
        refine q_ (.bool true) ?_
        refine n_' ?_
        refine n_' ?_
        refine n_' ?_
        refine n_' ?_
        refine q_ (.bool true) ?_
        refine q_ (.bool true) ?_
        refine n_' ?_
        refine n_' ?_
        refine n_' ?_
        refine n_' ?_
        refine q_ (.bool true) ?_
        refine s_nil ?_
        obtain rfl := Option.some.inj r371
        exact k262 _ _ ⟨ha_, (FrS.step e244.wf (FrS.step e244.wf (FrS.step e244.wf (FrS.step e244.wf ((FrS.refl (W := []) e244.wf).extR e272) e304 Inn.nil) e310 Inn.nil) e318 Inn.nil) e324 Inn.nil)⟩
       have r373 := ite_f h311 r308
       rw [nb h311]
       refine q_ (.bool true) ?_
       refine q_ (.bool true) ?_
       refine q_ (.bool true) ?_
       refine n_' ?_
       refine n_' ?_
       refine n_' ?_
       refine n_' ?_
       refine q_ (.bool true) ?_
       refine q_ (.bool true) ?_
       refine n_' ?_
       refine n_' ?_
       refine n_' ?_
       refine n_' ?_
       refine q_ (.bool true) ?_
       refine q_ (.bool true) ?_
       refine n_' ?_
       refine n_' ?_
       refine n_' ?_
       refine n_' ?_
       refine q_ (.bool true) ?_
       refine q_ (.bool true) ?_
       refine n_' ?_
       refine n_' ?_
       refine n_' ?_
       refine n_' ?_
       refine q_ (.bool true) ?_
       refine s_nil ?_
       obtain rfl := Option.some.inj r373
       exact k262 _ _ ⟨ha_, (FrS.step e244.wf (FrS.step e244.wf ((FrS.refl (W := []) e244.wf).extR e272) e304 Inn.nil) e310 Inn.nil)⟩
      have r375 := ite_f h298 r297
      refine q_ (.bool true) ?_
      refine q_ (.bool true) ?_
      refine n_' ?_
      refine n_' ?_
      refine n_' ?_
      refine n_' ?_
      refine q_ (.bool true) ?_
      refine q_ (.bool true) ?_
      refine n_' ?_
      refine n_' ?_
      refine n_' ?_
      refine n_' ?_
      refine q_ (.bool true) ?_
      refine q_ (.bool true) ?_
      refine n_' ?_
      refine n_' ?_
      refine n_' ?_
      refine n_' ?_
      refine q_ (.bool true) ?_
      refine q_ (.bool true) ?_
      refine n_' ?_
      refine n_' ?_
      refine n_' ?_
      refine n_' ?_
      refine q_ (.bool true) ?_
      refine q_ (.bool true) ?_
      refine n_' ?_
      refine n_' ?_
      refine n_' ?_
      refine n_' ?_
      refine q_ (.bool true) ?_
      refine s_nil ?_
      obtain rfl := Option.some.inj r375
      exact k262 _ _ ⟨ha_, ((FrS.refl (W := []) e244.wf).extR e272)⟩
     have r376 := ite_f h294 r292
     refine q_ (.bool true) ?_
     refine q_ (.bool true) ?_
     refine n_' ?_
     refine n_' ?_
     refine n_' ?_
     refine n_' ?_
     refine q_ (.bool true) ?_
     refine q_ (.bool true) ?_
     refine n_' ?_
     refine n_' ?_
     refine n_' ?_
     refine n_' ?_
     refine q_ (.bool true) ?_
     refine q_ (.bool true) ?_
     refine n_' ?_
     refine n_' ?_
     refine n_' ?_
     refine n_' ?_
     refine q_ (.bool true) ?_
     refine q_ (.bool true) ?_
     refine n_' ?_
     refine n_' ?_
     refine n_' ?_
     refine n_' ?_
     refine q_ (.bool true) ?_
     refine q_ (.bool true) ?_
     refine n_' ?_
     refine n_' ?_
     refine n_' ?_
     refine n_' ?_
     refine q_ (.bool true) ?_
     refine q_ (.bool true) ?_
     refine n_' ?_
     refine n_' ?_
     refine n_' ?_
     refine n_' ?_
     refine q_ (.bool true) ?_
     refine s_nil ?_
     obtain rfl := Option.some.inj r376
     exact k262 _ _ ⟨ha_, ((FrS.refl (W := []) e244.wf).extR e272)⟩
    have r377 := ite_f h288 r286
    refine l_' (.bool true) (aBin Tryz.prog .neq 31 (.tmp 72) (.const .nilIface) (.iface t289 x290) .nilIface) (aBin_nnil (by kernel_rfl)) ?_
    refine q_ (.bool true) ?_
    refine q_ (.bool true) ?_
    refine n_' ?_
    refine n_' ?_
    refine n_' ?_
    refine q_ (.bool true) ?_
    refine q_ (.bool true) ?_
    refine n_' ?_
    refine n_' ?_
    refine n_' ?_
    refine n_' ?_
    refine q_ (.bool true) ?_
    refine q_ (.bool true) ?_
    refine n_' ?_
    refine n_' ?_
    refine n_' ?_
    refine n_' ?_
    refine q_ (.bool true) ?_
    refine q_ (.bool true) ?_
    refine n_' ?_
    refine n_' ?_
    refine n_' ?_
    refine n_' ?_
    refine q_ (.bool true) ?_
    refine q_ (.bool true) ?_
    refine n_' ?_
    refine n_' ?_
    refine n_' ?_
    refine n_' ?_
    refine q_ (.bool true) ?_
    refine q_ (.bool true) ?_
    refine n_' ?_
    refine n_' ?_
    refine n_' ?_
    refine n_' ?_
    refine q_ (.bool true) ?_
    refine q_ (.bool true) ?_
    refine n_' ?_
    refine n_' ?_
    refine n_' ?_
    refine n_' ?_
    refine q_ (.bool true) ?_
    refine s_nil ?_
    obtain rfl := Option.some.inj r377
    exact k262 _ _ ⟨ha_, ((FrS.refl (W := []) e244.wf).extR e272)⟩
   have r378 := ite_f h285 r282
   rw [nb h285]
   refine q_ (.bool true) ?_
   refine q_ (.bool true) ?_
   refine q_ (.bool true) ?_
   refine n_' ?_
   refine n_' ?_
   refine q_ (.bool true) ?_
   refine q_ (.bool true) ?_
   refine n_' ?_
   refine n_' ?_
   refine n_' ?_
   refine q_ (.bool true) ?_
   refine q_ (.bool true) ?_
   refine n_' ?_
   refine n_' ?_
   refine n_' ?_
   refine n_' ?_
   refine q_ (.bool true) ?_
   refine q_ (.bool true) ?_
   refine n_' ?_
   refine n_' ?_
   refine n_' ?_
   refine n_' ?_
   refine q_ (.bool true) ?_
   refine q_ (.bool true) ?_
   refine n_' ?_
   refine n_' ?_
   refine n_' ?_
   refine n_' ?_
   refine q_ (.bool true) ?_
   refine q_ (.bool true) ?_
   refine n_' ?_
   refine n_' ?_
   refine n_' ?_
   refine n_' ?_
   refine q_ (.bool true) ?_
   refine q_ (.bool true) ?_
   refine n_' ?_
   refine n_' ?_
   refine n_' ?_
   refine n_' ?_
   refine q_ (.bool true) ?_
   refine q_ (.bool true) ?_
   refine n_' ?_
   refine n_' ?_
   refine n_' ?_
   refine n_' ?_
   refine q_ (.bool true) ?_
   refine s_nil ?_
   obtain rfl := Option.some.inj r378
   exact k262 _ _ ⟨ha_, ((FrS.refl (W := []) e244.wf).extR e272)⟩
  have r380 := ite_f h264 hx258
  refine l_' (.bool true) (aBin Tryz.prog .neq 31 (.tmp 63) (.const .nilIface) (.iface t265 x266) .nilIface) (aBin_nnil (by kernel_rfl)) ?_
  refine q_ (.bool true) ?_
  refine n_' ?_
  refine n_' ?_
  refine n_' ?_
  refine n_' ?_
  refine q_ (.bool true) ?_
  refine q_ (.bool true) ?_
  refine n_' ?_
  refine n_' ?_
  refine q_ (.bool true) ?_
  refine q_ (.bool true) ?_
  refine n_' ?_
  refine n_' ?_
  refine n_' ?_
  refine q_ (.bool true) ?_
  refine q_ (.bool true) ?_
  refine n_' ?_
  refine n_' ?_
  refine n_' ?_
  refine n_' ?_
  refine q_ (.bool true) ?_
  refine q_ (.bool true) ?_
  refine n_' ?_
  refine n_' ?_
  refine n_' ?_
  refine n_' ?_
  refine q_ (.bool true) ?_
  refine q_ (.bool true) ?_
  refine n_' ?_
  refine n_' ?_
  refine n_' ?_
  refine n_' ?_
  refine q_ (.bool true) ?_
  refine q_ (.bool true) ?_
  refine n_' ?_
  refine n_' ?_
  refine n_' ?_
  refine n_' ?_
  refine q_ (.bool true) ?_
  refine q_ (.bool true) ?_
  refine n_' ?_
  refine n_' ?_
  refine n_' ?_
  refine n_' ?_
  refine q_ (.bool true) ?_
  refine q_ (.bool true) ?_
  refine n_' ?_
  refine n_' ?_
  refine n_' ?_
  refine n_' ?_
  refine q_ (.bool true) ?_
  refine s_nil ?_
  obtain rfl := Option.some.inj r380
  exact k262 _ _ ⟨ha_, (FrS.refl (W := []) e244.wf)⟩
 obtain ⟨hh263, e261⟩ := hM
 obtain ⟨β, rfl⟩ := has_ex hh263
 clear hh263
 refine k256 _ _ ?_
 refine w_cond (o257) (by kernel_rfl) rfl (fun h381 => ?_) (fun h381 => ?_)
 ·have r382 := ite_t h381 r259
  refine w_seqk fun _ k383 => ?_
  refine g_' ?_
  refine q_ (.bool false) ?_
  refine s_nil (k383 _ _ ?_)
  refine w_ret (th_ret ?_)
  refine b_ret (fn := Tryz.f3) (vs := [.bool false]) (aRes_tmp (by kernel_rfl) (rfl)) ?_
  obtain rfl := Option.some.inj r382
  exact ⟨rfl, (FrS.step wf (FrS.step wf (FrS.step wf (FrS.step wf ((FrS.step wf (FrS.step wf (FrS.step wf (FrS.step wf (FrS.step wf ((FrS.step wf (FrS.step wf (FrS.refl (W := []) wf) e15 Inn.nil) e47 Inn.nil).extR e71) e77 (hb72.fresh (ntr e15.next e47.next))) e94 Inn.nil) e118 Inn.nil) e142 Inn.nil) e166 Inn.nil).extR e181) e196 Inn.nil) e220 Inn.nil) e244 Inn.nil) e261 Inn.nil)⟩
 have r384 := ite_bf h381 r259
 refine w_skip ?_
 refine k255 _ _ ?_
 refine w_seqk fun _ k385 => ?_
 refine g_' ?_
 have u386 := ((u232.frS e244 Dj.nil_l).frS e261 Dj.nil_l)
 refine l_' (.agg #[.slice a60 n61 c62, .slice a63 n64 c65, .slice a66 n67 c68]) (aLoad Tryz.prog 25 (pt_ b69 0) H260) (u386.ld (by kernel_rfl)) ?_
 have u387 := ((u233.fr e244 Dj.nil_l).fr e261 Dj.nil_l)
 have u388 := ((u234.fr e244 Dj.nil_l).fr e261 Dj.nil_l)
 have u389 := ((u235.fr e244 Dj.nil_l).fr e261 Dj.nil_l)
 obtain ⟨y390, hy391, r392⟩ := bind_some r384
 refine s_ck 13 #[.agg #[.slice a60 n61 c62, .slice a63 n64 c65, .slice a66 n67 c68], i_ 0, i_ 1, i_ 9, .int .u64 99] (by kernel_rfl) (c_search_Bounded e261.wf u387.sq u388.sq u389.sq hy391) ?_
 rintro _ H397 ⟨s393, f394, v395, f396, rfl, e398, m399, m400, i401, i402, d403⟩
 obtain ⟨a406, n407, c408, rfl⟩ := m399.form
 refine q_ (.tuple #[.slice a406 n407 c408, v395]) ?_
 refine q_ (.slice a406 n407 c408) ?_
 refine q_ (v395) ?_
 refine q_ (.slice a406 n407 c408) ?_
 refine q_ (v395) ?_
 refine s_nil (k385 _ _ ?_)
 refine w_seqk fun _ k409 => ?_
 refine g_' ?_
 have u410 := (u386.frS e398 Dj.nil_l)
 refine l_' (.agg #[.slice a60 n61 c62, .slice a63 n64 c65, .slice a66 n67 c68]) (aLoad Tryz.prog 25 (pt_ b69 0) H397) (u410.ld (by kernel_rfl)) ?_
 have u411 := (u387.fr e398 Dj.nil_l)
 have u412 := (u388.fr e398 Dj.nil_l)
 have u413 := (u389.fr e398 Dj.nil_l)
 obtain ⟨y414, hy415, r416⟩ := bind_some r392
 refine s_ck 13 #[.agg #[.slice a60 n61 c62, .slice a63 n64 c65, .slice a66 n67 c68], i_ 0, i_ 9, i_ 0, .int .u64 99] (by kernel_rfl) (c_search_Bounded e398.wf u411.sq u412.sq u413.sq hy415) ?_
 rintro _ H421 ⟨s417, f418, v419, f420, rfl, e422, m423, m424, i425, i426, d427⟩
 obtain ⟨a430, n431, c432, rfl⟩ := m423.form
 refine q_ (.tuple #[.slice a430 n431 c432, v419]) ?_
 refine q_ (.slice a430 n431 c432) ?_
 refine q_ (v419) ?_
 refine q_ (.slice a430 n431 c432) ?_
 refine q_ (v419) ?_
 refine s_nil (k409 _ _ ?_)
 refine w_seqk fun _ k433 => ?_
 refine g_' ?_
 have u434 := (u410.frS e422 Dj.nil_l)
 refine l_' (.agg #[.slice a60 n61 c62, .slice a63 n64 c65, .slice a66 n67 c68]) (aLoad Tryz.prog 25 (pt_ b69 0) H421) (u434.ld (by kernel_rfl)) ?_
 have u435 := (u411.fr e422 Dj.nil_l)
 have u436 := (u412.fr e422 Dj.nil_l)
 have u437 := (u413.fr e422 Dj.nil_l)
 obtain ⟨y438, hy439, r440⟩ := bind_some r416
 refine s_ck 13 #[.agg #[.slice a60 n61 c62, .slice a63 n64 c65, .slice a66 n67 c68], i_ 0, i_ 9, i_ 9, .int .u64 4] (by kernel_rfl) (c_search_Bounded e422.wf u435.sq u436.sq u437.sq hy439) ?_
 rintro _ H445 ⟨s441, f442, v443, f444, rfl, e446, m447, m448, i449, i450, d451⟩
 obtain ⟨a454, n455, c456, rfl⟩ := m447.form
 refine q_ (.tuple #[.slice a454 n455 c456, v443]) ?_
 refine q_ (.slice a454 n455 c456) ?_
 refine q_ (v443) ?_
 refine q_ (.slice a454 n455 c456) ?_
 refine q_ (v443) ?_
 refine s_nil (k433 _ _ ?_)
 refine w_seqk fun _ k457 => ?_
 refine w_seqk fun _ k458 => ?_
 obtain ⟨o459, hx460, r461⟩ := bind_some r440
 refine w_mid (fun α H462 => Has α [(176, .bool o459)] ∧ H445 = H462) (fun _ k464 => ?_) (fun α H462 hM => ?_)
 ·refine g_' ?_
  refine q_ (v395) ?_
  have u469 := ((m400.fr e422 Dj.nil_l).fr e446 Dj.nil_l)
  rcases (u469).cases with ⟨h466, rfl⟩ | ⟨h466, t467, x468, rfl⟩
  ·have r470 := ite_t h466 hx460
   refine q_ (.bool false) ?_
   refine q_ (.bool false) ?_
   refine q_ (v419) ?_
   have u474 := (m424.fr e446 Dj.nil_l)
   rcases (u474).cases with ⟨h471, rfl⟩ | ⟨h471, t472, x473, rfl⟩
   ·have r475 := ite_t h471 r470
    refine q_ (.bool false) ?_
    refine q_ (.bool false) ?_
    refine q_ (.bool false) ?_
    refine q_ (v443) ?_
    rcases (m448).cases with ⟨h476, rfl⟩ | ⟨h476, t477, x478, rfl⟩
    ·have r479 := ite_t h476 r475
     refine q_ (.bool false) ?_
     refine q_ (.bool false) ?_
     refine q_ (.bool false) ?_
     refine q_ (.slice a406 n407 c408) ?_
     have u480 := ((m399.fr e422 Dj.nil_l).fr e446 Dj.nil_l)
     refine l_' (i_ (y390.1.length : Int)) (aLen Tryz.prog 44 (.slice a406 n407 c408) H445) (u480.sq.lenb (by kernel_rfl)) ?_
     refine s_bn ((y390.1.length : Int) = 3) (by kernel_rfl) (fun h481 => ?_) (fun h481 => ?_)
     ·have r482 := ite_t h481 r479
      refine q_ (.bool false) ?_
      refine q_ (.bool false) ?_
      refine q_ (.slice a406 n407 c408) ?_
      obtain ⟨g483, r484⟩ := G_some r482
      refine l_' (elp (.slice a406 n407 c408) 4 (2 : Int).toNat 0) (aIndexAddr Tryz.prog 44 (.slice a406 n407 c408) (i_ 2)) (u480.sq.idxb (by kernel_rfl) (by decide) g483) ?_
      refine l_' (.agg #[i_ ((gt y390.1 2).1), .int .u64 ((gt y390.1 2).2.1), i_ ((gt y390.1 2).2.2.1), .bool ((gt y390.1 2).2.2.2)]) (aLoad Tryz.prog 48 (elp (.slice a406 n407 c408) 4 (2 : Int).toNat 0) H445) (u480.sq.ld (by decide) g483 (by kernel_rfl)) ?_
      refine q_ (.agg #[i_ 2, .int .u64 9, i_ 1, .bool true]) ?_
      refine l_' (.bool (!decide (((gt y390.1 2).1) = 2 ∧ ((gt y390.1 2).2.1) = 9 ∧ ((gt y390.1 2).2.2.1) = 1 ∧ ((gt y390.1 2).2.2.2) = true))) (aBin Tryz.prog .neq 48 (.tmp 149) (.tmp 150) (.agg #[i_ ((gt y390.1 2).1), .int .u64 ((gt y390.1 2).2.1), i_ ((gt y390.1 2).2.2.1), .bool ((gt y390.1 2).2.2.2)]) (.agg #[i_ 2, .int .u64 9, i_ 1, .bool true])) (aBin_neq48 _ _ ((gt y390.1 2).1) ((gt y390.1 2).2.1) ((gt y390.1 2).2.2.1) ((gt y390.1 2).2.2.2) 2 9 1 true) ?_
      refine q_ (.bool (!decide (((gt y390.1 2).1) = 2 ∧ ((gt y390.1 2).2.1) = 9 ∧ ((gt y390.1 2).2.2.1) = 1 ∧ ((gt y390.1 2).2.2.2) = true))) ?_
      refine q_ (.bool (!decide (((gt y390.1 2).1) = 2 ∧ ((gt y390.1 2).2.1) = 9 ∧ ((gt y390.1 2).2.2.1) = 1 ∧ ((gt y390.1 2).2.2.2) = true))) ?_
      by_cases h485 : ((gt y390.1 2).1) = 2 ∧ ((gt y390.1 2).2.1) = 9 ∧ ((gt y390.1 2).2.2.1) = 1 ∧ ((gt y390.1 2).2.2.2) = true
      ·have r486 := ite_t h485 r484
       rw [decide_eq_true h485]
       refine q_ (.slice a430 n431 c432) ?_
       have u487 := (m423.fr e446 Dj.nil_l)
       refine l_' (i_ (y414.1.length : Int)) (aLen Tryz.prog 44 (.slice a430 n431 c432) H445) (u487.sq.lenb (by kernel_rfl)) ?_
       refine s_bn ((y414.1.length : Int) = 1) (by kernel_rfl) (fun h488 => ?_) (fun h488 => ?_)
       ·have r489 := ite_t h488 r486
        refine q_ (.bool false) ?_
        refine q_ (.bool false) ?_
        refine q_ (.slice a430 n431 c432) ?_
        obtain ⟨g490, r491⟩ := G_some r489
        refine l_' (elp (.slice a430 n431 c432) 4 (0 : Int).toNat 0) (aIndexAddr Tryz.prog 44 (.slice a430 n431 c432) (i_ 0)) (u487.sq.idxb (by kernel_rfl) (by decide) g490) ?_
        refine l_' (.agg #[i_ ((gt y414.1 0).1), .int .u64 ((gt y414.1 0).2.1), i_ ((gt y414.1 0).2.2.1), .bool ((gt y414.1 0).2.2.2)]) (aLoad Tryz.prog 48 (elp (.slice a430 n431 c432) 4 (0 : Int).toNat 0) H445) (u487.sq.ld (by decide) g490 (by kernel_rfl)) ?_
        refine q_ (.agg #[i_ 0, .int .u64 0, i_ 0, .bool false]) ?_
        refine l_' (.bool (!decide (((gt y414.1 0).1) = 0 ∧ ((gt y414.1 0).2.1) = 0 ∧ ((gt y414.1 0).2.2.1) = 0 ∧ ((gt y414.1 0).2.2.2) = false))) (aBin Tryz.prog .neq 48 (.tmp 161) (.tmp 162) (.agg #[i_ ((gt y414.1 0).1), .int .u64 ((gt y414.1 0).2.1), i_ ((gt y414.1 0).2.2.1), .bool ((gt y414.1 0).2.2.2)]) (.agg #[i_ 0, .int .u64 0, i_ 0, .bool false])) (aBin_neq48 _ _ ((gt y414.1 0).1) ((gt y414.1 0).2.1) ((gt y414.1 0).2.2.1) ((gt y414.1 0).2.2.2) 0 0 0 false) ?_
        refine q_ (.bool (!decide (((gt y414.1 0).1) = 0 ∧ ((gt y414.1 0).2.1) = 0 ∧ ((gt y414.1 0).2.2.1) = 0 ∧ ((gt y414.1 0).2.2.2) = false))) ?_
        refine q_ (.bool (!decide (((gt y414.1 0).1) = 0 ∧ ((gt y414.1 0).2.1) = 0 ∧ ((gt y414.1 0).2.2.1) = 0 ∧ ((gt y414.1 0).2.2.2) = false))) ?_
        by_cases h492 : ((gt y414.1 0).1) = 0 ∧ ((gt y414.1 0).2.1) = 0 ∧ ((gt y414.1 0).2.2.1) = 0 ∧ ((gt y414.1 0).2.2.2) = false
        ·have r493 := ite_t h492 r491
         rw [decide_eq_true h492]
         refine q_ (.slice a454 n455 c456) ?_
         refine l_' (i_ (y438.1.length : Int)) (aLen Tryz.prog 44 (.slice a454 n455 c456) H445) (m447.sq.lenb (by kernel_rfl)) ?_
         refine s_bn ((y438.1.length : Int) = 3) (by kernel_rfl) (fun h494 => ?_) (fun h494 => ?_)
         ·have r495 := ite_t h494 r493
          refine q_ (.bool false) ?_
          refine q_ (.bool false) ?_
          refine q_ (.slice a454 n455 c456) ?_
          obtain ⟨g496, r497⟩ := G_some r495
          refine l_' (elp (.slice a454 n455 c456) 4 (2 : Int).toNat 0) (aIndexAddr Tryz.prog 44 (.slice a454 n455 c456) (i_ 2)) (m447.sq.idxb (by kernel_rfl) (by decide) g496) ?_
          refine l_' (.agg #[i_ ((gt y438.1 2).1), .int .u64 ((gt y438.1 2).2.1), i_ ((gt y438.1 2).2.2.1), .bool ((gt y438.1 2).2.2.2)]) (aLoad Tryz.prog 48 (elp (.slice a454 n455 c456) 4 (2 : Int).toNat 0) H445) (m447.sq.ld (by decide) g496 (by kernel_rfl)) ?_
          refine q_ (.agg #[i_ 2, .int .u64 5, i_ 2, .bool false]) ?_
          refine l_' (.bool (!decide (((gt y438.1 2).1) = 2 ∧ ((gt y438.1 2).2.1) = 5 ∧ ((gt y438.1 2).2.2.1) = 2 ∧ ((gt y438.1 2).2.2.2) = false))) (aBin Tryz.prog .neq 48 (.tmp 173) (.tmp 174) (.agg #[i_ ((gt y438.1 2).1), .int .u64 ((gt y438.1 2).2.1), i_ ((gt y438.1 2).2.2.1), .bool ((gt y438.1 2).2.2.2)]) (.agg #[i_ 2, .int .u64 5, i_ 2, .bool false])) (aBin_neq48 _ _ ((gt y438.1 2).1) ((gt y438.1 2).2.1) ((gt y438.1 2).2.2.1) ((gt y438.1 2).2.2.2) 2 5 2 false) ?_
          refine q_ (.bool (!decide (((gt y438.1 2).1) = 2 ∧ ((gt y438.1 2).2.1) = 5 ∧ ((gt y438.1 2).2.2.1) = 2 ∧ ((gt y438.1 2).2.2.2) = false))) ?_
          refine s_nil ?_
          obtain rfl := Option.some.inj r497
          exact k464 _ _ ⟨ha_, rfl⟩
         have r498 := ite_f h494 r493
         refine q_ (.bool true) ?_
         refine q_ (.bool true) ?_
         refine n_' ?_
         refine n_' ?_
         refine n_' ?_
         refine n_' ?_
         refine n_' ?_
         refine q_ (.bool true) ?_
         refine s_nil ?_
         obtain rfl := Option.some.inj r498
         exact k464 _ _ ⟨ha_, rfl⟩
        have r499 := ite_f h492 r491
        rw [decide_eq_false h492]
        refine n_' ?_
        refine n_' ?_
        refine n_' ?_
        refine q_ (.bool true) ?_
        refine q_ (.bool true) ?_
        refine n_' ?_
        refine n_' ?_
        refine n_' ?_
        refine n_' ?_
        refine n_' ?_
        refine q_ (.bool true) ?_
        refine s_nil ?_
        obtain rfl := Option.some.inj r499
        exact k464 _ _ ⟨ha_, rfl⟩
       have r500 := ite_f h488 r486
       refine q_ (.bool true) ?_
       refine q_ (.bool true) ?_
       refine n_' ?_
       refine n_' ?_
       refine n_' ?_
       refine n_' ?_
       refine n_' ?_
       refine q_ (.bool true) ?_
       refine q_ (.bool true) ?_
       refine n_' ?_
       refine n_' ?_
       refine n_' ?_
       refine q_ (.bool true) ?_
       refine q_ (.bool true) ?_
       refine n_' ?_
       refine n_' ?_
       refine n_' ?_
       refine n_' ?_
       refine n_' ?_
       refine q_ (.bool true) ?_
       refine s_nil ?_
       obtain rfl := Option.some.inj r500
       exact k464 _ _ ⟨ha_, rfl⟩
      have r501 := ite_f h485 r484
      rw [decide_eq_false h485]
      refine n_' ?_
      refine n_' ?_
      refine n_' ?_
      refine q_ (.bool true) ?_
      refine q_ (.bool true) ?_
      refine n_' ?_
      refine n_' ?_
      refine n_' ?_
      refine n_' ?_
      refine n_' ?_
      refine q_ (.bool true) ?_
      refine q_ (.bool true) ?_
      refine n_' ?_
      refine n_' ?_
      refine n_' ?_
      refine q_ (.bool true) ?_
      refine q_ (.bool true) ?_
      refine n_' ?_
      refine n_' ?_
      refine n_' ?_
      refine n_' ?_
      refine n_' ?_
      refine q_ (.bool true) ?_
      refine s_nil ?_
      obtain rfl := Option.some.inj r501
      exact k464 _ _ ⟨ha_, rfl⟩
     have r502 := ite_f h481 r479
     refine q_ (.bool true) ?_
     refine q_ (.bool true) ?_
     refine n_' ?_
     refine n_' ?_
     refine n_' ?_
     refine n_' ?_
     refine n_' ?_
     refine q_ (.bool true) ?_
     refine q_ (.bool true) ?_
     refine n_' ?_
     refine n_' ?_
     refine n_' ?_
     refine q_ (.bool true) ?_
     refine q_ (.bool true) ?_
     refine n_' ?_
     refine n_' ?_
     refine n_' ?_
     refine n_' ?_
     refine n_' ?_
     refine q_ (.bool true) ?_
     refine q_ (.bool true) ?_
     refine n_' ?_
     refine n_' ?_
     refine n_' ?_
     refine q_ (.bool true) ?_
     refine q_ (.bool true) ?_
     refine n_' ?_
     refine n_' ?_
     refine n_' ?_
     refine n_' ?_
     refine n_' ?_
     refine q_ (.bool true) ?_
     refine s_nil ?_
     obtain rfl := Option.some.inj r502
     exact k464 _ _ ⟨ha_, rfl⟩
    have r503 := ite_f h476 r475
    refine l_' (.bool true) (aBin Tryz.prog .neq 31 (.tmp 138) (.const .nilIface) (.iface t477 x478) .nilIface) (aBin_nnil (by kernel_rfl)) ?_
    refine q_ (.bool true) ?_
    refine q_ (.bool true) ?_
    refine n_' ?_
    refine n_' ?_
    refine n_' ?_
    refine q_ (.bool true) ?_
    refine q_ (.bool true) ?_
    refine n_' ?_
    refine n_' ?_
    refine n_' ?_
    refine n_' ?_
    refine n_' ?_
    refine q_ (.bool true) ?_
    refine q_ (.bool true) ?_
    refine n_' ?_
    refine n_' ?_
    refine n_' ?_
    refine q_ (.bool true) ?_
    refine q_ (.bool true) ?_
    refine n_' ?_
    refine n_' ?_
    refine n_' ?_
    refine n_' ?_
    refine n_' ?_
    refine q_ (.bool true) ?_
    refine q_ (.bool true) ?_
    refine n_' ?_
    refine n_' ?_
    refine n_' ?_
    refine q_ (.bool true) ?_
    refine q_ (.bool true) ?_
    refine n_' ?_
    refine n_' ?_
    refine n_' ?_
    refine n_' ?_
    refine n_' ?_
    refine q_ (.bool true) ?_
    refine s_nil ?_
    obtain rfl := Option.some.inj r503
    exact k464 _ _ ⟨ha_, rfl⟩
   have r504 := ite_f h471 r470
   refine l_' (.bool true) (aBin Tryz.prog .neq 31 (.tmp 134) (.const .nilIface) (.iface t472 x473) .nilIface) (aBin_nnil (by kernel_rfl)) ?_
   refine q_ (.bool true) ?_
   refine q_ (.bool true) ?_
   refine n_' ?_
   refine n_' ?_
   refine q_ (.bool true) ?_
   refine q_ (.bool true) ?_
   refine n_' ?_
   refine n_' ?_
   refine n_' ?_
   refine q_ (.bool true) ?_
   refine q_ (.bool true) ?_
   refine n_' ?_
   refine n_' ?_
   refine n_' ?_
   refine n_' ?_
   refine n_' ?_
   refine q_ (.bool true) ?_
   refine q_ (.bool true) ?_
   refine n_' ?_
   refine n_' ?_
   refine n_' ?_
   refine q_ (.bool true) ?_
   refine q_ (.bool true) ?_
   refine n_' ?_
   refine n_' ?_
   refine n_' ?_
   refine n_' ?_
   refine n_' ?_
   refine q_ (.bool true) ?_
   refine q_ (.bool true) ?_
   refine n_' ?_
   refine n_' ?_
   refine n_' ?_
   refine q_ (.bool true) ?_
   refine q_ (.bool true) ?_
   refine n_' ?_
   refine n_' ?_
   refine n_' ?_
   refine n_' ?_
   refine n_' ?_
   refine q_ (.bool true) ?_
   refine s_nil ?_
   obtain rfl := Option.some.inj r504
   exact k464 _ _ ⟨ha_, rfl⟩
  have r505 := ite_f h466 hx460
  refine l_' (.bool true) (aBin Tryz.prog .neq 31 (.tmp 131) (.const .nilIface) (.iface t467 x468) .nilIface) (aBin_nnil (by kernel_rfl)) ?_
  refine q_ (.bool true) ?_
  refine n_' ?_
  refine n_' ?_
  refine q_ (.bool true) ?_
  refine q_ (.bool true) ?_
  refine n_' ?_
  refine n_' ?_
  refine q_ (.bool true) ?_
  refine q_ (.bool true) ?_
  refine n_' ?_
  refine n_' ?_
  refine n_' ?_
  refine q_ (.bool true) ?_
  refine q_ (.bool true) ?_
  refine n_' ?_
  refine n_' ?_
  refine n_' ?_
  refine n_' ?_
  refine n_' ?_
  refine q_ (.bool true) ?_
  refine q_ (.bool true) ?_
  refine n_' ?_
  refine n_' ?_
  refine n_' ?_
  refine q_ (.bool true) ?_
  refine q_ (.bool true) ?_
  refine n_' ?_
  refine n_' ?_
  refine n_' ?_
  refine n_' ?_
  refine n_' ?_
  refine q_ (.bool true) ?_
  refine q_ (.bool true) ?_
  refine n_' ?_
  refine n_' ?_
  refine n_' ?_
  refine q_ (.bool true) ?_
  refine q_ (.bool true) ?_
  refine n_' ?_
  refine n_' ?_
  refine n_' ?_
  refine n_' ?_
  refine n_' ?_
  refine q_ (.bool true) ?_
  refine s_nil ?_
  obtain rfl := Option.some.inj r505
  exact k464 _ _ ⟨ha_, rfl⟩
 obtain ⟨hh465, rfl⟩ := hM
 obtain ⟨β, rfl⟩ := has_ex hh465
 clear hh465
 refine k458 _ _ ?_
 refine w_cond (o459) (by kernel_rfl) rfl (fun h506 => ?_) (fun h506 => ?_)
 ·have r507 := ite_t h506 r461
  refine w_seqk fun _ k508 => ?_
  refine g_' ?_
  refine q_ (.bool false) ?_
  refine s_nil (k508 _ _ ?_)
  refine w_ret (th_ret ?_)
  refine b_ret (fn := Tryz.f3) (vs := [.bool false]) (aRes_tmp (by kernel_rfl) (rfl)) ?_
  obtain rfl := Option.some.inj r507
  exact ⟨rfl, (FrS.step wf (FrS.step wf (FrS.step wf (FrS.step wf (FrS.step wf (FrS.step wf (FrS.step wf ((FrS.step wf (FrS.step wf (FrS.step wf (FrS.step wf (FrS.step wf ((FrS.step wf (FrS.step wf (FrS.refl (W := []) wf) e15 Inn.nil) e47 Inn.nil).extR e71) e77 (hb72.fresh (ntr e15.next e47.next))) e94 Inn.nil) e118 Inn.nil) e142 Inn.nil) e166 Inn.nil).extR e181) e196 Inn.nil) e220 Inn.nil) e244 Inn.nil) e261 Inn.nil) e398 Inn.nil) e422 Inn.nil) e446 Inn.nil)⟩
 have r509 := ite_bf h506 r461
 refine w_skip ?_
 refine k457 _ _ ?_
 refine w_seqk fun _ k510 => ?_
 refine g_' ?_
 refine q_ (.agg #[i_ 1000, .slice none 0 0]) ?_
 refine s_rwk e446.wf [i_ 0, .slice none 0 0] (by kernel_rfl) fun b511 H512 e513 hb514 r515 => ?_
 obtain ⟨H517, q518, e519, r520⟩ := Row.store (P := Tryz.prog) (t := 51) (p := 0) e513.wf r515 (.agg #[i_ 1000, .slice none 0 0]) [i_ 1000, .slice none 0 0] (by kernel_rfl) (by kernel_rfl) (one_cons (rfl) (one_cons (rfl) (one_nil))) (Nat.le_of_ble_eq_true (by kernel_rfl)) [i_ 1000, .slice none 0 0] (by kernel_rfl)
 refine s_ek (undef) (by kernel_rfl) (map_ok q518) ?_
 refine s_nil (k510 _ _ ?_)
 refine w_seqk fun _ k521 => ?_
 refine w_seqk fun _ k522 => ?_
 refine g_' ?_
 refine q_ (i_ 0) ?_
 refine s_nil (k522 _ _ ?_)
 obtain ⟨o523, hx524, r525⟩ := bind_some r509
 refine w_mid (fun α H526 => ∃ (s530 : Value) (f531 : Fp), Has α [(19, pt_ b511 0)] ∧ FrS [b511] H517 H526 ∧ Ow enc_i64_i64_i64 3 H526 s530 o523 f531 ∧ Row H526 b511 [i_ 1000, s530] ∧ Inn [] H517 f531) (fun _ k535 => ?_) (fun α H526 hM => ?_)
 ·refine w_block ?_
  obtain ⟨n537, hn538⟩ := loopO_iff.1 hx524
  refine w_loopn (fun n α H539 => ∃ (i0 : Int), ∃ (line1 : List (Int × Int × Int)), ∃ (s543 : Value), ∃ (f544 : Fp), iterO (fun zz_ => z_viaductlaw08_SearchFixed_l0 zz_.1 zz_.2) n (i0, line1) = some o523 ∧ Has α [(19, pt_ b511 0), (178, i_ i0)] ∧ FrS [b511] H517 H539 ∧ Ow enc_i64_i64_i64 3 H539 s543 line1 f544 ∧ Row H539 b511 [i_ 1000, s543] ∧ Inn [] H517 f544) n537 ⟨0, [], (.slice none 0 0), [], hn538, ha_, (FrS.refl (W := [b511]) e519.wf), (Ow.nil (by decide)), r520, Inn.nil⟩ ?_
  rintro n537 α H539 ⟨i0, line1, s543, f544, hi549, hh548, e540, m542, m546, i547⟩ K554 k554
  obtain ⟨n550, z551, rfl, hz552, hn553⟩ := iter_succ hi549
  obtain ⟨β, rfl⟩ := has_ex hh548
  clear hh548
  replace hz552 : z_viaductlaw08_SearchFixed_l0 i0 line1 = some z551 := hz552
  unfold z_viaductlaw08_SearchFixed_l0 at hz552
  obtain ⟨a555, n556, c557, rfl⟩ := m542.form
  refine w_seqk fun _ k558 => ?_
  refine g_' ?_
  refine q_ (.bool (decide (i0 < 999))) ?_
  refine s_nil (k558 _ _ ?_)
  refine w_seqk fun _ k559 => ?_
  refine w_condp (i0 < 999) (by kernel_rfl) rfl (fun h560 => ?_) (fun h560 => ?_)
  ·have r561 := ite_t h560 hz552
   refine w_skip ?_
   refine k559 _ _ ?_
   refine w_seqk fun _ k562 => ?_
   refine w_block ?_
   refine w_seqk fun _ k563 => ?_
   refine g_' ?_
   refine q_ (i_ i0) ?_
   refine q_ (i_ i0) ?_
   refine s_nil (k563 _ _ ?_)
   refine g_' ?_
   refine q_ (pt_ b511 1) ?_
   refine l_' (.slice a555 n556 c557) (aLoad Tryz.prog 49 (pt_ b511 1) H539) (m546.ld (by kernel_rfl)) ?_
   refine q_ (i_ i0) ?_
   refine q_ (i_ i0) ?_
   obtain ⟨g564, r565⟩ := G_some r561
   refine s_w ((i0 + 1)) (k := .i64) (x := (i0 + 1)) (by kernel_rfl) (wrap64 g564) ?_
   refine q_ (.agg #[i_ i0, i_ (i0 + 1), i_ 2147483647]) ?_
   refine s_owk (enc := enc_i64_i64_i64) (sz := 3) e540.wf [(i0, (i0 + 1), 2147483647)] 1 (by decide) (fun _ _ => rfl) (fun _ _ => rfl) rfl (by kernel_rfl) fun s566 f567 H568 e569 hf570 hm571 => ?_
   obtain ⟨a572, n573, c574, rfl⟩ := hm571.form
   have u576 := (m542.ext e569)
   obtain ⟨g577, r578⟩ := G_some r565
   obtain ⟨s579, H580, f581, q585, e582, hm583, hf584⟩ := Ow.append (P := Tryz.prog) 24 e569.wf u576 hm571.sq (fun _ _ => rfl) (at_ := #[49, 49]) rfl rfl (by kernel_rfl) (by kernel_rfl) (by decide) (by have := g577; first | omega | (simp only [List.length_cons, List.length_nil] at this ⊢; omega) | (simp at this ⊢; omega))
   obtain ⟨a586, n587, c588, rfl⟩ := hm583.form
   refine s_ek (.slice a586 n587 c588) (by kernel_rfl) (q585) ?_
   refine q_ (pt_ b511 1) ?_
   have u594 := ((m546.ext e569).frS e582 (i547.djn (r515.ltF.le e519.next)))
   obtain ⟨H590, q591, e592, r593⟩ := Row.store (P := Tryz.prog) (t := 49) (p := 1) e582.wf u594 (.slice a586 n587 c588) [.slice a586 n587 c588] (by kernel_rfl) (by kernel_rfl) (one_cons (hm583.one1) (one_nil)) (Nat.le_of_ble_eq_true (by kernel_rfl)) [i_ 1000, .slice a586 n587 c588] (by kernel_rfl)
   refine s_ek (undef) (by kernel_rfl) (map_ok q591) ?_
   refine s_nil (k562 _ _ ?_)
   refine g_' ?_
   refine s_w ((i0 + 1)) (k := .i64) (x := (i0 + 1)) (by kernel_rfl) (wrap64 g564) ?_
   refine q_ (i_ (i0 + 1)) ?_
   refine s_nil ?_
   have u595 := (hm583.fr e592 (Dj.symm (hf584.dj (i547.djn (r515.ltF.le e519.next)) (r515.ltF.le (ntr (ntr e519.next e540.next) e569.next)))))
   obtain rfl := Option.some.inj r578
   exact k554 n550 _ _ (Nat.lt_succ_self _) ⟨(i0 + 1), (line1 ++ [(i0, (i0 + 1), 2147483647)]), (.slice a586 n587 c588), f581, hn553, ha_, (FrS.step e519.wf (FrS.step e519.wf ((FrS.step e519.wf (FrS.refl (W := [b511]) e519.wf) e540 Inn.refl').extR e569) e582 (i547.fresh (Nat.le_refl _))) e592 Inn.refl'), u595, r593, (Inn.trans (i547.fresh (Nat.le_refl _)) (ntr e540.next e569.next) hf584)⟩
  have r596 := ite_f h560 hz552
  refine w_exit (th_exit (th_exit (bl_eq ?_)))
  obtain rfl := Option.some.inj r596
  obtain rfl := it_inr hn553
  exact k535 _ _ ⟨(.slice a555 n556 c557), f544, ha_, (FrS.step e519.wf (FrS.refl (W := [b511]) e519.wf) e540 Inn.refl'), m542, m546, (i547.fresh (Nat.le_refl _))⟩
 obtain ⟨s530, f531, hh536, e527, m529, m533, i534⟩ := hM
 obtain ⟨β, rfl⟩ := has_ex hh536
 clear hh536
 obtain ⟨a597, n598, c599, rfl⟩ := m529.form
 refine k521 _ _ ?_
 refine w_seqk fun _ k600 => ?_
 refine g_' ?_
 refine l_' (.agg #[i_ 1000, .slice a597 n598 c599]) (aLoad Tryz.prog 51 (pt_ b511 0) H526) (m533.ld (by kernel_rfl)) ?_
 obtain ⟨y601, hy602, r603⟩ := bind_some r525
 refine s_ck 14 #[.agg #[i_ 1000, .slice a597 n598 c599]] (by kernel_rfl) (c_csr_Build e527.wf m529.sq hy602) ?_
 rintro _ H612 ⟨s604, f605, s606, f607, s608, f609, v610, f611, rfl, e613, m614, m615, m616, m617, i618, i619, i620, i621, d622, d623, d624, d625, d626, d627⟩
 obtain ⟨a632, n633, c634, rfl⟩ := m614.form
 obtain ⟨a635, n636, c637, rfl⟩ := m615.form
 obtain ⟨a638, n639, c640, rfl⟩ := m616.form
 refine q_ (.tuple #[.agg #[.slice a632 n633 c634, .slice a635 n636 c637, .slice a638 n639 c640], v610]) ?_
 refine q_ (.agg #[.slice a632 n633 c634, .slice a635 n636 c637, .slice a638 n639 c640]) ?_
 refine q_ (v610) ?_
 refine s_rwk e613.wf [.slice none 0 0, .slice none 0 0, .slice none 0 0] (by kernel_rfl) fun b641 H642 e643 hb644 r645 => ?_
 have u651 := (m616.ext e643)
 have u652 := (m615.ext e643)
 have u653 := (m614.ext e643)
 obtain ⟨H647, q648, e649, r650⟩ := Row.store (P := Tryz.prog) (t := 25) (p := 0) e643.wf r645 (.agg #[.slice a632 n633 c634, .slice a635 n636 c637, .slice a638 n639 c640]) [.slice a632 n633 c634, .slice a635 n636 c637, .slice a638 n639 c640] (by kernel_rfl) (by kernel_rfl) (one_cons (u653.one1) (one_cons (u652.one1) (one_cons (u651.one1) (one_nil)))) (Nat.le_of_ble_eq_true (by kernel_rfl)) [.slice a632 n633 c634, .slice a635 n636 c637, .slice a638 n639 c640] (by kernel_rfl)
 refine s_ek (undef) (by kernel_rfl) (map_ok q648) ?_
 refine q_ (v610) ?_
 refine s_nil (k600 _ _ ?_)
 refine w_seqk fun _ k654 => ?_
 refine g_' ?_
 refine l_' (.agg #[.slice a632 n633 c634, .slice a635 n636 c637, .slice a638 n639 c640]) (aLoad Tryz.prog 25 (pt_ b641 0) H647) (r650.ld (by kernel_rfl)) ?_
 have u655 := (u653.fr e649 (hb644.djn m614.lt))
 have u656 := (u652.fr e649 (hb644.djn m615.lt))
 have u657 := (u651.fr e649 (hb644.djn m616.lt))
 obtain ⟨y658, hy659, r660⟩ := bind_some r603
 refine s_ck 8 #[.agg #[.slice a632 n633 c634, .slice a635 n636 c637, .slice a638 n639 c640], i_ 0] (by kernel_rfl) (c_search_From e649.wf u655.sq u656.sq u657.sq hy659) ?_
 rintro _ H665 ⟨s661, f662, v663, f664, rfl, e666, m667, m668, i669, i670, d671⟩
 obtain ⟨a674, n675, c676, rfl⟩ := m667.form
 refine q_ (.tuple #[.slice a674 n675 c676, v663]) ?_
 refine q_ (.slice a674 n675 c676) ?_
 refine q_ (v663) ?_
 refine q_ (.slice a674 n675 c676) ?_
 refine q_ (v663) ?_
 refine s_nil (k654 _ _ ?_)
 refine w_seqk fun _ k677 => ?_
 refine g_' ?_
 have u678 := (r650.frS e666 Dj.nil_l)
 refine l_' (.agg #[.slice a632 n633 c634, .slice a635 n636 c637, .slice a638 n639 c640]) (aLoad Tryz.prog 25 (pt_ b641 0) H665) (u678.ld (by kernel_rfl)) ?_
 have u679 := (u655.fr e666 Dj.nil_l)
 have u680 := (u656.fr e666 Dj.nil_l)
 have u681 := (u657.fr e666 Dj.nil_l)
 obtain ⟨y682, hy683, r684⟩ := bind_some r660
 refine s_ck 9 #[.agg #[.slice a632 n633 c634, .slice a635 n636 c637, .slice a638 n639 c640], i_ 0, i_ 999] (by kernel_rfl) (c_search_Path e666.wf u679.sq u680.sq u681.sq hy683) ?_
 rintro _ H689 ⟨s685, f686, v687, f688, rfl, e690, m691, m692, i693, i694, d695⟩
 obtain ⟨a698, n699, c700, rfl⟩ := m691.form
 refine q_ (.tuple #[.slice a698 n699 c700, v687]) ?_
 refine q_ (.slice a698 n699 c700) ?_
 refine q_ (v687) ?_
 refine q_ (.slice a698 n699 c700) ?_
 refine q_ (v687) ?_
 refine s_nil (k677 _ _ ?_)
 refine w_seqk fun _ k701 => ?_
 refine g_' ?_
 refine q_ (.agg #[i_ 1025, .slice none 0 0]) ?_
 obtain ⟨y702, hy703, r704⟩ := bind_some r684
 refine s_ck 14 #[.agg #[i_ 1025, .slice none 0 0]] (by kernel_rfl) (c_csr_Build e690.wf (Sq.nil (enc := enc_i64_i64_i64) (sz := 3) (by decide)) hy703) ?_
 rintro _ H713 ⟨s705, f706, s707, f708, s709, f710, v711, f712, rfl, e714, m715, m716, m717, m718, i719, i720, i721, i722, d723, d724, d725, d726, d727, d728⟩
 obtain ⟨a733, n734, c735, rfl⟩ := m715.form
 obtain ⟨a736, n737, c738, rfl⟩ := m716.form
 obtain ⟨a739, n740, c741, rfl⟩ := m717.form
 refine q_ (.tuple #[.agg #[.slice a733 n734 c735, .slice a736 n737 c738, .slice a739 n740 c741], v711]) ?_
 refine q_ (.agg #[.slice a733 n734 c735, .slice a736 n737 c738, .slice a739 n740 c741]) ?_
 refine q_ (v711) ?_
 refine s_rwk e714.wf [.slice none 0 0, .slice none 0 0, .slice none 0 0] (by kernel_rfl) fun b742 H743 e744 hb745 r746 => ?_
 have u752 := (m717.ext e744)
 have u753 := (m716.ext e744)
 have u754 := (m715.ext e744)
 obtain ⟨H748, q749, e750, r751⟩ := Row.store (P := Tryz.prog) (t := 25) (p := 0) e744.wf r746 (.agg #[.slice a733 n734 c735, .slice a736 n737 c738, .slice a739 n740 c741]) [.slice a733 n734 c735, .slice a736 n737 c738, .slice a739 n740 c741] (by kernel_rfl) (by kernel_rfl) (one_cons (u754.one1) (one_cons (u753.one1) (one_cons (u752.one1) (one_nil)))) (Nat.le_of_ble_eq_true (by kernel_rfl)) [.slice a733 n734 c735, .slice a736 n737 c738, .slice a739 n740 c741] (by kernel_rfl)
 refine s_ek (undef) (by kernel_rfl) (map_ok q749) ?_
 refine q_ (v711) ?_
 refine s_nil (k701 _ _ ?_)
 refine w_seqk fun _ k755 => ?_
 refine g_' ?_
 refine l_' (.agg #[.slice a733 n734 c735, .slice a736 n737 c738, .slice a739 n740 c741]) (aLoad Tryz.prog 25 (pt_ b742 0) H748) (r751.ld (by kernel_rfl)) ?_
 have u756 := (u754.fr e750 (hb745.djn m715.lt))
 have u757 := (u753.fr e750 (hb745.djn m716.lt))
 have u758 := (u752.fr e750 (hb745.djn m717.lt))
 obtain ⟨y759, hy760, r761⟩ := bind_some r704
 refine s_ck 15 #[.agg #[.slice a733 n734 c735, .slice a736 n737 c738, .slice a739 n740 c741]] (by kernel_rfl) (c_search_Matrix e750.wf u756.sq u757.sq u758.sq hy760) ?_
 rintro _ H766 ⟨s762, f763, v764, f765, rfl, e767, m768, m769, i770, i771, d772⟩
 obtain ⟨a775, n776, c777, rfl⟩ := m768.form
 refine q_ (.tuple #[.slice a775 n776 c777, v764]) ?_
 refine q_ (.slice a775 n776 c777) ?_
 refine q_ (v764) ?_
 refine q_ (v764) ?_
 refine s_nil (k755 _ _ ?_)
 refine w_seqk fun _ k778 => ?_
 refine g_' ?_
 refine q_ (v610) ?_
 have u782 := ((((((((m617.ext e643).fr e649 (hb644.djn m617.lt)).fr e666 Dj.nil_l).fr e690 Dj.nil_l).fr e714 Dj.nil_l).ext e744).fr e750 (hb745.djn (m617.lt.le (ntr (ntr (ntr (ntr e643.next e649.next) e666.next) e690.next) e714.next)))).fr e767 Dj.nil_l)
 rcases (u782).cases with ⟨h779, rfl⟩ | ⟨h779, t780, x781, rfl⟩
 ·have r783 := ite_t h779 r761
  refine q_ (.bool true) ?_
  refine q_ (.bool true) ?_
  refine q_ (v663) ?_
  have u787 := (((((m668.fr e690 Dj.nil_l).fr e714 Dj.nil_l).ext e744).fr e750 (hb745.djn (m668.lt.le (ntr e690.next e714.next)))).fr e767 Dj.nil_l)
  rcases (u787).cases with ⟨h784, rfl⟩ | ⟨h784, t785, x786, rfl⟩
  ·have r788 := ite_t h784 r783
   refine q_ (.bool true) ?_
   refine q_ (.bool true) ?_
   refine q_ (.bool true) ?_
   refine q_ (v687) ?_
   have u792 := ((((m692.fr e714 Dj.nil_l).ext e744).fr e750 (hb745.djn (m692.lt.le e714.next))).fr e767 Dj.nil_l)
   rcases (u792).cases with ⟨h789, rfl⟩ | ⟨h789, t790, x791, rfl⟩
   ·have r793 := ite_t h789 r788
    refine q_ (.bool true) ?_
    refine q_ (.bool true) ?_
    refine q_ (.bool true) ?_
    refine q_ (v711) ?_
    have u797 := (((m718.ext e744).fr e750 (hb745.djn m718.lt)).fr e767 Dj.nil_l)
    rcases (u797).cases with ⟨h794, rfl⟩ | ⟨h794, t795, x796, rfl⟩
    ·have r798 := ite_t h794 r793
     refine q_ (.bool true) ?_
     refine q_ (.bool true) ?_
     refine q_ (.bool true) ?_
     refine q_ (.slice a674 n675 c676) ?_
     have u799 := (((((m667.fr e690 Dj.nil_l).fr e714 Dj.nil_l).ext e744).fr e750 (hb745.djn (m667.lt.le (ntr e690.next e714.next)))).fr e767 Dj.nil_l)
     refine l_' (i_ (y658.1.length : Int)) (aLen Tryz.prog 29 (.slice a674 n675 c676) H766) (u799.sq.lenb (by kernel_rfl)) ?_
     refine s_b ((y658.1.length : Int) = 1000) (by kernel_rfl) (fun h800 => ?_) (fun h800 => ?_)
     ·have r801 := ite_t h800 r798
      refine q_ (.bool true) ?_
      refine q_ (.bool true) ?_
      refine q_ (.slice a674 n675 c676) ?_
      obtain ⟨g802, r803⟩ := G_some r801
      refine l_' (elp (.slice a674 n675 c676) 1 (999 : Int).toNat 0) (aIndexAddr Tryz.prog 29 (.slice a674 n675 c676) (i_ 999)) (u799.sq.idxb (by kernel_rfl) (by decide) g802) ?_
      refine l_' (.int .u64 (gt y658.1 999)) (aLoad Tryz.prog 37 (elp (.slice a674 n675 c676) 1 (999 : Int).toNat 0) H766) (u799.sq.ld (by decide) g802 (by kernel_rfl)) ?_
      refine s_b ((gt y658.1 999) = 2145336163353) (by kernel_rfl) (fun h804 => ?_) (fun h804 => ?_)
      ·have r805 := ite_t h804 r803
       refine q_ (.bool true) ?_
       refine q_ (.bool true) ?_
       refine q_ (.slice a698 n699 c700) ?_
       have u806 := ((((m691.fr e714 Dj.nil_l).ext e744).fr e750 (hb745.djn (m691.lt.le e714.next))).fr e767 Dj.nil_l)
       refine l_' (i_ (y682.1.length : Int)) (aLen Tryz.prog 23 (.slice a698 n699 c700) H766) (u806.sq.lenb (by kernel_rfl)) ?_
       refine s_b ((y682.1.length : Int) = 1000) (by kernel_rfl) (fun h807 => ?_) (fun h807 => ?_)
       ·have r808 := ite_t h807 r805
        refine q_ (.bool true) ?_
        refine q_ (.bool true) ?_
        refine q_ (v764) ?_
        obtain ⟨y809, hy810, r811⟩ := bind_some r808
        refine s_ck 12 #[i_ 9] (by kernel_rfl) (c_viaductref01_E e767.wf hy810) ?_
        rintro _ H812 ⟨rfl, e813⟩
        have u814 := (m769.fr e813 Dj.nil_l)
        obtain ⟨y815, hy816, r817⟩ := bind_some r811
        refine s_ck 11 #[v764, .agg #[i_ y809, .slice none 0 0]] (by kernel_rfl) (c_viaductseen_Same e813.wf u814 (Sq.nil (enc := enc_i64_i64) (sz := 2) (by decide)) hy816) ?_
        rintro _ H818 ⟨rfl, e819⟩
        refine q_ (.bool y815) ?_
        refine q_ (.bool y815) ?_
        refine s_nil (k778 _ _ ?_)
        refine w_ret ?_
        refine b_ret (fn := Tryz.f3) (vs := [.bool y815]) (aRes_tmp (by kernel_rfl) (rfl)) ?_
        obtain rfl := Option.some.inj r817
        exact ⟨rfl, (FrS.step wf (FrS.step wf (FrS.step wf (FrS.step wf ((FrS.step wf (FrS.step wf (FrS.step wf (FrS.step wf ((FrS.step wf (FrS.step wf (FrS.step wf ((FrS.step wf (FrS.step wf (FrS.step wf (FrS.step wf (FrS.step wf (FrS.step wf (FrS.step wf ((FrS.step wf (FrS.step wf (FrS.step wf (FrS.step wf (FrS.step wf ((FrS.step wf (FrS.step wf (FrS.refl (W := []) wf) e15 Inn.nil) e47 Inn.nil).extR e71) e77 (hb72.fresh (ntr e15.next e47.next))) e94 Inn.nil) e118 Inn.nil) e142 Inn.nil) e166 Inn.nil).extR e181) e196 Inn.nil) e220 Inn.nil) e244 Inn.nil) e261 Inn.nil) e398 Inn.nil) e422 Inn.nil) e446 Inn.nil).extR e513) e519 (hb514.fresh (ntr (ntr (ntr (ntr (ntr (ntr (ntr (ntr (ntr (ntr (ntr (ntr (ntr (ntr (ntr e15.next e47.next) e71.next) e77.next) e94.next) e118.next) e142.next) e166.next) e181.next) e196.next) e220.next) e244.next) e261.next) e398.next) e422.next) e446.next))) e527 (hb514.fresh (ntr (ntr (ntr (ntr (ntr (ntr (ntr (ntr (ntr (ntr (ntr (ntr (ntr (ntr (ntr e15.next e47.next) e71.next) e77.next) e94.next) e118.next) e142.next) e166.next) e181.next) e196.next) e220.next) e244.next) e261.next) e398.next) e422.next) e446.next))) e613 Inn.nil).extR e643) e649 (hb644.fresh (ntr (ntr (ntr (ntr (ntr (ntr (ntr (ntr (ntr (ntr (ntr (ntr (ntr (ntr (ntr (ntr (ntr (ntr (ntr e15.next e47.next) e71.next) e77.next) e94.next) e118.next) e142.next) e166.next) e181.next) e196.next) e220.next) e244.next) e261.next) e398.next) e422.next) e446.next) e513.next) e519.next) e527.next) e613.next))) e666 Inn.nil) e690 Inn.nil) e714 Inn.nil).extR e744) e750 (hb745.fresh (ntr (ntr (ntr (ntr (ntr (ntr (ntr (ntr (ntr (ntr (ntr (ntr (ntr (ntr (ntr (ntr (ntr (ntr (ntr (ntr (ntr (ntr (ntr (ntr e15.next e47.next) e71.next) e77.next) e94.next) e118.next) e142.next) e166.next) e181.next) e196.next) e220.next) e244.next) e261.next) e398.next) e422.next) e446.next) e513.next) e519.next) e527.next) e613.next) e643.next) e649.next) e666.next) e690.next) e714.next))) e767 Inn.nil) e813 Inn.nil) e819 Inn.nil)⟩
       have r820 := ite_f h807 r805
       refine q_ (.bool false) ?_
       refine q_ (.bool false) ?_
       refine n_' ?_
       refine n_' ?_
       refine n_' ?_
       refine q_ (.bool false) ?_
       refine q_ (.bool false) ?_
       refine s_nil (k778 _ _ ?_)
       refine w_ret ?_
       refine b_ret (fn := Tryz.f3) (vs := [.bool false]) (aRes_tmp (by kernel_rfl) (rfl)) ?_
       obtain rfl := Option.some.inj r820
       exact ⟨rfl, (FrS.step wf (FrS.step wf ((FrS.step wf (FrS.step wf (FrS.step wf (FrS.step wf ((FrS.step wf (FrS.step wf (FrS.step wf ((FrS.step wf (FrS.step wf (FrS.step wf (FrS.step wf (FrS.step wf (FrS.step wf (FrS.step wf ((FrS.step wf (FrS.step wf (FrS.step wf (FrS.step wf (FrS.step wf ((FrS.step wf (FrS.step wf (FrS.refl (W := []) wf) e15 Inn.nil) e47 Inn.nil).extR e71) e77 (hb72.fresh (ntr e15.next e47.next))) e94 Inn.nil) e118 Inn.nil) e142 Inn.nil) e166 Inn.nil).extR e181) e196 Inn.nil) e220 Inn.nil) e244 Inn.nil) e261 Inn.nil) e398 Inn.nil) e422 Inn.nil) e446 Inn.nil).extR e513) e519 (hb514.fresh (ntr (ntr (ntr (ntr (ntr (ntr (ntr (ntr (ntr (ntr (ntr (ntr (ntr (ntr (ntr e15.next e47.next) e71.next) e77.next) e94.next) e118.next) e142.next) e166.next) e181.next) e196.next) e220.next) e244.next) e261.next) e398.next) e422.next) e446.next))) e527 (hb514.fresh (ntr (ntr (ntr (ntr (ntr (ntr (ntr (ntr (ntr (ntr (ntr (ntr (ntr (ntr (ntr e15.next e47.next) e71.next) e77.next) e94.next) e118.next) e142.next) e166.next) e181.next) e196.next) e220.next) e244.next) e261.next) e398.next) e422.next) e446.next))) e613 Inn.nil).extR e643) e649 (hb644.fresh (ntr (ntr (ntr (ntr (ntr (ntr (ntr (ntr (ntr (ntr (ntr (ntr (ntr (ntr (ntr (ntr (ntr (ntr (ntr e15.next e47.next) e71.next) e77.next) e94.next) e118.next) e142.next) e166.next) e181.next) e196.next) e220.next) e244.next) e261.next) e398.next) e422.next) e446.next) e513.next) e519.next) e527.next) e613.next))) e666 Inn.nil) e690 Inn.nil) e714 Inn.nil).extR e744) e750 (hb745.fresh (ntr (ntr (ntr (ntr (ntr (ntr (ntr (ntr (ntr (ntr (ntr (ntr (ntr (ntr (ntr (ntr (ntr (ntr (ntr (ntr (ntr (ntr (ntr (ntr e15.next e47.next) e71.next) e77.next) e94.next) e118.next) e142.next) e166.next) e181.next) e196.next) e220.next) e244.next) e261.next) e398.next) e422.next) e446.next) e513.next) e519.next) e527.next) e613.next) e643.next) e649.next) e666.next) e690.next) e714.next))) e767 Inn.nil)⟩
      have r821 := ite_f h804 r803
      refine q_ (.bool false) ?_
      refine q_ (.bool false) ?_
      refine n_' ?_
      refine n_' ?_
      refine n_' ?_
      refine q_ (.bool false) ?_
      refine q_ (.bool false) ?_
      refine n_' ?_
      refine n_' ?_
      refine n_' ?_
      refine q_ (.bool false) ?_
      refine q_ (.bool false) ?_
      refine s_nil (k778 _ _ ?_)
      refine w_ret ?_
      refine b_ret (fn := Tryz.f3) (vs := [.bool false]) (aRes_tmp (by kernel_rfl) (rfl)) ?_
      obtain rfl := Option.some.inj r821
      exact ⟨rfl, (FrS.step wf (FrS.step wf ((FrS.step wf (FrS.step wf (FrS.step wf (FrS.step wf ((FrS.step wf (FrS.step wf (FrS.step wf ((FrS.step wf (FrS.step wf (FrS.step wf (FrS.step wf (FrS.step wf (FrS.step wf (FrS.step wf ((FrS.step wf (FrS.step wf (FrS.step wf (FrS.step wf (FrS.step wf ((FrS.step wf (FrS.step wf (FrS.refl (W := []) wf) e15 Inn.nil) e47 Inn.nil).extR e71) e77 (hb72.fresh (ntr e15.next e47.next))) e94 Inn.nil) e118 Inn.nil) e142 Inn.nil) e166 Inn.nil).extR e181) e196 Inn.nil) e220 Inn.nil) e244 Inn.nil) e261 Inn.nil) e398 Inn.nil) e422 Inn.nil) e446 Inn.nil).extR e513) e519 (hb514.fresh (ntr (ntr (ntr (ntr (ntr (ntr (ntr (ntr (ntr (ntr (ntr (ntr (ntr (ntr (ntr e15.next e47.next) e71.next) e77.next) e94.next) e118.next) e142.next) e166.next) e181.next) e196.next) e220.next) e244.next) e261.next) e398.next) e422.next) e446.next))) e527 (hb514.fresh (ntr (ntr (ntr (ntr (ntr (ntr (ntr (ntr (ntr (ntr (ntr (ntr (ntr (ntr (ntr e15.next e47.next) e71.next) e77.next) e94.next) e118.next) e142.next) e166.next) e181.next) e196.next) e220.next) e244.next) e261.next) e398.next) e422.next) e446.next))) e613 Inn.nil).extR e643) e649 (hb644.fresh (ntr (ntr (ntr (ntr (ntr (ntr (ntr (ntr (ntr (ntr (ntr (ntr (ntr (ntr (ntr (ntr (ntr (ntr (ntr e15.next e47.next) e71.next) e77.next) e94.next) e118.next) e142.next) e166.next) e181.next) e196.next) e220.next) e244.next) e261.next) e398.next) e422.next) e446.next) e513.next) e519.next) e527.next) e613.next))) e666 Inn.nil) e690 Inn.nil) e714 Inn.nil).extR e744) e750 (hb745.fresh (ntr (ntr (ntr (ntr (ntr (ntr (ntr (ntr (ntr (ntr (ntr (ntr (ntr (ntr (ntr (ntr (ntr (ntr (ntr (ntr (ntr (ntr (ntr (ntr e15.next e47.next) e71.next) e77.next) e94.next) e118.next) e142.next) e166.next) e181.next) e196.next) e220.next) e244.next) e261.next) e398.next) e422.next) e446.next) e513.next) e519.next) e527.next) e613.next) e643.next) e649.next) e666.next) e690.next) e714.next))) e767 Inn.nil)⟩
     have r822 := ite_f h800 r798
     refine q_ (.bool false) ?_
     refine q_ (.bool false) ?_
     refine n_' ?_
     refine n_' ?_
     refine n_' ?_
     refine n_' ?_
     refine q_ (.bool false) ?_
     refine q_ (.bool false) ?_
     refine n_' ?_
     refine n_' ?_
     refine n_' ?_
     refine q_ (.bool false) ?_
     refine q_ (.bool false) ?_
     refine n_' ?_
     refine n_' ?_
     refine n_' ?_
     refine q_ (.bool false) ?_
     refine q_ (.bool false) ?_
     refine s_nil (k778 _ _ ?_)
     refine w_ret ?_
     refine b_ret (fn := Tryz.f3) (vs := [.bool false]) (aRes_tmp (by kernel_rfl) (rfl)) ?_
     obtain rfl := Option.some.inj r822
     exact ⟨rfl, (FrS.step wf (FrS.step wf ((FrS.step wf (FrS.step wf (FrS.step wf (FrS.step wf ((FrS.step wf (FrS.step wf (FrS.step wf ((FrS.step wf (FrS.step wf (FrS.step wf (FrS.step wf (FrS.step wf (FrS.step wf (FrS.step wf ((FrS.step wf (FrS.step wf (FrS.step wf (FrS.step wf (FrS.step wf ((FrS.step wf (FrS.step wf (FrS.refl (W := []) wf) e15 Inn.nil) e47 Inn.nil).extR e71) e77 (hb72.fresh (ntr e15.next e47.next))) e94 Inn.nil) e118 Inn.nil) e142 Inn.nil) e166 Inn.nil).extR e181) e196 Inn.nil) e220 Inn.nil) e244 Inn.nil) e261 Inn.nil) e398 Inn.nil) e422 Inn.nil) e446 Inn.nil).extR e513) e519 (hb514.fresh (ntr (ntr (ntr (ntr (ntr (ntr (ntr (ntr (ntr (ntr (ntr (ntr (ntr (ntr (ntr e15.next e47.next) e71.next) e77.next) e94.next) e118.next) e142.next) e166.next) e181.next) e196.next) e220.next) e244.next) e261.next) e398.next) e422.next) e446.next))) e527 (hb514.fresh (ntr (ntr (ntr (ntr (ntr (ntr (ntr (ntr (ntr (ntr (ntr (ntr (ntr (ntr (ntr e15.next e47.next) e71.next) e77.next) e94.next) e118.next) e142.next) e166.next) e181.next) e196.next) e220.next) e244.next) e261.next) e398.next) e422.next) e446.next))) e613 Inn.nil).extR e643) e649 (hb644.fresh (ntr (ntr (ntr (ntr (ntr (ntr (ntr (ntr (ntr (ntr (ntr (ntr (ntr (ntr (ntr (ntr (ntr (ntr (ntr e15.next e47.next) e71.next) e77.next) e94.next) e118.next) e142.next) e166.next) e181.next) e196.next) e220.next) e244.next) e261.next) e398.next) e422.next) e446.next) e513.next) e519.next) e527.next) e613.next))) e666 Inn.nil) e690 Inn.nil) e714 Inn.nil).extR e744) e750 (hb745.fresh (ntr (ntr (ntr (ntr (ntr (ntr (ntr (ntr (ntr (ntr (ntr (ntr (ntr (ntr (ntr (ntr (ntr (ntr (ntr (ntr (ntr (ntr (ntr (ntr e15.next e47.next) e71.next) e77.next) e94.next) e118.next) e142.next) e166.next) e181.next) e196.next) e220.next) e244.next) e261.next) e398.next) e422.next) e446.next) e513.next) e519.next) e527.next) e613.next) e643.next) e649.next) e666.next) e690.next) e714.next))) e767 Inn.nil)⟩
    have r823 := ite_f h794 r793
    refine l_' (.bool false) (aBin Tryz.prog .eql 31 (.tmp 227) (.const .nilIface) (.iface t795 x796) .nilIface) (aBin_nil (by kernel_rfl)) ?_
    refine q_ (.bool false) ?_
    refine q_ (.bool false) ?_
    refine n_' ?_
    refine n_' ?_
    refine n_' ?_
    refine q_ (.bool false) ?_
    refine q_ (.bool false) ?_
    refine n_' ?_
    refine n_' ?_
    refine n_' ?_
    refine n_' ?_
    refine q_ (.bool false) ?_
    refine q_ (.bool false) ?_
    refine n_' ?_
    refine n_' ?_
    refine n_' ?_
    refine q_ (.bool false) ?_
    refine q_ (.bool false) ?_
    refine n_' ?_
    refine n_' ?_
    refine n_' ?_
    refine q_ (.bool false) ?_
    refine q_ (.bool false) ?_
    refine s_nil (k778 _ _ ?_)
    refine w_ret ?_
    refine b_ret (fn := Tryz.f3) (vs := [.bool false]) (aRes_tmp (by kernel_rfl) (rfl)) ?_
    obtain rfl := Option.some.inj r823
    exact ⟨rfl, (FrS.step wf (FrS.step wf ((FrS.step wf (FrS.step wf (FrS.step wf (FrS.step wf ((FrS.step wf (FrS.step wf (FrS.step wf ((FrS.step wf (FrS.step wf (FrS.step wf (FrS.step wf (FrS.step wf (FrS.step wf (FrS.step wf ((FrS.step wf (FrS.step wf (FrS.step wf (FrS.step wf (FrS.step wf ((FrS.step wf (FrS.step wf (FrS.refl (W := []) wf) e15 Inn.nil) e47 Inn.nil).extR e71) e77 (hb72.fresh (ntr e15.next e47.next))) e94 Inn.nil) e118 Inn.nil) e142 Inn.nil) e166 Inn.nil).extR e181) e196 Inn.nil) e220 Inn.nil) e244 Inn.nil) e261 Inn.nil) e398 Inn.nil) e422 Inn.nil) e446 Inn.nil).extR e513) e519 (hb514.fresh (ntr (ntr (ntr (ntr (ntr (ntr (ntr (ntr (ntr (ntr (ntr (ntr (ntr (ntr (ntr e15.next e47.next) e71.next) e77.next) e94.next) e118.next) e142.next) e166.next) e181.next) e196.next) e220.next) e244.next) e261.next) e398.next) e422.next) e446.next))) e527 (hb514.fresh (ntr (ntr (ntr (ntr (ntr (ntr (ntr (ntr (ntr (ntr (ntr (ntr (ntr (ntr (ntr e15.next e47.next) e71.next) e77.next) e94.next) e118.next) e142.next) e166.next) e181.next) e196.next) e220.next) e244.next) e261.next) e398.next) e422.next) e446.next))) e613 Inn.nil).extR e643) e649 (hb644.fresh (ntr (ntr (ntr (ntr (ntr (ntr (ntr (ntr (ntr (ntr (ntr (ntr (ntr (ntr (ntr (ntr (ntr (ntr (ntr e15.next e47.next) e71.next) e77.next) e94.next) e118.next) e142.next) e166.next) e181.next) e196.next) e220.next) e244.next) e261.next) e398.next) e422.next) e446.next) e513.next) e519.next) e527.next) e613.next))) e666 Inn.nil) e690 Inn.nil) e714 Inn.nil).extR e744) e750 (hb745.fresh (ntr (ntr (ntr (ntr (ntr (ntr (ntr (ntr (ntr (ntr (ntr (ntr (ntr (ntr (ntr (ntr (ntr (ntr (ntr (ntr (ntr (ntr (ntr (ntr e15.next e47.next) e71.next) e77.next) e94.next) e118.next) e142.next) e166.next) e181.next) e196.next) e220.next) e244.next) e261.next) e398.next) e422.next) e446.next) e513.next) e519.next) e527.next) e613.next) e643.next) e649.next) e666.next) e690.next) e714.next))) e767 Inn.nil)⟩
   have r824 := ite_f h789 r788
   refine l_' (.bool false) (aBin Tryz.prog .eql 31 (.tmp 223) (.const .nilIface) (.iface t790 x791) .nilIface) (aBin_nil (by kernel_rfl)) ?_
   refine q_ (.bool false) ?_
   refine q_ (.bool false) ?_
   refine n_' ?_
   refine n_' ?_
   refine q_ (.bool false) ?_
   refine q_ (.bool false) ?_
   refine n_' ?_
   refine n_' ?_
   refine n_' ?_
   refine q_ (.bool false) ?_
   refine q_ (.bool false) ?_
   refine n_' ?_
   refine n_' ?_
   refine n_' ?_
   refine n_' ?_
   refine q_ (.bool false) ?_
   refine q_ (.bool false) ?_
   refine n_' ?_
   refine n_' ?_
   refine n_' ?_
   refine q_ (.bool false) ?_
   refine q_ (.bool false) ?_
   refine n_' ?_
   refine n_' ?_
   refine n_' ?_
   refine q_ (.bool false) ?_
   refine q_ (.bool false) ?_
   refine s_nil (k778 _ _ ?_)
   refine w_ret ?_
   refine b_ret (fn := Tryz.f3) (vs := [.bool false]) (aRes_tmp (by kernel_rfl) (rfl)) ?_
   obtain rfl := Option.some.inj r824
   exact ⟨rfl, (FrS.step wf (FrS.step wf ((FrS.step wf (FrS.step wf (FrS.step wf (FrS.step wf ((FrS.step wf (FrS.step wf (FrS.step wf ((FrS.step wf (FrS.step wf (FrS.step wf (FrS.step wf (FrS.step wf (FrS.step wf (FrS.step wf ((FrS.step wf (FrS.step wf (FrS.step wf (FrS.step wf (FrS.step wf ((FrS.step wf (FrS.step wf (FrS.refl (W := []) wf) e15 Inn.nil) e47 Inn.nil).extR e71) e77 (hb72.fresh (ntr e15.next e47.next))) e94 Inn.nil) e118 Inn.nil) e142 Inn.nil) e166 Inn.nil).extR e181) e196 Inn.nil) e220 Inn.nil) e244 Inn.nil) e261 Inn.nil) e398 Inn.nil) e422 Inn.nil) e446 Inn.nil).extR e513) e519 (hb514.fresh (ntr (ntr (ntr (ntr (ntr (ntr (ntr (ntr (ntr (ntr (ntr (ntr (ntr (ntr (ntr e15.next e47.next) e71.next) e77.next) e94.next) e118.next) e142.next) e166.next) e181.next) e196.next) e220.next) e244.next) e261.next) e398.next) e422.next) e446.next))) e527 (hb514.fresh (ntr (ntr (ntr (ntr (ntr (ntr (ntr (ntr (ntr (ntr (ntr (ntr (ntr (ntr (ntr e15.next e47.next) e71.next) e77.next) e94.next) e118.next) e142.next) e166.next) e181.next) e196.next) e220.next) e244.next) e261.next) e398.next) e422.next) e446.next))) e613 Inn.nil).extR e643) e649 (hb644.fresh (ntr (ntr (ntr (ntr (ntr (ntr (ntr (ntr (ntr (ntr (ntr (ntr (ntr (ntr (ntr (ntr (ntr (ntr (ntr e15.next e47.next) e71.next) e77.next) e94.next) e118.next) e142.next) e166.next) e181.next) e196.next) e220.next) e244.next) e261.next) e398.next) e422.next) e446.next) e513.next) e519.next) e527.next) e613.next))) e666 Inn.nil) e690 Inn.nil) e714 Inn.nil).extR e744) e750 (hb745.fresh (ntr (ntr (ntr (ntr (ntr (ntr (ntr (ntr (ntr (ntr (ntr (ntr (ntr (ntr (ntr (ntr (ntr (ntr (ntr (ntr (ntr (ntr (ntr (ntr e15.next e47.next) e71.next) e77.next) e94.next) e118.next) e142.next) e166.next) e181.next) e196.next) e220.next) e244.next) e261.next) e398.next) e422.next) e446.next) e513.next) e519.next) e527.next) e613.next) e643.next) e649.next) e666.next) e690.next) e714.next))) e767 Inn.nil)⟩
  have r825 := ite_f h784 r783
  refine l_' (.bool false) (aBin Tryz.prog .eql 31 (.tmp 219) (.const .nilIface) (.iface t785 x786) .nilIface) (aBin_nil (by kernel_rfl)) ?_
  refine q_ (.bool false) ?_
  refine q_ (.bool false) ?_
  refine n_' ?_
  refine n_' ?_
  refine q_ (.bool false) ?_
  refine q_ (.bool false) ?_
  refine n_' ?_
  refine n_' ?_
  refine q_ (.bool false) ?_
  refine q_ (.bool false) ?_
  refine n_' ?_
  refine n_' ?_
  refine n_' ?_
  refine q_ (.bool false) ?_
  refine q_ (.bool false) ?_
  refine n_' ?_
  refine n_' ?_
  refine n_' ?_
  refine n_' ?_
  refine q_ (.bool false) ?_
  refine q_ (.bool false) ?_
  refine n_' ?_
  refine n_' ?_
  refine n_' ?_
  refine q_ (.bool false) ?_
  refine q_ (.bool false) ?_
  refine n_' ?_
  refine n_' ?_
  refine n_' ?_
  refine q_ (.bool false) ?_
  refine q_ (.bool false) ?_
  refine s_nil (k778 _ _ ?_)
  refine w_ret ?_
  refine b_ret (fn := Tryz.f3) (vs := [.bool false]) (aRes_tmp (by kernel_rfl) (rfl)) ?_
  obtain rfl := Option.some.inj r825
  exact ⟨rfl, (FrS.step wf (FrS.step wf ((FrS.step wf (FrS.step wf (FrS.step wf (FrS.step wf ((FrS.step wf (FrS.step wf (FrS.step wf ((FrS.step wf (FrS.step wf (FrS.step wf (FrS.step wf (FrS.step wf (FrS.step wf (FrS.step wf ((FrS.step wf (FrS.step wf (FrS.step wf (FrS.step wf (FrS.step wf ((FrS.step wf (FrS.step wf (FrS.refl (W := []) wf) e15 Inn.nil) e47 Inn.nil).extR e71) e77 (hb72.fresh (ntr e15.next e47.next))) e94 Inn.nil) e118 Inn.nil) e142 Inn.nil) e166 Inn.nil).extR e181) e196 Inn.nil) e220 Inn.nil) e244 Inn.nil) e261 Inn.nil) e398 Inn.nil) e422 Inn.nil) e446 Inn.nil).extR e513) e519 (hb514.fresh (ntr (ntr (ntr (ntr (ntr (ntr (ntr (ntr (ntr (ntr (ntr (ntr (ntr (ntr (ntr e15.next e47.next) e71.next) e77.next) e94.next) e118.next) e142.next) e166.next) e181.next) e196.next) e220.next) e244.next) e261.next) e398.next) e422.next) e446.next))) e527 (hb514.fresh (ntr (ntr (ntr (ntr (ntr (ntr (ntr (ntr (ntr (ntr (ntr (ntr (ntr (ntr (ntr e15.next e47.next) e71.next) e77.next) e94.next) e118.next) e142.next) e166.next) e181.next) e196.next) e220.next) e244.next) e261.next) e398.next) e422.next) e446.next))) e613 Inn.nil).extR e643) e649 (hb644.fresh (ntr (ntr (ntr (ntr (ntr (ntr (ntr (ntr (ntr (ntr (ntr (ntr (ntr (ntr (ntr (ntr (ntr (ntr (ntr e15.next e47.next) e71.next) e77.next) e94.next) e118.next) e142.next) e166.next) e181.next) e196.next) e220.next) e244.next) e261.next) e398.next) e422.next) e446.next) e513.next) e519.next) e527.next) e613.next))) e666 Inn.nil) e690 Inn.nil) e714 Inn.nil).extR e744) e750 (hb745.fresh (ntr (ntr (ntr (ntr (ntr (ntr (ntr (ntr (ntr (ntr (ntr (ntr (ntr (ntr (ntr (ntr (ntr (ntr (ntr (ntr (ntr (ntr (ntr (ntr e15.next e47.next) e71.next) e77.next) e94.next) e118.next) e142.next) e166.next) e181.next) e196.next) e220.next) e244.next) e261.next) e398.next) e422.next) e446.next) e513.next) e519.next) e527.next) e613.next) e643.next) e649.next) e666.next) e690.next) e714.next))) e767 Inn.nil)⟩
 have r826 := ite_f h779 r761
 refine l_' (.bool false) (aBin Tryz.prog .eql 31 (.tmp 216) (.const .nilIface) (.iface t780 x781) .nilIface) (aBin_nil (by kernel_rfl)) ?_
 refine q_ (.bool false) ?_
 refine n_' ?_
 refine n_' ?_
 refine q_ (.bool false) ?_
 refine q_ (.bool false) ?_
 refine n_' ?_
 refine n_' ?_
 refine q_ (.bool false) ?_
 refine q_ (.bool false) ?_
 refine n_' ?_
 refine n_' ?_
 refine q_ (.bool false) ?_
 refine q_ (.bool false) ?_
 refine n_' ?_
 refine n_' ?_
 refine n_' ?_
 refine q_ (.bool false) ?_
 refine q_ (.bool false) ?_
 refine n_' ?_
 refine n_' ?_
 refine n_' ?_
 refine n_' ?_
 refine q_ (.bool false) ?_
 refine q_ (.bool false) ?_
 refine n_' ?_
 refine n_' ?_
 refine n_' ?_
 refine q_ (.bool false) ?_
 refine q_ (.bool false) ?_
 refine n_' ?_
 refine n_' ?_
 refine n_' ?_
 refine q_ (.bool false) ?_
 refine q_ (.bool false) ?_
 refine s_nil (k778 _ _ ?_)
 refine w_ret ?_
 refine b_ret (fn := Tryz.f3) (vs := [.bool false]) (aRes_tmp (by kernel_rfl) (rfl)) ?_
 obtain rfl := Option.some.inj r826
 exact ⟨rfl, (FrS.step wf (FrS.step wf ((FrS.step wf (FrS.step wf (FrS.step wf (FrS.step wf ((FrS.step wf (FrS.step wf (FrS.step wf ((FrS.step wf (FrS.step wf (FrS.step wf (FrS.step wf (FrS.step wf (FrS.step wf (FrS.step wf ((FrS.step wf (FrS.step wf (FrS.step wf (FrS.step wf (FrS.step wf ((FrS.step wf (FrS.step wf (FrS.refl (W := []) wf) e15 Inn.nil) e47 Inn.nil).extR e71) e77 (hb72.fresh (ntr e15.next e47.next))) e94 Inn.nil) e118 Inn.nil) e142 Inn.nil) e166 Inn.nil).extR e181) e196 Inn.nil) e220 Inn.nil) e244 Inn.nil) e261 Inn.nil) e398 Inn.nil) e422 Inn.nil) e446 Inn.nil).extR e513) e519 (hb514.fresh (ntr (ntr (ntr (ntr (ntr (ntr (ntr (ntr (ntr (ntr (ntr (ntr (ntr (ntr (ntr e15.next e47.next) e71.next) e77.next) e94.next) e118.next) e142.next) e166.next) e181.next) e196.next) e220.next) e244.next) e261.next) e398.next) e422.next) e446.next))) e527 (hb514.fresh (ntr (ntr (ntr (ntr (ntr (ntr (ntr (ntr (ntr (ntr (ntr (ntr (ntr (ntr (ntr e15.next e47.next) e71.next) e77.next) e94.next) e118.next) e142.next) e166.next) e181.next) e196.next) e220.next) e244.next) e261.next) e398.next) e422.next) e446.next))) e613 Inn.nil).extR e643) e649 (hb644.fresh (ntr (ntr (ntr (ntr (ntr (ntr (ntr (ntr (ntr (ntr (ntr (ntr (ntr (ntr (ntr (ntr (ntr (ntr (ntr e15.next e47.next) e71.next) e77.next) e94.next) e118.next) e142.next) e166.next) e181.next) e196.next) e220.next) e244.next) e261.next) e398.next) e422.next) e446.next) e513.next) e519.next) e527.next) e613.next))) e666 Inn.nil) e690 Inn.nil) e714 Inn.nil).extR e744) e750 (hb745.fresh (ntr (ntr (ntr (ntr (ntr (ntr (ntr (ntr (ntr (ntr (ntr (ntr (ntr (ntr (ntr (ntr (ntr (ntr (ntr (ntr (ntr (ntr (ntr (ntr e15.next e47.next) e71.next) e77.next) e94.next) e118.next) e142.next) e166.next) e181.next) e196.next) e220.next) e244.next) e261.next) e398.next) e422.next) e446.next) e513.next) e519.next) e527.next) e613.next) e643.next) e649.next) e666.next) e690.next) e714.next))) e767 Inn.nil)⟩


end Go.Vd
